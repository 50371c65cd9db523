/-
  Masks in plain words: sets of numbers below 64 as natural numbers.
-/
import Derived.Laws.Bits64b
import Derived.Lib.TrailingZeros
namespace Go.Proofs.YtkhloanpdehegaaDoor
open Go
set_option linter.unusedSimpArgs false
set_option linter.unusedVariables false

def mhas (m : Nat) (i : Int) : Bool := decide (0 ≤ i) && decide (i < 64) && m.testBit i.toNat
def mwith (m : Nat) (i : Int) : Nat := if 0 ≤ i ∧ i < 64 then m ||| 2 ^ i.toNat else m
def mdown (m : Nat) (n : Int) : Nat := if n < 1 then m else if 64 ≤ n then 0 else m >>> n.toNat
def mtake (m k : Nat) : List Nat := (List.range k).filter fun i => m.testBit i
def mlist (m : Nat) : List Nat := mtake m 64
def mones (m : Nat) : Nat := Lib.ctz 64 (18446744073709551615 - m)
def mof (l : List Int) : Nat := l.foldl mwith 0
def nints (l : List Nat) : List Int := l.map fun i : Nat => (i : Int)

theorem mask_ext {a b : Nat} (ha : a < 18446744073709551616) (hb : b < 18446744073709551616) (h : ∀ j, j < 64 → a.testBit j = b.testBit j) : a = b := by
  apply Nat.eq_of_testBit_eq
  intro j
  by_cases hj : j < 64
  · exact h j hj
  · have hp : 2 ^ 64 ≤ 2 ^ j := Nat.pow_le_pow_right (by decide) (by omega)
    rw [Nat.testBit_lt_two_pow (by omega), Nat.testBit_lt_two_pow (by omega)]
theorem testBit_high {a : Nat} (ha : a < 18446744073709551616) {j : Nat} (hj : 64 ≤ j) : a.testBit j = false := by
  have hp : 2 ^ 64 ≤ 2 ^ j := Nat.pow_le_pow_right (by decide) hj
  exact Nat.testBit_lt_two_pow (by omega)
theorem mwith_lt {m : Nat} (hm : m < 18446744073709551616) (i : Int) : mwith m i < 18446744073709551616 := by
  unfold mwith
  split
  · have : 2 ^ i.toNat < 2 ^ 64 := Nat.pow_lt_pow_right (by decide) (by omega)
    exact Nat.or_lt_two_pow (n := 64) (by omega) this
  · exact hm
theorem mdown_lt {m : Nat} (hm : m < 18446744073709551616) (n : Int) : mdown m n < 18446744073709551616 := by
  unfold mdown
  split
  · exact hm
  · split
    · decide
    · rw [Nat.shiftRight_eq_div_pow]
      exact Nat.lt_of_le_of_lt (Nat.div_le_self _ _) hm
theorem mwith_bit (m : Nat) (i : Int) (j : Nat) : (mwith m i).testBit j = (m.testBit j || (decide (i = (j : Int)) && decide (j < 64))) := by
  unfold mwith
  split
  · rename_i h
    rw [Nat.testBit_or, Nat.testBit_two_pow]
    congr 1
    rw [← Bool.decide_and]
    exact decide_eq_decide.2 (by omega)
  · rename_i h
    have : (decide (i = (j : Int)) && decide (j < 64)) = false := by
      rw [← Bool.decide_and]
      exact decide_eq_false (by omega)
    rw [this, Bool.or_false]
theorem mdown_bit {m : Nat} (hm : m < 18446744073709551616) (n : Int) (hn : 0 ≤ n) (j : Nat) : (mdown m n).testBit j = m.testBit (j + n.toNat) := by
  unfold mdown
  split
  · have : n.toNat = 0 := by omega
    rw [this, Nat.add_zero]
  · split
    · rw [Nat.zero_testBit, testBit_high hm (by omega)]
    · rw [Nat.testBit_shiftRight, Nat.add_comm]
theorem mtake_succ (m k : Nat) : mtake m (k + 1) = if m.testBit k = true then mtake m k ++ [k] else mtake m k := by
  unfold mtake
  rw [List.range_succ, List.filter_append]
  by_cases h : m.testBit k = true <;> simp [h]
theorem mtake_mem (m k i : Nat) : i ∈ mtake m k ↔ i < k ∧ m.testBit i = true := by simp [mtake]
theorem mlist_mem (m i : Nat) : i ∈ mlist m ↔ i < 64 ∧ m.testBit i = true := mtake_mem m 64 i
theorem mtake_le (m k : Nat) : (mtake m k).length ≤ k := by
  have := List.length_filter_le (fun i => m.testBit i) (List.range k)
  simpa [mtake] using this
theorem mlist_le (m : Nat) : (mlist m).length ≤ 64 := mtake_le m 64
theorem mlist_sorted (m : Nat) : (mlist m).Pairwise (· < ·) := List.Pairwise.filter _ List.pairwise_lt_range
theorem mlist_zero : mlist 0 = [] := by
  rw [mlist, mtake, List.filter_eq_nil_iff]
  intro a _
  simp
theorem filter_first {l : List Nat} (hs : l.Pairwise (· < ·)) (p : Nat → Bool) (k : Nat) (hk : k ∈ l) (hp : p k = true) (hlow : ∀ i, i < k → p i = false) : l.filter p = k :: l.filter (fun i => p i && !decide (i = k)) := by
  induction l with
  | nil => cases hk
  | cons a l ih =>
    rw [List.pairwise_cons] at hs
    rcases List.mem_cons.1 hk with rfl | hk
    · rw [List.filter_cons_of_pos hp, List.filter_cons_of_neg (by simp)]
      congr 1
      refine List.filter_congr fun x hx => ?_
      have := hs.1 x hx
      have h2 : decide (x = k) = false := decide_eq_false (by omega)
      rw [h2]
      simp
    · have hlt := hs.1 k hk
      rw [List.filter_cons_of_neg (by rw [hlow a hlt]; decide), List.filter_cons_of_neg (by rw [hlow a hlt]; simp)]
      exact ih hs.2 hk
theorem ctz_low {x : Nat} (h0 : x ≠ 0) (h : x < 18446744073709551616) : Lib.ctz 64 x < 64 ∧ x.testBit (Lib.ctz 64 x) = true ∧ (∀ i, i < Lib.ctz 64 x → x.testBit i = false) ∧ ∀ i, (x &&& (x - 1)).testBit i = (x.testBit i && !decide (i = Lib.ctz 64 x)) := by
  obtain ⟨m, hm, hk⟩ := Lib.ctzFrom_spec 64 x (by omega) h
  have e : Lib.ctz 64 x = Lib.ctzFrom 64 x := by simp [Lib.ctz, h0]
  rw [← e] at hm hk
  obtain ⟨k, hke⟩ : ∃ k, k = Lib.ctz 64 x := ⟨_, rfl⟩
  rw [← hke] at hm hk ⊢
  clear hke e
  have hp : 0 < 2 ^ k := Nat.two_pow_pos k
  have hbit : ∀ i, x.testBit i = (decide (k ≤ i) && (2 * m + 1).testBit (i - k)) := by
    intro i
    rw [hm, Nat.mul_comm, Nat.testBit_mul_two_pow]
  have h1 : x - 1 = 2 ^ k * (2 * m) + (2 ^ k - 1) := by
    rw [hm, Nat.mul_add, Nat.mul_one]
    omega
  have hlow : ∀ i, i < k → x.testBit i = false := by
    intro i hi
    rw [hbit i, decide_eq_false (by omega)]
    rfl
  refine ⟨hk, by rw [hbit k]; simp, hlow, ?_⟩
  intro i
  rw [Nat.testBit_and]
  by_cases hi : i < k
  · rw [hlow i hi]
    rfl
  · have h2 : (x - 1).testBit i = (2 * m).testBit (i - k) := by
      rw [h1, Nat.testBit_two_pow_mul_add _ (by omega), if_neg hi]
    rw [h2, hbit i, decide_eq_true (by omega), Bool.true_and]
    by_cases he : i = k
    · subst he
      simp
    · obtain ⟨d, hd⟩ : ∃ d, i - k = d + 1 := ⟨i - k - 1, by omega⟩
      rw [hd, Nat.testBit_succ, Nat.testBit_succ, decide_eq_false he]
      have e1 : (2 * m + 1) / 2 = m := by omega
      have e2 : 2 * m / 2 = m := by omega
      rw [e1, e2]
      simp
theorem mlist_step {x : Nat} (h0 : x ≠ 0) (h : x < 18446744073709551616) : mlist x = Lib.ctz 64 x :: mlist (x &&& (x - 1)) := by
  obtain ⟨h1, h2, h3, h4⟩ := ctz_low h0 h
  unfold mlist mtake
  rw [filter_first List.pairwise_lt_range (fun i => x.testBit i) (Lib.ctz 64 x) (List.mem_range.2 h1) h2 h3]
  congr 1
  exact List.filter_congr fun i _ => (h4 i).symm
theorem and_pred_lt {x : Nat} (h0 : x ≠ 0) : x &&& (x - 1) < x := Nat.lt_of_le_of_lt Nat.and_le_right (by omega)

/-- How many numbers follow one another from 0 on: the first one that is not in. -/
theorem mones_spec {m : Nat} (hm : m < 18446744073709551616) : mones m ≤ 64 ∧ (∀ i, i < mones m → m.testBit i = true) ∧ (mones m < 64 → m.testBit (mones m) = false) := by
  unfold mones
  have hbit : ∀ i, i < 64 → (18446744073709551615 - m).testBit i = !m.testBit i := by
    intro i hi
    have e : 18446744073709551615 - m = 2 ^ 64 - (m + 1) := by omega
    rw [e, Nat.testBit_two_pow_sub_succ hm, decide_eq_true hi, Bool.true_and]
  by_cases h0 : 18446744073709551615 - m = 0
  · have e : Lib.ctz 64 (18446744073709551615 - m) = 64 := by simp [Lib.ctz, h0]
    rw [e]
    refine ⟨Nat.le_refl _, ?_, fun h => absurd h (by omega)⟩
    intro i hi
    have := hbit i hi
    rw [h0, Nat.zero_testBit] at this
    simpa using this.symm
  · obtain ⟨h1, h2, h3, _⟩ := ctz_low h0 (by omega)
    refine ⟨Nat.le_of_lt h1, ?_, ?_⟩
    · intro i hi
      have := hbit i (by omega)
      rw [h3 i hi] at this
      simpa using this.symm
    · intro hl
      have := hbit _ hl
      rw [h2] at this
      simpa using this.symm
theorem mones_eq {m k : Nat} (hm : m < 18446744073709551616) (hk : k ≤ 64) (h1 : ∀ i, i < k → m.testBit i = true) (h2 : k < 64 → m.testBit k = false) : mones m = k := by
  obtain ⟨a, b, c⟩ := mones_spec hm
  rcases Nat.lt_trichotomy (mones m) k with h | h | h
  · have := h1 _ h
    rw [c (by omega)] at this
    cases this
  · exact h
  · have := b _ h
    rw [h2 (by omega)] at this
    cases this

/-- A number that is not in is added. -/
theorem add_bit {m i : Nat} (h : m.testBit i = false) : m + 2 ^ i = m ||| 2 ^ i := by
  apply Nat.eq_of_testBit_eq
  intro j
  rw [Nat.testBit_or, Nat.testBit_two_pow, Nat.add_comm]
  rcases Nat.lt_trichotomy i j with hij | hij | hij
  · have hr : m % 2 ^ (i + 1) < 2 ^ i := by
      rw [Nat.testBit_eq_decide_div_mod_eq] at h
      have h' := of_decide_eq_false h
      have hd : m / 2 ^ i % 2 = 0 := by omega
      have hmm : m % 2 ^ (i + 1) = m % 2 ^ i + 2 ^ i * (m / 2 ^ i % 2) := by rw [Nat.pow_succ]; exact Nat.mod_mul
      rw [hmm, hd, Nat.mul_zero, Nat.add_zero]
      exact Nat.mod_lt _ (Nat.two_pow_pos i)
    have hq : (2 ^ i + m) / 2 ^ (i + 1) = m / 2 ^ (i + 1) := by
      have e : m = 2 ^ (i + 1) * (m / 2 ^ (i + 1)) + m % 2 ^ (i + 1) := (Nat.div_add_mod _ _).symm
      have hp : 0 < 2 ^ (i + 1) := Nat.two_pow_pos _
      have e2 : 2 ^ i + m = 2 ^ (i + 1) * (m / 2 ^ (i + 1)) + (2 ^ i + m % 2 ^ (i + 1)) := by omega
      rw [e2, Nat.mul_add_div hp, Nat.div_eq_of_lt (a := 2 ^ i + m % 2 ^ (i + 1)) (by rw [Nat.pow_succ] at *; omega), Nat.add_zero]
    have e3 : j = (j - (i + 1)) + (i + 1) := by omega
    rw [e3, ← Nat.testBit_div_two_pow, ← Nat.testBit_div_two_pow, hq]
    simp
    omega
  · subst hij
    rw [Nat.testBit_two_pow_add_eq, h]
    simp
  · rw [Nat.testBit_two_pow_add_gt hij]
    simp
    omega
theorem mwith_add (m : Nat) (i : Int) : mwith m i = if mhas m i = true ∨ i < 0 ∨ 63 < i then m else m + 2 ^ i.toNat := by
  unfold mwith mhas
  by_cases h : 0 ≤ i ∧ i < 64
  · rw [if_pos h]
    simp only [h.1, h.2, decide_true, Bool.true_and]
    by_cases hb : m.testBit i.toNat = true
    · rw [if_pos (.inl hb)]
      apply Nat.eq_of_testBit_eq
      intro j
      rw [Nat.testBit_or, Nat.testBit_two_pow]
      by_cases hj : i.toNat = j
      · subst hj
        rw [hb]
        rfl
      · simp [hj]
    · rw [if_neg (by rintro (h1 | h1) <;> first | exact hb h1 | omega), add_bit (by simpa using hb)]
  · rw [if_neg h, if_pos (by omega)]
theorem half_times (m k : Nat) : m / 2 ^ k / 2 = m / 2 ^ (k + 1) := by rw [Nat.div_div_eq_div_mul, Nat.pow_succ]
theorem testBit_div (m i : Nat) : m.testBit i = decide (m / 2 ^ i % 2 = 1) := Nat.testBit_eq_decide_div_mod_eq

/-- Of numbers, one after the other. -/
theorem mfold_bit (l : List Int) (m j : Nat) : (l.foldl mwith m).testBit j = (m.testBit j || (decide ((j : Int) ∈ l) && decide (j < 64))) := by
  induction l generalizing m with
  | nil => simp
  | cons a l ih =>
    rw [List.foldl_cons, ih, mwith_bit, Bool.or_assoc]
    congr 1
    by_cases h64 : j < 64
    · simp only [h64, decide_true, Bool.and_true]
      rw [← Bool.decide_or]
      refine decide_eq_decide.2 ?_
      rw [List.mem_cons]
      constructor
      · rintro (h | h)
        · exact .inl h.symm
        · exact .inr h
      · rintro (h | h)
        · exact .inl h.symm
        · exact .inr h
    · simp [h64]
theorem mfold_lt (l : List Int) {m : Nat} (hm : m < 18446744073709551616) : l.foldl mwith m < 18446744073709551616 := by
  induction l generalizing m with
  | nil => exact hm
  | cons a l ih => exact ih (mwith_lt hm a)
theorem mof_lt (l : List Int) : mof l < 18446744073709551616 := mfold_lt l (by decide)
theorem mof_bit (l : List Int) (j : Nat) : (mof l).testBit j = (decide ((j : Int) ∈ l) && decide (j < 64)) := by
  rw [mof, mfold_bit, Nat.zero_testBit, Bool.false_or]
theorem nints_mem (l : List Nat) (j : Nat) : (j : Int) ∈ nints l ↔ j ∈ l := by
  unfold nints
  rw [List.mem_map]
  constructor
  · rintro ⟨a, ha, he⟩
    have : a = j := by omega
    rwa [← this]
  · exact fun h => ⟨j, h, rfl⟩
theorem mof_list {m : Nat} (hm : m < 18446744073709551616) : mof (nints (mlist m)) = m := by
  refine mask_ext (mof_lt _) hm fun j hj => ?_
  rw [mof_bit, decide_eq_true hj, Bool.and_true]
  by_cases hb : m.testBit j = true
  · rw [hb]
    exact decide_eq_true ((nints_mem _ _).2 ((mlist_mem m j).2 ⟨hj, hb⟩))
  · rw [show m.testBit j = false by simpa using hb]
    exact decide_eq_false fun h => hb ((mlist_mem m j).1 ((nints_mem _ _).1 h)).2
theorem mhas_of (l : List Int) (i : Int) (hi : i ∈ l) : mhas (mof l) i = (decide (0 ≤ i) && decide (i < 64)) := by
  unfold mhas
  by_cases h : 0 ≤ i ∧ i < 64
  · rw [mof_bit]
    have e : ((i.toNat : Nat) : Int) = i := by omega
    rw [e, decide_eq_true hi, decide_eq_true (show i.toNat < 64 by omega)]
    simp
  · have : (decide (0 ≤ i) && decide (i < 64)) = false := by rw [← Bool.decide_and]; exact decide_eq_false h
    rw [this]
    rfl
theorem mof_in (l : List Int) (j : Nat) (h : j ∈ mlist (mof l)) : (j : Int) ∈ l := by
  have := ((mlist_mem _ _).1 h).2
  rw [mof_bit, Bool.and_eq_true, decide_eq_true_iff] at this
  exact this.1
theorem mdown_has {m : Nat} (hm : m < 18446744073709551616) (a b : Nat) (hb : b < 64) : mhas (mdown m a) b = (decide (a + b < 64) && mhas m ((a : Int) + b)) := by
  unfold mhas
  rw [mdown_bit hm _ (by omega)]
  have e : ((a : Int) + b).toNat = b + a := by omega
  rw [Int.toNat_natCast, Int.toNat_natCast, e, decide_eq_true (show (0 : Int) ≤ (b : Int) by omega), decide_eq_true (show (b : Int) < 64 by omega), decide_eq_true (show (0 : Int) ≤ (a : Int) + b by omega)]
  by_cases h : a + b < 64
  · rw [decide_eq_true h, decide_eq_true (show (a : Int) + b < 64 by omega)]
    rfl
  · rw [decide_eq_false h, testBit_high hm (by omega)]
    rfl
/-- Lower ones by adding, one after the other: the document's. -/
theorem mdown_fold {m : Nat} (hm : m < 18446744073709551616) (n : Int) (h1 : 1 ≤ n) (h2 : n ≤ 63) : ((nints (mlist m)).map (fun x => x - n)).foldl mwith 0 = mdown m n := by
  refine mask_ext (mfold_lt _ (by decide)) (mdown_lt hm n) fun j hj => ?_
  rw [mfold_bit, Nat.zero_testBit, Bool.false_or, mdown_bit hm n (by omega), decide_eq_true hj, Bool.and_true]
  have key : (j : Int) ∈ (nints (mlist m)).map (fun x => x - n) ↔ m.testBit (j + n.toNat) = true := by
    rw [List.mem_map]
    constructor
    · rintro ⟨x, hx, he⟩
      have hxx : x = ((j + n.toNat : Nat) : Int) := by omega
      rw [hxx, nints_mem] at hx
      exact ((mlist_mem _ _).1 hx).2
    · intro hb
      refine ⟨((j + n.toNat : Nat) : Int), (nints_mem _ _).2 ((mlist_mem _ _).2 ⟨?_, hb⟩), by omega⟩
      by_cases hl : j + n.toNat < 64
      · exact hl
      · rw [testBit_high hm (by omega)] at hb
        cases hb
  by_cases hb : m.testBit (j + n.toNat) = true
  · rw [hb]
    exact decide_eq_true (key.2 hb)
  · rw [show m.testBit (j + n.toNat) = false by simpa using hb]
    exact decide_eq_false fun h => hb (key.1 h)
end Go.Proofs.YtkhloanpdehegaaDoor
