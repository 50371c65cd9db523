/-
  Windows in plain words.
-/
import Derived.Test.YtkhloanpdehegaaDoorMask
namespace Go.Proofs.YtkhloanpdehegaaDoor
open Go
set_option linter.unusedSimpArgs false
set_option linter.unusedVariables false

structure Win where
  base : Int
  bits : Nat
deriving DecidableEq
def Win.good (w : Win) : Bool := decide (1 ≤ w.base) && decide (w.base ≤ 1099511627777) && !mhas w.bits 0 && decide (mdown w.bits (max 1 (1099511627776 - w.base + 1)) = 0)
def Win.gd (w : Win) : Prop := 1 ≤ w.base ∧ w.base ≤ 1099511627777 ∧ w.bits.testBit 0 = false ∧ ∀ j : Nat, w.bits.testBit j = true → (j : Int) ≤ 1099511627776 - w.base
def Win.done (w : Win) (k : Int) : Bool := w.good && decide (1 ≤ k) && (decide (k < w.base) || mhas w.bits (k - w.base))
def Win.count (w : Win) : Int := if w.good = true then w.base - 1 + (mlist w.bits).length else 0
def Win.ask (w : Win) (size num : Int) : Int := if w.good = true ∧ 1 ≤ size ∧ size ≤ 64 ∧ 1 ≤ num ∧ num ≤ 1099511627776 then (if w.done num = true then 90 else if size ≤ num - w.base then 91 else 0) else 2
def Win.zero : Win := ⟨0, 0⟩
def Win.next (w : Win) (num : Int) : Win := ⟨w.base + (mones (mwith w.bits (num - w.base)) : Nat), mdown (mwith w.bits (num - w.base)) (mones (mwith w.bits (num - w.base)) : Nat)⟩
def Win.mark (w : Win) (num : Int) : Win := if w.ask 64 num = 0 then w.next num else Win.zero
def Win.ok (w : Win) : Prop := w.bits < 18446744073709551616
/-- The document's. -/
def Win.rgood (w : Win) : Bool := decide (1 ≤ w.base) && decide (w.base ≤ 1099511627777) && !mhas w.bits 0 && (decide ((mlist w.bits).length = 0) || decide ((((mlist w.bits).getD ((mlist w.bits).length - 1) 0 : Nat) : Int) ≤ 1099511627776 - w.base))

theorem mhas_nat (m j : Nat) (hm : m < 18446744073709551616) : mhas m (j : Int) = m.testBit j := by
  unfold mhas
  rw [Int.toNat_natCast, decide_eq_true (show (0 : Int) ≤ (j : Int) by omega), Bool.true_and]
  by_cases h : j < 64
  · rw [decide_eq_true (show (j : Int) < 64 by omega), Bool.true_and]
  · rw [testBit_high hm (by omega), Bool.and_false]
theorem mhas_zero (m : Nat) (hm : m < 18446744073709551616) : mhas m 0 = m.testBit 0 := mhas_nat m 0 hm
theorem mdown_zero {m : Nat} (hm : m < 18446744073709551616) (n : Int) (hn : 1 ≤ n) : mdown m n = 0 ↔ ∀ j : Nat, m.testBit j = true → (j : Int) < n := by
  constructor
  · intro h j hj
    by_cases hl : (j : Int) < n
    · exact hl
    · have := mdown_bit hm n (by omega) (j - n.toNat)
      rw [h, Nat.zero_testBit, show j - n.toNat + n.toNat = j by omega, hj] at this
      cases this
  · intro h
    refine mask_ext (mdown_lt hm n) (by decide) fun j _ => ?_
    rw [mdown_bit hm n (by omega), Nat.zero_testBit]
    cases hb : m.testBit (j + n.toNat)
    · rfl
    · have := h _ hb
      omega
theorem Win.good_iff (w : Win) (hw : w.ok) : w.good = true ↔ w.gd := by
  unfold Win.good Win.gd
  simp only [Bool.and_eq_true, decide_eq_true_eq, Bool.not_eq_true', mhas_zero _ hw, and_assoc]
  refine and_congr_right fun h1 => and_congr_right fun h2 => and_congr_right fun h3 => ?_
  rw [mdown_zero hw _ (by omega)]
  refine forall_congr' fun j => forall_congr' fun hj => ?_
  by_cases h0 : j = 0
  · subst h0
    rw [h3] at hj
    cases hj
  · omega
theorem last_max {l : List Nat} (hs : l.Pairwise (· < ·)) (h : l ≠ []) : l.getD (l.length - 1) 0 ∈ l ∧ ∀ x ∈ l, x ≤ l.getD (l.length - 1) 0 := by
  have hl : 0 < l.length := List.length_pos_iff.2 h
  have e : l.getD (l.length - 1) 0 = l[l.length - 1] := by rw [List.getD, List.getElem?_eq_getElem (by omega)]; rfl
  rw [e]
  refine ⟨List.getElem_mem _, ?_⟩
  intro x hx
  obtain ⟨i, hi, rfl⟩ := List.mem_iff_getElem.1 hx
  by_cases he : i = l.length - 1
  · subst he
    exact Nat.le_refl _
  · exact Nat.le_of_lt (List.pairwise_iff_getElem.1 hs i (l.length - 1) hi (by omega) (by omega))
theorem Win.rgood_eq (w : Win) (hw : w.ok) : w.rgood = w.good := by
  rw [Bool.eq_iff_iff, w.good_iff hw]
  unfold Win.rgood Win.gd
  simp only [Bool.and_eq_true, decide_eq_true_eq, Bool.not_eq_true', mhas_zero _ hw, and_assoc, Bool.or_eq_true]
  refine and_congr_right fun h1 => and_congr_right fun h2 => and_congr_right fun h3 => ?_
  have hmem : ∀ j : Nat, w.bits.testBit j = true → j ∈ mlist w.bits := by
    intro j hj
    refine (mlist_mem _ _).2 ⟨?_, hj⟩
    by_cases hl : j < 64
    · exact hl
    · rw [testBit_high hw (by omega)] at hj
      cases hj
  by_cases hn : mlist w.bits = []
  · constructor
    · intro _ j hj
      have := hmem j hj
      rw [hn] at this
      cases this
    · intro _
      left
      rw [hn]
      rfl
  · obtain ⟨m1, m2⟩ := last_max (mlist_sorted w.bits) hn
    constructor
    · rintro (h | h) j hj
      · exact absurd (List.length_eq_zero_iff.1 h) hn
      · have := m2 j (hmem j hj)
        omega
    · intro h
      right
      exact h _ ((mlist_mem _ _).1 m1).2
/-- What was delivered. -/
def Win.din (w : Win) (k : Int) : Prop := 1 ≤ k ∧ (k < w.base ∨ w.base ≤ k ∧ w.bits.testBit (k - w.base).toNat = true)
theorem Win.done_iff (w : Win) (hw : w.ok) (hg : w.gd) (k : Int) : w.done k = true ↔ w.din k := by
  unfold Win.done Win.din
  rw [(w.good_iff hw).2 hg]
  simp only [Bool.true_and, Bool.and_eq_true, decide_eq_true_eq, Bool.or_eq_true]
  refine and_congr_right fun h1 => ?_
  by_cases hlt : k < w.base
  · simp [hlt]
  · have e : k - w.base = (((k - w.base).toNat : Nat) : Int) := by omega
    rw [e, mhas_nat _ _ hw, Int.toNat_natCast]
    constructor
    · rintro (h | h)
      · exact .inl h
      · exact .inr ⟨by omega, h⟩
    · rintro (h | h)
      · exact .inl h
      · exact .inr h.2
theorem Win.ask_ok (w : Win) (hw : w.ok) (num : Int) : w.ask 64 num = 0 ↔ w.gd ∧ 1 ≤ num ∧ num ≤ 1099511627776 ∧ ¬ w.din num ∧ num - w.base < 64 := by
  unfold Win.ask
  have hgi := w.good_iff hw
  by_cases h : w.good = true ∧ (1 : Int) ≤ 64 ∧ (64 : Int) ≤ 64 ∧ 1 ≤ num ∧ num ≤ 1099511627776
  · rw [if_pos h]
    have hg := hgi.1 h.1
    have hdi := w.done_iff hw hg num
    by_cases hd : w.done num = true
    · rw [if_pos hd]
      have := hdi.1 hd
      simp [this]
    · rw [if_neg hd]
      have hd' : ¬ w.din num := fun h => hd (hdi.2 h)
      by_cases hf : (64 : Int) ≤ num - w.base
      · rw [if_pos hf]
        simp
        omega
      · rw [if_neg hf]
        simp only [true_iff]
        exact ⟨hg, h.2.2.2.1, h.2.2.2.2, hd', by omega⟩
  · rw [if_neg h]
    simp only [Int.reduceEq, false_iff]
    rintro ⟨a, b, c, _⟩
    exact h ⟨hgi.2 a, by omega, by omega, b, c⟩
theorem Win.next_spec (w : Win) (hw : w.ok) (num : Int) (h : w.ask 64 num = 0) : (w.next num).ok ∧ (w.next num).gd ∧ ∀ k, (w.next num).din k ↔ w.din k ∨ k = num := by
  obtain ⟨⟨g1, g2, g3, g4⟩, n1, n2, hnd, hfar⟩ := (w.ask_ok hw num).1 h
  have hge : w.base ≤ num := by
    by_cases hl : w.base ≤ num
    · exact hl
    · exact absurd ⟨n1, .inl (by omega)⟩ hnd
  obtain ⟨m, hm⟩ : ∃ m, m = mwith w.bits (num - w.base) := ⟨_, rfl⟩
  have hmlt : m < 18446744073709551616 := by rw [hm]; exact mwith_lt hw _
  have hmb : ∀ j, m.testBit j = (w.bits.testBit j || (decide (num - w.base = (j : Int)) && decide (j < 64))) := by intro j; rw [hm]; exact mwith_bit _ _ _
  obtain ⟨n, hn⟩ : ∃ n, n = mones m := ⟨_, rfl⟩
  obtain ⟨s1, s2, s3⟩ := mones_spec hmlt
  rw [← hn] at s1 s2 s3
  have hmax : ∀ j, m.testBit j = true → (j : Int) ≤ 1099511627776 - w.base := by
    intro j hj
    rw [hmb j, Bool.or_eq_true, Bool.and_eq_true, decide_eq_true_iff, decide_eq_true_iff] at hj
    rcases hj with hj | hj
    · exact g4 j hj
    · omega
  have hbase : (w.next num).base = w.base + (n : Int) := by rw [Win.next, ← hm, ← hn]
  have hbits : (w.next num).bits = mdown m (n : Int) := by rw [Win.next, ← hm, ← hn]
  have hb2 : ∀ j, (w.next num).bits.testBit j = m.testBit (j + n) := by
    intro j
    rw [hbits, mdown_bit hmlt _ (by omega), Int.toNat_natCast]
  have hok : (w.next num).ok := by rw [Win.ok, hbits]; exact mdown_lt hmlt _
  refine ⟨hok, ⟨?_, ?_, ?_, ?_⟩, ?_⟩
  · rw [hbase]; omega
  · rw [hbase]
    by_cases h0 : n = 0
    · omega
    · have := hmax (n - 1) (s2 _ (by omega))
      omega
  · rw [hb2, Nat.zero_add]
    by_cases hl : n < 64
    · exact s3 hl
    · exact testBit_high hmlt (by omega)
  · intro j hj
    rw [hb2] at hj
    have := hmax _ hj
    rw [hbase]
    omega
  · intro k
    unfold Win.din
    rw [hbase]
    have hin : ∀ (h1 : 1 ≤ k) (h2 : w.base ≤ k), m.testBit (k - w.base).toNat = true ↔ w.bits.testBit (k - w.base).toNat = true ∨ k = num := by
      intro h1 h2
      rw [hmb, Bool.or_eq_true, Bool.and_eq_true, decide_eq_true_iff, decide_eq_true_iff]
      constructor
      · rintro (h | h)
        · exact .inl h
        · exact .inr (by omega)
      · rintro (h | h)
        · exact .inl h
        · exact .inr (by omega)
    constructor
    · rintro ⟨h1, h2⟩
      by_cases hlt : k < w.base
      · exact .inl ⟨h1, .inl hlt⟩
      · have key : m.testBit (k - w.base).toNat = true := by
          rcases h2 with h2 | ⟨h2, h3⟩
          · exact s2 _ (by omega)
          · rw [hb2] at h3
            have e : (k - (w.base + (n : Int))).toNat + n = (k - w.base).toNat := by omega
            rwa [e] at h3
        rcases (hin h1 (by omega)).1 key with h | h
        · exact .inl ⟨h1, .inr ⟨by omega, h⟩⟩
        · exact .inr h
    · intro h
      have h1 : 1 ≤ k := by
        rcases h with h | h
        · exact h.1
        · omega
      refine ⟨h1, ?_⟩
      by_cases hlt : k < w.base + (n : Int)
      · exact .inl hlt
      · refine .inr ⟨by omega, ?_⟩
        rw [hb2]
        have e : (k - (w.base + (n : Int))).toNat + n = (k - w.base).toNat := by omega
        rw [e]
        refine (hin h1 (by omega)).2 ?_
        rcases h with ⟨_, h | h⟩ | h
        · omega
        · exact .inl h.2
        · exact .inr h
theorem Win.same (w v : Win) (hw : w.ok) (hv : v.ok) (hgw : w.gd) (hgv : v.gd) (h : ∀ k, w.din k ↔ v.din k) : w = v := by
  have step : ∀ (w v : Win), w.gd → v.gd → (∀ k, w.din k ↔ v.din k) → ¬ w.base < v.base := by
    intro w v hgw hgv h hl
    have h1 := (h w.base).2 ⟨hgw.1, .inl hl⟩
    rcases h1 with ⟨_, h2 | ⟨_, h2⟩⟩
    · omega
    · rw [Int.sub_self, Int.toNat_zero, hgw.2.2.1] at h2
      cases h2
  have hb : w.base = v.base := by
    have a := step w v hgw hgv h
    have b := step v w hgv hgw (fun k => (h k).symm)
    omega
  have hbits : w.bits = v.bits := by
    refine mask_ext hw hv fun j _ => ?_
    have g := hgw.1
    have hj := h (w.base + (j : Int))
    unfold Win.din at hj
    rw [← hb] at hj
    have e : (w.base + (j : Int) - w.base).toNat = j := by omega
    rw [e] at hj
    rw [Bool.eq_iff_iff]
    constructor
    · intro hh
      rcases (hj.1 ⟨by omega, .inr ⟨by omega, hh⟩⟩).2 with h2 | h2
      · omega
      · exact h2.2
    · intro hh
      rcases (hj.2 ⟨by omega, .inr ⟨by omega, hh⟩⟩).2 with h2 | h2
      · omega
      · exact h2.2
  cases w
  cases v
  simp only at hb hbits
  rw [hb, hbits]
/-- How many were delivered. -/
theorem cnt_with {m : Nat} (i : Nat) (hi : i < 64) (hm : m.testBit i = false) (k : Nat) (hk : k ≤ 64) : (mtake (mwith m (i : Int)) k).length = (mtake m k).length + if i < k then 1 else 0 := by
  induction k with
  | zero => simp [mtake]
  | succ k ih =>
    have ih := ih (by omega)
    rw [mtake_succ, mtake_succ, mwith_bit]
    by_cases he : i = k
    · subst he
      rw [hm]
      simp [hi, ih]
    · have hne : decide ((i : Int) = (k : Int)) = false := decide_eq_false (by omega)
      rw [hne, Bool.false_and, Bool.or_false]
      have hlt : (i < k + 1) ↔ (i < k) := by omega
      by_cases hb : m.testBit k = true
      · simp only [hb, if_true, List.length_append, List.length_cons, List.length_nil, hlt, ih]
        omega
      · simp only [hb, if_false, hlt, ih, Bool.false_eq_true]
theorem cnt_down {m : Nat} (hm : m < 18446744073709551616) (n : Nat) (hn : ∀ i, i < n → m.testBit i = true) (k : Nat) : (mtake m (n + k)).length = n + (mtake (mdown m (n : Int)) k).length := by
  induction k with
  | zero =>
    have : ∀ j, j ≤ n → (mtake m j).length = j := by
      intro j
      induction j with
      | zero => intro _; rfl
      | succ j ih =>
        intro hj
        rw [mtake_succ, if_pos (hn j (by omega)), List.length_append, ih (by omega)]
        rfl
    rw [Nat.add_zero, this n (Nat.le_refl _)]
    rfl
  | succ k ih =>
    rw [← Nat.add_assoc, mtake_succ, mtake_succ, mdown_bit hm _ (by omega), Int.toNat_natCast, Nat.add_comm k n]
    by_cases hb : m.testBit (n + k) = true
    · rw [if_pos hb, if_pos hb, List.length_append, List.length_append, ih]
      rfl
    · rw [if_neg hb, if_neg hb, ih]
theorem cnt_high {m : Nat} (hm : m < 18446744073709551616) (d : Nat) : mtake m (64 + d) = mlist m := by
  induction d with
  | zero => rfl
  | succ d ih => rw [← Nat.add_assoc, mtake_succ, testBit_high hm (by omega), if_neg (by decide), ih]
theorem Win.next_count (w : Win) (hw : w.ok) (num : Int) (h : w.ask 64 num = 0) : (w.next num).count = w.count + 1 := by
  obtain ⟨hg, n1, n2, hnd, hfar⟩ := (w.ask_ok hw num).1 h
  obtain ⟨ho, hg2, _⟩ := w.next_spec hw num h
  have hge : w.base ≤ num := by
    by_cases hl : w.base ≤ num
    · exact hl
    · exact absurd ⟨n1, .inl (by omega)⟩ hnd
  obtain ⟨i, hi⟩ : ∃ i : Nat, num - w.base = (i : Int) := ⟨(num - w.base).toNat, by omega⟩
  have hnb : w.bits.testBit i = false := by
    cases hb : w.bits.testBit i
    · rfl
    · exact absurd ⟨n1, .inr ⟨hge, by rw [hi, Int.toNat_natCast]; exact hb⟩⟩ hnd
  unfold Win.count
  rw [if_pos ((w.good_iff hw).2 hg), if_pos (((w.next num).good_iff ho).2 hg2)]
  have e1 := cnt_with i (by omega) hnb 64 (Nat.le_refl _)
  rw [if_pos (by omega)] at e1
  unfold Win.next
  rw [hi]
  obtain ⟨m, hm⟩ : ∃ m, m = mwith w.bits (i : Int) := ⟨_, rfl⟩
  have hmlt : m < 18446744073709551616 := by rw [hm]; exact mwith_lt hw _
  rw [← hm] at e1 ⊢
  obtain ⟨s1, s2, s3⟩ := mones_spec hmlt
  have e2 := cnt_down hmlt (mones m) s2 64
  rw [Nat.add_comm (mones m) 64, cnt_high hmlt] at e2
  unfold mlist
  unfold mlist at e2
  simp only
  omega
theorem Win.mark_done (w : Win) (hw : w.ok) (num : Int) (h : w.ask 64 num = 0) (k : Int) : (w.next num).done k = (w.done k || decide (k = num)) := by
  obtain ⟨hg, _⟩ := (w.ask_ok hw num).1 h
  obtain ⟨ho, hg2, hd⟩ := w.next_spec hw num h
  rw [Bool.eq_iff_iff, (w.next num).done_iff ho hg2, hd, Bool.or_eq_true, decide_eq_true_iff, w.done_iff hw hg]
theorem Win.ask_done (w : Win) (num : Int) (h : w.ask 64 num = 0) : w.done num = false := by
  cases hd : w.done num
  · rfl
  · unfold Win.ask at h
    rw [hd] at h
    by_cases hc : w.good = true ∧ (1 : Int) ≤ 64 ∧ (64 : Int) ≤ 64 ∧ 1 ≤ num ∧ num ≤ 1099511627776
    · rw [if_pos hc, if_pos rfl] at h
      cases h
    · rw [if_neg hc] at h
      cases h
theorem Win.ask_again (w : Win) (hw : w.ok) (num : Int) (h : w.ask 64 num = 0) : (w.next num).ask 64 num = 90 := by
  obtain ⟨hg, n1, n2, _⟩ := (w.ask_ok hw num).1 h
  obtain ⟨ho, hg2, _⟩ := w.next_spec hw num h
  have hd := w.mark_done hw num h num
  rw [decide_eq_true rfl, Bool.or_true] at hd
  unfold Win.ask
  rw [if_pos ⟨((w.next num).good_iff ho).2 hg2, by omega, by omega, n1, n2⟩, if_pos hd]
/-- Marked, one after the other, until one is refused. -/
def Win.all : Win → List Int → Win × Bool
  | w, [] => (w, true)
  | w, n :: l => if w.ask 64 n = 0 then (w.next n).all l else (w, false)
theorem Win.all_spec (l : List Int) : ∀ w : Win, w.ok → w.gd → (w.all l).2 = true → (w.all l).1.ok ∧ (w.all l).1.gd ∧ ∀ k, (w.all l).1.din k ↔ w.din k ∨ k ∈ l := by
  induction l with
  | nil => intro w h1 h2 _; exact ⟨h1, h2, fun k => by simp [Win.all]⟩
  | cons n l ih =>
    intro w h1 h2 h3
    unfold Win.all at h3 ⊢
    by_cases ha : w.ask 64 n = 0
    · rw [if_pos ha] at h3 ⊢
      obtain ⟨a, b, c⟩ := w.next_spec h1 n ha
      obtain ⟨d, e, f⟩ := ih _ a b h3
      refine ⟨d, e, fun k => ?_⟩
      rw [f, c, List.mem_cons, or_assoc]
    · rw [if_neg ha] at h3
      cases h3
theorem Win.all_order (w : Win) (hw : w.ok) (l m : List Int) (hlm : ∀ k, k ∈ l ↔ k ∈ m) (h1 : (w.all l).2 = true) (h2 : (w.all m).2 = true) : (w.all l).1 = (w.all m).1 := by
  cases l with
  | nil =>
    cases m with
    | nil => rfl
    | cons b m => exact absurd ((hlm b).2 (by simp)) (by simp)
  | cons a l =>
    have ha : w.ask 64 a = 0 := by
      unfold Win.all at h1
      by_cases ha : w.ask 64 a = 0
      · exact ha
      · rw [if_neg ha] at h1
        cases h1
    have hg := ((w.ask_ok hw a).1 ha).1
    obtain ⟨a1, a2, a3⟩ := Win.all_spec _ w hw hg h1
    obtain ⟨b1, b2, b3⟩ := Win.all_spec _ w hw hg h2
    exact Win.same _ _ a1 b1 a2 b2 fun k => by rw [a3, b3, hlm]
end Go.Proofs.YtkhloanpdehegaaDoor
