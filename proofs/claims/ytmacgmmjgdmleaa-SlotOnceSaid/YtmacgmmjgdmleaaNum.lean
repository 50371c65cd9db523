/-
  Numbers as bytes: what tally lays and reads, in lists alone.
-/
import Derived.KernelRfl
namespace Go.Proofs.Ytmacgmmjgdmleaa.Num

/-- How many digits a number has to the base 256. -/
def nd (n : Nat) : Nat := if h : n = 0 then 0 else nd (n / 256) + 1
termination_by n
decreasing_by omega
theorem nd_zero : nd 0 = 0 := by unfold nd; simp
theorem nd_pos {n : Nat} (h : 0 < n) : nd n = nd (n / 256) + 1 := by
  rw [nd, dif_neg (by omega)]
theorem nd_le (k : Nat) : ∀ n, n < 256 ^ k → nd n ≤ k := by
  induction k with
  | zero => intro n h; simp at h; subst h; simp [nd_zero]
  | succ k ih =>
    intro n h
    by_cases h0 : n = 0
    · subst h0; simp [nd_zero]
    · rw [nd_pos (by omega)]
      have := ih (n / 256) (by rw [Nat.pow_succ] at h; omega)
      omega
theorem nd_gt (k : Nat) : ∀ n, 256 ^ k ≤ n → k < nd n := by
  induction k with
  | zero => intro n h; simp at h; rw [nd_pos (by omega)]; omega
  | succ k ih =>
    intro n h
    have h1 : 0 < 256 ^ k := Nat.pow_pos (by omega)
    rw [Nat.pow_succ] at h
    rw [nd_pos (by omega)]
    have := ih (n / 256) (by omega)
    omega
theorem lt_nd (n : Nat) : n < 256 ^ nd n := by
  rcases Nat.lt_or_ge n (256 ^ nd n) with h | h
  · exact h
  · exact absurd (nd_gt _ n h) (Nat.lt_irrefl _)
theorem nd_eight {n : Nat} (h : n ≤ 9223372036854775807) : nd n ≤ 8 := nd_le 8 n (by omega)

/-- The k digits of n, the greatest one first. -/
def beN (k n : Nat) : List UInt8 := (List.range k).map fun j => UInt8.ofNat (n / 256 ^ (k - 1 - j))
theorem beN_length (k n : Nat) : (beN k n).length = k := by simp [beN]
theorem beN_succ (k n : Nat) : beN (k + 1) n = UInt8.ofNat (n / 256 ^ k) :: beN k n := by
  unfold beN
  rw [List.range_succ_eq_map]
  simp only [List.map_cons, List.map_map]
  congr 1
  apply List.map_congr_left
  intro j hj
  rw [List.mem_range] at hj
  simp only [Function.comp]
  congr 3
  omega
theorem beN_take (k n j : Nat) (h : j < k) : (beN k n).take (j + 1) = (beN k n).take j ++ [UInt8.ofNat (n / 256 ^ (k - 1 - j))] := by
  rw [List.take_succ_eq_append_getElem (by rw [beN_length]; exact h)]
  simp [beN]
/-- A number's bytes. -/
def putN (n : Nat) : List UInt8 := UInt8.ofNat (nd n) :: beN (nd n) n
theorem putN_length (n : Nat) : (putN n).length = nd n + 1 := by simp [putN, beN_length]
def putI (n : Int) : List UInt8 := if n < 0 then [] else putN n.toNat
def putT (s : List UInt8) : List UInt8 := putN s.length ++ s
theorem putI_nat (n : Nat) : putI n = putN n := by simp [putI]; omega
theorem putI_neg {n : Int} (h : n < 0) : putI n = [] := by simp [putI, h]
theorem putN_le {n : Nat} (h : n ≤ 9223372036854775807) : (putN n).length ≤ 9 := by
  rw [putN_length]; have := nd_eight h; omega

/-- What digits come to. -/
def val (l : List UInt8) : Nat := l.foldl (fun n x => 256 * n + x.toNat) 0
theorem foldl_val (l : List UInt8) : ∀ a : Nat, l.foldl (fun n x => 256 * n + x.toNat) a = a * 256 ^ l.length + val l := by
  induction l with
  | nil => intro a; simp [val]
  | cons x l ih =>
    intro a
    simp only [List.foldl_cons, val, List.length_cons, Nat.mul_zero, Nat.zero_add]
    rw [ih, ih x.toNat, Nat.pow_succ, Nat.add_mul]
    have : 256 * a * 256 ^ l.length = a * (256 ^ l.length * 256) := by
      rw [Nat.mul_comm 256 a, Nat.mul_assoc, Nat.mul_comm 256]
    omega
theorem val_cons (x : UInt8) (l : List UInt8) : val (x :: l) = x.toNat * 256 ^ l.length + val l := by
  have := foldl_val l x.toNat
  simpa [val] using this
theorem val_snoc (l : List UInt8) (x : UInt8) : val (l ++ [x]) = 256 * val l + x.toNat := by simp [val]
theorem val_lt (l : List UInt8) : val l < 256 ^ l.length := by
  induction l with
  | nil => simp [val]
  | cons x l ih =>
    rw [val_cons, List.length_cons, Nat.pow_succ]
    have hx : x.toNat < 256 := x.toNat_lt
    have h1 : x.toNat * 256 ^ l.length ≤ 255 * 256 ^ l.length := Nat.mul_le_mul_right _ (by omega)
    omega
theorem val_beN (k : Nat) : ∀ n, n < 256 ^ k → val (beN k n) = n := by
  induction k with
  | zero => intro n h; simp at h; subst h; simp [beN, val]
  | succ k ih =>
    intro n h
    have hb : ∀ n, beN k n = beN k (n % 256 ^ k) := by
      intro n
      unfold beN
      apply List.map_congr_left
      intro j hj
      rw [List.mem_range] at hj
      have e : 256 ^ k = 256 ^ (k - 1 - j) * 256 * 256 ^ j := by
        rw [← Nat.pow_succ, ← Nat.pow_add]; congr 1; omega
      apply UInt8.toNat_inj.1
      simp only [UInt8.toNat_ofNat']
      rw [e, Nat.mul_assoc, Nat.mod_mul_right_div_self]
      rw [Nat.mod_mul_right_mod]
    have hp : 0 < 256 ^ k := Nat.pow_pos (by omega)
    rw [beN_succ, val_cons, beN_length, hb n, ih _ (Nat.mod_lt _ hp)]
    have hq : n / 256 ^ k < 256 := by
      rw [Nat.div_lt_iff_lt_mul hp, Nat.mul_comm]
      rw [Nat.pow_succ] at h
      omega
    rw [UInt8.toNat_ofNat', Nat.mod_eq_of_lt (by omega), Nat.mul_comm]
    exact Nat.div_add_mod n (256 ^ k)
theorem beN_val (l : List UInt8) : beN l.length (val l) = l := by
  induction l with
  | nil => simp [beN]
  | cons x l ih =>
    have hp : 0 < 256 ^ l.length := Nat.pow_pos (by omega)
    have hx : x.toNat < 256 := x.toNat_lt
    rw [List.length_cons, beN_succ, val_cons]
    have h1 : (x.toNat * 256 ^ l.length + val l) / 256 ^ l.length = x.toNat := by
      rw [Nat.mul_comm, Nat.mul_add_div hp, Nat.div_eq_of_lt (val_lt l), Nat.add_zero]
    rw [h1]
    congr 1
    · apply UInt8.toNat_inj.1
      simp
    · have hb : beN l.length (x.toNat * 256 ^ l.length + val l) = beN l.length (val l) := by
        unfold beN
        apply List.map_congr_left
        intro j hj
        rw [List.mem_range] at hj
        have e : 256 ^ l.length = 256 ^ (l.length - 1 - j) * (256 * 256 ^ j) := by
          rw [← Nat.mul_assoc, ← Nat.pow_succ, ← Nat.pow_add]; congr 1; omega
        apply UInt8.toNat_inj.1
        simp only [UInt8.toNat_ofNat']
        rw [e, ← Nat.mul_assoc, Nat.mul_comm x.toNat, Nat.mul_assoc, Nat.mul_add_div (Nat.pow_pos (by omega))]
        rw [← Nat.mul_assoc, Nat.mul_comm x.toNat, Nat.mul_assoc, Nat.mul_add_mod]
      rw [hb, ih]
/-- Of a number that begins by no zero digit, how many digits it has. -/
theorem nd_val (l : List UInt8) (h : ∀ x t, l = x :: t → x ≠ 0) : nd (val l) = l.length := by
  rcases l with _ | ⟨x, l⟩
  · simp [val, nd_zero]
  · have h0 : x ≠ 0 := h x l rfl
    have hx : 0 < x.toNat := by
      rcases Nat.eq_zero_or_pos x.toNat with h1 | h1
      · exact absurd (UInt8.toNat_inj.1 (by simpa using h1)) h0
      · exact h1
    have h1 := nd_gt l.length (val (x :: l)) (by rw [val_cons]; exact Nat.le_trans (Nat.le_mul_of_pos_left _ hx) (Nat.le_add_right _ _))
    have h2 := nd_le (l.length + 1) (val (x :: l)) (val_lt (x :: l))
    simp
    omega

/-- What a reader finds ahead: the number, its bytes, an error's number. -/
def numAt : List UInt8 → Nat × Nat × Nat
  | [] => (0, 0, 10)
  | c :: t =>
    if 8 < c.toNat then (0, 0, 11)
    else if t.length < c.toNat then (0, 0, 10)
    else if (0 < c.toNat ∧ t.getD 0 0 = 0) ∨ (c.toNat = 8 ∧ 127 < (t.getD 0 0).toNat) then (0, 0, 11)
    else (val (t.take c.toNat), 1 + c.toNat, 0)
theorem numAt_cons (c : UInt8) (t : List UInt8) : numAt (c :: t) = if 8 < c.toNat then (0, 0, 11)
    else if t.length < c.toNat then (0, 0, 10)
    else if (0 < c.toNat ∧ t.getD 0 0 = 0) ∨ (c.toNat = 8 ∧ 127 < (t.getD 0 0).toNat) then (0, 0, 11)
    else (val (t.take c.toNat), 1 + c.toNat, 0) := rfl
/-- The kinds of answers: an error, or a number that lies there. -/
theorem numAt_cases (l : List UInt8) : (∃ e, numAt l = (0, 0, e) ∧ (e = 10 ∨ e = 11)) ∨
    (∃ n size, numAt l = (n, size, 0) ∧ 0 < size ∧ size ≤ 9 ∧ size ≤ l.length ∧ n ≤ 9223372036854775807 ∧ l.take size = putN n) := by
  rcases l with _ | ⟨c, t⟩
  · exact .inl ⟨10, rfl, .inl rfl⟩
  · rw [numAt_cons]
    by_cases h8 : 8 < c.toNat
    · rw [if_pos h8]; exact .inl ⟨11, rfl, .inr rfl⟩
    · rw [if_neg h8]
      by_cases h9 : t.length < c.toNat
      · rw [if_pos h9]; exact .inl ⟨10, rfl, .inl rfl⟩
      · rw [if_neg h9]
        by_cases h10 : (0 < c.toNat ∧ t.getD 0 0 = 0) ∨ (c.toNat = 8 ∧ 127 < (t.getD 0 0).toNat)
        · rw [if_pos h10]; exact .inl ⟨11, rfl, .inr rfl⟩
        · rw [if_neg h10]
          have hl : (t.take c.toNat).length = c.toNat := by rw [List.length_take]; omega
          have hne : ∀ x r, t.take c.toNat = x :: r → x ≠ 0 := by
            intro x r hx hx0
            rcases t with _ | ⟨y, t⟩
            · simp at hx
            · have hc : 0 < c.toNat := by
                rcases Nat.eq_zero_or_pos c.toNat with h | h
                · rw [h] at hx; simp at hx
                · exact h
              obtain ⟨m, hm⟩ : ∃ m, c.toNat = m + 1 := ⟨c.toNat - 1, by omega⟩
              rw [hm, List.take_succ_cons] at hx
              injection hx with hx _
              subst hx
              exact h10 (.inl ⟨hc, by simpa using hx0⟩)
          have hnd := nd_val _ hne
          rw [hl] at hnd
          refine .inr ⟨_, _, rfl, by omega, by omega, by simp; omega, ?_, ?_⟩
          · rcases Nat.lt_or_ge c.toNat 8 with h | h
            · have h1 := val_lt (t.take c.toNat)
              rw [hl] at h1
              have h3 : 256 ^ c.toNat ≤ 256 ^ 7 := Nat.pow_le_pow_right (by omega) (by omega)
              omega
            · have h11 : c.toNat = 8 := by omega
              rw [h11] at hl ⊢
              rcases t with _ | ⟨y, t⟩
              · simp at hl
              · rw [List.take_succ_cons, val_cons]
                have h1 := val_lt (t.take 7)
                have h2 : (t.take 7).length = 7 := by simp at hl; rw [List.length_take]; omega
                rw [h2] at h1 ⊢
                have hy : y.toNat ≤ 127 := by
                  rcases Nat.lt_or_ge 127 y.toNat with h' | h'
                  · exact absurd (.inr ⟨h11, by simpa using h'⟩) h10
                  · exact h'
                have h3 : y.toNat * 256 ^ 7 + val (t.take 7) < (y.toNat + 1) * 256 ^ 7 := by
                  rw [Nat.add_mul, Nat.one_mul]
                  exact Nat.add_lt_add_left h1 _
                have h4 : (y.toNat + 1) * 256 ^ 7 ≤ 128 * 256 ^ 7 := Nat.mul_le_mul_right _ (by omega)
                exact Nat.le_of_lt_succ (Nat.lt_of_lt_of_le h3 (Nat.le_trans h4 (by decide)))
          · rw [Nat.add_comm 1, List.take_succ_cons, putN, hnd]
            congr 1
            · apply UInt8.toNat_inj.1
              simp
            · have := beN_val (t.take c.toNat)
              rw [hl] at this
              exact this.symm
/-- What was put is found. -/
theorem numAt_put (n : Nat) (tail : List UInt8) (h : n ≤ 9223372036854775807) : numAt (putN n ++ tail) = (n, (putN n).length, 0) := by
  have h8 := nd_eight h
  have hc : (UInt8.ofNat (nd n)).toNat = nd n := by rw [UInt8.toNat_ofNat']; omega
  rw [putN, List.cons_append, numAt_cons, hc, if_neg (by omega), if_neg (by rw [List.length_append, beN_length]; omega)]
  have hv := val_beN (nd n) n (lt_nd n)
  have hfirst : ∀ hn : 0 < nd n, (beN (nd n) n ++ tail).getD 0 0 = UInt8.ofNat (n / 256 ^ (nd n - 1)) := by
    intro hn
    obtain ⟨k, hk⟩ : ∃ k, nd n = k + 1 := ⟨nd n - 1, by omega⟩
    rw [hk, beN_succ]
    simp
  have hq1 : ∀ hn : 0 < nd n, n / 256 ^ (nd n - 1) < 256 := by
    intro hn
    have h1 := lt_nd n
    obtain ⟨k, hk⟩ : ∃ k, nd n = k + 1 := ⟨nd n - 1, by omega⟩
    rw [hk] at h1 ⊢
    rw [Nat.pow_succ] at h1
    rw [Nat.add_sub_cancel, Nat.div_lt_iff_lt_mul (Nat.pow_pos (by omega)), Nat.mul_comm]
    omega
  have hq2 : ∀ hn : 0 < nd n, 0 < n / 256 ^ (nd n - 1) := by
    intro hn
    apply Nat.div_pos _ (Nat.pow_pos (by omega))
    rcases Nat.lt_or_ge n (256 ^ (nd n - 1)) with h' | h'
    · have := nd_le _ _ h'; omega
    · exact h'
  rw [if_neg]
  · rw [List.take_append_of_le_length (by rw [beN_length]; exact Nat.le_refl _), List.take_of_length_le (by rw [beN_length]; exact Nat.le_refl _), hv]
    simp [beN_length]
    omega
  · rintro (⟨h1, h2⟩ | ⟨h1, h2⟩)
    · rw [hfirst h1] at h2
      have h3 := congrArg UInt8.toNat h2
      have h4 := hq1 h1
      have h5 := hq2 h1
      rw [UInt8.toNat_ofNat'] at h3
      simp at h3
      omega
    · have h0 : 0 < nd n := by omega
      rw [hfirst h0, UInt8.toNat_ofNat', h1] at h2
      have h4 : n / 256 ^ (8 - 1) ≤ 127 := by
        have : n / 256 ^ 7 < 128 := by rw [Nat.div_lt_iff_lt_mul (Nat.pow_pos (by omega))]; omega
        omega
      omega

/-! What a reader tells and leaves: (what is left, the error). -/
def rNum (s : List UInt8 × Nat) (most : Int) : Nat × (List UInt8 × Nat) :=
  if s.2 ≠ 0 then (0, s) else
  match numAt s.1 with
  | (n, size, e) => if e ≠ 0 then (0, ([], e)) else if most < (n : Int) then (0, ([], 3)) else (n, (s.1.drop size, 0))
def rText (s : List UInt8 × Nat) (most : Int) : List UInt8 × (List UInt8 × Nat) :=
  if s.2 ≠ 0 then ([], s) else
  match numAt s.1 with
  | (n, size, e) => if e ≠ 0 then ([], ([], e)) else if most < (n : Int) then ([], ([], 3)) else if s.1.length < size + n then ([], ([], 10)) else ((s.1.drop size).take n, (s.1.drop (size + n), 0))
def rRaw (s : List UInt8 × Nat) (n : Int) : List UInt8 × (List UInt8 × Nat) :=
  if s.2 ≠ 0 then ([], s) else if n < 0 then ([], ([], 2)) else if (s.1.length : Int) < n then ([], ([], 10)) else (s.1.take n.toNat, (s.1.drop n.toNat, 0))
def rLeft (s : List UInt8 × Nat) : Nat := if s.2 ≠ 0 then 0 else s.1.length
def rDone (s : List UInt8 × Nat) : Nat := if s.2 ≠ 0 then s.2 else if 0 < s.1.length then 12 else 0
end Go.Proofs.Ytmacgmmjgdmleaa.Num
