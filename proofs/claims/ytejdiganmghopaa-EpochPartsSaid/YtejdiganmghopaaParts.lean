/-
  The plain law of EpochParts: a leader's slots are every len-th one; each slot is met once.
-/
import Derived.Test.YtejdiganmghopaaEpSlots
namespace Go.Proofs.Ytejdiganmghopaa
open Go Go.RowKit
set_option linter.unusedSimpArgs false
set_option linter.unusedVariables false

theorem range_mod (n j : Nat) (hj : j < n) : ∀ s, (List.range (n * s)).filter (fun i => decide (i % n = j)) = (List.range s).map fun i => i * n + j := by
  intro s
  induction s with
  | zero => simp
  | succ s ih =>
    rw [Nat.mul_succ, List.range_add, List.filter_append, ih, List.range_succ, List.map_append, List.filter_map]
    congr 1
    have h1 : ((fun i => decide (i % n = j)) ∘ fun x => n * s + x) = fun x => decide (x % n = j) := by
      funext x
      simp [Nat.mul_add_mod]
    rw [h1]
    have h2 : ∀ m, m ≤ n → (List.range m).filter (fun x => decide (x % n = j)) = if j < m then [j] else [] := by
      intro m
      induction m with
      | zero => intro _; simp
      | succ m ihm =>
        intro hm
        rw [List.range_succ, List.filter_append, ihm (by omega)]
        have hmm : m % n = m := Nat.mod_eq_of_lt (by omega)
        by_cases h : m = j
        · subst h
          simp [hmm]
        · by_cases h3 : j < m
          · rw [if_pos h3, if_pos (by omega)]
            simp [hmm, h]
          · rw [if_neg h3, if_neg (by omega)]
            simp [hmm, h]
    rw [h2 n (Nat.le_refl _), if_pos hj]
    simp [Nat.mul_comm]
theorem rise_lt (l : List Int) (h : ∀ j, j < l.length → lastOf l j < l.getD j 0) : ∀ d i, i + d + 1 < l.length → l.getD i 0 < l.getD (i + d + 1) 0 := by
  intro d
  induction d with
  | zero =>
    intro i hi
    have := h (i + 1) (by omega)
    simpa [lastOf] using this
  | succ d ih =>
    intro i hi
    have h1 := ih i (by omega)
    have h2 := h (i + (d + 1) + 1) hi
    have h3 : lastOf l (i + (d + 1) + 1) = l.getD (i + d + 1) 0 := by simp [lastOf, Nat.add_assoc]
    rw [h3] at h2
    exact Int.lt_trans h1 h2
theorem rise_inj (l : List Int) (h : ∀ j, j < l.length → lastOf l j < l.getD j 0) (i j : Nat) (hi : i < l.length) (hj : j < l.length) : l.getD i 0 = l.getD j 0 ↔ i = j := by
  constructor
  · intro he
    rcases Nat.lt_trichotomy i j with h1 | h1 | h1
    · have := rise_lt l h (j - i - 1) i (by omega)
      rw [show i + (j - i - 1) + 1 = j from by omega] at this
      omega
    · exact h1
    · have := rise_lt l h (i - j - 1) j (by omega)
      rw [show j + (i - j - 1) + 1 = i from by omega] at this
      omega
  · rintro rfl
    rfl
/-- A leader's slots. -/
theorem slots_of (start : Int) (l : List Int) (h : ∀ j, j < l.length → lastOf l j < l.getD j 0) (j s : Nat) (hj : j < l.length) : slotsTo start l (l.getD j 0) (l.length * s) = (List.range s).map fun i : Nat => start + ((i * l.length + j : Nat) : Int) := by
  unfold slotsTo
  have h1 : (List.range (l.length * s)).filter (fun i => decide (l.getD (i % l.length) 0 = l.getD j 0)) = (List.range (l.length * s)).filter fun i => decide (i % l.length = j) := by
    apply List.filter_congr
    intro i _
    rw [decide_eq_decide]
    exact rise_inj l h _ _ (Nat.mod_lt _ (by omega)) hj
  rw [h1, range_mod _ _ hj, List.map_map]
  rfl
/-- How often each slot was met, behind j leaders and i slots of the next one. -/
def metP (n Z j i : Nat) : List Int := (List.range Z).map fun p => if p % n < j ∨ (p % n = j ∧ p / n < i) then 1 else 0
theorem metP_length (n Z j i : Nat) : (metP n Z j i).length = Z := by simp [metP]
theorem metP_get (n Z j i p : Nat) (hp : p < Z) : (metP n Z j i).getD p 0 = if p % n < j ∨ (p % n = j ∧ p / n < i) then 1 else 0 := by simp [metP, List.getD, hp]
theorem metP_zero (n Z : Nat) : metP n Z 0 0 = List.replicate Z 0 := by
  apply List.ext_getElem?
  intro p
  by_cases h : p < Z
  · simp [metP, h]
  · simp [metP, h]
theorem metP_next (n s j : Nat) (hn : 0 < n) : metP n (n * s) (j + 1) 0 = metP n (n * s) j s := by
  apply List.ext_getElem?
  intro p
  by_cases h : p < n * s
  · have h1 : p / n < s := Nat.div_lt_of_lt_mul h
    simp only [metP, List.getElem?_map, List.getElem?_range h, Option.map_some, Option.some.injEq]
    have e : (p % n < j + 1 ∨ p % n = j + 1 ∧ p / n < 0) ↔ (p % n < j ∨ p % n = j ∧ p / n < s) := by
      generalize p % n = a
      generalize p / n = b at *
      constructor <;> intro h2 <;> omega
    simp only [e]
  · simp [metP, h]
theorem metP_all (n Z : Nat) (hn : 0 < n) (p : Nat) (hp : p < Z) : (metP n Z n 0).getD p 0 = 1 := by
  rw [metP_get _ _ _ _ _ hp, if_pos (.inl (Nat.mod_lt _ hn))]
theorem metP_set (n Z j i : Nat) (hj : j < n) (hZ : i * n + j < Z) : (metP n Z j i).getD (i * n + j) 0 = 0 ∧ (metP n Z j i).set (i * n + j) 1 = metP n Z j (i + 1) := by
  have hm : (i * n + j) % n = j := by rw [Nat.mul_comm, Nat.mul_add_mod, Nat.mod_eq_of_lt hj]
  have hd : (i * n + j) / n = i := by rw [Nat.mul_comm, Nat.mul_add_div (by omega), Nat.div_eq_of_lt hj]; rfl
  constructor
  · rw [metP_get _ _ _ _ _ hZ, hm, hd, if_neg (by omega)]
  · apply List.ext_getElem?
    intro p
    rw [List.getElem?_set]
    by_cases hp : p < Z
    · simp only [metP, List.getElem?_map, List.getElem?_range hp, Option.map_some, List.length_map, List.length_range]
      by_cases he : i * n + j = p
      · subst he
        rw [if_pos rfl, if_pos hp, hm, hd, if_pos (by omega)]
      · rw [if_neg he]
        have hne : ¬ (p % n = j ∧ p / n = i) := by
          rintro ⟨h1, h2⟩
          have := Nat.div_add_mod p n
          rw [h1, h2, Nat.mul_comm] at this
          exact he this
        have e : (p % n < j ∨ p % n = j ∧ p / n < i) ↔ (p % n < j ∨ p % n = j ∧ p / n < i + 1) := by omega
        simp only [e]
    · rw [if_neg (by omega)]
      simp [metP, hp]
end Go.Proofs.Ytejdiganmghopaa
