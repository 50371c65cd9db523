/-
  The chapter's example of digest: it is as the law's 'lives' says.
-/
import Derived.Test.YtmacgmmjgdmleaaDig1
namespace Go.Proofs.Ytmacgmmjgdmleaa
open Go Go.RowKit
set_option linter.unusedSimpArgs false
set_option linter.unusedVariables false

/-- A box of slices of bytes. -/
theorem Sls.box {w : World} {e : TypeId} {vs : List Value} {bs : List (List UInt8)} (h : Sls w vs bs) : Sls (w.alloc (.cells vs.toArray e)) vs bs := h.same (Same.refl.alloc _)
theorem sl_box {w : World} {e : TypeId} (l : List Value) (n : Nat) (hn : l.length = n) (h : n ≤ maxLen) : Sl (w.alloc (.cells l.toArray e)) 1 (some ⟨w.heap.size, 0, none⟩) n n l :=
  ⟨by rw [Nat.mul_one]; exact hn, Nat.le_refl _, h, (fun e => by cases e), fun b hb => by injection hb with hb; subst hb; exact box_cells w l e⟩
theorem Sls.nil (w : World) : Sls w [] [] := ⟨rfl, fun j hj => by simp at hj⟩
theorem Sls.cons {w : World} {ao : Option Addr} {n c : Nat} {l : List UInt8} {vs : List Value} {bs : List (List UInt8)} (h : Sl w 1 ao n c (bv l)) (k : Sls w vs bs) : Sls w (.slice ao n c :: vs) (l :: bs) := by
  refine ⟨by simp [k.1], fun j hj => ?_⟩
  rcases j with _ | j
  · exact ⟨ao, n, c, rfl, by simpa using h⟩
  · simpa using k.2 j (by simpa using hj)
/-- The digest of one part in a box. -/
theorem sum_one (l : List UInt8) (w : World) (e : TypeId) (ao : Option Addr) (n c : Nat) (h : Sl w 1 ao n c (bv l)) (hl : l.length < 2 ^ 49) :
    Calls Try.prog 145 #[.slice (some ⟨w.heap.size, 0, none⟩) 1 1] (w.alloc (.cells #[.slice ao n c] e)) fun e' w' => e' = .returned (.agg (bv (Sha.sum l)).toArray) ∧ Same w w' := by
  have h1 := sl_box (w := w) (e := e) [.slice ao n c] 1 rfl (by unfold maxLen; omega)
  have h2 := (Sls.cons h (Sls.nil w)).box (e := e)
  refine (sum_any _ _ _ _ _ _ h1 h2 (by simpa using Nat.lt_of_lt_of_le hl (by decide))).mono ?_
  rintro e' w' ⟨rfl, hs⟩
  exact ⟨by simp, (Same.refl.alloc _).trans hs⟩
theorem sum_none (w : World) : Calls Try.prog 145 #[.slice none 0 0] w fun e' w' => e' = .returned (.agg (bv (Sha.sum [])).toArray) ∧ Same w w' := by
  refine (sum_any none 0 0 [] [] w (Sl.none w 1) (Sls.nil w) (by simp)).mono ?_
  rintro e' w' ⟨rfl, hs⟩
  exact ⟨rfl, hs⟩
end Go.Proofs.Ytmacgmmjgdmleaa
