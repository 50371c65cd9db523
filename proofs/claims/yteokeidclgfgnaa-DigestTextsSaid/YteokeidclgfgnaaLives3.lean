/-
  The chapter's example of digest: it is as the law's 'lives' says.
-/
import Derived.Test.YteokeidclgfgnaaDig1
namespace Go.Proofs.Yteokeidclgfgnaa
open Go Go.RowKit
set_option linter.unusedSimpArgs false
set_option linter.unusedVariables false

/-- A box of slices of bytes. -/
theorem Sls.box {w : World} {e : TypeId} {vs : List Value} {bs : List (List UInt8)} (h : Sls w vs bs) : Sls (w.alloc (.cells vs.toArray e)) vs bs := h.same (Same.refl.alloc _)
theorem sl_box {w : World} {e : TypeId} (l : List Value) (n : Nat) (hn : l.length = n) (h : n ≤ maxLen) : Sl (w.alloc (.cells l.toArray e)) 1 (some ⟨w.heap.size, 0, none⟩) n n l :=
  ⟨by rw [Nat.mul_one]; exact hn, Nat.le_refl _, h, (fun e => by cases e), fun b hb => by injection hb with hb; subst hb; exact box_cells w l e⟩
theorem Sls.nil (w : World) : Sls w [] [] := ⟨rfl, fun j hj => by simp at hj⟩
theorem Sls.cons {w : World} {ao : Option Addr} {n c : Nat} {l : List UInt8} {vs : List Value} {bs : List (List UInt8)} (h : Sl w 1 ao n c (bv l)) (k : Sls w vs bs) : Sls w (.slice ao n c :: vs) (l :: bs) := by
  refine ⟨by simp [k.1], fun j hj => ?_⟩
  rcases j with _ | j
  · exact ⟨ao, n, c, rfl, by simpa using h⟩
  · simpa using k.2 j (by simpa using hj)
/-- The digest of one part in a box. -/
theorem sum_one (l : List UInt8) (w : World) (e : TypeId) (ao : Option Addr) (n c : Nat) (h : Sl w 1 ao n c (bv l)) (hl : l.length < 2 ^ 49) :
    Calls Try.prog 17 #[.slice (some ⟨w.heap.size, 0, none⟩) 1 1] (w.alloc (.cells #[.slice ao n c] e)) fun e' w' => e' = .returned (.agg (bv (Sha.sum l)).toArray) ∧ Same w w' := by
  have h1 := sl_box (w := w) (e := e) [.slice ao n c] 1 rfl (by unfold maxLen; omega)
  have h2 := (Sls.cons h (Sls.nil w)).box (e := e)
  refine (sum_any _ _ _ _ _ _ h1 h2 (by simpa using Nat.lt_of_lt_of_le hl (by decide))).mono ?_
  rintro e' w' ⟨rfl, hs⟩
  exact ⟨by simp, (Same.refl.alloc _).trans hs⟩
theorem sum_none (w : World) : Calls Try.prog 17 #[.slice none 0 0] w fun e' w' => e' = .returned (.agg (bv (Sha.sum [])).toArray) ∧ Same w w' := by
  refine (sum_any none 0 0 [] [] w (Sl.none w 1) (Sls.nil w) (by simp)).mono ?_
  rintro e' w' ⟨rfl, hs⟩
  exact ⟨rfl, hs⟩
set_option maxRecDepth 100000 in
set_option maxHeartbeats 400000 in
theorem lives3 (w : World) : Calls Try.prog 16 #[] w fun e w' => e = .returned (.bool true) ∧ Same w w' := by
  have ht1 := fun w => dtext_any (Sha.sum [97, 98, 99]) (Sha.sum_length _) w
  have ht2 := fun w => dtext_any (Sha.sum []) (Sha.sum_length _) w
  have hs1 := fun w e ao n c h => sum_one [97, 98, 99] w e ao n c h (by simp)
  have hs2 := sum_none
  rw [Sha.text_abc] at ht1
  rw [Sha.text_nil] at ht2
  obtain ⟨A, hA⟩ : ∃ A, A = Sha.sum [97, 98, 99] := ⟨_, rfl⟩
  obtain ⟨B, hB⟩ : ∃ B, B = Sha.sum [] := ⟨_, rfl⟩
  rw [← hA] at ht1 hs1
  rw [← hB] at ht2 hs2
  clear hA hB
  replace ht1 := Lib.hid ht1
  replace ht2 := Lib.hid ht2
  replace hs1 := Lib.hid hs1
  replace hs2 := Lib.hid hs2
  go_enter Try.func16, Try.ntmps16
  go_wp2_with (refine conv_const [97, 98, 99] rfl _ rfl byT.under u8T 3 3 rfl (by unfold maxLen; omega) rfl rfl ?_; intro w0 h3 hs00 hz; clear hz)
  refine (hs1.out _ _ _ _ _ h3).mono ?_
  rintro e w1 ⟨rfl, hk1⟩
  have hs01 : Same w w1 := hs00.trans hk1
  clear hk1 h3 hs00
  go_wp2_with fail
  refine (ht1.out w1).mono ?_
  rintro e w2 ⟨rfl, hk2⟩
  have hs02 : Same w w2 := hs01.trans hk2
  clear hk2 hs01
  go_wp2_with fail
  refine (hs2.out w2).mono ?_
  rintro e w3 ⟨rfl, hk3⟩
  have hs03 : Same w w3 := hs02.trans hk3
  clear hk3 hs02
  go_wp2_with fail
  refine (ht2.out w3).mono ?_
  rintro e w4 ⟨rfl, hk4⟩
  have hs04 := hs03.trans hk4
  clear hk4 hs03
  go_wp2
  go_ret
  exact ⟨rfl, hs04⟩
end Go.Proofs.Yteokeidclgfgnaa
