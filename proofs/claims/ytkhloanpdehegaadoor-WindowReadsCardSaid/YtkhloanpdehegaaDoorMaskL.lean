/-
  The chapter's example of masks.
-/
import Derived.Test.YtkhloanpdehegaaDoorMaskF
namespace Go.Proofs.YtkhloanpdehegaaDoor
open Go Go.RowKit
set_option linter.unusedSimpArgs false
set_option linter.unusedVariables false

theorem u64_nat {a : Int} (h : (Lit.int .u64 a).wf = true) : ∃ m : Nat, a = (m : Int) ∧ m < 18446744073709551616 := by
  simp [Lit.wf, IntKind.min, IntKind.max, IntKind.signed, IntKind.bits] at h
  exact ⟨a.toNat, by omega, by omega⟩
theorem uint_rem (n : Int) (k : Nat) (h1 : 1 ≤ k) (h2 : k ≤ 1000) : ∃ x : Nat, x < k ∧ wrap64 ((IntKind.u64.wrap n).tmod (k : Int)) = (x : Int) := by
  have e0 : 0 ≤ IntKind.u64.wrap n := by rw [IntKind.wrap_u64]; omega
  have e1 : (IntKind.u64.wrap n).tmod (k : Int) = IntKind.u64.wrap n % (k : Int) := Int.tmod_eq_emod_of_nonneg e0
  obtain ⟨u, hu⟩ : ∃ u, u = IntKind.u64.wrap n := ⟨_, rfl⟩
  rw [← hu] at e0 e1 ⊢
  have g1 := Int.emod_nonneg u (show (k : Int) ≠ 0 by omega)
  have g2 := Int.emod_lt_of_pos u (show (0 : Int) < (k : Int) by omega)
  refine ⟨(u % (k : Int)).toNat, by omega, ?_⟩
  rw [e1]
  unfold wrap64
  omega
theorem sl_lit (w : World) (l : List Int) (n : Nat) (hn : l.length = n) (h2 : n ≤ maxLen) : Sl (w.alloc (.cells (iv l).toArray 3)) 1 (some ⟨w.heap.size, 0, none⟩) n n (iv l) :=
  ⟨by rw [iv_length, hn, Nat.mul_one], Nat.le_refl _, h2, by simp, fun b hb j u hu => by cases hb; exact box_cells w _ _ j u hu⟩
set_option maxRecDepth 100000 in
set_option maxHeartbeats 400000 in
theorem lives8 (w : World) (hT : Tab w) : Calls Tryd.prog 16 #[] w fun e w' => e = .returned (.bool true) ∧ Same w w' := by
  have hsl := sl_lit w [0, 1, 3] 3 rfl (by unfold maxLen; omega)
  have s0 : Same w (w.alloc (.cells (iv [0, 1, 3]).toArray 3)) := Same.refl.alloc _
  have h1 := mof_any _ 3 3 [0, 1, 3] _ hsl
  have e1 : mof [0, 1, 3] = 11 := by decide +kernel
  have hones := fun w h => mones_any 11 w (by decide) h
  have e2 : mones 11 = 2 := by decide +kernel
  have hmany := fun w h => many_any 11 w (by decide) h
  have e3 : (mlist 11).length = 3 := by decide +kernel
  have hdown := fun w => mdown_any 11 1 w
  have e4 : mdown 11 1 = 5 := by decide +kernel
  have hhas := fun w => mhas_any 11 3 w (by decide)
  have e5 : mhas 11 3 = true := by decide +kernel
  rw [e1] at h1
  rw [e2] at hones
  rw [e3] at hmany
  rw [e4] at hdown
  rw [e5] at hhas
  have e6 : (iv [0, 1, 3]).toArray = #[.int .i64 0, .int .i64 1, .int .i64 3] := rfl
  rw [e6] at h1 s0
  clear hsl e1 e2 e3 e4 e5 e6
  replace hT := Lib.hid hT
  replace s0 := Lib.hid s0
  replace h1 := Lib.hid h1
  replace hones := Lib.hid hones
  replace hmany := Lib.hid hmany
  replace hdown := Lib.hid hdown
  replace hhas := Lib.hid hhas
  go_enter Tryd.func16, Tryd.ntmps16
  go_wp2_with (refine h1.out.mono ?_; rintro e w1 ⟨rfl, hs1⟩; replace hs1 := Lib.hid (s0.out.trans hs1))
  refine (hones.out _ (hT.out.same hs1.out)).mono ?_
  rintro e w2 ⟨rfl, rfl⟩
  go_wp2_with fail
  refine (hmany.out _ (hT.out.same hs1.out)).mono ?_
  rintro e w3 ⟨rfl, hs3⟩
  go_wp2_with (first | (refine (hdown.out _).mono ?_; rintro e w4 ⟨rfl, rfl⟩) | (refine (hhas.out _).mono ?_; rintro e w5 ⟨rfl, rfl⟩))
  go_ret
  exact ⟨rfl, hs1.out.trans hs3⟩
end Go.Proofs.YtkhloanpdehegaaDoor
