/-
  The walk of the law MaskDown: a number is in a mask that is so much lower just if the number above it by so much was in it.
-/
-- @law u64, int, int
import Derived.Test.YtkhloanpdehegaaDoorMaskL
namespace Go.Proofs.YtkhloanpdehegaaDoor
open Go Go.RowKit
set_option linter.unusedSimpArgs false
set_option linter.unusedVariables false

set_option maxRecDepth 100000 in
set_option maxHeartbeats 800000 in
theorem walk_MaskDown (w : World) (a : Int) (ha : (Lit.int .u64 a).wf = true) (n : Int) (hn : (Lit.int .i64 n).wf = true) (i : Int) (hi : (Lit.int .i64 i).wf = true) (hT : Tab w) :
    Calls Tryd.prog 5 #[.int .u64 a, .int .i64 n, .int .i64 i] w fun e w' => e = .returned (.bool true) ∧ Same w w' := by
  obtain ⟨m, rfl, hm⟩ := u64_nat ha
  clear ha
  obtain ⟨x, hx, ex⟩ : ∃ x : Nat, x < 64 ∧ wrap64 ((IntKind.u64.wrap n).tmod 64) = (x : Int) := uint_rem n 64 (by omega) (by omega)
  obtain ⟨y, hy, ey⟩ : ∃ x : Nat, x < 64 ∧ wrap64 ((IntKind.u64.wrap i).tmod 64) = (x : Int) := uint_rem i 64 (by omega) (by omega)
  have hd := fun w => mdown_any m (x : Int) w
  have hh1 := fun w => mhas_any (mdown m (x : Int)) (y : Int) w (mdown_lt hm _)
  have hh2 := fun w => mhas_any m ((x : Int) + (y : Int)) w hm
  have hl := lives8 w hT
  rw [mdown_has hm x y hy] at hh1
  obtain ⟨D, hD⟩ : ∃ D, D = mdown m (x : Int) := ⟨_, rfl⟩
  rw [← hD] at hd hh1
  obtain ⟨H, hH⟩ : ∃ H, H = mhas m ((x : Int) + (y : Int)) := ⟨_, rfl⟩
  rw [← hH] at hh1 hh2
  clear hD hH hm hn hi
  replace hd := Lib.hid hd
  replace hh2 := Lib.hid hh2
  replace hl := Lib.hid hl
  by_cases hxy : x + y < 64
  · rw [decide_eq_true hxy, Bool.true_and] at hh1
    have d1 : Decidable.decide ((x : Int) + (y : Int) < 64) = true := decide_eq_true (by omega)
    have hHH : (H == H) = true := by simp
    replace hh1 := Lib.hid hh1
    go_enter Tryd.func5, Tryd.ntmps5
    go_wp2_with (first | (refine (hd.out _).mono ?_; clear hd; rintro e w4 ⟨rfl, rfl⟩) | (refine (hh1.out _).mono ?_; clear hh1; rintro e w5 ⟨rfl, rfl⟩) | (refine (hh2.out _).mono ?_; clear hh2; rintro e w5 ⟨rfl, rfl⟩) | (refine (hl.out).mono ?_; rintro e w6 ⟨rfl, hs6⟩))
    go_ret
    exact ⟨rfl, hs6⟩
  · rw [decide_eq_false hxy, Bool.false_and] at hh1
    have d1 : Decidable.decide ((x : Int) + (y : Int) < 64) = false := decide_eq_false (by omega)
    clear hh2
    replace hh1 := Lib.hid hh1
    go_enter Tryd.func5, Tryd.ntmps5
    go_wp2_with (first | (refine (hd.out _).mono ?_; clear hd; rintro e w4 ⟨rfl, rfl⟩) | (refine (hh1.out _).mono ?_; clear hh1; rintro e w5 ⟨rfl, rfl⟩) | (refine (hl.out).mono ?_; rintro e w6 ⟨rfl, hs6⟩))
    go_ret
    exact ⟨rfl, hs6⟩
end Go.Proofs.YtkhloanpdehegaaDoor
