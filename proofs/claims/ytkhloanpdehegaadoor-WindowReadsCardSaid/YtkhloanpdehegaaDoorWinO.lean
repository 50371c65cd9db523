/-
  Windows that came in.
-/
import Derived.Test.YtkhloanpdehegaaDoorRd
import Derived.Test.YtkhloanpdehegaaDoorWin
namespace Go.Proofs.YtkhloanpdehegaaDoor
open Go Go.ChangeShapes Go.WideShapes Go.ChangeAt Go.RowKit
set_option linter.unusedSimpArgs false
set_option linter.unusedVariables false

set_option maxRecDepth 100000
theorem u64_lt {n : Int} (h : (Lit.int .u64 n).wf = true) : 0 ≤ n ∧ n < 18446744073709551616 := by
  simp [Lit.wf, IntKind.min, IntKind.max, IntKind.signed, IntKind.bits] at h
  omega
theorem open_win {H : Type} {enc : TypeId × Value → H} {W : World} {r : Reach} {b0 : Nat} {v : Value} {d : DataW H} {ps : List MemPlace} (hv : Value.okWide Tryd.prog W r b0 38 v) (h : DataW.Trod enc Tryd.prog W 0 (fun _ => true) true 38 v d ps) (hw : ∀ n ∈ DataW.weights Tryd.prog 38 d, n ≤ 140737488351232) :
    ∃ a : Win, v = .agg #[.int .i64 a.base, .int .u64 (a.bits : Nat)] ∧ (Lit.int .i64 a.base).wf = true ∧ a.bits < 18446744073709551616 := by
  obtain ⟨cs, rfl, _⟩ := okWide_struct Tryd.underlying38 hv
  have hr := Rd.of h hw
  have hl := (hr.struct Tryd.underlying38).1
  rw [(by kernel_rfl : Tryd.prog.cellsOf 38 = 2)] at hl
  obtain ⟨a0, h0, w0⟩ := (hr.field Tryd.underlying38 0 _ rfl 0 1 rfl (by kernel_rfl)).int Tryd.underlying3
  obtain ⟨a1, h1, w1⟩ := (hr.field Tryd.underlying38 1 _ rfl 1 1 rfl (by kernel_rfl)).int Tryd.underlying22
  obtain ⟨g0, g1⟩ := u64_lt w1
  refine ⟨⟨a0, a1.toNat⟩, ?_, w0, by simp only; omega⟩
  have e : (Value.agg cs).cells.toList = [.int .i64 a0, .int .u64 a1] := by
    generalize (Value.agg cs).cells.toList = zs at *
    match zs, hl with
    | [x0, x1], _ => simp_all
  rw [toList_agg e]
  have e2 : ((a1.toNat : Nat) : Int) = a1 := by omega
  simp only [e2]
abbrev win_zero : Value := .agg #[.int .i64 0, .int .u64 0]
end Go.Proofs.YtkhloanpdehegaaDoor
