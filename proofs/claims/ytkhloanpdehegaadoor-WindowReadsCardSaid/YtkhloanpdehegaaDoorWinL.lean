/-
  The chapter's example of windows; a window behind numbers.
-/
import Derived.Test.YtkhloanpdehegaaDoorWinK
namespace Go.Proofs.YtkhloanpdehegaaDoor
open Go Go.RowKit
set_option linter.unusedSimpArgs false
set_option linter.unusedVariables false

set_option maxRecDepth 100000 in
set_option maxHeartbeats 1600000 in
theorem lives9 (w : World) (hT : Tab w) : Calls Tryd.prog 21 #[] w fun e w' => e = .returned (.bool true) ∧ Same w w' := by
  have hn := wnew_any
  have h1 := fun w h => wmark_any 1 0 2 w (by decide) (by decide) h
  have h2 := fun w h => wmark_any 1 2 1 w (by decide) (by decide) h
  have a1 : (Win.mark ⟨1, 0⟩ 2).base = 1 := by decide +kernel
  have a2 : (Win.mark ⟨1, 0⟩ 2).bits = 2 := by decide +kernel
  have a3 : Win.ask ⟨1, 0⟩ 64 2 = 0 := by decide +kernel
  have a4 : (Win.mark ⟨1, 2⟩ 1).base = 3 := by decide +kernel
  have a5 : (Win.mark ⟨1, 2⟩ 1).bits = 0 := by decide +kernel
  have a6 : Win.ask ⟨1, 2⟩ 64 1 = 0 := by decide +kernel
  rw [a1, a2, a3] at h1
  rw [a4, a5, a6] at h2
  have q1 := fun w => win_eql 1 1 2 2 (by decide) (by decide) (by decide) (by decide) w
  have q2 := fun w => win_eql 3 3 0 0 (by decide) (by decide) (by decide) (by decide) w
  have hinf := Lib.hid hinfW
  clear a1 a2 a3 a4 a5 a6
  replace hn := Lib.hid hn
  replace h1 : Hid (∀ w : World, Tab w → Calls Tryd.prog 23 #[.agg #[.int .i64 1, .int .u64 0], .int .i64 2] w fun e w' => e = .returned (.tuple #[.agg #[.int .i64 1, .int .u64 2], .int .i64 0]) ∧ Same w w') := h1
  replace h2 : Hid (∀ w : World, Tab w → Calls Tryd.prog 23 #[.agg #[.int .i64 1, .int .u64 2], .int .i64 1] w fun e w' => e = .returned (.tuple #[.agg #[.int .i64 3, .int .u64 0], .int .i64 0]) ∧ Same w w') := h2
  replace q1 : Hid (∀ w : World, (binOp .eql 38 (.agg #[.int .i64 1, .int .u64 2]) (.agg #[.int .i64 1, .int .u64 2])).run Tryd.prog w = .ok (.bool true) w) := q1
  replace q2 : Hid (∀ w : World, (binOp .eql 38 (.agg #[.int .i64 3, .int .u64 0]) (.agg #[.int .i64 3, .int .u64 0])).run Tryd.prog w = .ok (.bool true) w) := q2
  replace hT := Lib.hid hT
  have hgd := Lib.hid win_guard
  go_enter Tryd.func21, Tryd.ntmps21
  go_wp2_with fail
  refine (hn.out _).mono ?_
  rintro e w1 ⟨rfl, s1⟩
  replace s1 := Lib.hid s1
  go_wp2_with fail
  refine (h1.out _ (hT.out.same s1.out)).mono ?_
  rintro e w2 ⟨rfl, s2⟩
  replace s2 := Lib.hid (s1.out.trans s2)
  clear s1
  go_upto_region 2 with fail
  obtain ⟨W, hW⟩ : ∃ W, W = w2.alloc (.cells #[.int .i64 1, .int .u64 2] 38) := ⟨_, rfl⟩
  have r1 := heap_alloc_new w2 (.cells #[.int .i64 1, .int .u64 2] 38)
  have s3 : Same w W := by rw [hW]; exact s2.out.alloc _
  rw [← hW] at r1 ⊢
  clear hW
  replace r1 := Lib.hid r1
  replace s3 := Lib.hid s3
  go_wp2_with (refine load_row rfl _ _ rfl w2.heap.size rfl _ _ _ _ r1.out Tryd.underlying38 rfl hinf.out ?_)
  refine (h2.out _ (hT.out.same s3.out)).mono ?_
  rintro e w4 ⟨rfl, s4⟩
  replace r1 := Lib.hid (s4.row r1.out)
  replace s4 := Lib.hid (s3.out.trans s4)
  clear s3 s2
  go_upto_region 3 with fail
  obtain ⟨W5, hW5⟩ : ∃ W, W = w4.alloc (.cells #[.int .i64 3, .int .u64 0] 38) := ⟨_, rfl⟩
  have r2 := heap_alloc_new w4 (.cells #[.int .i64 3, .int .u64 0] 38)
  have r3 : W5.heap[w2.heap.size]? = some (.cells #[.int .i64 1, .int .u64 2] 38 (0, 0)) := by rw [hW5]; exact (Same.refl.alloc _).row r1.out
  have s5 : Same w W5 := by rw [hW5]; exact s4.out.alloc _
  rw [← hW5] at r2 ⊢
  clear hW5 r1
  replace r2 := Lib.hid r2
  replace r3 := Lib.hid r3
  replace s5 := Lib.hid s5
  have q1' := q1.out
  have q2' := q2.out
  have hgd' := hgd.out
  go_wp2_with (first | (refine load_row rfl _ _ rfl w2.heap.size rfl _ _ _ _ r3.out Tryd.underlying38 rfl hinf.out ?_) | (refine load_row rfl _ _ rfl w4.heap.size rfl _ _ _ _ r2.out Tryd.underlying38 rfl hinf.out ?_))
  go_ret
  exact ⟨rfl, s5.out⟩
end Go.Proofs.YtkhloanpdehegaaDoor
