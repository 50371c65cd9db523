/-
  A reader that no call made: what it tells.
-/
import Derived.Test.YteokeidclgfgnaaReads
import Derived.Test.YteokeidclgfgnaaStab
namespace Go.Proofs.Yteokeidclgfgnaa
open Go Go.RowKit
set_option linter.unusedSimpArgs false
set_option linter.unusedVariables false

/-- No reader, or one that is all zeros. -/
def Dead (w : World) (p : Option Addr) : Prop := p = none ∨ ∃ rb, p = some ⟨rb, 0, none⟩ ∧ w.heap[rb]? = some (.cells #[.slice none 0 0, .int .i64 0, .bool false] 72 (0, 0))
theorem Dead.same {w w' : World} {p : Option Addr} (h : Dead w p) (k : Same w w') : Dead w' p := by
  rcases h with rfl | ⟨rb, rfl, hb⟩
  · exact .inl rfl
  · exact .inr ⟨rb, rfl, (k.block rb (blk_lt hb)).trans hb⟩
set_option maxRecDepth 100000 in
set_option maxHeartbeats 400000 in
theorem dead_stop (p : Option Addr) (w : World) (h : Dead w p) :
    Calls Try.prog 64 #[.pointer p] w fun e w' => e = .returned (.bool true) ∧ w = w' := by
  rcases h with rfl | ⟨rb, rfl, hb⟩
  · go_enter Try.func64, Try.ntmps64
    go_wp2
    go_ret
    exact ⟨rfl, rfl⟩
  · have c1 := blk_cell hb 1
    have c2 := blk_cell hb 2
    simp at c1 c2
    replace hb := Lib.hid hb
    go_enter Try.func64, Try.ntmps64
    go_wp2
    go_ret
    exact ⟨rfl, rfl⟩
set_option maxRecDepth 100000 in
set_option maxHeartbeats 400000 in
theorem dead_num (p : Option Addr) (n : Int) (w : World) (h : Dead w p) :
    Calls Try.prog 30 #[.pointer p, .int .i64 n] w fun e w' => e = .returned (.int .i64 0) ∧ w = w' := by
  have hst := Lib.hid (dead_stop p w h)
  replace h := Lib.hid h
  go_enter Try.func30, Try.ntmps30
  go_wp2_with fail
  refine hst.out.mono ?_
  rintro e w' ⟨rfl, rfl⟩
  go_wp2
  go_ret
  exact ⟨rfl, rfl⟩
set_option maxRecDepth 100000 in
set_option maxHeartbeats 400000 in
theorem dead_text (p : Option Addr) (n : Int) (w : World) (h : Dead w p) :
    Calls Try.prog 31 #[.pointer p, .int .i64 n] w fun e w' => e = .returned (.string ⟨#[]⟩) ∧ w = w' := by
  have hst := Lib.hid (dead_stop p w h)
  replace h := Lib.hid h
  go_enter Try.func31, Try.ntmps31
  go_wp2_with fail
  refine hst.out.mono ?_
  rintro e w' ⟨rfl, rfl⟩
  go_wp2
  go_ret
  exact ⟨rfl, rfl⟩
set_option maxRecDepth 100000 in
set_option maxHeartbeats 400000 in
theorem dead_raw (p : Option Addr) (n : Int) (w : World) (h : Dead w p) :
    Calls Try.prog 45 #[.pointer p, .int .i64 n] w fun e w' => e = .returned (.slice none 0 0) ∧ w = w' := by
  have hst := Lib.hid (dead_stop p w h)
  replace h := Lib.hid h
  go_enter Try.func45, Try.ntmps45
  go_wp2_with fail
  refine hst.out.mono ?_
  rintro e w' ⟨rfl, rfl⟩
  go_wp2
  go_ret
  exact ⟨rfl, rfl⟩
set_option maxRecDepth 100000 in
set_option maxHeartbeats 400000 in
theorem dead_left (p : Option Addr) (w : World) (h : Dead w p) :
    Calls Try.prog 33 #[.pointer p] w fun e w' => e = .returned (.int .i64 0) ∧ w = w' := by
  have hst := Lib.hid (dead_stop p w h)
  replace h := Lib.hid h
  go_enter Try.func33, Try.ntmps33
  go_wp2_with fail
  refine hst.out.mono ?_
  rintro e w' ⟨rfl, rfl⟩
  go_wp2
  go_ret
  exact ⟨rfl, rfl⟩
set_option maxRecDepth 100000 in
set_option maxHeartbeats 400000 in
theorem dead_err (p : Option Addr) (w : World) (h : Dead w p) :
    Calls Try.prog 32 #[.pointer p] w fun e w' => e = .returned (.int .i64 1) ∧ w = w' := by
  rcases h with rfl | ⟨rb, rfl, hb⟩
  · go_enter Try.func32, Try.ntmps32
    go_wp2
    go_ret
    exact ⟨rfl, rfl⟩
  · have c2 := blk_cell hb 2
    simp at c2
    replace hb := Lib.hid hb
    go_enter Try.func32, Try.ntmps32
    go_wp2
    go_ret
    exact ⟨rfl, rfl⟩
set_option maxRecDepth 100000 in
set_option maxHeartbeats 400000 in
theorem dead_done (p : Option Addr) (w : World) (h : Dead w p) :
    Calls Try.prog 48 #[.pointer p] w fun e w' => e = .returned (.int .i64 1) ∧ w = w' := by
  have hst := Lib.hid (dead_err p w h)
  replace h := Lib.hid h
  go_enter Try.func48, Try.ntmps48
  go_wp2_with fail
  refine hst.out.mono ?_
  rintro e w' ⟨rfl, rfl⟩
  go_wp2
  go_ret
  exact ⟨rfl, rfl⟩
end Go.Proofs.Yteokeidclgfgnaa
