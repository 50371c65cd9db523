/-
  The walk of the law DigestShares: whatever digest and number, it answers true and turns nothing that was there.
-/
-- @law rep digest, int
import Derived.Test.YteokeidclgfgnaaLives3
import Derived.Test.YteokeidclgfgnaaRd
import Derived.Deep.DeepCutAuto
namespace Go.Proofs.Yteokeidclgfgnaa
open Go Go.RowKit
set_option linter.unusedSimpArgs false
set_option linter.unusedVariables false

theorem shareOf_lt (l : List UInt8) (n : Int) (h : ¬ n < 1) : 0 ≤ shareOf l n ∧ shareOf l n < n := by
  rw [shareOf, if_neg h]
  exact ⟨Int.emod_nonneg _ (by omega), Int.emod_lt_of_pos _ (by omega)⟩
set_option maxRecDepth 100000 in
set_option maxHeartbeats 1600000 in
theorem walk_DigestShares (w : World) (l : List UInt8) (hl : l.length = 32) (n : Int) (hn : (Lit.int .i64 n).wf = true) :
    Calls Try.prog 7 #[.agg (bv l).toArray, .int .i64 n] w fun e w' => e = .returned (.bool true) ∧ Same w w' := by
  have hlives := Lib.hid lives3
  have hinf := Lib.hid (dig_info hl)
  have hsh := Lib.hid (share_any l hl n)
  have hrsh := Lib.hid (rshare_any l hl n)
  obtain ⟨s, hs⟩ : ∃ s, s = shareOf l n := ⟨_, rfl⟩
  have hlt := shareOf_lt l n
  rw [← hs] at hsh hrsh hlt
  clear hs
  by_cases h1 : n < 1
  all_goals
    first | (have hlt2 := hlt h1; clear hlt) | clear hlt
    go_enter Try.func7, Try.ntmps7
    go_wp2_with (first | (refine box_row rfl _ _ rfl _ rfl hinf.out ?_; intro w0 hbx hs0; have hb0 := blk_lt hbx; replace hbx := Lib.hid hbx; replace hs0 := Lib.hid hs0) | (refine load_row rfl _ _ rfl w.heap.size rfl _ _ _ _ hbx.out Try.underlying28 rfl hinf.out ?_))
    refine (hsh.out _).mono ?_
    rintro e w1 ⟨rfl, hs1⟩
    have hbx1 := (hs1.block _ hb0).trans hbx.out
    have hs01 := hs0.out.trans hs1
    replace hs01 := Lib.hid hs01
    replace hbx1 := Lib.hid hbx1
    clear hs1
    go_wp2_with (refine load_row rfl _ _ rfl w.heap.size rfl _ _ _ _ hbx1.out Try.underlying28 rfl hinf.out ?_)
    refine (hrsh.out _).mono ?_
    rintro e w2 ⟨rfl, hs2⟩
    have hs02 := hs01.out.trans hs2
    clear hs2
    go_wp2_with fail
    refine (hlives.out _).mono ?_
    rintro e w3 ⟨rfl, hs3⟩
    go_wp2
    go_ret
    exact ⟨rfl, hs02.trans hs3⟩
end Go.Proofs.Yteokeidclgfgnaa
