/-
  The chapter's example of tally: it is as the law's 'lives' says.
-/
import Derived.Test.YtejdiganmghopaaReads
namespace Go.Proofs.Ytejdiganmghopaa
open Go Go.RowKit
set_option linter.unusedSimpArgs false
set_option linter.unusedVariables false

theorem putN_0 : Num.putN 0 = [0] := by simp [Num.putN, Num.nd_zero, Num.beN]
theorem putN_255 : Num.putN 255 = [1, 255] := by
  have : Num.nd 255 = 1 := by rw [Num.nd_pos (by decide), show 255 / 256 = 0 from rfl, Num.nd_zero]
  rw [Num.putN, this]
  rfl
theorem putN_256 : Num.putN 256 = [2, 1, 0] := by
  have : Num.nd 256 = 2 := by rw [Num.nd_pos (by decide), show 256 / 256 = 1 from rfl, Num.nd_pos (by decide), show 1 / 256 = 0 from rfl, Num.nd_zero]
  rw [Num.putN, this]
  rfl
set_option maxRecDepth 100000 in
set_option maxHeartbeats 400000 in
theorem lives1 (w : World) : Calls Try.prog 29 #[] w fun e w' => e = .returned (.bool true) ∧ Same w w' := by
  have h0 := fun w => (put_nat none 0 0 [] 0 w (Sl.none w 1) (by omega) (by omega)).mono fun _ _ h => RetB.s h
  have h1 := fun w => (put_nat none 0 0 [] 255 w (Sl.none w 1) (by omega) (by omega)).mono fun _ _ h => RetB.s h
  have h2 := fun w => (put_nat none 0 0 [] 256 w (Sl.none w 1) (by omega) (by omega)).mono fun _ _ h => RetB.s h
  rw [putN_0] at h0
  rw [putN_255] at h1
  rw [putN_256] at h2
  replace h0 := Lib.hid h0
  replace h1 := Lib.hid h1
  replace h2 := Lib.hid h2
  go_enter Try.func29, Try.ntmps29
  go_wp2_with fail
  refine (h0.out _).mono ?_
  rintro e w1 ⟨ao, c, rfl, hsl, hs1⟩
  go_wp2_with (refine conv_string rfl _ rfl byT u8T strT rfl hsl ?_)
  refine (h1.out _).mono ?_
  rintro e w2 ⟨ao, c, rfl, hsl, hs2⟩
  go_wp2_with (refine conv_string rfl _ rfl byT u8T strT rfl hsl ?_)
  refine (h2.out _).mono ?_
  rintro e w3 ⟨ao, c, rfl, hsl, hs3⟩
  have hs : Same w w3 := (hs1.trans hs2).trans hs3
  clear hs1 hs2 hs3
  go_wp2_with (refine conv_string rfl _ rfl byT u8T strT rfl hsl ?_)
  have hb : Sl (w3.alloc (.cells #[.int .u8 2, .int .u8 1, .int .u8 0] 5)) 1 (some ⟨w3.heap.size, 0, none⟩) 3 3 (bv [2, 1, 0]) :=
    ⟨rfl, by omega, by unfold maxLen; omega, (fun e => by cases e), fun b hb => by injection hb with hb; subst hb; exact box_cells w3 [.int .u8 2, .int .u8 1, .int .u8 0] 5⟩
  refine (read_any _ 3 3 [2, 1, 0] _ hb (by omega)).mono ?_
  rintro e w4 ⟨rb, db, rfl, hr, hrb, hdb, hs4⟩
  have hn : Num.rNum ([2, 1, 0], 0) 256 = (256, ([], 0)) := by decide
  have hnum := num_any rb db ([2, 1, 0], 0) 256 w4 hr
  rw [hn] at hnum
  replace hnum := Lib.hid hnum
  go_wp2_with fail
  refine hnum.out.mono ?_
  rintro e w5 ⟨rfl, hr5, hk5⟩
  go_wp2
  go_ret
  simp at hrb hdb
  exact ⟨rfl, (((hs.alloc _).trans hs4).keep hk5 (fun x hx hv => by have := hs.size; omega))⟩
end Go.Proofs.Ytejdiganmghopaa
