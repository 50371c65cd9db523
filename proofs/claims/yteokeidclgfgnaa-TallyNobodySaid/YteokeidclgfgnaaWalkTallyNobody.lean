/-
  The walk of the law TallyNobody: a reader that no call made reads nothing.
-/
-- @law rep act
import Derived.Test.YteokeidclgfgnaaLives1
import Derived.Test.YteokeidclgfgnaaDead
import Derived.Test.YteokeidclgfgnaaRd
import Derived.Deep.DeepCutAuto
namespace Go.Proofs.Yteokeidclgfgnaa
open Go Go.RowKit
set_option linter.unusedSimpArgs false
set_option linter.unusedVariables false

set_option maxRecDepth 100000 in
set_option maxHeartbeats 1600000 in
theorem walk_TallyNobody (w : World) (a : Int × Int) (ha : (Lit.int .i64 a.1).wf = true ∧ (Lit.int .i64 a.2).wf = true) :
    Calls Try.prog 11 #[.agg (actC a).toArray] w fun e w' => e = .returned (.bool true) ∧ Same w w' := by
  have hl := Lib.hid (lives1)
  obtain ⟨k, n⟩ := a
  simp only [actC]
  clear ha
  have hnum := Lib.hid (fun p w h => dead_num p n w h)
  have htext := Lib.hid (fun p w h => dead_text p n w h)
  have hraw := Lib.hid (fun p w h => dead_raw p n w h)
  have hleft := Lib.hid dead_left
  have herr := Lib.hid dead_err
  have hdone := Lib.hid dead_done
  go_enter Try.func11, Try.ntmps11
  go_wp2
  obtain ⟨w1, hw1⟩ : ∃ w1, w1 = w.alloc (.cells #[.int .i64 k, .int .i64 n] 64) := ⟨_, rfl⟩
  rw [← hw1]
  obtain ⟨w2, hw2⟩ : ∃ w2, w2 = w1.alloc (.cells #[.slice none 0 0, .int .i64 0, .bool false] 72) := ⟨_, rfl⟩
  rw [← hw2]
  obtain ⟨w3, hw3⟩ : ∃ w3, w3 = w2.alloc (.cells #[.pointer none, .pointer (some ⟨w.heap.size + 1, 0, none⟩)] 42) := ⟨_, rfl⟩
  rw [← hw3]
  have z1 : w1.heap.size = w.heap.size + 1 := by rw [hw1]; simp
  have z2 : w2.heap.size = w.heap.size + 2 := by rw [hw2]; simp [z1]
  have b1 : w1.heap[w.heap.size]? = some (.cells #[.int .i64 k, .int .i64 n] 64 (0, 0)) := by rw [hw1]; exact heap_alloc_new _ _
  have b2 : w2.heap[w.heap.size + 1]? = some (.cells #[.slice none 0 0, .int .i64 0, .bool false] 72 (0, 0)) := by rw [← z1, hw2]; exact heap_alloc_new _ _
  have b3 : w3.heap[w.heap.size + 1 + 1]? = some (.cells #[.pointer none, .pointer (some ⟨w.heap.size + 1, 0, none⟩)] 42 (0, 0)) := by rw [show w.heap.size + 1 + 1 = w2.heap.size from z2.symm, hw3]; exact heap_alloc_new _ _
  have s1 : Same w w1 := by rw [hw1]; exact Same.refl.alloc _
  have s2 : Same w1 w2 := by rw [hw2]; exact Same.refl.alloc _
  have s3 : Same w2 w3 := by rw [hw3]; exact Same.refl.alloc _
  have b13 := ((s2.trans s3).block _ (blk_lt b1)).trans b1
  have b23 := (s3.block _ (blk_lt b2)).trans b2
  have s03 := (s1.trans s2).trans s3
  clear s1 s2 s3 b1 b2 z1 z2 hw3 hw2 hw1
  replace b13 := Lib.hid b13
  replace b23 := Lib.hid b23
  replace b3 := Lib.hid b3
  replace s03 := Lib.hid s03
  go_loopw [9] (fun i wr => ∃ j : Nat, j ≤ 2 ∧ i = .int .i64 j ∧ Same w3 wr) (fun i _ => 2 - (intOf i).toNat)
  case atStart => exact ⟨0, by omega, rfl, Same.refl⟩
  case round =>
    obtain ⟨j, hj, rfl, hs⟩ := hrel
    by_cases hlt : j < 2
    · obtain ⟨p, hc, hd⟩ : ∃ p, wr.cell? ⟨w.heap.size + 1 + 1, j, none⟩ = some (.pointer p) ∧ Dead wr p := by
        have c3 := fun i => blk_cell ((hs.block _ (blk_lt b3.out)).trans b3.out) i
        rcases j with _ | _ | j
        · exact ⟨none, by rw [c3]; rfl, .inl rfl⟩
        · exact ⟨some ⟨w.heap.size + 1, 0, none⟩, by rw [c3]; rfl, .inr ⟨_, rfl, (hs.block _ (blk_lt b23.out)).trans b23.out⟩⟩
        · omega
      have q0 : 0 ≤ (j : Int) := by omega
      have q1 : (j : Int) < 2 := by omega
      have cn : wr.cell? ⟨w.heap.size, 1, none⟩ = some (.int .i64 n) := by rw [blk_cell ((hs.block _ (blk_lt b13.out)).trans b13.out)]; rfl
      replace hd := Lib.hid hd
      replace hs := Lib.hid hs
      go_wp2_with fail
      refine (Lib.hid (hnum.out p wr hd.out)).out.mono ?_
      rintro e w' ⟨rfl, rfl⟩
      go_wp2_with fail
      refine (Lib.hid (htext.out p wr hd.out)).out.mono ?_
      rintro e w' ⟨rfl, rfl⟩
      go_wp2_with fail
      refine (Lib.hid (hraw.out p wr hd.out)).out.mono ?_
      rintro e w' ⟨rfl, rfl⟩
      go_wp2_with fail
      refine (Lib.hid (hleft.out p wr hd.out)).out.mono ?_
      rintro e w' ⟨rfl, rfl⟩
      go_wp2_with fail
      refine (Lib.hid (herr.out p wr hd.out)).out.mono ?_
      rintro e w' ⟨rfl, rfl⟩
      go_wp2_with fail
      refine (Lib.hid (hdone.out p wr hd.out)).out.mono ?_
      rintro e w' ⟨rfl, rfl⟩
      go_wp2
      go_roundw
      case rel => exact ⟨j + 1, by omega, by go_num, hs.out⟩
      case measure => simp [intOf]; omega
    · obtain rfl : j = 2 := by omega
      go_wp2_with fail
      refine (hl.out _).mono ?_
      rintro e w5 ⟨rfl, hs5⟩
      go_wp2
      go_ret
      exact ⟨rfl, (s03.out.trans hs).trans hs5⟩
end Go.Proofs.Yteokeidclgfgnaa
