/-
  The walk of the law BatchMeets: whether any two batches have a request in common, and are the same, is as the document says.
-/
-- @law rep bat, rep bat
import Derived.Test.YtgdkhiihdoekaaaBatG
import Derived.Test.YtgdkhiihdoekaaaBat5
import Derived.Test.YtgdkhiihdoekaaaBat2
import Derived.Test.YtgdkhiihdoekaaaBatH
import Derived.Deep.DeepCutAuto
namespace Go.Proofs.Ytgdkhiihdoekaaa
open Go Go.RowKit
set_option linter.unusedSimpArgs false
set_option linter.unusedVariables false

set_option maxRecDepth 100000 in
set_option maxHeartbeats 3200000 in
theorem walk_BatchMeets (w : World) (a : BatV) (ha : a.at w) (b : BatV) (hb : b.at w) :
    Calls Try.prog 3 #[.agg a.cells.toArray, .agg b.cells.toArray] w fun e w' => e = .returned (.bool true) ∧ Same w w' := by
  have hl := Lib.hid lives7
  have hinfA := Lib.hid (bat_info a)
  have hinfB := Lib.hid (bat_info b)
  have hm1 := fun w h1 h2 => bmeet_any a b w h1 h2
  have hm2 := fun w h1 h2 => bmeet_any b a w h1 h2
  have hm3 := fun w h1 h2 => rbmeet_any a b w h1 h2
  rw [meets_comm b.reqs a.reqs] at hm2
  have hq1 := fun w h1 h2 => bsame_any a b w h1 h2
  have hq2 := fun w h1 h2 => rbsame_any a b w h1 h2
  have hq3 := fun w h1 h2 => bsame_any a a w h1 h2
  rw [(batSame_iff a a).2 ⟨rfl, rfl⟩] at hq3
  obtain ⟨M, hM⟩ : ∃ M, M = meets a.reqs b.reqs := ⟨_, rfl⟩
  rw [← hM] at hm1 hm2 hm3
  obtain ⟨S, hS⟩ : ∃ S, S = batSame a b := ⟨_, rfl⟩
  rw [← hS] at hq1 hq2
  clear hM hS
  replace hm1 := Lib.hid hm1
  replace hm2 := Lib.hid hm2
  replace hm3 := Lib.hid hm3
  replace hq1 := Lib.hid hq1
  replace hq2 := Lib.hid hq2
  replace hq3 := Lib.hid hq3
  replace ha := Lib.hid ha
  replace hb := Lib.hid hb
  go_enter Try.func3, Try.ntmps3
  go_upto_region 1 with (first | (refine box_row rfl _ _ rfl a.cells.toArray rfl hinfA.out ?_; intro w0 hba hs0; replace hba := Lib.hid hba; replace hs0 := Lib.hid hs0) | (refine box_row rfl _ _ rfl b.cells.toArray rfl hinfB.out ?_; intro w1 hbb hs1; replace hbb := Lib.hid hbb; replace hs1 := Lib.hid hs1))
  have s0 := Lib.hid (hs0.out.trans hs1.out)
  have sa := hs1
  have sb := Lib.hid (Same.refl (w := w1))
  clear hs0 hs1
  go_wp2_with (first | (refine load_row rfl _ _ rfl w.heap.size rfl _ _ _ _ (sa.out.at hba.out) Try.underlying24 rfl hinfA.out ?_) | (refine load_row rfl _ _ rfl w0.heap.size rfl _ _ _ _ (sb.out.at hbb.out) Try.underlying24 rfl hinfB.out ?_) | (refine build_sl (W' := w1.alloc (.cells (bvs [a, b]).toArray 24)) (.slice (some ⟨w1.heap.size, 0, none⟩) 2 2) rfl rfl (by kernel_rfl) ?_))
  have hlt := light7_any (some ⟨w1.heap.size, 0, none⟩) 2 2 [a, b] (w1.alloc (.cells (bvs [a, b]).toArray 24)) (bvs_box [a, b] 2 rfl (by unfold maxLen; omega)) rfl (by
    intro x hx
    have hw : Same w (w1.alloc (.cells (bvs [a, b]).toArray 24)) := s0.out.trans (Same.refl.alloc _)
    simp only [List.mem_cons, List.not_mem_nil, or_false] at hx
    rcases hx with rfl | rfl
    · exact BatV.same ha.out hw
    · exact BatV.same hb.out hw)
  refine hlt.mono ?_
  rintro e w2 ⟨L, rfl, hL, hs'⟩
  have hs : Same w1 w2 := (Same.refl.alloc _).trans hs'
  clear hs' hlt hL
  replace s0 := Lib.hid (s0.out.trans hs)
  replace sa := Lib.hid (sa.out.trans hs)
  replace sb := Lib.hid (sb.out.trans hs)
  clear hs
  cases L
  · go_wp2_with fail
    refine (hl.out _).mono ?_
    rintro e w3 ⟨rfl, hs⟩
    replace s0 := Lib.hid (s0.out.trans hs)
    replace sa := Lib.hid (sa.out.trans hs)
    replace sb := Lib.hid (sb.out.trans hs)
    clear hs
    go_wp2
    go_ret
    exact ⟨rfl, s0.out⟩
  · have ha5 := Lib.hid (BatV.same ha.out s0.out)
    have hb5 := Lib.hid (BatV.same hb.out s0.out)
    have hMM : (M == M) = true := by simp
    have hSS : (S == S) = true := by simp
    go_upto_region 3 with fail
    refine wp_region_last (by kernel_rfl) [(11, 0), (12, 1), (13, 2), (14, 3), (15, 4), (16, 5), (17, 6), (18, 7), (19, 8), (20, 9), (21, 10), (22, 11), (23, 12), (24, 13), (25, 14), (26, 15), (27, 16), (28, 17), (29, 18), (30, 19), (31, 20), (32, 21), (33, 22), (34, 23), (35, 24), (36, 25), (37, 26), (38, 27), (39, 28), (40, 29), (41, 30), (42, 31), (43, 32), (4, 33)] Same (Same _) [isV (.agg a.cells.toArray), isV (.agg b.cells.toArray), isV (.bool M), isV (.agg a.cells.toArray), isV (.agg b.cells.toArray), isV (.bool M), isV (.bool true), isV (.bool true), isV (.agg b.cells.toArray), isV (.agg a.cells.toArray), isV (.bool M), isV (.agg a.cells.toArray), isV (.agg b.cells.toArray), isV (.bool M), isV (.bool true), isV (.bool true), isV (.bool true), isV (.agg a.cells.toArray), isV (.agg b.cells.toArray), isV (.bool S), isV (.agg a.cells.toArray), isV (.agg b.cells.toArray), isV (.bool S), isV (.bool true), isV (.bool true), isV (.bool true), isV (.agg a.cells.toArray), isV (.agg a.cells.toArray), isV (.bool true), isV (.bool true), isV (.bool true), isV (.bool true), isV (.bool true)] Same.refl.drew (fun _ _ h k => h.trans k) (by simp [isV_stable, isB_stable, isAny_stable]) (by decide) (l := [_, _, _, _, _, _, _, _, _, _, _, _, _, _, _, _, _, _, _, _, _, _, _, _, _, _, _, _, _, _, _, _, _]) rfl (by decide) (by decide) ?_ ?_
    · refine ⟨?_, ?_, ?_, ?_, ?_, ?_, ?_, ?_, ?_, ?_, ?_, ?_, ?_, ?_, ?_, ?_, ?_, ?_, ?_, ?_, ?_, ?_, ?_, ?_, ?_, ?_, ?_, ?_, ?_, ?_, ?_, ?_, ?_, trivial⟩
      all_goals (intro u wx hI hp; simp only [mkAct, List.foldl_cons, List.foldl_nil, List.setIfInBounds_toArray, List.set_cons_succ, List.set_cons_zero])
      · -- operation 0
        go_wp2_with (refine load_row rfl _ _ rfl w.heap.size rfl _ _ _ _ (hI.at (sa.out.at hba.out)) Try.underlying24 rfl hinfA.out ?_)
        refine stq_v rfl Same.refl ?_
        first | (simp only [mkAct, List.foldl_cons, List.foldl_nil, List.setIfInBounds_toArray, List.set_cons_succ, List.set_cons_zero, upd, reduceIte, Nat.reduceEqDiff, Nat.reduceAdd, str]; done) | (simp [mkAct, upd, str, *]; done)
      · -- operation 1
        go_wp2_with (refine load_row rfl _ _ rfl w0.heap.size rfl _ _ _ _ (hI.at (sb.out.at hbb.out)) Try.underlying24 rfl hinfB.out ?_)
        refine stq_v rfl Same.refl ?_
        first | (simp only [mkAct, List.foldl_cons, List.foldl_nil, List.setIfInBounds_toArray, List.set_cons_succ, List.set_cons_zero, upd, reduceIte, Nat.reduceEqDiff, Nat.reduceAdd, str]; done) | (simp [mkAct, upd, str, *]; done)
      · -- operation 2
        obtain ⟨f0, f1, -⟩ := hp
        replace f0 : u 0 = (.agg a.cells.toArray) := f0
        replace f1 : u 1 = (.agg b.cells.toArray) := f1
        try simp only [f0, f1, str]
        go_wp2_with fail
        refine (hm1.out _ (BatV.same ha5.out hI) (BatV.same hb5.out hI)).mono ?_
        rintro e w1 ⟨rfl, hs'⟩
        go_wp2
        refine stq_v rfl hs' ?_
        first | (simp only [mkAct, List.foldl_cons, List.foldl_nil, List.setIfInBounds_toArray, List.set_cons_succ, List.set_cons_zero, upd, reduceIte, Nat.reduceEqDiff, Nat.reduceAdd, f0, f1, str]; done) | (simp [mkAct, upd, f0, f1, str, *]; done)
      · -- operation 3
        go_wp2_with (refine load_row rfl _ _ rfl w.heap.size rfl _ _ _ _ (hI.at (sa.out.at hba.out)) Try.underlying24 rfl hinfA.out ?_)
        refine stq_v rfl Same.refl ?_
        first | (simp only [mkAct, List.foldl_cons, List.foldl_nil, List.setIfInBounds_toArray, List.set_cons_succ, List.set_cons_zero, upd, reduceIte, Nat.reduceEqDiff, Nat.reduceAdd, str]; done) | (simp [mkAct, upd, str, *]; done)
      · -- operation 4
        go_wp2_with (refine load_row rfl _ _ rfl w0.heap.size rfl _ _ _ _ (hI.at (sb.out.at hbb.out)) Try.underlying24 rfl hinfB.out ?_)
        refine stq_v rfl Same.refl ?_
        first | (simp only [mkAct, List.foldl_cons, List.foldl_nil, List.setIfInBounds_toArray, List.set_cons_succ, List.set_cons_zero, upd, reduceIte, Nat.reduceEqDiff, Nat.reduceAdd, str]; done) | (simp [mkAct, upd, str, *]; done)
      · -- operation 5
        obtain ⟨f3, f4, -, -⟩ := hp
        replace f3 : u 3 = (.agg a.cells.toArray) := f3
        replace f4 : u 4 = (.agg b.cells.toArray) := f4
        try simp only [f3, f4, str]
        go_wp2_with fail
        refine (hm3.out _ (BatV.same ha5.out hI) (BatV.same hb5.out hI)).mono ?_
        rintro e w1 ⟨rfl, hs'⟩
        go_wp2
        refine stq_v rfl hs' ?_
        first | (simp only [mkAct, List.foldl_cons, List.foldl_nil, List.setIfInBounds_toArray, List.set_cons_succ, List.set_cons_zero, upd, reduceIte, Nat.reduceEqDiff, Nat.reduceAdd, f3, f4, str]; done) | (simp [mkAct, upd, f3, f4, str, *]; done)
      · -- operation 6
        obtain ⟨f2, f5, -⟩ := hp
        replace f2 : u 2 = (.bool M) := f2
        replace f5 : u 5 = (.bool M) := f5
        try simp only [f2, f5, str]
        go_wp2
        refine stq_v rfl Same.refl ?_
        first | (simp only [mkAct, List.foldl_cons, List.foldl_nil, List.setIfInBounds_toArray, List.set_cons_succ, List.set_cons_zero, upd, reduceIte, Nat.reduceEqDiff, Nat.reduceAdd, f2, f5, str]; done) | (simp [mkAct, upd, f2, f5, str, *]; done)
      · -- operation 7
        obtain ⟨f6, -, -⟩ := hp
        replace f6 : u 6 = (.bool true) := f6
        try simp only [f6, str]
        go_wp2
        refine stq_v rfl Same.refl ?_
        first | (simp only [mkAct, List.foldl_cons, List.foldl_nil, List.setIfInBounds_toArray, List.set_cons_succ, List.set_cons_zero, upd, reduceIte, Nat.reduceEqDiff, Nat.reduceAdd, f6, str]; done) | (simp [mkAct, upd, f6, str, *]; done)
      · -- operation 8
        obtain ⟨f7, -⟩ := hp
        replace f7 : u 7 = (.bool true) := f7
        try simp only [f7, str]
        go_wp2_with (refine load_row rfl _ _ rfl w0.heap.size rfl _ _ _ _ (hI.at (sb.out.at hbb.out)) Try.underlying24 rfl hinfB.out ?_)
        refine stq_v rfl Same.refl ?_
        first | (simp only [mkAct, List.foldl_cons, List.foldl_nil, List.setIfInBounds_toArray, List.set_cons_succ, List.set_cons_zero, upd, reduceIte, Nat.reduceEqDiff, Nat.reduceAdd, f7, str]; done) | (simp [mkAct, upd, f7, str, *]; done)
      · -- operation 9
        obtain ⟨f7, -⟩ := hp
        replace f7 : u 7 = (.bool true) := f7
        try simp only [f7, str]
        go_wp2_with (refine load_row rfl _ _ rfl w.heap.size rfl _ _ _ _ (hI.at (sa.out.at hba.out)) Try.underlying24 rfl hinfA.out ?_)
        refine stq_v rfl Same.refl ?_
        first | (simp only [mkAct, List.foldl_cons, List.foldl_nil, List.setIfInBounds_toArray, List.set_cons_succ, List.set_cons_zero, upd, reduceIte, Nat.reduceEqDiff, Nat.reduceAdd, f7, str]; done) | (simp [mkAct, upd, f7, str, *]; done)
      · -- operation 10
        obtain ⟨f8, f9, -, f7, -⟩ := hp
        replace f8 : u 8 = (.agg b.cells.toArray) := f8
        replace f9 : u 9 = (.agg a.cells.toArray) := f9
        replace f7 : u 7 = (.bool true) := f7
        try simp only [f8, f9, f7, str]
        go_wp2_with fail
        refine (hm2.out _ (BatV.same hb5.out hI) (BatV.same ha5.out hI)).mono ?_
        rintro e w1 ⟨rfl, hs'⟩
        go_wp2
        refine stq_v rfl hs' ?_
        first | (simp only [mkAct, List.foldl_cons, List.foldl_nil, List.setIfInBounds_toArray, List.set_cons_succ, List.set_cons_zero, upd, reduceIte, Nat.reduceEqDiff, Nat.reduceAdd, f8, f9, f7, str]; done) | (simp [mkAct, upd, f8, f9, f7, str, *]; done)
      · -- operation 11
        obtain ⟨f7, -⟩ := hp
        replace f7 : u 7 = (.bool true) := f7
        try simp only [f7, str]
        go_wp2_with (refine load_row rfl _ _ rfl w.heap.size rfl _ _ _ _ (hI.at (sa.out.at hba.out)) Try.underlying24 rfl hinfA.out ?_)
        refine stq_v rfl Same.refl ?_
        first | (simp only [mkAct, List.foldl_cons, List.foldl_nil, List.setIfInBounds_toArray, List.set_cons_succ, List.set_cons_zero, upd, reduceIte, Nat.reduceEqDiff, Nat.reduceAdd, f7, str]; done) | (simp [mkAct, upd, f7, str, *]; done)
      · -- operation 12
        obtain ⟨f7, -⟩ := hp
        replace f7 : u 7 = (.bool true) := f7
        try simp only [f7, str]
        go_wp2_with (refine load_row rfl _ _ rfl w0.heap.size rfl _ _ _ _ (hI.at (sb.out.at hbb.out)) Try.underlying24 rfl hinfB.out ?_)
        refine stq_v rfl Same.refl ?_
        first | (simp only [mkAct, List.foldl_cons, List.foldl_nil, List.setIfInBounds_toArray, List.set_cons_succ, List.set_cons_zero, upd, reduceIte, Nat.reduceEqDiff, Nat.reduceAdd, f7, str]; done) | (simp [mkAct, upd, f7, str, *]; done)
      · -- operation 13
        obtain ⟨f11, f12, -, f7, -⟩ := hp
        replace f11 : u 11 = (.agg a.cells.toArray) := f11
        replace f12 : u 12 = (.agg b.cells.toArray) := f12
        replace f7 : u 7 = (.bool true) := f7
        try simp only [f11, f12, f7, str]
        go_wp2_with fail
        refine (hm3.out _ (BatV.same ha5.out hI) (BatV.same hb5.out hI)).mono ?_
        rintro e w1 ⟨rfl, hs'⟩
        go_wp2
        refine stq_v rfl hs' ?_
        first | (simp only [mkAct, List.foldl_cons, List.foldl_nil, List.setIfInBounds_toArray, List.set_cons_succ, List.set_cons_zero, upd, reduceIte, Nat.reduceEqDiff, Nat.reduceAdd, f11, f12, f7, str]; done) | (simp [mkAct, upd, f11, f12, f7, str, *]; done)
      · -- operation 14
        obtain ⟨f10, f13, f7, -⟩ := hp
        replace f10 : u 10 = (.bool M) := f10
        replace f13 : u 13 = (.bool M) := f13
        replace f7 : u 7 = (.bool true) := f7
        try simp only [f10, f13, f7, str]
        go_wp2
        refine stq_v rfl Same.refl ?_
        first | (simp only [mkAct, List.foldl_cons, List.foldl_nil, List.setIfInBounds_toArray, List.set_cons_succ, List.set_cons_zero, upd, reduceIte, Nat.reduceEqDiff, Nat.reduceAdd, f10, f13, f7, str]; done) | (simp [mkAct, upd, f10, f13, f7, str, *]; done)
      · -- operation 15
        obtain ⟨f7, f14, -⟩ := hp
        replace f7 : u 7 = (.bool true) := f7
        replace f14 : u 14 = (.bool true) := f14
        try simp only [f7, f14, str]
        go_wp2
        refine stq_v rfl Same.refl ?_
        first | (simp only [mkAct, List.foldl_cons, List.foldl_nil, List.setIfInBounds_toArray, List.set_cons_succ, List.set_cons_zero, upd, reduceIte, Nat.reduceEqDiff, Nat.reduceAdd, f7, f14, str]; done) | (simp [mkAct, upd, f7, f14, str, *]; done)
      · -- operation 16
        obtain ⟨f15, -, -⟩ := hp
        replace f15 : u 15 = (.bool true) := f15
        try simp only [f15, str]
        go_wp2
        refine stq_v rfl Same.refl ?_
        first | (simp only [mkAct, List.foldl_cons, List.foldl_nil, List.setIfInBounds_toArray, List.set_cons_succ, List.set_cons_zero, upd, reduceIte, Nat.reduceEqDiff, Nat.reduceAdd, f15, str]; done) | (simp [mkAct, upd, f15, str, *]; done)
      · -- operation 17
        obtain ⟨f16, -⟩ := hp
        replace f16 : u 16 = (.bool true) := f16
        try simp only [f16, str]
        go_wp2_with (refine load_row rfl _ _ rfl w.heap.size rfl _ _ _ _ (hI.at (sa.out.at hba.out)) Try.underlying24 rfl hinfA.out ?_)
        refine stq_v rfl Same.refl ?_
        first | (simp only [mkAct, List.foldl_cons, List.foldl_nil, List.setIfInBounds_toArray, List.set_cons_succ, List.set_cons_zero, upd, reduceIte, Nat.reduceEqDiff, Nat.reduceAdd, f16, str]; done) | (simp [mkAct, upd, f16, str, *]; done)
      · -- operation 18
        obtain ⟨f16, -⟩ := hp
        replace f16 : u 16 = (.bool true) := f16
        try simp only [f16, str]
        go_wp2_with (refine load_row rfl _ _ rfl w0.heap.size rfl _ _ _ _ (hI.at (sb.out.at hbb.out)) Try.underlying24 rfl hinfB.out ?_)
        refine stq_v rfl Same.refl ?_
        first | (simp only [mkAct, List.foldl_cons, List.foldl_nil, List.setIfInBounds_toArray, List.set_cons_succ, List.set_cons_zero, upd, reduceIte, Nat.reduceEqDiff, Nat.reduceAdd, f16, str]; done) | (simp [mkAct, upd, f16, str, *]; done)
      · -- operation 19
        obtain ⟨f17, f18, -, f16, -⟩ := hp
        replace f17 : u 17 = (.agg a.cells.toArray) := f17
        replace f18 : u 18 = (.agg b.cells.toArray) := f18
        replace f16 : u 16 = (.bool true) := f16
        try simp only [f17, f18, f16, str]
        go_wp2_with fail
        refine (hq1.out _ (BatV.same ha5.out hI) (BatV.same hb5.out hI)).mono ?_
        rintro e w1 ⟨rfl, hs'⟩
        go_wp2
        refine stq_v rfl hs' ?_
        first | (simp only [mkAct, List.foldl_cons, List.foldl_nil, List.setIfInBounds_toArray, List.set_cons_succ, List.set_cons_zero, upd, reduceIte, Nat.reduceEqDiff, Nat.reduceAdd, f17, f18, f16, str]; done) | (simp [mkAct, upd, f17, f18, f16, str, *]; done)
      · -- operation 20
        obtain ⟨f16, -⟩ := hp
        replace f16 : u 16 = (.bool true) := f16
        try simp only [f16, str]
        go_wp2_with (refine load_row rfl _ _ rfl w.heap.size rfl _ _ _ _ (hI.at (sa.out.at hba.out)) Try.underlying24 rfl hinfA.out ?_)
        refine stq_v rfl Same.refl ?_
        first | (simp only [mkAct, List.foldl_cons, List.foldl_nil, List.setIfInBounds_toArray, List.set_cons_succ, List.set_cons_zero, upd, reduceIte, Nat.reduceEqDiff, Nat.reduceAdd, f16, str]; done) | (simp [mkAct, upd, f16, str, *]; done)
      · -- operation 21
        obtain ⟨f16, -⟩ := hp
        replace f16 : u 16 = (.bool true) := f16
        try simp only [f16, str]
        go_wp2_with (refine load_row rfl _ _ rfl w0.heap.size rfl _ _ _ _ (hI.at (sb.out.at hbb.out)) Try.underlying24 rfl hinfB.out ?_)
        refine stq_v rfl Same.refl ?_
        first | (simp only [mkAct, List.foldl_cons, List.foldl_nil, List.setIfInBounds_toArray, List.set_cons_succ, List.set_cons_zero, upd, reduceIte, Nat.reduceEqDiff, Nat.reduceAdd, f16, str]; done) | (simp [mkAct, upd, f16, str, *]; done)
      · -- operation 22
        obtain ⟨f20, f21, -, f16, -⟩ := hp
        replace f20 : u 20 = (.agg a.cells.toArray) := f20
        replace f21 : u 21 = (.agg b.cells.toArray) := f21
        replace f16 : u 16 = (.bool true) := f16
        try simp only [f20, f21, f16, str]
        go_wp2_with fail
        refine (hq2.out _ (BatV.same ha5.out hI) (BatV.same hb5.out hI)).mono ?_
        rintro e w1 ⟨rfl, hs'⟩
        go_wp2
        refine stq_v rfl hs' ?_
        first | (simp only [mkAct, List.foldl_cons, List.foldl_nil, List.setIfInBounds_toArray, List.set_cons_succ, List.set_cons_zero, upd, reduceIte, Nat.reduceEqDiff, Nat.reduceAdd, f20, f21, f16, str]; done) | (simp [mkAct, upd, f20, f21, f16, str, *]; done)
      · -- operation 23
        obtain ⟨f19, f22, f16, -⟩ := hp
        replace f19 : u 19 = (.bool S) := f19
        replace f22 : u 22 = (.bool S) := f22
        replace f16 : u 16 = (.bool true) := f16
        try simp only [f19, f22, f16, str]
        go_wp2
        refine stq_v rfl Same.refl ?_
        first | (simp only [mkAct, List.foldl_cons, List.foldl_nil, List.setIfInBounds_toArray, List.set_cons_succ, List.set_cons_zero, upd, reduceIte, Nat.reduceEqDiff, Nat.reduceAdd, f19, f22, f16, str]; done) | (simp [mkAct, upd, f19, f22, f16, str, *]; done)
      · -- operation 24
        obtain ⟨f16, f23, -⟩ := hp
        replace f16 : u 16 = (.bool true) := f16
        replace f23 : u 23 = (.bool true) := f23
        try simp only [f16, f23, str]
        go_wp2
        refine stq_v rfl Same.refl ?_
        first | (simp only [mkAct, List.foldl_cons, List.foldl_nil, List.setIfInBounds_toArray, List.set_cons_succ, List.set_cons_zero, upd, reduceIte, Nat.reduceEqDiff, Nat.reduceAdd, f16, f23, str]; done) | (simp [mkAct, upd, f16, f23, str, *]; done)
      · -- operation 25
        obtain ⟨f24, -, -⟩ := hp
        replace f24 : u 24 = (.bool true) := f24
        try simp only [f24, str]
        go_wp2
        refine stq_v rfl Same.refl ?_
        first | (simp only [mkAct, List.foldl_cons, List.foldl_nil, List.setIfInBounds_toArray, List.set_cons_succ, List.set_cons_zero, upd, reduceIte, Nat.reduceEqDiff, Nat.reduceAdd, f24, str]; done) | (simp [mkAct, upd, f24, str, *]; done)
      · -- operation 26
        obtain ⟨f25, -⟩ := hp
        replace f25 : u 25 = (.bool true) := f25
        try simp only [f25, str]
        go_wp2_with (refine load_row rfl _ _ rfl w.heap.size rfl _ _ _ _ (hI.at (sa.out.at hba.out)) Try.underlying24 rfl hinfA.out ?_)
        refine stq_v rfl Same.refl ?_
        first | (simp only [mkAct, List.foldl_cons, List.foldl_nil, List.setIfInBounds_toArray, List.set_cons_succ, List.set_cons_zero, upd, reduceIte, Nat.reduceEqDiff, Nat.reduceAdd, f25, str]; done) | (simp [mkAct, upd, f25, str, *]; done)
      · -- operation 27
        obtain ⟨f25, -⟩ := hp
        replace f25 : u 25 = (.bool true) := f25
        try simp only [f25, str]
        go_wp2_with (refine load_row rfl _ _ rfl w.heap.size rfl _ _ _ _ (hI.at (sa.out.at hba.out)) Try.underlying24 rfl hinfA.out ?_)
        refine stq_v rfl Same.refl ?_
        first | (simp only [mkAct, List.foldl_cons, List.foldl_nil, List.setIfInBounds_toArray, List.set_cons_succ, List.set_cons_zero, upd, reduceIte, Nat.reduceEqDiff, Nat.reduceAdd, f25, str]; done) | (simp [mkAct, upd, f25, str, *]; done)
      · -- operation 28
        obtain ⟨f26, f27, -, f25, -⟩ := hp
        replace f26 : u 26 = (.agg a.cells.toArray) := f26
        replace f27 : u 27 = (.agg a.cells.toArray) := f27
        replace f25 : u 25 = (.bool true) := f25
        try simp only [f26, f27, f25, str]
        go_wp2_with fail
        refine (hq3.out _ (BatV.same ha5.out hI) (BatV.same ha5.out hI)).mono ?_
        rintro e w1 ⟨rfl, hs'⟩
        go_wp2
        refine stq_v rfl hs' ?_
        first | (simp only [mkAct, List.foldl_cons, List.foldl_nil, List.setIfInBounds_toArray, List.set_cons_succ, List.set_cons_zero, upd, reduceIte, Nat.reduceEqDiff, Nat.reduceAdd, f26, f27, f25, str]; done) | (simp [mkAct, upd, f26, f27, f25, str, *]; done)
      · -- operation 29
        obtain ⟨f25, f28, -⟩ := hp
        replace f25 : u 25 = (.bool true) := f25
        replace f28 : u 28 = (.bool true) := f28
        try simp only [f25, f28, str]
        go_wp2
        refine stq_v rfl Same.refl ?_
        first | (simp only [mkAct, List.foldl_cons, List.foldl_nil, List.setIfInBounds_toArray, List.set_cons_succ, List.set_cons_zero, upd, reduceIte, Nat.reduceEqDiff, Nat.reduceAdd, f25, f28, str]; done) | (simp [mkAct, upd, f25, f28, str, *]; done)
      · -- operation 30
        obtain ⟨f29, -, -⟩ := hp
        replace f29 : u 29 = (.bool true) := f29
        try simp only [f29, str]
        go_wp2
        refine stq_v rfl Same.refl ?_
        first | (simp only [mkAct, List.foldl_cons, List.foldl_nil, List.setIfInBounds_toArray, List.set_cons_succ, List.set_cons_zero, upd, reduceIte, Nat.reduceEqDiff, Nat.reduceAdd, f29, str]; done) | (simp [mkAct, upd, f29, str, *]; done)
      · -- operation 31
        obtain ⟨-, f30, -⟩ := hp
        replace f30 : u 30 = (.bool true) := f30
        try simp only [f30, str]
        go_wp2_with fail
        refine (hl.out _).mono ?_
        rintro e w1 ⟨rfl, hs'⟩
        go_wp2
        refine stq_v rfl hs' ?_
        first | (simp only [mkAct, List.foldl_cons, List.foldl_nil, List.setIfInBounds_toArray, List.set_cons_succ, List.set_cons_zero, upd, reduceIte, Nat.reduceEqDiff, Nat.reduceAdd, f30, str]; done) | (simp [mkAct, upd, f30, str, *]; done)
      · -- operation 32
        obtain ⟨f30, f31, -⟩ := hp
        replace f30 : u 30 = (.bool true) := f30
        replace f31 : u 31 = (.bool true) := f31
        try simp only [f30, f31, str]
        go_wp2
        refine stq_v rfl Same.refl ?_
        first | (simp only [mkAct, List.foldl_cons, List.foldl_nil, List.setIfInBounds_toArray, List.set_cons_succ, List.set_cons_zero, upd, reduceIte, Nat.reduceEqDiff, Nat.reduceAdd, f30, f31, str]; done) | (simp [mkAct, upd, f30, f31, str, *]; done)
    · intro u wx hI hR
      obtain ⟨r0, r1, r2, r3, r4, r5, r6, r7, r8, r9, r10, r11, r12, r13, r14, r15, r16, r17, r18, r19, r20, r21, r22, r23, r24, r25, r26, r27, r28, r29, r30, r31, r32, -⟩ := hR
      replace r0 : u 0 = (.agg a.cells.toArray) := r0
      replace r1 : u 1 = (.agg b.cells.toArray) := r1
      replace r2 : u 2 = (.bool M) := r2
      replace r3 : u 3 = (.agg a.cells.toArray) := r3
      replace r4 : u 4 = (.agg b.cells.toArray) := r4
      replace r5 : u 5 = (.bool M) := r5
      replace r6 : u 6 = (.bool true) := r6
      replace r7 : u 7 = (.bool true) := r7
      replace r8 : u 8 = (.agg b.cells.toArray) := r8
      replace r9 : u 9 = (.agg a.cells.toArray) := r9
      replace r10 : u 10 = (.bool M) := r10
      replace r11 : u 11 = (.agg a.cells.toArray) := r11
      replace r12 : u 12 = (.agg b.cells.toArray) := r12
      replace r13 : u 13 = (.bool M) := r13
      replace r14 : u 14 = (.bool true) := r14
      replace r15 : u 15 = (.bool true) := r15
      replace r16 : u 16 = (.bool true) := r16
      replace r17 : u 17 = (.agg a.cells.toArray) := r17
      replace r18 : u 18 = (.agg b.cells.toArray) := r18
      replace r19 : u 19 = (.bool S) := r19
      replace r20 : u 20 = (.agg a.cells.toArray) := r20
      replace r21 : u 21 = (.agg b.cells.toArray) := r21
      replace r22 : u 22 = (.bool S) := r22
      replace r23 : u 23 = (.bool true) := r23
      replace r24 : u 24 = (.bool true) := r24
      replace r25 : u 25 = (.bool true) := r25
      replace r26 : u 26 = (.agg a.cells.toArray) := r26
      replace r27 : u 27 = (.agg a.cells.toArray) := r27
      replace r28 : u 28 = (.bool true) := r28
      replace r29 : u 29 = (.bool true) := r29
      replace r30 : u 30 = (.bool true) := r30
      replace r31 : u 31 = (.bool true) := r31
      replace r32 : u 32 = (.bool true) := r32
      simp only [mkAct, List.foldl_cons, List.foldl_nil, List.setIfInBounds_toArray, List.set_cons_succ, List.set_cons_zero]
      try simp only [str, r0, r1, r2, r3, r4, r5, r6, r7, r8, r9, r10, r11, r12, r13, r14, r15, r16, r17, r18, r19, r20, r21, r22, r23, r24, r25, r26, r27, r28, r29, r30, r31, r32]
      go_wp2
      go_ret
      exact ⟨rfl, s0.out.trans hI⟩
end Go.Proofs.Ytgdkhiihdoekaaa
