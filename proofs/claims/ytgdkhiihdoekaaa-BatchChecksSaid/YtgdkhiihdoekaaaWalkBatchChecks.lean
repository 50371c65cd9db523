/-
  The walk of the law BatchChecks: whether any batch may be, and what stands in it twice, is as the document says.
-/
-- @law rep bat, int, int
import Derived.Test.YtgdkhiihdoekaaaBatG
import Derived.Test.YtgdkhiihdoekaaaBat5
import Derived.Test.YtgdkhiihdoekaaaBat2
import Derived.Test.YtgdkhiihdoekaaaBatH
import Derived.Deep.DeepCutAuto
namespace Go.Proofs.Ytgdkhiihdoekaaa
open Go Go.RowKit
set_option linter.unusedSimpArgs false
set_option linter.unusedVariables false

set_option maxRecDepth 100000 in
set_option maxHeartbeats 3200000 in
theorem walk_BatchChecks (w : World) (b : BatV) (hb : b.at w) (clients : Int) (hcw : (Lit.int .i64 clients).wf = true) (most : Int) (hmw : (Lit.int .i64 most).wf = true) :
    Calls Try.prog 9 #[.agg b.cells.toArray, .int .i64 clients, .int .i64 most] w fun e w' => e = .returned (.bool true) ∧ Same w w' := by
  have hl := Lib.hid lives7
  have hinfB := Lib.hid (bat_info b)
  have hinfK := Lib.hid (keys_info #[.string seedR, .int .i64 (72 : Nat)] rfl)
  have hky := Lib.hid keys7_any
  have hN := Lib.hid none_any
  have hg1 := fun w p h hk => bgood_any (some p) seedR 72 4 clients most b w h hk (by omega) (by omega) (by decide)
  have hg2 := fun w h => rbgood_any seedR 72 4 clients most b w h (by omega) (by omega) (by decide)
  have ht1 := fun w h => btwice_any b w h
  have ht2 := fun w h => rbtwice_any b w h
  have hsn : ∀ w, Calls Try.prog 20 #[.agg #[.bool true, .slice none 0 0], .agg #[.bool true, .slice none 0 0]] w fun e w' => e = .returned (.bool true) ∧ Same w w' := by
    intro w
    have := rbsame_any noneBat noneBat w (noneBat_at w) (noneBat_at w)
    rw [(batSame_iff noneBat noneBat).2 ⟨rfl, rfl⟩] at this
    exact this
  obtain ⟨E, hE⟩ : ∃ E, E = batGood (fun r => r.good seedR.data.toList 72 4 clients) b most := ⟨_, rfl⟩
  obtain ⟨T, hT⟩ : ∃ T, T = twiceAt b.reqs := ⟨_, rfl⟩
  rw [← hT] at ht1 ht2
  simp only [← hE] at hg1 hg2
  obtain ⟨n, hn⟩ : ∃ n, n = b.reqs.length := ⟨_, rfl⟩
  rw [← hn] at ht1 ht2
  clear hE hT hcw hmw
  replace hn := Lib.hid hn
  replace hg1 := Lib.hid hg1
  replace hg2 := Lib.hid hg2
  replace ht1 := Lib.hid ht1
  replace ht2 := Lib.hid ht2
  replace hsn := Lib.hid hsn
  replace hb := Lib.hid hb
  unfold RetKeys at hky
  go_enter Try.func9, Try.ntmps9
  go_upto_region 1 with (refine box_row rfl _ _ rfl b.cells.toArray rfl hinfB.out ?_; intro w1 hbb hs1; replace hbb := Lib.hid hbb; replace hs1 := Lib.hid hs1)
  have s0 := hs1
  have sb := Lib.hid (Same.refl (w := w1))
  clear hs1
  go_wp2_with (first | (refine load_row rfl _ _ rfl w.heap.size rfl _ _ _ _ (sb.out.at hbb.out) Try.underlying24 rfl hinfB.out ?_) | (refine build_sl (W' := w1.alloc (.cells (bvs [b]).toArray 24)) (.slice (some ⟨w1.heap.size, 0, none⟩) 1 1) rfl rfl (by kernel_rfl) ?_))
  have hlt := light7_any (some ⟨w1.heap.size, 0, none⟩) 1 1 [b] (w1.alloc (.cells (bvs [b]).toArray 24)) (bvs_box [b] 1 rfl (by unfold maxLen; omega)) rfl (by
    intro x hx
    have hw : Same w (w1.alloc (.cells (bvs [b]).toArray 24)) := s0.out.trans (Same.refl.alloc _)
    simp only [List.mem_cons, List.not_mem_nil, or_false] at hx
    subst hx
    exact BatV.same hb.out hw)
  refine hlt.mono ?_
  rintro e w2 ⟨L, rfl, hL, hs'⟩
  have hs : Same w1 w2 := (Same.refl.alloc _).trans hs'
  clear hs' hlt hL
  replace s0 := Lib.hid (s0.out.trans hs)
  replace sb := Lib.hid (sb.out.trans hs)
  clear hs
  cases L
  · go_wp2_with fail
    refine (hl.out _).mono ?_
    rintro e w3 ⟨rfl, hs⟩
    replace s0 := Lib.hid (s0.out.trans hs)
    replace sb := Lib.hid (sb.out.trans hs)
    clear hs
    go_wp2
    go_ret
    exact ⟨rfl, s0.out⟩
  · go_wp2_with fail
    refine (hky.out _).mono ?_
    rintro e w3 ⟨kp, rfl, hka, hs⟩
    replace s0 := Lib.hid (s0.out.trans hs)
    replace sb := Lib.hid (sb.out.trans hs)
    clear hs
    replace hka := Lib.hid hka
    go_upto_region 4 with (first | (refine alloc_new rfl 71 rfl #[.string ByteArray.empty, .int .i64 0] (by kernel_rfl) ?_; intro w4 hd hs4; have hdl := blk_lt hd; replace hd := Lib.hid hd; replace hs4 := Lib.hid hs4) | (refine store_row rfl _ _ _ rfl w3.heap.size #[.string seedR, .int .i64 (72 : Nat)] rfl rfl _ _ hd.out hinfK.out rfl (by simp [Value.oneCell']) ?_; intro w5 hb5 hk5; replace hb5 := Lib.hid hb5))
    have hs5 : Same w3 w5 := hs4.out.keep hk5 (fun x hx hv => by omega)
    replace s0 := Lib.hid (s0.out.trans hs5)
    replace sb := Lib.hid (sb.out.trans hs5)
    have hka5 := Lib.hid (hka.out.same hs5)
    clear hs5 hk5 hs4 hd hka
    go_simp
    have hb5' := Lib.hid (BatV.same hb.out s0.out)
    have c1 := bat_reqs (sb.out.at hbb.out)
    rw [← hn.out] at c1
    replace c1 := Lib.hid c1
    have hEE : ((E : Int) == (E : Int)) = true := by simp
    have hTT : (T == T) = true := by simp
    refine wp_region_last (by kernel_rfl) [(18, 0), (19, 1), (20, 2), (21, 3), (22, 4), (23, 5), (24, 6), (25, 7), (26, 8), (27, 9), (28, 10), (29, 11), (30, 12), (31, 13), (32, 14), (33, 15), (34, 16), (35, 17), (36, 18), (37, 19), (38, 20), (39, 21), (40, 22), (41, 23), (42, 24), (43, 25), (44, 26), (45, 27), (6, 28)] Same (Same _) [isV (.pointer (some kp)), isV (.int .i64 clients), isV (.int .i64 most), isV (.agg b.cells.toArray), isV (.int .i64 (E : Int)), isV (rkeys seedR (72 : Nat)), isV (.int .i64 clients), isV (.int .i64 most), isV (.agg b.cells.toArray), isV (.int .i64 (E : Int)), isV (.bool true), isV (.bool true), isV (.pointer (some ⟨w.heap.size, 1, none⟩)), isV (.slice b.ao n b.c), isV (.int .i64 T), isV (.pointer (some ⟨w.heap.size, 1, none⟩)), isV (.slice b.ao n b.c), isV (.int .i64 T), isV (.bool true), isV (.bool true), isV (.bool true), isV (.agg #[.bool true, .slice none 0 0]), isV (.agg #[.bool true, .slice none 0 0]), isV (.bool true), isV (.bool true), isV (.bool true), isV (.bool true), isV (.bool true)] Same.refl.drew (fun _ _ h k => h.trans k) (by simp [isV_stable, isB_stable, isAny_stable]) (by decide) (l := [_, _, _, _, _, _, _, _, _, _, _, _, _, _, _, _, _, _, _, _, _, _, _, _, _, _, _, _]) rfl (by decide) (by decide) ?_ ?_
    · refine ⟨?_, ?_, ?_, ?_, ?_, ?_, ?_, ?_, ?_, ?_, ?_, ?_, ?_, ?_, ?_, ?_, ?_, ?_, ?_, ?_, ?_, ?_, ?_, ?_, ?_, ?_, ?_, ?_, trivial⟩
      all_goals (intro u wx hI hp; simp only [mkAct, List.foldl_cons, List.foldl_nil, List.setIfInBounds_toArray, List.set_cons_succ, List.set_cons_zero])
      · -- operation 0
        go_wp2
        refine stq_v rfl Same.refl ?_
        first | (simp only [mkAct, List.foldl_cons, List.foldl_nil, List.setIfInBounds_toArray, List.set_cons_succ, List.set_cons_zero, upd, reduceIte, Nat.reduceEqDiff, Nat.reduceAdd, str]; done) | (simp [mkAct, upd, str, *]; done)
      · -- operation 1
        go_wp2
        refine stq_v rfl Same.refl ?_
        first | (simp only [mkAct, List.foldl_cons, List.foldl_nil, List.setIfInBounds_toArray, List.set_cons_succ, List.set_cons_zero, upd, reduceIte, Nat.reduceEqDiff, Nat.reduceAdd, str]; done) | (simp [mkAct, upd, str, *]; done)
      · -- operation 2
        go_wp2
        refine stq_v rfl Same.refl ?_
        first | (simp only [mkAct, List.foldl_cons, List.foldl_nil, List.setIfInBounds_toArray, List.set_cons_succ, List.set_cons_zero, upd, reduceIte, Nat.reduceEqDiff, Nat.reduceAdd, str]; done) | (simp [mkAct, upd, str, *]; done)
      · -- operation 3
        go_wp2_with (refine load_row rfl _ _ rfl w.heap.size rfl _ _ _ _ (hI.at (sb.out.at hbb.out)) Try.underlying24 rfl hinfB.out ?_)
        refine stq_v rfl Same.refl ?_
        first | (simp only [mkAct, List.foldl_cons, List.foldl_nil, List.setIfInBounds_toArray, List.set_cons_succ, List.set_cons_zero, upd, reduceIte, Nat.reduceEqDiff, Nat.reduceAdd, str]; done) | (simp [mkAct, upd, str, *]; done)
      · -- operation 4
        obtain ⟨f0, f1, f2, f3, -⟩ := hp
        replace f0 : u 0 = (.pointer (some kp)) := f0
        replace f1 : u 1 = (.int .i64 clients) := f1
        replace f2 : u 2 = (.int .i64 most) := f2
        replace f3 : u 3 = (.agg b.cells.toArray) := f3
        try simp only [f0, f1, f2, f3, str]
        go_wp2_with fail
        refine (hg1.out _ _ (BatV.same hb5'.out hI) (hka5.out.same hI)).mono ?_
        rintro e w1 ⟨rfl, hs'⟩
        go_wp2
        refine stq_v rfl hs' ?_
        first | (simp only [mkAct, List.foldl_cons, List.foldl_nil, List.setIfInBounds_toArray, List.set_cons_succ, List.set_cons_zero, upd, reduceIte, Nat.reduceEqDiff, Nat.reduceAdd, f0, f1, f2, f3, str]; done) | (simp [mkAct, upd, f0, f1, f2, f3, str, *]; done)
      · -- operation 5
        go_wp2_with (refine load_row rfl _ _ rfl w3.heap.size rfl _ _ _ _ (hI.at hb5.out) Try.underlying71 rfl hinfK.out ?_)
        refine stq_v rfl Same.refl ?_
        first | (simp only [mkAct, List.foldl_cons, List.foldl_nil, List.setIfInBounds_toArray, List.set_cons_succ, List.set_cons_zero, upd, reduceIte, Nat.reduceEqDiff, Nat.reduceAdd, str]; done) | (simp [mkAct, upd, str, *]; done)
      · -- operation 6
        go_wp2
        refine stq_v rfl Same.refl ?_
        first | (simp only [mkAct, List.foldl_cons, List.foldl_nil, List.setIfInBounds_toArray, List.set_cons_succ, List.set_cons_zero, upd, reduceIte, Nat.reduceEqDiff, Nat.reduceAdd, str]; done) | (simp [mkAct, upd, str, *]; done)
      · -- operation 7
        go_wp2
        refine stq_v rfl Same.refl ?_
        first | (simp only [mkAct, List.foldl_cons, List.foldl_nil, List.setIfInBounds_toArray, List.set_cons_succ, List.set_cons_zero, upd, reduceIte, Nat.reduceEqDiff, Nat.reduceAdd, str]; done) | (simp [mkAct, upd, str, *]; done)
      · -- operation 8
        go_wp2_with (refine load_row rfl _ _ rfl w.heap.size rfl _ _ _ _ (hI.at (sb.out.at hbb.out)) Try.underlying24 rfl hinfB.out ?_)
        refine stq_v rfl Same.refl ?_
        first | (simp only [mkAct, List.foldl_cons, List.foldl_nil, List.setIfInBounds_toArray, List.set_cons_succ, List.set_cons_zero, upd, reduceIte, Nat.reduceEqDiff, Nat.reduceAdd, str]; done) | (simp [mkAct, upd, str, *]; done)
      · -- operation 9
        obtain ⟨f5, f6, f7, f8, -, -⟩ := hp
        replace f5 : u 5 = (rkeys seedR (72 : Nat)) := f5
        replace f6 : u 6 = (.int .i64 clients) := f6
        replace f7 : u 7 = (.int .i64 most) := f7
        replace f8 : u 8 = (.agg b.cells.toArray) := f8
        try simp only [f5, f6, f7, f8, str]
        go_wp2_with fail
        refine (hg2.out _ (BatV.same hb5'.out hI)).mono ?_
        rintro e w1 ⟨rfl, hs'⟩
        go_wp2
        refine stq_v rfl hs' ?_
        first | (simp only [mkAct, List.foldl_cons, List.foldl_nil, List.setIfInBounds_toArray, List.set_cons_succ, List.set_cons_zero, upd, reduceIte, Nat.reduceEqDiff, Nat.reduceAdd, f5, f6, f7, f8, str]; done) | (simp [mkAct, upd, f5, f6, f7, f8, str, *]; done)
      · -- operation 10
        obtain ⟨f4, f9, -⟩ := hp
        replace f4 : u 4 = (.int .i64 (E : Int)) := f4
        replace f9 : u 9 = (.int .i64 (E : Int)) := f9
        try simp only [f4, f9, str]
        go_wp2
        refine stq_v rfl Same.refl ?_
        first | (simp only [mkAct, List.foldl_cons, List.foldl_nil, List.setIfInBounds_toArray, List.set_cons_succ, List.set_cons_zero, upd, reduceIte, Nat.reduceEqDiff, Nat.reduceAdd, f4, f9, str]; done) | (simp [mkAct, upd, f4, f9, str, *]; done)
      · -- operation 11
        obtain ⟨f10, -, -⟩ := hp
        replace f10 : u 10 = (.bool true) := f10
        try simp only [f10, str]
        go_wp2
        refine stq_v rfl Same.refl ?_
        first | (simp only [mkAct, List.foldl_cons, List.foldl_nil, List.setIfInBounds_toArray, List.set_cons_succ, List.set_cons_zero, upd, reduceIte, Nat.reduceEqDiff, Nat.reduceAdd, f10, str]; done) | (simp [mkAct, upd, f10, str, *]; done)
      · -- operation 12
        obtain ⟨f11, -⟩ := hp
        replace f11 : u 11 = (.bool true) := f11
        try simp only [f11, str]
        go_wp2
        refine stq_v rfl Same.refl ?_
        first | (simp only [mkAct, List.foldl_cons, List.foldl_nil, List.setIfInBounds_toArray, List.set_cons_succ, List.set_cons_zero, upd, reduceIte, Nat.reduceEqDiff, Nat.reduceAdd, f11, str]; done) | (simp [mkAct, upd, f11, str, *]; done)
      · -- operation 13
        obtain ⟨f12, f11, -⟩ := hp
        replace f12 : u 12 = (.pointer (some ⟨w.heap.size, 1, none⟩)) := f12
        replace f11 : u 11 = (.bool true) := f11
        try simp only [f12, f11, str]
        have cx := hI.cell (c1.out)
        go_wp2
        refine stq_v rfl Same.refl ?_
        first | (simp only [mkAct, List.foldl_cons, List.foldl_nil, List.setIfInBounds_toArray, List.set_cons_succ, List.set_cons_zero, upd, reduceIte, Nat.reduceEqDiff, Nat.reduceAdd, f12, f11, str]; done) | (simp [mkAct, upd, f12, f11, str, *]; done)
      · -- operation 14
        obtain ⟨f13, -, f11, -⟩ := hp
        replace f13 : u 13 = (.slice b.ao n b.c) := f13
        replace f11 : u 11 = (.bool true) := f11
        try simp only [f13, f11, str]
        go_wp2_with fail
        refine (ht1.out _ (BatV.same hb5'.out hI)).mono ?_
        rintro e w1 ⟨rfl, hs'⟩
        go_wp2
        refine stq_v rfl hs' ?_
        first | (simp only [mkAct, List.foldl_cons, List.foldl_nil, List.setIfInBounds_toArray, List.set_cons_succ, List.set_cons_zero, upd, reduceIte, Nat.reduceEqDiff, Nat.reduceAdd, f13, f11, str]; done) | (simp [mkAct, upd, f13, f11, str, *]; done)
      · -- operation 15
        obtain ⟨f11, -⟩ := hp
        replace f11 : u 11 = (.bool true) := f11
        try simp only [f11, str]
        go_wp2
        refine stq_v rfl Same.refl ?_
        first | (simp only [mkAct, List.foldl_cons, List.foldl_nil, List.setIfInBounds_toArray, List.set_cons_succ, List.set_cons_zero, upd, reduceIte, Nat.reduceEqDiff, Nat.reduceAdd, f11, str]; done) | (simp [mkAct, upd, f11, str, *]; done)
      · -- operation 16
        obtain ⟨f15, f11, -⟩ := hp
        replace f15 : u 15 = (.pointer (some ⟨w.heap.size, 1, none⟩)) := f15
        replace f11 : u 11 = (.bool true) := f11
        try simp only [f15, f11, str]
        have cx := hI.cell (c1.out)
        go_wp2
        refine stq_v rfl Same.refl ?_
        first | (simp only [mkAct, List.foldl_cons, List.foldl_nil, List.setIfInBounds_toArray, List.set_cons_succ, List.set_cons_zero, upd, reduceIte, Nat.reduceEqDiff, Nat.reduceAdd, f15, f11, str]; done) | (simp [mkAct, upd, f15, f11, str, *]; done)
      · -- operation 17
        obtain ⟨f16, -, f11, -⟩ := hp
        replace f16 : u 16 = (.slice b.ao n b.c) := f16
        replace f11 : u 11 = (.bool true) := f11
        try simp only [f16, f11, str]
        go_wp2_with fail
        refine (ht2.out _ (BatV.same hb5'.out hI)).mono ?_
        rintro e w1 ⟨rfl, hs'⟩
        go_wp2
        refine stq_v rfl hs' ?_
        first | (simp only [mkAct, List.foldl_cons, List.foldl_nil, List.setIfInBounds_toArray, List.set_cons_succ, List.set_cons_zero, upd, reduceIte, Nat.reduceEqDiff, Nat.reduceAdd, f16, f11, str]; done) | (simp [mkAct, upd, f16, f11, str, *]; done)
      · -- operation 18
        obtain ⟨f14, f17, f11, -⟩ := hp
        replace f14 : u 14 = (.int .i64 T) := f14
        replace f17 : u 17 = (.int .i64 T) := f17
        replace f11 : u 11 = (.bool true) := f11
        try simp only [f14, f17, f11, str]
        go_wp2
        refine stq_v rfl Same.refl ?_
        first | (simp only [mkAct, List.foldl_cons, List.foldl_nil, List.setIfInBounds_toArray, List.set_cons_succ, List.set_cons_zero, upd, reduceIte, Nat.reduceEqDiff, Nat.reduceAdd, f14, f17, f11, str]; done) | (simp [mkAct, upd, f14, f17, f11, str, *]; done)
      · -- operation 19
        obtain ⟨f11, f18, -⟩ := hp
        replace f11 : u 11 = (.bool true) := f11
        replace f18 : u 18 = (.bool true) := f18
        try simp only [f11, f18, str]
        go_wp2
        refine stq_v rfl Same.refl ?_
        first | (simp only [mkAct, List.foldl_cons, List.foldl_nil, List.setIfInBounds_toArray, List.set_cons_succ, List.set_cons_zero, upd, reduceIte, Nat.reduceEqDiff, Nat.reduceAdd, f11, f18, str]; done) | (simp [mkAct, upd, f11, f18, str, *]; done)
      · -- operation 20
        obtain ⟨f19, -, -⟩ := hp
        replace f19 : u 19 = (.bool true) := f19
        try simp only [f19, str]
        go_wp2
        refine stq_v rfl Same.refl ?_
        first | (simp only [mkAct, List.foldl_cons, List.foldl_nil, List.setIfInBounds_toArray, List.set_cons_succ, List.set_cons_zero, upd, reduceIte, Nat.reduceEqDiff, Nat.reduceAdd, f19, str]; done) | (simp [mkAct, upd, f19, str, *]; done)
      · -- operation 21
        obtain ⟨-, f20, -⟩ := hp
        replace f20 : u 20 = (.bool true) := f20
        try simp only [f20, str]
        go_wp2_with fail
        refine (hN.out _).mono ?_
        rintro e w1 ⟨rfl, hs'⟩
        go_wp2
        refine stq_v rfl hs' ?_
        first | (simp only [mkAct, List.foldl_cons, List.foldl_nil, List.setIfInBounds_toArray, List.set_cons_succ, List.set_cons_zero, upd, reduceIte, Nat.reduceEqDiff, Nat.reduceAdd, f20, str]; done) | (simp [mkAct, upd, f20, str, *]; done)
      · -- operation 22
        obtain ⟨f20, -⟩ := hp
        replace f20 : u 20 = (.bool true) := f20
        try simp only [f20, str]
        go_wp2_with (refine build_const (ty := 24) (.agg #[.bool true, .slice none 0 0]) rfl rfl (by kernel_rfl) ?_)
        refine stq_v rfl Same.refl ?_
        first | (simp only [mkAct, List.foldl_cons, List.foldl_nil, List.setIfInBounds_toArray, List.set_cons_succ, List.set_cons_zero, upd, reduceIte, Nat.reduceEqDiff, Nat.reduceAdd, f20, str]; done) | (simp [mkAct, upd, f20, str, *]; done)
      · -- operation 23
        obtain ⟨f21, f22, -, f20, -⟩ := hp
        replace f21 : u 21 = (.agg #[.bool true, .slice none 0 0]) := f21
        replace f22 : u 22 = (.agg #[.bool true, .slice none 0 0]) := f22
        replace f20 : u 20 = (.bool true) := f20
        try simp only [f21, f22, f20, str]
        go_wp2_with fail
        refine (hsn.out _).mono ?_
        rintro e w1 ⟨rfl, hs'⟩
        go_wp2
        refine stq_v rfl hs' ?_
        first | (simp only [mkAct, List.foldl_cons, List.foldl_nil, List.setIfInBounds_toArray, List.set_cons_succ, List.set_cons_zero, upd, reduceIte, Nat.reduceEqDiff, Nat.reduceAdd, f21, f22, f20, str]; done) | (simp [mkAct, upd, f21, f22, f20, str, *]; done)
      · -- operation 24
        obtain ⟨f20, f23, -⟩ := hp
        replace f20 : u 20 = (.bool true) := f20
        replace f23 : u 23 = (.bool true) := f23
        try simp only [f20, f23, str]
        go_wp2
        refine stq_v rfl Same.refl ?_
        first | (simp only [mkAct, List.foldl_cons, List.foldl_nil, List.setIfInBounds_toArray, List.set_cons_succ, List.set_cons_zero, upd, reduceIte, Nat.reduceEqDiff, Nat.reduceAdd, f20, f23, str]; done) | (simp [mkAct, upd, f20, f23, str, *]; done)
      · -- operation 25
        obtain ⟨f24, -, -⟩ := hp
        replace f24 : u 24 = (.bool true) := f24
        try simp only [f24, str]
        go_wp2
        refine stq_v rfl Same.refl ?_
        first | (simp only [mkAct, List.foldl_cons, List.foldl_nil, List.setIfInBounds_toArray, List.set_cons_succ, List.set_cons_zero, upd, reduceIte, Nat.reduceEqDiff, Nat.reduceAdd, f24, str]; done) | (simp [mkAct, upd, f24, str, *]; done)
      · -- operation 26
        obtain ⟨-, f25, -⟩ := hp
        replace f25 : u 25 = (.bool true) := f25
        try simp only [f25, str]
        go_wp2_with fail
        refine (hl.out _).mono ?_
        rintro e w1 ⟨rfl, hs'⟩
        go_wp2
        refine stq_v rfl hs' ?_
        first | (simp only [mkAct, List.foldl_cons, List.foldl_nil, List.setIfInBounds_toArray, List.set_cons_succ, List.set_cons_zero, upd, reduceIte, Nat.reduceEqDiff, Nat.reduceAdd, f25, str]; done) | (simp [mkAct, upd, f25, str, *]; done)
      · -- operation 27
        obtain ⟨f25, f26, -⟩ := hp
        replace f25 : u 25 = (.bool true) := f25
        replace f26 : u 26 = (.bool true) := f26
        try simp only [f25, f26, str]
        go_wp2
        refine stq_v rfl Same.refl ?_
        first | (simp only [mkAct, List.foldl_cons, List.foldl_nil, List.setIfInBounds_toArray, List.set_cons_succ, List.set_cons_zero, upd, reduceIte, Nat.reduceEqDiff, Nat.reduceAdd, f25, f26, str]; done) | (simp [mkAct, upd, f25, f26, str, *]; done)
    · intro u wx hI hR
      obtain ⟨r0, r1, r2, r3, r4, r5, r6, r7, r8, r9, r10, r11, r12, r13, r14, r15, r16, r17, r18, r19, r20, r21, r22, r23, r24, r25, r26, r27, -⟩ := hR
      replace r0 : u 0 = (.pointer (some kp)) := r0
      replace r1 : u 1 = (.int .i64 clients) := r1
      replace r2 : u 2 = (.int .i64 most) := r2
      replace r3 : u 3 = (.agg b.cells.toArray) := r3
      replace r4 : u 4 = (.int .i64 (E : Int)) := r4
      replace r5 : u 5 = (rkeys seedR (72 : Nat)) := r5
      replace r6 : u 6 = (.int .i64 clients) := r6
      replace r7 : u 7 = (.int .i64 most) := r7
      replace r8 : u 8 = (.agg b.cells.toArray) := r8
      replace r9 : u 9 = (.int .i64 (E : Int)) := r9
      replace r10 : u 10 = (.bool true) := r10
      replace r11 : u 11 = (.bool true) := r11
      replace r12 : u 12 = (.pointer (some ⟨w.heap.size, 1, none⟩)) := r12
      replace r13 : u 13 = (.slice b.ao n b.c) := r13
      replace r14 : u 14 = (.int .i64 T) := r14
      replace r15 : u 15 = (.pointer (some ⟨w.heap.size, 1, none⟩)) := r15
      replace r16 : u 16 = (.slice b.ao n b.c) := r16
      replace r17 : u 17 = (.int .i64 T) := r17
      replace r18 : u 18 = (.bool true) := r18
      replace r19 : u 19 = (.bool true) := r19
      replace r20 : u 20 = (.bool true) := r20
      replace r21 : u 21 = (.agg #[.bool true, .slice none 0 0]) := r21
      replace r22 : u 22 = (.agg #[.bool true, .slice none 0 0]) := r22
      replace r23 : u 23 = (.bool true) := r23
      replace r24 : u 24 = (.bool true) := r24
      replace r25 : u 25 = (.bool true) := r25
      replace r26 : u 26 = (.bool true) := r26
      replace r27 : u 27 = (.bool true) := r27
      simp only [mkAct, List.foldl_cons, List.foldl_nil, List.setIfInBounds_toArray, List.set_cons_succ, List.set_cons_zero]
      try simp only [str, r0, r1, r2, r3, r4, r5, r6, r7, r8, r9, r10, r11, r12, r13, r14, r15, r16, r17, r18, r19, r20, r21, r22, r23, r24, r25, r26, r27]
      go_wp2
      go_ret
      exact ⟨rfl, s0.out.trans hI⟩
end Go.Proofs.Ytgdkhiihdoekaaa
