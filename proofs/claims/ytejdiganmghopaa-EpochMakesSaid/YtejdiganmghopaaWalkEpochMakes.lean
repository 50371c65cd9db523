/-
  The walk of the law EpochMakes: which epoch begins, or why none, is as the document says; the penalties stay as they were.
-/
-- @law rep cfg, int, int, ints
import Derived.Test.YtejdiganmghopaaRdCfg
import Derived.Deep.DeepCutAuto
namespace Go.Proofs.Ytejdiganmghopaa
open Go Go.RowKit
set_option linter.unusedSimpArgs false
set_option linter.unusedVariables false

theorem zero_bad : egood zeroCfg 0 0 [] = false := by decide +kernel
theorem enew_good (c : Cfg) (number start : Int) (penal : List Int) : egood (enew c number start penal).1.cfg (enew c number start penal).1.number (enew c number start penal).1.start (enew c number start penal).1.leaders = ((enew c number start penal).2 == 0) := by
  unfold enew
  split
  · exact zero_bad
  · split
    · exact zero_bad
    · split
      · rename_i h
        rw [h]
        rfl
      · exact zero_bad
theorem zero_wf : zeroCfg.wf := by
  intro x hx
  simp [Cfg.list, zeroCfg] at hx
  subst hx
  decide
theorem enew_wf (c : Cfg) (number start : Int) (penal : List Int) (h : c.wf) : (enew c number start penal).1.cfg.wf := by
  unfold enew
  split
  · exact zero_wf
  · split
    · exact zero_wf
    · split
      · exact h
      · exact zero_wf
set_option maxRecDepth 100000 in
set_option maxHeartbeats 400000 in
theorem makes_big (w : World) (c : Cfg) (number start : Int) (ao : Option Addr) (n cap : Nat) (h : 200 < n) :
    Calls Try.prog 4 #[.agg c.cells.toArray, .int .i64 number, .int .i64 start, .slice ao n cap] w fun e w' => e = .returned (.bool true) ∧ Same w w' := by
  have hl := Lib.hid lives12
  have hinfC := Lib.hid (cfg_info c)
  go_enter Try.func4, Try.ntmps4
  go_upto_region 1 with (refine box_row rfl _ _ rfl _ rfl hinfC.out ?_; intro w0 hbx hs0; clear hbx; replace hs0 := Lib.hid hs0)
  go_wp2_with fail
  refine (hl.out _).mono ?_
  rintro e w2 ⟨rfl, hs2⟩
  go_wp2
  go_ret
  exact ⟨rfl, hs0.out.trans hs2⟩
set_option maxRecDepth 100000 in
set_option maxHeartbeats 3200000 in
theorem makes_main (w : World) (c : Cfg) (hwf : c.wf) (number start : Int) (ao : Option Addr) (n cap : Nat) (penal : List Int) (hsl : Sl w 1 ao n cap (iv penal)) (hn : n ≤ 200) :
    Calls Try.prog 4 #[.agg c.cells.toArray, .int .i64 number, .int .i64 start, .slice ao n cap] w fun e w' => e = .returned (.bool true) ∧ Same w w' := by
  have hl := Lib.hid lives12
  have hinfC := Lib.hid (cfg_info c)
  have hpl : penal.length = n := by have := hsl.len; rw [iv_length] at this; omega
  have hE := fun ao' cap' w h => enew_any c number start ao' n cap' penal w h
  have hR := fun w h => renew_any c number start ao n cap penal w h
  have hgood := enew_good c number start penal
  have hXwf := enew_wf c number start penal hwf
  obtain ⟨X, hX⟩ : ∃ X, X = enew c number start penal := ⟨_, rfl⟩
  rw [← hX] at hE hR hgood hXwf
  obtain ⟨⟨d, nb, st, L⟩, er⟩ := X
  simp only at hgood hXwf
  unfold RetEp at hE hR
  simp only at hE hR
  have hSm := fun ao ac bo bc w h1 h2 => rsame_any ⟨d, nb, st, L⟩ ⟨d, nb, st, L⟩ ao ac bo bc w h1 h2 hXwf hXwf
  simp only [esame_self] at hSm
  have hGd := fun ao cap w h => egood_any d nb st ao L.length cap L w h
  have hOf := fun ao cap w => of_any d nb st ao L.length cap w
  have hii := fun ao ac bo bc w h1 h2 => ints_any ao n ac penal bo n bc penal w h1 h2
  simp only [decide_true] at hii
  rw [hgood] at hGd
  have hinf0 := Lib.hid (ep_info zeroCfg 0 0 none 0 0)
  have hinfR0 := Lib.hid (rep_info zeroCfg 0 0 none 0 0)
  have hinfE := fun ao cap => ep_info d nb st ao L.length cap
  have hinfF := fun ao cap => rep_info d nb st ao L.length cap
  have hown := Own.empty w 3 1
  clear hX hgood hXwf hwf
  replace hsl := Lib.hid hsl
  replace hpl := Lib.hid hpl
  replace hE := Lib.hid hE
  replace hR := Lib.hid hR
  replace hSm := Lib.hid hSm
  replace hGd := Lib.hid hGd
  replace hOf := Lib.hid hOf
  replace hii := Lib.hid hii
  replace hinfE := Lib.hid hinfE
  replace hinfF := Lib.hid hinfF
  clear hown
  go_enter Try.func4, Try.ntmps4
  go_upto_region 1 with (refine box_row rfl _ _ rfl _ rfl hinfC.out ?_; intro w0 hbx hs0; have hbxl := blk_lt hbx; replace hbx := Lib.hid hbx; replace hs0 := Lib.hid hs0)
  have hown := Lib.hid (Own.empty w0 3 1)
  have hsl0 := Lib.hid ((hsl.out.same hs0.out).same (Same.alloc Same.refl (.cells #[] 3)))
  have hn' : (n : Int) ≤ 200 := by omega
  go_upto_region 4 with (at_builtin; refine append_sl rfl _ _ rfl isT hown.out rfl rfl hsl0.out iv_cell (by simp) (by omega) (by omega) ?_; intro v1 w1 ho1 hk1 hz1; clear hz1)
  have hs01 : Same w0 w1 := (Same.alloc Same.refl (.cells #[] 3)).keep hk1 (fun x hx hv => by simp [Value.ownBlock] at hv; omega)
  have ho1' : Own w1 w0.heap.size 3 1 v1 n (iv penal) := by rw [Nat.zero_add, List.nil_append] at ho1; exact ho1
  obtain ⟨oo, oc, rfl, hosl⟩ := ho1'.sl
  have hbx1 := (hs01.block _ hbxl).trans hbx.out
  have hw1 := hs0.out.trans hs01
  have hbx1l := blk_lt hbx1
  clear ho1 ho1' hk1 hown hsl0 hs01 hs0 hbx
  have hE1 := Lib.hid (hE.out _ _ _ hosl)
  replace hosl := Lib.hid hosl
  replace hw1 := Lib.hid hw1
  replace hbx1 := Lib.hid hbx1
  go_wp2_with (refine load_row rfl _ _ rfl w.heap.size rfl _ _ _ _ hbx1.out Try.underlying30 rfl hinfC.out ?_)
  refine hE1.out.mono ?_
  rintro e w2 ⟨ea, ec, rfl, hel, hs2⟩
  have hiE := Lib.hid (hinfE.out ea ec)
  replace hel := Lib.hid hel
  replace hs2 := Lib.hid hs2
  go_upto_region 5 with (first | (refine alloc_new rfl 33 rfl (epC zeroCfg 0 0 none 0 0).toArray (by kernel_rfl) ?_; intro w3 hd hs3; have hdl := blk_lt hd; replace hd := Lib.hid hd; replace hs3 := Lib.hid hs3) | (refine store_row rfl _ _ _ rfl w2.heap.size _ rfl rfl _ _ hd.out hiE.out rfl (ep_one _ _ _ _ _ _) ?_; intro w4 hb4 hk4))
  have hs24 : Same w2 w4 := hs3.out.keep hk4 (fun x hx hv => by omega)
  have hs14 := hs2.out.trans hs24
  have hbx4 := (hs14.block _ hbx1l).trans hbx1.out
  have hel4 := hel.out.same hs24
  have hw4 := hw1.out.trans hs14
  have ho4 := hosl.out.same hs14
  have hb4l := blk_lt hb4
  have hz4 := hs24.size
  have hR4 := Lib.hid (hR.out w4 (hsl.out.same hw4))
  clear hk4 hs3 hd hs24 hs14 hs2 hel hbx1 hw1 hosl hE1
  replace hbx4 := Lib.hid hbx4
  replace hb4 := Lib.hid hb4
  replace hel4 := Lib.hid hel4
  replace hw4 := Lib.hid hw4
  replace ho4 := Lib.hid ho4
  go_simp
  go_wp2_with (refine load_row rfl _ _ rfl w.heap.size rfl _ _ _ _ hbx4.out Try.underlying30 rfl hinfC.out ?_)
  refine hR4.out.mono ?_
  rintro e w5 ⟨fa, fc, rfl, hfl, hs5⟩
  have hiF := Lib.hid (hinfF.out fa fc)
  replace hfl := Lib.hid hfl
  replace hs5 := Lib.hid hs5
  go_upto_region 6 with (first | (refine alloc_new rfl 37 rfl (epC zeroCfg 0 0 none 0 0).toArray (by kernel_rfl) ?_; intro w6 hd hs6; have hdl := blk_lt hd; replace hd := Lib.hid hd; replace hs6 := Lib.hid hs6) | (refine store_row rfl _ _ _ rfl w5.heap.size _ rfl rfl _ _ hd.out hiF.out rfl (ep_one _ _ _ _ _ _) ?_; intro w7 hb7 hk7))
  have hs57 : Same w5 w7 := hs6.out.keep hk7 (fun x hx hv => by omega)
  have hs47 := hs5.out.trans hs57
  have hb47 := (hs47.block _ hb4l).trans hb4.out
  have hel7 := hel4.out.same hs47
  have hfl7 := hfl.out.same hs57
  have ho7 := ho4.out.same hs47
  have hw7 := hw4.out.trans hs47
  have hsl7 := hsl.out.same hw7
  have hb47l := blk_lt hb47
  have hb7l := blk_lt hb7
  clear hk7 hs6 hd hs57 hs47 hs5 hfl hel4 hb4 ho4 hw4 hbx4 hR4
  replace hb47 := Lib.hid hb47
  replace hb7 := Lib.hid hb7
  replace hel7 := Lib.hid hel7
  replace hfl7 := Lib.hid hfl7
  replace ho7 := Lib.hid ho7
  replace hw7 := Lib.hid hw7
  replace hsl7 := Lib.hid hsl7
  obtain ⟨g, hg⟩ : ∃ g, g = (er == 0) := ⟨_, rfl⟩
  have hGd2 : Hid (∀ (ao : Option Addr) (cap : Nat) (w : World), Sl w 1 ao L.length cap (iv L) → Calls Try.prog 24 #[.agg (epC d nb st ao L.length cap).toArray] w fun e w' => e = .returned (.bool g) ∧ Same w w') := by rw [hg]; exact hGd
  have hg2 := hg.symm
  clear hGd hg
  have hee : ∀ x : Int, (x == x) = true := fun x => by simp
  go_simp
  refine wp_region_tails (by kernel_rfl) [(37, 0), (38, 1), (39, 2), (40, 3), (41, 4), (42, 5), (43, 6), (44, 7), (45, 8), (46, 9), (47, 10), (48, 11), (49, 12), (50, 13), (51, 14), (52, 15), (53, 16), (54, 17), (55, 18), (56, 19), (57, 20), (58, 21), (59, 22), (60, 23)] Same (Same _) [isV (.agg (epC d nb st ea L.length ec).toArray), isV (.agg (epC d nb st ea L.length ec).toArray), isV (.agg (epC d nb st fa L.length fc).toArray), isV (.bool true), isV (.bool true), isV (.int .i64 er), isV (.int .i64 er), isV (.bool true), isV (.bool true), isV (.bool true), isV (.slice oo n oc), isV (.slice ao n cap), isV (.bool true), isV (.bool true), isV (.bool true), isV (.int .i64 er), isV (.bool g), isV (.agg (epC d nb st ea L.length ec).toArray), isV (.bool g), isV (.bool true), isV (.bool true), isV (.bool true), isV (.bool true), isV (.bool true)] Same.refl.drew (fun _ _ h k => h.trans k) (by simp [isV_stable, isB_stable, isAny_stable]) (by decide) (l := [_, _, _, _, _, _, _, _, _, _, _, _, _, _, _, _, _, _, _, _, _, _, _, _]) rfl (by decide) (by kernel_rfl) ?_ ?_
  · refine ⟨?_, ?_, ?_, ?_, ?_, ?_, ?_, ?_, ?_, ?_, ?_, ?_, ?_, ?_, ?_, ?_, ?_, ?_, ?_, ?_, ?_, ?_, ?_, ?_, trivial⟩
    all_goals (intro u wx hI hp; simp only [mkAct, List.foldl_cons, List.foldl_nil, List.setIfInBounds_toArray, List.set_cons_succ, List.set_cons_zero])
    · -- operation 0
      go_wp2_with (refine load_row rfl _ _ rfl w2.heap.size rfl _ _ _ _ ((hI.block _ hb47l).trans hb47.out) Try.underlying33 rfl hiE.out ?_)
      refine stq_v rfl Same.refl ?_
      first | (simp only [mkAct, List.foldl_cons, List.foldl_nil, List.setIfInBounds_toArray, List.set_cons_succ, List.set_cons_zero, upd, reduceIte, Nat.reduceEqDiff, Nat.reduceAdd, str]; done) | (simp [mkAct, upd, str, *]; done)
    · -- operation 1
      obtain ⟨f0, -⟩ := hp
      replace f0 : u 0 = (.agg (epC d nb st ea L.length ec).toArray) := f0
      try simp only [f0, str]
      go_wp2_with fail
      refine (hOf.out _ _ _).mono ?_
      rintro e w1 ⟨rfl, hs'⟩
      go_wp2
      refine stq_v rfl hs' ?_
      first | (simp only [mkAct, List.foldl_cons, List.foldl_nil, List.setIfInBounds_toArray, List.set_cons_succ, List.set_cons_zero, upd, reduceIte, Nat.reduceEqDiff, Nat.reduceAdd, f0, str]; done) | (simp [mkAct, upd, f0, str, *]; done)
    · -- operation 2
      go_wp2_with (refine load_row rfl _ _ rfl w5.heap.size rfl _ _ _ _ ((hI.block _ hb7l).trans hb7.out) Try.underlying37 rfl hiF.out ?_)
      refine stq_v rfl Same.refl ?_
      first | (simp only [mkAct, List.foldl_cons, List.foldl_nil, List.setIfInBounds_toArray, List.set_cons_succ, List.set_cons_zero, upd, reduceIte, Nat.reduceEqDiff, Nat.reduceAdd, str]; done) | (simp [mkAct, upd, str, *]; done)
    · -- operation 3
      obtain ⟨f1, f2, -, -⟩ := hp
      replace f1 : u 1 = (.agg (epC d nb st ea L.length ec).toArray) := f1
      replace f2 : u 2 = (.agg (epC d nb st fa L.length fc).toArray) := f2
      try simp only [f1, f2, str]
      go_wp2_with fail
      refine (hSm.out _ _ _ _ _ (hel7.out.same hI) (hfl7.out.same hI)).mono ?_
      rintro e w1 ⟨rfl, hs'⟩
      go_wp2
      refine stq_v rfl hs' ?_
      first | (simp only [mkAct, List.foldl_cons, List.foldl_nil, List.setIfInBounds_toArray, List.set_cons_succ, List.set_cons_zero, upd, reduceIte, Nat.reduceEqDiff, Nat.reduceAdd, f1, f2, str]; done) | (simp [mkAct, upd, f1, f2, str, *]; done)
    · -- operation 4
      obtain ⟨f3, -, -⟩ := hp
      replace f3 : u 3 = (.bool true) := f3
      try simp only [f3, str]
      go_wp2
      refine stq_v rfl Same.refl ?_
      first | (simp only [mkAct, List.foldl_cons, List.foldl_nil, List.setIfInBounds_toArray, List.set_cons_succ, List.set_cons_zero, upd, reduceIte, Nat.reduceEqDiff, Nat.reduceAdd, f3, str]; done) | (simp [mkAct, upd, f3, str, *]; done)
    · -- operation 5
      obtain ⟨f4, -⟩ := hp
      replace f4 : u 4 = (.bool true) := f4
      try simp only [f4, str]
      go_wp2
      refine stq_v rfl Same.refl ?_
      first | (simp only [mkAct, List.foldl_cons, List.foldl_nil, List.setIfInBounds_toArray, List.set_cons_succ, List.set_cons_zero, upd, reduceIte, Nat.reduceEqDiff, Nat.reduceAdd, f4, str]; done) | (simp [mkAct, upd, f4, str, *]; done)
    · -- operation 6
      obtain ⟨f4, -⟩ := hp
      replace f4 : u 4 = (.bool true) := f4
      try simp only [f4, str]
      go_wp2
      refine stq_v rfl Same.refl ?_
      first | (simp only [mkAct, List.foldl_cons, List.foldl_nil, List.setIfInBounds_toArray, List.set_cons_succ, List.set_cons_zero, upd, reduceIte, Nat.reduceEqDiff, Nat.reduceAdd, f4, str]; done) | (simp [mkAct, upd, f4, str, *]; done)
    · -- operation 7
      obtain ⟨f5, f6, f4, -⟩ := hp
      replace f5 : u 5 = (.int .i64 er) := f5
      replace f6 : u 6 = (.int .i64 er) := f6
      replace f4 : u 4 = (.bool true) := f4
      try simp only [f5, f6, f4, str]
      go_wp2
      refine stq_v rfl Same.refl ?_
      first | (simp only [mkAct, List.foldl_cons, List.foldl_nil, List.setIfInBounds_toArray, List.set_cons_succ, List.set_cons_zero, upd, reduceIte, Nat.reduceEqDiff, Nat.reduceAdd, f5, f6, f4, str]; done) | (simp [mkAct, upd, f5, f6, f4, str, *]; done)
    · -- operation 8
      obtain ⟨f4, f7, -⟩ := hp
      replace f4 : u 4 = (.bool true) := f4
      replace f7 : u 7 = (.bool true) := f7
      try simp only [f4, f7, str]
      go_wp2
      refine stq_v rfl Same.refl ?_
      first | (simp only [mkAct, List.foldl_cons, List.foldl_nil, List.setIfInBounds_toArray, List.set_cons_succ, List.set_cons_zero, upd, reduceIte, Nat.reduceEqDiff, Nat.reduceAdd, f4, f7, str]; done) | (simp [mkAct, upd, f4, f7, str, *]; done)
    · -- operation 9
      obtain ⟨f8, -, -⟩ := hp
      replace f8 : u 8 = (.bool true) := f8
      try simp only [f8, str]
      go_wp2
      refine stq_v rfl Same.refl ?_
      first | (simp only [mkAct, List.foldl_cons, List.foldl_nil, List.setIfInBounds_toArray, List.set_cons_succ, List.set_cons_zero, upd, reduceIte, Nat.reduceEqDiff, Nat.reduceAdd, f8, str]; done) | (simp [mkAct, upd, f8, str, *]; done)
    · -- operation 10
      obtain ⟨f9, -⟩ := hp
      replace f9 : u 9 = (.bool true) := f9
      try simp only [f9, str]
      go_wp2
      refine stq_v rfl Same.refl ?_
      first | (simp only [mkAct, List.foldl_cons, List.foldl_nil, List.setIfInBounds_toArray, List.set_cons_succ, List.set_cons_zero, upd, reduceIte, Nat.reduceEqDiff, Nat.reduceAdd, f9, str]; done) | (simp [mkAct, upd, f9, str, *]; done)
    · -- operation 11
      obtain ⟨f9, -⟩ := hp
      replace f9 : u 9 = (.bool true) := f9
      try simp only [f9, str]
      go_wp2
      refine stq_v rfl Same.refl ?_
      first | (simp only [mkAct, List.foldl_cons, List.foldl_nil, List.setIfInBounds_toArray, List.set_cons_succ, List.set_cons_zero, upd, reduceIte, Nat.reduceEqDiff, Nat.reduceAdd, f9, str]; done) | (simp [mkAct, upd, f9, str, *]; done)
    · -- operation 12
      obtain ⟨f10, f11, -, f9, -⟩ := hp
      replace f10 : u 10 = (.slice oo n oc) := f10
      replace f11 : u 11 = (.slice ao n cap) := f11
      replace f9 : u 9 = (.bool true) := f9
      try simp only [f10, f11, f9, str]
      go_wp2_with fail
      refine (hii.out _ _ _ _ _ (ho7.out.same hI) (hsl7.out.same hI)).mono ?_
      rintro e w1 ⟨rfl, hs'⟩
      go_wp2
      refine stq_v rfl hs' ?_
      first | (simp only [mkAct, List.foldl_cons, List.foldl_nil, List.setIfInBounds_toArray, List.set_cons_succ, List.set_cons_zero, upd, reduceIte, Nat.reduceEqDiff, Nat.reduceAdd, f10, f11, f9, str]; done) | (simp [mkAct, upd, f10, f11, f9, str, *]; done)
    · -- operation 13
      obtain ⟨f9, f12, -⟩ := hp
      replace f9 : u 9 = (.bool true) := f9
      replace f12 : u 12 = (.bool true) := f12
      try simp only [f9, f12, str]
      go_wp2
      refine stq_v rfl Same.refl ?_
      first | (simp only [mkAct, List.foldl_cons, List.foldl_nil, List.setIfInBounds_toArray, List.set_cons_succ, List.set_cons_zero, upd, reduceIte, Nat.reduceEqDiff, Nat.reduceAdd, f9, f12, str]; done) | (simp [mkAct, upd, f9, f12, str, *]; done)
    · -- operation 14
      obtain ⟨f13, -, -⟩ := hp
      replace f13 : u 13 = (.bool true) := f13
      try simp only [f13, str]
      go_wp2
      refine stq_v rfl Same.refl ?_
      first | (simp only [mkAct, List.foldl_cons, List.foldl_nil, List.setIfInBounds_toArray, List.set_cons_succ, List.set_cons_zero, upd, reduceIte, Nat.reduceEqDiff, Nat.reduceAdd, f13, str]; done) | (simp [mkAct, upd, f13, str, *]; done)
    · -- operation 15
      obtain ⟨f14, -⟩ := hp
      replace f14 : u 14 = (.bool true) := f14
      try simp only [f14, str]
      go_wp2
      refine stq_v rfl Same.refl ?_
      first | (simp only [mkAct, List.foldl_cons, List.foldl_nil, List.setIfInBounds_toArray, List.set_cons_succ, List.set_cons_zero, upd, reduceIte, Nat.reduceEqDiff, Nat.reduceAdd, f14, str]; done) | (simp [mkAct, upd, f14, str, *]; done)
    · -- operation 16
      obtain ⟨f15, f14, -⟩ := hp
      replace f15 : u 15 = (.int .i64 er) := f15
      replace f14 : u 14 = (.bool true) := f14
      try simp only [f15, f14, str]
      go_wp2
      refine stq_v rfl Same.refl ?_
      first | (simp only [mkAct, List.foldl_cons, List.foldl_nil, List.setIfInBounds_toArray, List.set_cons_succ, List.set_cons_zero, upd, reduceIte, Nat.reduceEqDiff, Nat.reduceAdd, f15, f14, str]; done) | (simp [mkAct, upd, f15, f14, str, *]; done)
    · -- operation 17
      obtain ⟨f14, -⟩ := hp
      replace f14 : u 14 = (.bool true) := f14
      try simp only [f14, str]
      go_wp2_with (refine load_row rfl _ _ rfl w2.heap.size rfl _ _ _ _ ((hI.block _ hb47l).trans hb47.out) Try.underlying33 rfl hiE.out ?_)
      refine stq_v rfl Same.refl ?_
      first | (simp only [mkAct, List.foldl_cons, List.foldl_nil, List.setIfInBounds_toArray, List.set_cons_succ, List.set_cons_zero, upd, reduceIte, Nat.reduceEqDiff, Nat.reduceAdd, f14, str]; done) | (simp [mkAct, upd, f14, str, *]; done)
    · -- operation 18
      obtain ⟨f17, -, f14, -⟩ := hp
      replace f17 : u 17 = (.agg (epC d nb st ea L.length ec).toArray) := f17
      replace f14 : u 14 = (.bool true) := f14
      try simp only [f17, f14, str]
      go_wp2_with fail
      refine (hGd2.out _ _ _ (hel7.out.same hI)).mono ?_
      rintro e w1 ⟨rfl, hs'⟩
      go_wp2
      refine stq_v rfl hs' ?_
      first | (simp only [mkAct, List.foldl_cons, List.foldl_nil, List.setIfInBounds_toArray, List.set_cons_succ, List.set_cons_zero, upd, reduceIte, Nat.reduceEqDiff, Nat.reduceAdd, f17, f14, str]; done) | (simp [mkAct, upd, f17, f14, str, *]; done)
    · -- operation 19
      obtain ⟨f16, f18, f14, -⟩ := hp
      replace f16 : u 16 = (.bool g) := f16
      replace f18 : u 18 = (.bool g) := f18
      replace f14 : u 14 = (.bool true) := f14
      try simp only [f16, f18, f14, str]
      go_wp2
      refine stq_v rfl Same.refl ?_
      first | (simp only [mkAct, List.foldl_cons, List.foldl_nil, List.setIfInBounds_toArray, List.set_cons_succ, List.set_cons_zero, upd, reduceIte, Nat.reduceEqDiff, Nat.reduceAdd, f16, f18, f14, str]; done) | (simp [mkAct, upd, f16, f18, f14, str, *]; done)
    · -- operation 20
      obtain ⟨f14, f19, -⟩ := hp
      replace f14 : u 14 = (.bool true) := f14
      replace f19 : u 19 = (.bool true) := f19
      try simp only [f14, f19, str]
      go_wp2
      refine stq_v rfl Same.refl ?_
      first | (simp only [mkAct, List.foldl_cons, List.foldl_nil, List.setIfInBounds_toArray, List.set_cons_succ, List.set_cons_zero, upd, reduceIte, Nat.reduceEqDiff, Nat.reduceAdd, f14, f19, str]; done) | (simp [mkAct, upd, f14, f19, str, *]; done)
    · -- operation 21
      obtain ⟨f20, -, -⟩ := hp
      replace f20 : u 20 = (.bool true) := f20
      try simp only [f20, str]
      go_wp2
      refine stq_v rfl Same.refl ?_
      first | (simp only [mkAct, List.foldl_cons, List.foldl_nil, List.setIfInBounds_toArray, List.set_cons_succ, List.set_cons_zero, upd, reduceIte, Nat.reduceEqDiff, Nat.reduceAdd, f20, str]; done) | (simp [mkAct, upd, f20, str, *]; done)
    · -- operation 22
      obtain ⟨-, f21, -⟩ := hp
      replace f21 : u 21 = (.bool true) := f21
      try simp only [f21, str]
      go_wp2_with fail
      refine (hl.out _).mono ?_
      rintro e w1 ⟨rfl, hs'⟩
      go_wp2
      refine stq_v rfl hs' ?_
      first | (simp only [mkAct, List.foldl_cons, List.foldl_nil, List.setIfInBounds_toArray, List.set_cons_succ, List.set_cons_zero, upd, reduceIte, Nat.reduceEqDiff, Nat.reduceAdd, f21, str]; done) | (simp [mkAct, upd, f21, str, *]; done)
    · -- operation 23
      obtain ⟨f21, f22, -⟩ := hp
      replace f21 : u 21 = (.bool true) := f21
      replace f22 : u 22 = (.bool true) := f22
      try simp only [f21, f22, str]
      go_wp2
      refine stq_v rfl Same.refl ?_
      first | (simp only [mkAct, List.foldl_cons, List.foldl_nil, List.setIfInBounds_toArray, List.set_cons_succ, List.set_cons_zero, upd, reduceIte, Nat.reduceEqDiff, Nat.reduceAdd, f21, f22, str]; done) | (simp [mkAct, upd, f21, f22, str, *]; done)
  · intro u wx hI hR
    obtain ⟨r0, r1, r2, r3, r4, r5, r6, r7, r8, r9, r10, r11, r12, r13, r14, r15, r16, r17, r18, r19, r20, r21, r22, r23, -⟩ := hR
    replace r0 : u 0 = (.agg (epC d nb st ea L.length ec).toArray) := r0
    replace r1 : u 1 = (.agg (epC d nb st ea L.length ec).toArray) := r1
    replace r2 : u 2 = (.agg (epC d nb st fa L.length fc).toArray) := r2
    replace r3 : u 3 = (.bool true) := r3
    replace r4 : u 4 = (.bool true) := r4
    replace r5 : u 5 = (.int .i64 er) := r5
    replace r6 : u 6 = (.int .i64 er) := r6
    replace r7 : u 7 = (.bool true) := r7
    replace r8 : u 8 = (.bool true) := r8
    replace r9 : u 9 = (.bool true) := r9
    replace r10 : u 10 = (.slice oo n oc) := r10
    replace r11 : u 11 = (.slice ao n cap) := r11
    replace r12 : u 12 = (.bool true) := r12
    replace r13 : u 13 = (.bool true) := r13
    replace r14 : u 14 = (.bool true) := r14
    replace r15 : u 15 = (.int .i64 er) := r15
    replace r16 : u 16 = (.bool g) := r16
    replace r17 : u 17 = (.agg (epC d nb st ea L.length ec).toArray) := r17
    replace r18 : u 18 = (.bool g) := r18
    replace r19 : u 19 = (.bool true) := r19
    replace r20 : u 20 = (.bool true) := r20
    replace r21 : u 21 = (.bool true) := r21
    replace r22 : u 22 = (.bool true) := r22
    replace r23 : u 23 = (.bool true) := r23
    simp only [mkAct, List.foldl_cons, List.foldl_nil, List.setIfInBounds_toArray, List.set_cons_succ, List.set_cons_zero]
    try simp only [str, r0, r1, r2, r3, r4, r5, r6, r7, r8, r9, r10, r11, r12, r13, r14, r15, r16, r17, r18, r19, r20, r21, r22, r23]
    go_wp2
    go_ret
    exact ⟨rfl, hw7.out.trans hI⟩
theorem walk_EpochMakes (w : World) (c : Cfg) (hwf : c.wf) (number : Int) (hn : (Lit.int .i64 number).wf = true) (start : Int) (hs : (Lit.int .i64 start).wf = true) (ao : Option Addr) (n cap : Nat) (penal : List Int) (hsl : Sl w 1 ao n cap (iv penal)) (_hp : ∀ n ∈ penal, (Lit.int .i64 n).wf = true) :
    Calls Try.prog 4 #[.agg c.cells.toArray, .int .i64 number, .int .i64 start, .slice ao n cap] w fun e w' => e = .returned (.bool true) ∧ Same w w' := by
  by_cases h : 200 < n
  · exact makes_big w c number start ao n cap h
  · exact makes_main w c hwf number start ao n cap penal hsl (by omega)
end Go.Proofs.Ytejdiganmghopaa
