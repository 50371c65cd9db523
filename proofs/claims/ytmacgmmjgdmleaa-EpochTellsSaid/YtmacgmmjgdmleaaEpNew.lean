/-
  Epochs that begin: epoch.New, raddleref12.New.
-/
import Derived.Test.YtmacgmmjgdmleaaEpoch
namespace Go.Proofs.Ytmacgmmjgdmleaa
open Go Go.RowKit
set_option linter.unusedSimpArgs false
set_option linter.unusedVariables false

structure EpV where
  cfg : Cfg
  number : Int
  start : Int
  leaders : List Int
def zeroCfg : Cfg := ⟨0, 0, 0, 0, 0, 0, 0, 0, 0, 0⟩
def zeroEp : EpV := ⟨zeroCfg, 0, 0, []⟩
/-- Which epoch begins, and the error's number. -/
def enew (c : Cfg) (number start : Int) (penal : List Int) : EpV × Int :=
  if c.good = false then (zeroEp, 110) else if c.last < number then (zeroEp, 250) else if egood c number start (leads c number penal) = true then (⟨c, number, start, leads c number penal⟩, 0) else (zeroEp, 251)
def RetEp (w : World) (x : EpV × Int) (e : Ending) (w' : World) : Prop :=
  ∃ ao cap, e = .returned (.tuple #[.agg (epC x.1.cfg x.1.number x.1.start ao x.1.leaders.length cap).toArray, .int .i64 x.2]) ∧ Sl w' 1 ao x.1.leaders.length cap (iv x.1.leaders) ∧ Same w w'
theorem ep_one (c : Cfg) (number start : Int) (ao : Option Addr) (len cap : Nat) : (epC c number start ao len cap).toArray.all (·.oneCell') = true := by
  simp [epC, Cfg.cells, Cfg.list, iv, Value.oneCell']
/-- A new block that holds an epoch of nothing. -/
def isNewEp (B T : Nat) : Value → World → Prop := fun v w => ∃ g, v = .pointer (some ⟨g, 0, none⟩) ∧ B ≤ g ∧ w.heap[g]? = some (.cells (epC zeroCfg 0 0 none 0 0).toArray T (0, 0))
theorem isNewEp_stable (B T : Nat) : Stable Same (isNewEp B T) := fun _ _ _ k ⟨g, h1, h2, h3⟩ => ⟨g, h1, h2, (k.block _ (blk_lt h3)).trans h3⟩
/-- Numbers in a row of the call's own. -/
def isI (B : Nat) (L : List Int) : Value → World → Prop := fun v w => ∃ ao cap, v = .slice ao L.length cap ∧ Own w B 3 1 (.slice ao L.length cap) L.length (iv L)
theorem isI_stable (B : Nat) (L : List Int) : Stable Same (isI B L) := fun _ _ _ k ⟨ao, cap, h1, h2⟩ => ⟨ao, cap, h1, h2.same k⟩
def isEp (B : Nat) (c : Cfg) (number start : Int) (L : List Int) : Value → World → Prop := fun v w => ∃ ao cap, v = .agg (epC c number start ao L.length cap).toArray ∧ Own w B 3 1 (.slice ao L.length cap) L.length (iv L)
theorem isEp_stable (B : Nat) (c : Cfg) (number start : Int) (L : List Int) : Stable Same (isEp B c number start L) := fun _ _ _ k ⟨ao, cap, h1, h2⟩ => ⟨ao, cap, h1, h2.same k⟩
theorem Own.slS {w : World} {B t sz n c : Nat} {ao : Option Addr} {xs : List Value} (h : Own w B t sz (.slice ao n c) n xs) : Sl w sz ao n c xs := by
  obtain ⟨_, _, he, hs⟩ := h.sl
  injection he with h1 h2 h3
  subst h1
  subst h3
  exact hs
theorem own_ne {w : World} {B t T sz n g : Nat} {v : Value} {xs : List Value} {cs : Array Value} {fr : Nat × Nat} (h : Own w B t sz v n xs) (hb : w.heap[g]? = some (.cells cs T fr)) (hT : t ≠ T) : ∀ b, v.ownBlock = some b → b ≠ g := by
  rintro b hv rfl
  rcases h.2 with ⟨rfl, _⟩ | ⟨g', cap, cur, rfl, h1, h2, _⟩
  · cases hv
  · simp only [Value.ownBlock, Option.some.injEq] at hv
    subst hv
    rw [h2] at hb
    injection hb with hb
    injection hb with _ hb
    exact hT hb
set_option maxRecDepth 100000 in
set_option maxHeartbeats 1600000 in
theorem enew_any (c : Cfg) (number start : Int) (ao : Option Addr) (len cap : Nat) (penal : List Int) (w : World) (hsl : Sl w 1 ao len cap (iv penal)) :
    Calls Try.prog 125 #[.agg c.cells.toArray, .int .i64 number, .int .i64 start, .slice ao len cap] w (RetEp w (enew c number start penal)) := by
  have hinfC := Lib.hid (cfg_info c)
  have hinf0 := Lib.hid (ep_info zeroCfg 0 0 none 0 0)
  have hcg := fun w => cgood_any c w
  have hli := fun w h => list_any c number ao len cap penal w h
  have he2 : (c.err != 0) = !c.good := by rw [← c.err_eq]; rfl
  have hgd := fun ao' cap' w h => egood_any c number start ao' (leads c number penal).length cap' (leads c number penal) w h
  obtain ⟨X, hX⟩ : ∃ X, X = enew c number start penal := ⟨_, rfl⟩
  rw [← hX]
  unfold enew at hX
  obtain ⟨L, hL⟩ : ∃ L, L = leads c number penal := ⟨_, rfl⟩
  rw [← hL] at hX hli hgd
  obtain ⟨G, hG⟩ : ∃ G, G = egood c number start L := ⟨_, rfl⟩
  rw [← hG] at hX hgd
  have herr : c.good = false → c.err = 110 := fun h => by rw [Cfg.err, h]; rfl
  obtain ⟨E, hE⟩ : ∃ E, E = c.err := ⟨_, rfl⟩
  rw [← hE] at hcg he2 herr
  obtain ⟨la, hla⟩ : ∃ x, x = c.last := ⟨_, rfl⟩
  rw [← hla] at hX
  clear hL hG hE
  replace hla := Lib.hid hla
  replace hcg := Lib.hid hcg
  replace hsl := Lib.hid hsl
  replace hli := Lib.hid hli
  replace hgd := Lib.hid hgd
  cases hc : c.good
  · rw [if_pos hc] at hX
    rw [hc] at he2
    have hE := herr hc
    clear hc herr
    replace hX := Lib.hid hX
    replace hE := Lib.hid hE
    go_enter Try.func125, Try.ntmps125
    go_upto_region 1 with (first | (refine box_row rfl _ _ rfl _ rfl hinfC.out ?_; intro w0 hbx hs0; have hbxl := blk_lt hbx; replace hbx := Lib.hid hbx; replace hs0 := Lib.hid hs0) | (refine alloc_new rfl 124 rfl (epC zeroCfg 0 0 none 0 0).toArray (by kernel_rfl) ?_; intro w1 hd hs1; have hdl := blk_lt hd; replace hd := Lib.hid hd; replace hs1 := Lib.hid hs1))
    have hbx1 := Lib.hid ((hs1.out.block _ hbxl).trans hbx.out)
    go_wp2_with (refine load_row rfl _ _ rfl w.heap.size rfl _ _ _ _ hbx1.out Try.underlying68 rfl hinfC.out ?_)
    refine (hcg.out _).mono ?_
    rintro e w2 ⟨rfl, hs2⟩
    have hd2 := (hs2.block _ hdl).trans hd.out
    have hw2 := (hs0.out.trans hs1.out).trans hs2
    clear hs2
    replace hd2 := Lib.hid hd2
    replace hw2 := Lib.hid hw2
    go_wp2_with (first | (refine build_const (ty := 124) (.agg (epC zeroCfg 0 0 none 0 0).toArray) rfl rfl (by kernel_rfl) ?_) | (refine store_row rfl _ _ _ rfl w0.heap.size _ rfl rfl _ _ hd2.out hinf0.out rfl (ep_one _ _ _ _ _ _) ?_; intro w3 hb3 hk3; replace hb3 := Lib.hid hb3; replace hk3 := Lib.hid hk3))
    refine bodyPost_ret (v := .tuple #[.agg (epC zeroCfg 0 0 none 0 0).toArray, .int .i64 E]) (results_row2 (p := 8) (q := 9) (ty := 124) rfl _ _ w0.heap.size _ _ _ _ _ rfl rfl hb3.out Try.underlying124 rfl hinf0.out) rfl ?_
    have hs0z := hs0.out.size
    exact ⟨none, 0, by rw [hX.out, hE.out]; rfl, by rw [hX.out]; exact Sl.none _ 1, hw2.out.keep hk3.out (fun x hx hv => by omega)⟩
  · rw [if_neg (by rw [hc]; simp)] at hX
    rw [hc] at he2
    clear hc herr
    by_cases hn : la < number
    · rw [if_pos hn] at hX
      replace hX := Lib.hid hX
      go_enter Try.func125, Try.ntmps125
      go_upto_region 1 with (first | (refine box_row rfl _ _ rfl _ rfl hinfC.out ?_; intro w0 hbx hs0; have hbxl := blk_lt hbx; replace hbx := Lib.hid hbx; replace hs0 := Lib.hid hs0) | (refine alloc_new rfl 124 rfl (epC zeroCfg 0 0 none 0 0).toArray (by kernel_rfl) ?_; intro w1 hd hs1; have hdl := blk_lt hd; replace hd := Lib.hid hd; replace hs1 := Lib.hid hs1))
      have hbx1 := (hs1.out.block _ hbxl).trans hbx.out
      have n9 : w1.cell? ⟨w.heap.size, 9, none⟩ = some (.int .i64 la) := by rw [hla.out]; exact cfg_cell hbx1 9 (by omega)
      replace hbx1 := Lib.hid hbx1
      replace n9 := Lib.hid n9
      go_wp2_with (refine load_row rfl _ _ rfl w.heap.size rfl _ _ _ _ hbx1.out Try.underlying68 rfl hinfC.out ?_)
      refine (hcg.out _).mono ?_
      rintro e w2 ⟨rfl, hs2⟩
      have hd2 := (hs2.block _ hdl).trans hd.out
      have hw2 := (hs0.out.trans hs1.out).trans hs2
      have n9' := hs2.cell n9.out
      clear hs2
      replace hd2 := Lib.hid hd2
      replace hw2 := Lib.hid hw2
      go_wp2_with (first | (refine build_const (ty := 124) (.agg (epC zeroCfg 0 0 none 0 0).toArray) rfl rfl (by kernel_rfl) ?_) | (refine store_row rfl _ _ _ rfl w0.heap.size _ rfl rfl _ _ hd2.out hinf0.out rfl (ep_one _ _ _ _ _ _) ?_; intro w3 hb3 hk3; replace hb3 := Lib.hid hb3; replace hk3 := Lib.hid hk3))
      refine bodyPost_ret (v := .tuple #[.agg (epC zeroCfg 0 0 none 0 0).toArray, .int .i64 250]) (results_row2 (p := 8) (q := 9) (ty := 124) rfl _ _ w0.heap.size _ _ _ _ _ rfl rfl hb3.out Try.underlying124 rfl hinf0.out) rfl ?_
      have hs0z := hs0.out.size
      exact ⟨none, 0, by rw [hX.out]; rfl, by rw [hX.out]; exact Sl.none _ 1, hw2.out.keep hk3.out (fun x hx hv => by omega)⟩
    · rw [if_neg hn] at hX
      replace hX := Lib.hid hX
      go_enter Try.func125, Try.ntmps125
      go_upto_region 1 with (first | (refine box_row rfl _ _ rfl _ rfl hinfC.out ?_; intro w0 hbx hs0; have hbxl := blk_lt hbx; replace hbx := Lib.hid hbx; replace hs0 := Lib.hid hs0) | (refine alloc_new rfl 124 rfl (epC zeroCfg 0 0 none 0 0).toArray (by kernel_rfl) ?_; intro w1 hd hs1; have hdl := blk_lt hd; replace hd := Lib.hid hd; replace hs1 := Lib.hid hs1))
      have hbx1 := (hs1.out.block _ hbxl).trans hbx.out
      have n9 : w1.cell? ⟨w.heap.size, 9, none⟩ = some (.int .i64 la) := by rw [hla.out]; exact cfg_cell hbx1 9 (by omega)
      replace hbx1 := Lib.hid hbx1
      replace n9 := Lib.hid n9
      go_wp2_with (refine load_row rfl _ _ rfl w.heap.size rfl _ _ _ _ hbx1.out Try.underlying68 rfl hinfC.out ?_)
      refine (hcg.out _).mono ?_
      rintro e w2 ⟨rfl, hs2⟩
      have hd2 := (hs2.block _ hdl).trans hd.out
      have hbx2 := (hs2.block _ (blk_lt hbx1.out)).trans hbx1.out
      have hw2 := (hs0.out.trans hs1.out).trans hs2
      have n9' := hs2.cell n9.out
      have hbx2l := blk_lt hbx2
      have hd2l := blk_lt hd2
      have hsl2 := hsl.out.same hw2
      have hs0z := hs0.out.size
      clear hs2 hs0 hs1 hbx hbx1 hd n9 hsl
      replace hd2 := Lib.hid hd2
      replace hw2 := Lib.hid hw2
      replace hbx2 := Lib.hid hbx2
      replace hsl2 := Lib.hid hsl2
      go_upto_region 6 with fail
      clear n9'
      go_cut [11] (fun v wx => ∃ g ao' cap', v = .pointer (some ⟨g, 0, none⟩) ∧ w2.heap.size ≤ g ∧ wx.heap[g]? = some (.cells (epC c number start ao' L.length cap').toArray 124 (0, 0)) ∧ Own wx w2.heap.size 3 1 (.slice ao' L.length cap') L.length (iv L) ∧ Same w2 wx)
      case first =>
        refine wp_region_tails (by kernel_rfl) [(23, 0), (24, 1), (25, 2), (26, 3), (27, 4), (28, 5), (29, 6), (30, 7), (11, 8)] Same (Same _) [isV (.agg c.cells.toArray), isV (.int .i64 number), isV (.int .i64 start), isV (.agg c.cells.toArray), isV (.int .i64 number), isV (.slice ao len cap), isI w2.heap.size L, isEp w2.heap.size c number start L, isNewEp w2.heap.size 124] Same.refl.drew (fun _ _ h k => h.trans k) (by simp [isV_stable, isB_stable, isAny_stable, isNewEp_stable, isI_stable, isEp_stable]) (by decide) (l := [_, _, _, _, _, _, _, _, _]) rfl (by decide) (by kernel_rfl) ?_ ?_
        · refine ⟨?_, ?_, ?_, ?_, ?_, ?_, ?_, ?_, ?_, trivial⟩
          all_goals (intro u wx hI hp; simp only [mkAct, List.foldl_cons, List.foldl_nil, List.setIfInBounds_toArray, List.set_cons_succ, List.set_cons_zero])
          · -- operation 0
            go_wp2_with (refine load_row rfl _ _ rfl w.heap.size rfl _ _ _ _ ((hI.block _ hbx2l).trans hbx2.out) Try.underlying68 rfl hinfC.out ?_)
            refine stq_v rfl Same.refl ?_
            first | (simp only [mkAct, List.foldl_cons, List.foldl_nil, List.setIfInBounds_toArray, List.set_cons_succ, List.set_cons_zero, upd, reduceIte, Nat.reduceEqDiff, Nat.reduceAdd, str]; done) | (simp [mkAct, upd, str, *]; done)
          · -- operation 1
            go_wp2
            refine stq_v rfl Same.refl ?_
            first | (simp only [mkAct, List.foldl_cons, List.foldl_nil, List.setIfInBounds_toArray, List.set_cons_succ, List.set_cons_zero, upd, reduceIte, Nat.reduceEqDiff, Nat.reduceAdd, str]; done) | (simp [mkAct, upd, str, *]; done)
          · -- operation 2
            go_wp2
            refine stq_v rfl Same.refl ?_
            first | (simp only [mkAct, List.foldl_cons, List.foldl_nil, List.setIfInBounds_toArray, List.set_cons_succ, List.set_cons_zero, upd, reduceIte, Nat.reduceEqDiff, Nat.reduceAdd, str]; done) | (simp [mkAct, upd, str, *]; done)
          · -- operation 3
            go_wp2_with (refine load_row rfl _ _ rfl w.heap.size rfl _ _ _ _ ((hI.block _ hbx2l).trans hbx2.out) Try.underlying68 rfl hinfC.out ?_)
            refine stq_v rfl Same.refl ?_
            first | (simp only [mkAct, List.foldl_cons, List.foldl_nil, List.setIfInBounds_toArray, List.set_cons_succ, List.set_cons_zero, upd, reduceIte, Nat.reduceEqDiff, Nat.reduceAdd, str]; done) | (simp [mkAct, upd, str, *]; done)
          · -- operation 4
            go_wp2
            refine stq_v rfl Same.refl ?_
            first | (simp only [mkAct, List.foldl_cons, List.foldl_nil, List.setIfInBounds_toArray, List.set_cons_succ, List.set_cons_zero, upd, reduceIte, Nat.reduceEqDiff, Nat.reduceAdd, str]; done) | (simp [mkAct, upd, str, *]; done)
          · -- operation 5
            go_wp2
            refine stq_v rfl Same.refl ?_
            first | (simp only [mkAct, List.foldl_cons, List.foldl_nil, List.setIfInBounds_toArray, List.set_cons_succ, List.set_cons_zero, upd, reduceIte, Nat.reduceEqDiff, Nat.reduceAdd, str]; done) | (simp [mkAct, upd, str, *]; done)
          · -- operation 6
            obtain ⟨f3, f4, f5, -⟩ := hp
            replace f3 : u 3 = (.agg c.cells.toArray) := f3
            replace f4 : u 4 = (.int .i64 number) := f4
            replace f5 : u 5 = (.slice ao len cap) := f5
            try simp only [f3, f4, f5, str]
            go_wp2_with fail
            refine (hli.out _ (hsl2.out.same hI)).mono ?_
            rintro e w5 ⟨v5, rfl, ho5, hs5⟩
            obtain ⟨qo, qc, rfl, _⟩ := ho5.sl
            go_wp2
            refine stq_x (.slice qo L.length qc) rfl ⟨qo, qc, rfl, ho5.lower hI.size⟩ hs5 ?_
            first | (simp only [mkAct, List.foldl_cons, List.foldl_nil, List.setIfInBounds_toArray, List.set_cons_succ, List.set_cons_zero, upd, reduceIte, Nat.reduceEqDiff, Nat.reduceAdd, f3, f4, f5, str]; done) | (simp [mkAct, upd, f3, f4, f5, str, *]; done)
          · -- operation 7
            obtain ⟨f0, f1, f2, f6, -⟩ := hp
            replace f0 : u 0 = (.agg c.cells.toArray) := f0
            replace f1 : u 1 = (.int .i64 number) := f1
            replace f2 : u 2 = (.int .i64 start) := f2
            try simp only [f0, f1, f2, str]
            obtain ⟨qo, qc, e6, hq⟩ := f6
            replace e6 : u 6 = .slice qo L.length qc := e6
            simp only [e6]
            replace e6 := Lib.hid e6
            go_wp2_with (refine build_const (ty := 124) (.agg (epC c number start qo L.length qc).toArray) rfl rfl (by kernel_rfl) ?_)
            replace e6 := e6.out
            refine stq_x (.agg (epC c number start qo L.length qc).toArray) rfl ⟨qo, qc, rfl, hq⟩ Same.refl ?_
            first | (simp only [mkAct, List.foldl_cons, List.foldl_nil, List.setIfInBounds_toArray, List.set_cons_succ, List.set_cons_zero, upd, reduceIte, Nat.reduceEqDiff, Nat.reduceAdd, f0, f1, f2, str]; done) | (simp [mkAct, upd, f0, f1, f2, str, *]; done)
          · -- operation 8
            go_wp2_with (refine alloc_new rfl 124 rfl (epC zeroCfg 0 0 none 0 0).toArray (by kernel_rfl) ?_; intro w5 hb5 hs5)
            refine stq_x (.pointer (some ⟨wx.heap.size, 0, none⟩)) rfl ⟨_, rfl, hI.size, hb5⟩ hs5 ?_
            first | (simp only [mkAct, List.foldl_cons, List.foldl_nil, List.setIfInBounds_toArray, List.set_cons_succ, List.set_cons_zero, upd, reduceIte, Nat.reduceEqDiff, Nat.reduceAdd, str]; done) | (simp [mkAct, upd, str, *]; done)
        · intro u wx hI hR
          obtain ⟨r0, r1, r2, r3, r4, r5, r6, r7, r8, -⟩ := hR
          replace r0 : u 0 = (.agg c.cells.toArray) := r0
          replace r1 : u 1 = (.int .i64 number) := r1
          replace r2 : u 2 = (.int .i64 start) := r2
          replace r3 : u 3 = (.agg c.cells.toArray) := r3
          replace r4 : u 4 = (.int .i64 number) := r4
          replace r5 : u 5 = (.slice ao len cap) := r5
          simp only [mkAct, List.foldl_cons, List.foldl_nil, List.setIfInBounds_toArray, List.set_cons_succ, List.set_cons_zero]
          try simp only [str, r0, r1, r2, r3, r4, r5]
          obtain ⟨qo, qc, e7, hq⟩ := r7
          obtain ⟨g, e8, hg, hgb⟩ := r8
          replace e7 : u 7 = .agg (epC c number start qo L.length qc).toArray := e7
          replace e8 : u 8 = .pointer (some ⟨g, 0, none⟩) := e8
          simp only [e7, e8]
          clear e7 e8 r6
          have hinfE := Lib.hid (ep_info c number start qo L.length qc)
          have hne := own_ne hq hgb (by decide)
          have hgl := blk_lt hgb
          replace hgb := Lib.hid hgb
          go_wp2_with (refine store_row rfl _ _ _ rfl g _ rfl rfl _ _ hgb.out hinfE.out rfl (ep_one _ _ _ _ _ _) ?_; intro w5 hb5 hk5; replace hb5 := Lib.hid hb5; replace hk5 := Lib.hid hk5)
          go_simp
          go_meet
          have hq5 := hq.keep hk5.out (fun b hb hb2 => hne b hb hb2)
          exact ⟨g, qo, qc, rfl, hg, hb5.out, hq5, hI.keep hk5.out (fun x hx hv => by omega)⟩
      case rest =>
        obtain ⟨g, qo, qc, rfl, hg, hgb, hq, hs3⟩ := hcut
        have hinfE := Lib.hid (ep_info c number start qo L.length qc)
        have hz0 := hw2.out.size
        have hgl := blk_lt hgb
        have hw3 := hw2.out.trans hs3
        have hd3 := (hs3.block _ hd2l).trans hd2.out
        have hg1 := hgd.out qo qc wc hq.slS
        have hd3l := blk_lt hd3
        clear hs3 hw2 hd2 hbx2 hsl2 hbx2l hli
        replace hgb := Lib.hid hgb
        replace hq := Lib.hid hq
        replace hw3 := Lib.hid hw3
        replace hd3 := Lib.hid hd3
        replace hg1 := Lib.hid hg1
        go_wp2_with (refine load_row rfl _ _ rfl g rfl _ _ _ _ hgb.out Try.underlying124 rfl hinfE.out ?_)
        refine hg1.out.mono ?_
        rintro e w4 ⟨rfl, hs4⟩
        have hgb4 := (hs4.block _ hgl).trans hgb.out
        have hd4 := (hs4.block _ hd3l).trans hd3.out
        have hq4 := hq.out.same hs4
        have hw4 := hw3.out.trans hs4
        clear hs4 hw3 hd3 hgb hq hg1
        replace hgb4 := Lib.hid hgb4
        replace hd4 := Lib.hid hd4
        replace hq4 := Lib.hid hq4
        replace hw4 := Lib.hid hw4
        cases hGb : G
        · have hX2 : X = (zeroEp, 251) := by rw [hX.out, hGb]; rfl
          clear hX hGb
          replace hX2 := Lib.hid hX2
          go_wp2_with (first | (refine build_const (ty := 124) (.agg (epC zeroCfg 0 0 none 0 0).toArray) rfl rfl (by kernel_rfl) ?_) | (refine store_row rfl _ _ _ rfl w0.heap.size _ rfl rfl _ _ hd4.out hinf0.out rfl (ep_one _ _ _ _ _ _) ?_; intro w5 hb5 hk5; replace hb5 := Lib.hid hb5; replace hk5 := Lib.hid hk5))
          refine bodyPost_ret (v := .tuple #[.agg (epC zeroCfg 0 0 none 0 0).toArray, .int .i64 251]) (results_row2 (p := 8) (q := 9) (ty := 124) rfl _ _ w0.heap.size _ _ _ _ _ rfl rfl hb5.out Try.underlying124 rfl hinf0.out) rfl ?_
          exact ⟨none, 0, by rw [hX2.out]; rfl, by rw [hX2.out]; exact Sl.none _ 1, hw4.out.keep hk5.out (fun x hx hv => by omega)⟩
        · have hX2 : X = (⟨c, number, start, L⟩, 0) := by rw [hX.out, hGb]; rfl
          clear hX hGb
          replace hX2 := Lib.hid hX2
          go_wp2_with (first | (refine load_row rfl _ _ rfl g rfl _ _ _ _ hgb4.out Try.underlying124 rfl hinfE.out ?_) | (refine store_row rfl _ _ _ rfl w0.heap.size _ rfl rfl _ _ hd4.out hinfE.out rfl (ep_one _ _ _ _ _ _) ?_; intro w5 hb5 hk5; replace hb5 := Lib.hid hb5; replace hk5 := Lib.hid hk5))
          refine bodyPost_ret (v := .tuple #[.agg (epC c number start qo L.length qc).toArray, .int .i64 0]) (results_row2 (p := 8) (q := 9) (ty := 124) rfl _ _ w0.heap.size _ _ _ _ _ rfl rfl hb5.out Try.underlying124 rfl hinfE.out) rfl ?_
          have hqk : Sl w5 1 qo L.length qc (iv L) := by
            refine (hq4.out.keep hk5.out ?_).slS
            intro b hb hb2
            have := hq4.out.base b hb
            omega
          exact ⟨qo, qc, by rw [hX2.out], by rw [hX2.out]; exact hqk, hw4.out.keep hk5.out (fun x hx hv => by omega)⟩
set_option maxRecDepth 100000 in
set_option maxHeartbeats 1600000 in
theorem renew_any (c : Cfg) (number start : Int) (ao : Option Addr) (len cap : Nat) (penal : List Int) (w : World) (hsl : Sl w 1 ao len cap (iv penal)) :
    Calls Try.prog 134 #[.agg c.cells.toArray, .int .i64 number, .int .i64 start, .slice ao len cap] w (RetEp w (enew c number start penal)) := by
  have hinfC := Lib.hid (cfg_info c)
  have hinf0 := Lib.hid (rep_info zeroCfg 0 0 none 0 0)
  have hcg := fun w => rcgood_any c w
  have hli := fun w h => rlist_any c number ao len cap penal w h
  have he2 : (c.err != 0) = !c.good := by rw [← c.err_eq]; rfl
  have hgd := fun ao' cap' w h => regood_any c number start ao' (leads c number penal).length cap' (leads c number penal) w h
  obtain ⟨X, hX⟩ : ∃ X, X = enew c number start penal := ⟨_, rfl⟩
  rw [← hX]
  unfold enew at hX
  obtain ⟨L, hL⟩ : ∃ L, L = leads c number penal := ⟨_, rfl⟩
  rw [← hL] at hX hli hgd
  obtain ⟨G, hG⟩ : ∃ G, G = egood c number start L := ⟨_, rfl⟩
  rw [← hG] at hX hgd
  have herr : c.good = false → c.err = 110 := fun h => by rw [Cfg.err, h]; rfl
  obtain ⟨E, hE⟩ : ∃ E, E = c.err := ⟨_, rfl⟩
  rw [← hE] at hcg he2 herr
  obtain ⟨la, hla⟩ : ∃ x, x = c.last := ⟨_, rfl⟩
  rw [← hla] at hX
  clear hL hG hE
  replace hla := Lib.hid hla
  replace hcg := Lib.hid hcg
  replace hsl := Lib.hid hsl
  replace hli := Lib.hid hli
  replace hgd := Lib.hid hgd
  cases hc : c.good
  · rw [if_pos hc] at hX
    rw [hc] at he2
    have hE := herr hc
    clear hc herr
    replace hX := Lib.hid hX
    replace hE := Lib.hid hE
    go_enter Try.func134, Try.ntmps134
    go_upto_region 1 with (first | (refine box_row rfl _ _ rfl _ rfl hinfC.out ?_; intro w0 hbx hs0; have hbxl := blk_lt hbx; replace hbx := Lib.hid hbx; replace hs0 := Lib.hid hs0) | (refine alloc_new rfl 125 rfl (epC zeroCfg 0 0 none 0 0).toArray (by kernel_rfl) ?_; intro w1 hd hs1; have hdl := blk_lt hd; replace hd := Lib.hid hd; replace hs1 := Lib.hid hs1))
    have hbx1 := Lib.hid ((hs1.out.block _ hbxl).trans hbx.out)
    go_wp2_with (refine load_row rfl _ _ rfl w.heap.size rfl _ _ _ _ hbx1.out Try.underlying68 rfl hinfC.out ?_)
    refine (hcg.out _).mono ?_
    rintro e w2 ⟨rfl, hs2⟩
    have hd2 := (hs2.block _ hdl).trans hd.out
    have hw2 := (hs0.out.trans hs1.out).trans hs2
    clear hs2
    replace hd2 := Lib.hid hd2
    replace hw2 := Lib.hid hw2
    go_wp2_with (first | (refine build_const (ty := 125) (.agg (epC zeroCfg 0 0 none 0 0).toArray) rfl rfl (by kernel_rfl) ?_) | (refine store_row rfl _ _ _ rfl w0.heap.size _ rfl rfl _ _ hd2.out hinf0.out rfl (ep_one _ _ _ _ _ _) ?_; intro w3 hb3 hk3; replace hb3 := Lib.hid hb3; replace hk3 := Lib.hid hk3))
    refine bodyPost_ret (v := .tuple #[.agg (epC zeroCfg 0 0 none 0 0).toArray, .int .i64 E]) (results_row2 (p := 8) (q := 9) (ty := 125) rfl _ _ w0.heap.size _ _ _ _ _ rfl rfl hb3.out Try.underlying125 rfl hinf0.out) rfl ?_
    have hs0z := hs0.out.size
    exact ⟨none, 0, by rw [hX.out, hE.out]; rfl, by rw [hX.out]; exact Sl.none _ 1, hw2.out.keep hk3.out (fun x hx hv => by omega)⟩
  · rw [if_neg (by rw [hc]; simp)] at hX
    rw [hc] at he2
    clear hc herr
    by_cases hn : la < number
    · rw [if_pos hn] at hX
      replace hX := Lib.hid hX
      go_enter Try.func134, Try.ntmps134
      go_upto_region 1 with (first | (refine box_row rfl _ _ rfl _ rfl hinfC.out ?_; intro w0 hbx hs0; have hbxl := blk_lt hbx; replace hbx := Lib.hid hbx; replace hs0 := Lib.hid hs0) | (refine alloc_new rfl 125 rfl (epC zeroCfg 0 0 none 0 0).toArray (by kernel_rfl) ?_; intro w1 hd hs1; have hdl := blk_lt hd; replace hd := Lib.hid hd; replace hs1 := Lib.hid hs1))
      have hbx1 := (hs1.out.block _ hbxl).trans hbx.out
      have n9 : w1.cell? ⟨w.heap.size, 9, none⟩ = some (.int .i64 la) := by rw [hla.out]; exact cfg_cell hbx1 9 (by omega)
      replace hbx1 := Lib.hid hbx1
      replace n9 := Lib.hid n9
      go_wp2_with (refine load_row rfl _ _ rfl w.heap.size rfl _ _ _ _ hbx1.out Try.underlying68 rfl hinfC.out ?_)
      refine (hcg.out _).mono ?_
      rintro e w2 ⟨rfl, hs2⟩
      have hd2 := (hs2.block _ hdl).trans hd.out
      have hw2 := (hs0.out.trans hs1.out).trans hs2
      have n9' := hs2.cell n9.out
      clear hs2
      replace hd2 := Lib.hid hd2
      replace hw2 := Lib.hid hw2
      go_wp2_with (first | (refine build_const (ty := 125) (.agg (epC zeroCfg 0 0 none 0 0).toArray) rfl rfl (by kernel_rfl) ?_) | (refine store_row rfl _ _ _ rfl w0.heap.size _ rfl rfl _ _ hd2.out hinf0.out rfl (ep_one _ _ _ _ _ _) ?_; intro w3 hb3 hk3; replace hb3 := Lib.hid hb3; replace hk3 := Lib.hid hk3))
      refine bodyPost_ret (v := .tuple #[.agg (epC zeroCfg 0 0 none 0 0).toArray, .int .i64 250]) (results_row2 (p := 8) (q := 9) (ty := 125) rfl _ _ w0.heap.size _ _ _ _ _ rfl rfl hb3.out Try.underlying125 rfl hinf0.out) rfl ?_
      have hs0z := hs0.out.size
      exact ⟨none, 0, by rw [hX.out]; rfl, by rw [hX.out]; exact Sl.none _ 1, hw2.out.keep hk3.out (fun x hx hv => by omega)⟩
    · rw [if_neg hn] at hX
      replace hX := Lib.hid hX
      go_enter Try.func134, Try.ntmps134
      go_upto_region 1 with (first | (refine box_row rfl _ _ rfl _ rfl hinfC.out ?_; intro w0 hbx hs0; have hbxl := blk_lt hbx; replace hbx := Lib.hid hbx; replace hs0 := Lib.hid hs0) | (refine alloc_new rfl 125 rfl (epC zeroCfg 0 0 none 0 0).toArray (by kernel_rfl) ?_; intro w1 hd hs1; have hdl := blk_lt hd; replace hd := Lib.hid hd; replace hs1 := Lib.hid hs1))
      have hbx1 := (hs1.out.block _ hbxl).trans hbx.out
      have n9 : w1.cell? ⟨w.heap.size, 9, none⟩ = some (.int .i64 la) := by rw [hla.out]; exact cfg_cell hbx1 9 (by omega)
      replace hbx1 := Lib.hid hbx1
      replace n9 := Lib.hid n9
      go_wp2_with (refine load_row rfl _ _ rfl w.heap.size rfl _ _ _ _ hbx1.out Try.underlying68 rfl hinfC.out ?_)
      refine (hcg.out _).mono ?_
      rintro e w2 ⟨rfl, hs2⟩
      have hd2 := (hs2.block _ hdl).trans hd.out
      have hbx2 := (hs2.block _ (blk_lt hbx1.out)).trans hbx1.out
      have hw2 := (hs0.out.trans hs1.out).trans hs2
      have n9' := hs2.cell n9.out
      have hbx2l := blk_lt hbx2
      have hd2l := blk_lt hd2
      have hsl2 := hsl.out.same hw2
      have hs0z := hs0.out.size
      clear hs2 hs0 hs1 hbx hbx1 hd n9 hsl
      replace hd2 := Lib.hid hd2
      replace hw2 := Lib.hid hw2
      replace hbx2 := Lib.hid hbx2
      replace hsl2 := Lib.hid hsl2
      go_upto_region 6 with fail
      clear n9'
      go_cut [11] (fun v wx => ∃ g ao' cap', v = .pointer (some ⟨g, 0, none⟩) ∧ w2.heap.size ≤ g ∧ wx.heap[g]? = some (.cells (epC c number start ao' L.length cap').toArray 125 (0, 0)) ∧ Own wx w2.heap.size 3 1 (.slice ao' L.length cap') L.length (iv L) ∧ Same w2 wx)
      case first =>
        refine wp_region_tails (by kernel_rfl) [(23, 0), (24, 1), (25, 2), (26, 3), (27, 4), (28, 5), (29, 6), (30, 7), (11, 8)] Same (Same _) [isV (.agg c.cells.toArray), isV (.int .i64 number), isV (.int .i64 start), isV (.agg c.cells.toArray), isV (.int .i64 number), isV (.slice ao len cap), isI w2.heap.size L, isEp w2.heap.size c number start L, isNewEp w2.heap.size 125] Same.refl.drew (fun _ _ h k => h.trans k) (by simp [isV_stable, isB_stable, isAny_stable, isNewEp_stable, isI_stable, isEp_stable]) (by decide) (l := [_, _, _, _, _, _, _, _, _]) rfl (by decide) (by kernel_rfl) ?_ ?_
        · refine ⟨?_, ?_, ?_, ?_, ?_, ?_, ?_, ?_, ?_, trivial⟩
          all_goals (intro u wx hI hp; simp only [mkAct, List.foldl_cons, List.foldl_nil, List.setIfInBounds_toArray, List.set_cons_succ, List.set_cons_zero])
          · -- operation 0
            go_wp2_with (refine load_row rfl _ _ rfl w.heap.size rfl _ _ _ _ ((hI.block _ hbx2l).trans hbx2.out) Try.underlying68 rfl hinfC.out ?_)
            refine stq_v rfl Same.refl ?_
            first | (simp only [mkAct, List.foldl_cons, List.foldl_nil, List.setIfInBounds_toArray, List.set_cons_succ, List.set_cons_zero, upd, reduceIte, Nat.reduceEqDiff, Nat.reduceAdd, str]; done) | (simp [mkAct, upd, str, *]; done)
          · -- operation 1
            go_wp2
            refine stq_v rfl Same.refl ?_
            first | (simp only [mkAct, List.foldl_cons, List.foldl_nil, List.setIfInBounds_toArray, List.set_cons_succ, List.set_cons_zero, upd, reduceIte, Nat.reduceEqDiff, Nat.reduceAdd, str]; done) | (simp [mkAct, upd, str, *]; done)
          · -- operation 2
            go_wp2
            refine stq_v rfl Same.refl ?_
            first | (simp only [mkAct, List.foldl_cons, List.foldl_nil, List.setIfInBounds_toArray, List.set_cons_succ, List.set_cons_zero, upd, reduceIte, Nat.reduceEqDiff, Nat.reduceAdd, str]; done) | (simp [mkAct, upd, str, *]; done)
          · -- operation 3
            go_wp2_with (refine load_row rfl _ _ rfl w.heap.size rfl _ _ _ _ ((hI.block _ hbx2l).trans hbx2.out) Try.underlying68 rfl hinfC.out ?_)
            refine stq_v rfl Same.refl ?_
            first | (simp only [mkAct, List.foldl_cons, List.foldl_nil, List.setIfInBounds_toArray, List.set_cons_succ, List.set_cons_zero, upd, reduceIte, Nat.reduceEqDiff, Nat.reduceAdd, str]; done) | (simp [mkAct, upd, str, *]; done)
          · -- operation 4
            go_wp2
            refine stq_v rfl Same.refl ?_
            first | (simp only [mkAct, List.foldl_cons, List.foldl_nil, List.setIfInBounds_toArray, List.set_cons_succ, List.set_cons_zero, upd, reduceIte, Nat.reduceEqDiff, Nat.reduceAdd, str]; done) | (simp [mkAct, upd, str, *]; done)
          · -- operation 5
            go_wp2
            refine stq_v rfl Same.refl ?_
            first | (simp only [mkAct, List.foldl_cons, List.foldl_nil, List.setIfInBounds_toArray, List.set_cons_succ, List.set_cons_zero, upd, reduceIte, Nat.reduceEqDiff, Nat.reduceAdd, str]; done) | (simp [mkAct, upd, str, *]; done)
          · -- operation 6
            obtain ⟨f3, f4, f5, -⟩ := hp
            replace f3 : u 3 = (.agg c.cells.toArray) := f3
            replace f4 : u 4 = (.int .i64 number) := f4
            replace f5 : u 5 = (.slice ao len cap) := f5
            try simp only [f3, f4, f5, str]
            go_wp2_with fail
            refine (hli.out _ (hsl2.out.same hI)).mono ?_
            rintro e w5 ⟨v5, rfl, ho5, hs5⟩
            obtain ⟨qo, qc, rfl, _⟩ := ho5.sl
            go_wp2
            refine stq_x (.slice qo L.length qc) rfl ⟨qo, qc, rfl, ho5.lower hI.size⟩ hs5 ?_
            first | (simp only [mkAct, List.foldl_cons, List.foldl_nil, List.setIfInBounds_toArray, List.set_cons_succ, List.set_cons_zero, upd, reduceIte, Nat.reduceEqDiff, Nat.reduceAdd, f3, f4, f5, str]; done) | (simp [mkAct, upd, f3, f4, f5, str, *]; done)
          · -- operation 7
            obtain ⟨f0, f1, f2, f6, -⟩ := hp
            replace f0 : u 0 = (.agg c.cells.toArray) := f0
            replace f1 : u 1 = (.int .i64 number) := f1
            replace f2 : u 2 = (.int .i64 start) := f2
            try simp only [f0, f1, f2, str]
            obtain ⟨qo, qc, e6, hq⟩ := f6
            replace e6 : u 6 = .slice qo L.length qc := e6
            simp only [e6]
            replace e6 := Lib.hid e6
            go_wp2_with (refine build_const (ty := 125) (.agg (epC c number start qo L.length qc).toArray) rfl rfl (by kernel_rfl) ?_)
            replace e6 := e6.out
            refine stq_x (.agg (epC c number start qo L.length qc).toArray) rfl ⟨qo, qc, rfl, hq⟩ Same.refl ?_
            first | (simp only [mkAct, List.foldl_cons, List.foldl_nil, List.setIfInBounds_toArray, List.set_cons_succ, List.set_cons_zero, upd, reduceIte, Nat.reduceEqDiff, Nat.reduceAdd, f0, f1, f2, str]; done) | (simp [mkAct, upd, f0, f1, f2, str, *]; done)
          · -- operation 8
            go_wp2_with (refine alloc_new rfl 125 rfl (epC zeroCfg 0 0 none 0 0).toArray (by kernel_rfl) ?_; intro w5 hb5 hs5)
            refine stq_x (.pointer (some ⟨wx.heap.size, 0, none⟩)) rfl ⟨_, rfl, hI.size, hb5⟩ hs5 ?_
            first | (simp only [mkAct, List.foldl_cons, List.foldl_nil, List.setIfInBounds_toArray, List.set_cons_succ, List.set_cons_zero, upd, reduceIte, Nat.reduceEqDiff, Nat.reduceAdd, str]; done) | (simp [mkAct, upd, str, *]; done)
        · intro u wx hI hR
          obtain ⟨r0, r1, r2, r3, r4, r5, r6, r7, r8, -⟩ := hR
          replace r0 : u 0 = (.agg c.cells.toArray) := r0
          replace r1 : u 1 = (.int .i64 number) := r1
          replace r2 : u 2 = (.int .i64 start) := r2
          replace r3 : u 3 = (.agg c.cells.toArray) := r3
          replace r4 : u 4 = (.int .i64 number) := r4
          replace r5 : u 5 = (.slice ao len cap) := r5
          simp only [mkAct, List.foldl_cons, List.foldl_nil, List.setIfInBounds_toArray, List.set_cons_succ, List.set_cons_zero]
          try simp only [str, r0, r1, r2, r3, r4, r5]
          obtain ⟨qo, qc, e7, hq⟩ := r7
          obtain ⟨g, e8, hg, hgb⟩ := r8
          replace e7 : u 7 = .agg (epC c number start qo L.length qc).toArray := e7
          replace e8 : u 8 = .pointer (some ⟨g, 0, none⟩) := e8
          simp only [e7, e8]
          clear e7 e8 r6
          have hinfE := Lib.hid (rep_info c number start qo L.length qc)
          have hne := own_ne hq hgb (by decide)
          have hgl := blk_lt hgb
          replace hgb := Lib.hid hgb
          go_wp2_with (refine store_row rfl _ _ _ rfl g _ rfl rfl _ _ hgb.out hinfE.out rfl (ep_one _ _ _ _ _ _) ?_; intro w5 hb5 hk5; replace hb5 := Lib.hid hb5; replace hk5 := Lib.hid hk5)
          go_simp
          go_meet
          have hq5 := hq.keep hk5.out (fun b hb hb2 => hne b hb hb2)
          exact ⟨g, qo, qc, rfl, hg, hb5.out, hq5, hI.keep hk5.out (fun x hx hv => by omega)⟩
      case rest =>
        obtain ⟨g, qo, qc, rfl, hg, hgb, hq, hs3⟩ := hcut
        have hinfE := Lib.hid (rep_info c number start qo L.length qc)
        have hz0 := hw2.out.size
        have hgl := blk_lt hgb
        have hw3 := hw2.out.trans hs3
        have hd3 := (hs3.block _ hd2l).trans hd2.out
        have hg1 := hgd.out qo qc wc hq.slS
        have hd3l := blk_lt hd3
        clear hs3 hw2 hd2 hbx2 hsl2 hbx2l hli
        replace hgb := Lib.hid hgb
        replace hq := Lib.hid hq
        replace hw3 := Lib.hid hw3
        replace hd3 := Lib.hid hd3
        replace hg1 := Lib.hid hg1
        go_wp2_with (refine load_row rfl _ _ rfl g rfl _ _ _ _ hgb.out Try.underlying125 rfl hinfE.out ?_)
        refine hg1.out.mono ?_
        rintro e w4 ⟨rfl, hs4⟩
        have hgb4 := (hs4.block _ hgl).trans hgb.out
        have hd4 := (hs4.block _ hd3l).trans hd3.out
        have hq4 := hq.out.same hs4
        have hw4 := hw3.out.trans hs4
        clear hs4 hw3 hd3 hgb hq hg1
        replace hgb4 := Lib.hid hgb4
        replace hd4 := Lib.hid hd4
        replace hq4 := Lib.hid hq4
        replace hw4 := Lib.hid hw4
        cases hGb : G
        · have hX2 : X = (zeroEp, 251) := by rw [hX.out, hGb]; rfl
          clear hX hGb
          replace hX2 := Lib.hid hX2
          go_wp2_with (first | (refine build_const (ty := 125) (.agg (epC zeroCfg 0 0 none 0 0).toArray) rfl rfl (by kernel_rfl) ?_) | (refine store_row rfl _ _ _ rfl w0.heap.size _ rfl rfl _ _ hd4.out hinf0.out rfl (ep_one _ _ _ _ _ _) ?_; intro w5 hb5 hk5; replace hb5 := Lib.hid hb5; replace hk5 := Lib.hid hk5))
          refine bodyPost_ret (v := .tuple #[.agg (epC zeroCfg 0 0 none 0 0).toArray, .int .i64 251]) (results_row2 (p := 8) (q := 9) (ty := 125) rfl _ _ w0.heap.size _ _ _ _ _ rfl rfl hb5.out Try.underlying125 rfl hinf0.out) rfl ?_
          exact ⟨none, 0, by rw [hX2.out]; rfl, by rw [hX2.out]; exact Sl.none _ 1, hw4.out.keep hk5.out (fun x hx hv => by omega)⟩
        · have hX2 : X = (⟨c, number, start, L⟩, 0) := by rw [hX.out, hGb]; rfl
          clear hX hGb
          replace hX2 := Lib.hid hX2
          go_wp2_with (first | (refine load_row rfl _ _ rfl g rfl _ _ _ _ hgb4.out Try.underlying125 rfl hinfE.out ?_) | (refine store_row rfl _ _ _ rfl w0.heap.size _ rfl rfl _ _ hd4.out hinfE.out rfl (ep_one _ _ _ _ _ _) ?_; intro w5 hb5 hk5; replace hb5 := Lib.hid hb5; replace hk5 := Lib.hid hk5))
          refine bodyPost_ret (v := .tuple #[.agg (epC c number start qo L.length qc).toArray, .int .i64 0]) (results_row2 (p := 8) (q := 9) (ty := 125) rfl _ _ w0.heap.size _ _ _ _ _ rfl rfl hb5.out Try.underlying125 rfl hinfE.out) rfl ?_
          have hqk : Sl w5 1 qo L.length qc (iv L) := by
            refine (hq4.out.keep hk5.out ?_).slS
            intro b hb hb2
            have := hq4.out.base b hb
            omega
          exact ⟨qo, qc, by rw [hX2.out], by rw [hX2.out]; exact hqk, hw4.out.keep hk5.out (fun x hx hv => by omega)⟩
end Go.Proofs.Ytmacgmmjgdmleaa
