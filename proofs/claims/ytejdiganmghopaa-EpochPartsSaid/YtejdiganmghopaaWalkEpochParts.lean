/-
  The walk of the law EpochParts: each slot of an epoch has one owner, and stands among that leader's slots alone; each leader has as many.
-/
-- @law rep ep
import Derived.Test.YtejdiganmghopaaRdCfg
import Derived.Test.YtejdiganmghopaaParts
import Derived.Test.YtejdiganmghopaaLives4
import Derived.Deep.DeepCutAuto
namespace Go.Proofs.Ytejdiganmghopaa
open Go Go.RowKit
set_option linter.unusedSimpArgs false
set_option linter.unusedVariables false

set_option maxRecDepth 100000 in
set_option maxHeartbeats 800000 in
theorem parts_no (w : World) (c : Cfg) (number start : Int) (ao : Option Addr) (n cap : Nat) (l : List Int) (hsl : Sl w 1 ao n cap (iv l)) (h : 100 < n ∨ n ≤ 100 ∧ egood c number start l = false) :
    Calls Try.prog 5 #[.agg (epC c number start ao n cap).toArray] w fun e w' => e = .returned (.bool true) ∧ Same w w' := by
  have hl := Lib.hid lives12
  have hinf := Lib.hid (ep_info c number start ao n cap)
  have hgd := fun w h => egood_any c number start ao n cap l w h
  replace hsl := Lib.hid hsl
  rcases h with h | ⟨h, h'⟩
  · clear hgd
    go_enter Try.func5, Try.ntmps5
    go_upto_region 1 with (refine box_row rfl _ _ rfl _ rfl hinf.out ?_; intro w0 hbx hs0; have e3 := ep_leaders hbx; clear hbx; replace hs0 := Lib.hid hs0)
    go_wp2_with fail
    refine (hl.out _).mono ?_
    rintro e w2 ⟨rfl, hs2⟩
    go_wp2
    go_ret
    exact ⟨rfl, hs0.out.trans hs2⟩
  · rw [h'] at hgd
    replace hgd := Lib.hid hgd
    have hdn : decide (100 < (n : Int)) = false := decide_eq_false (by omega)
    clear h'
    go_enter Try.func5, Try.ntmps5
    go_upto_region 1 with (refine box_row rfl _ _ rfl _ rfl hinf.out ?_; intro w0 hbx hs0; have e3 := ep_leaders hbx; replace hbx := Lib.hid hbx; replace hs0 := Lib.hid hs0)
    go_wp2_with (refine load_row rfl _ _ rfl w.heap.size rfl _ _ _ _ hbx.out Try.underlying33 rfl hinf.out ?_)
    refine (hgd.out _ (hsl.out.same hs0.out)).mono ?_
    rintro e w1 ⟨rfl, hs1⟩
    go_wp2_with fail
    refine (hl.out _).mono ?_
    rintro e w2 ⟨rfl, hs2⟩
    go_wp2
    go_ret
    exact ⟨rfl, (hs0.out.trans hs1).trans hs2⟩
set_option maxRecDepth 100000 in
set_option maxHeartbeats 6400000 in
theorem parts_yes (w : World) (c : Cfg) (number start : Int) (ao : Option Addr) (cap : Nat) (l : List Int) (hsl : Sl w 1 ao l.length cap (iv l)) (hwl : ∀ x ∈ l, (Lit.int .i64 x).wf = true) (hn : l.length ≤ 100) (hG : egood c number start l = true) :
    Calls Try.prog 5 #[.agg (epC c number start ao l.length cap).toArray] w fun e w' => e = .returned (.bool true) ∧ Same w w' := by
  have hl := Lib.hid lives12
  have hinf := Lib.hid (ep_info c number start ao l.length cap)
  have hgd := fun w h => egood_any c number start ao l.length cap l w h
  have hend := fun w h => eend_any c number start ao cap l w h
  have hok := egood_ok hG
  rw [hG] at hgd
  have hl1 := hok.l1
  have b1 := hok.b1
  have b2 := hok.b2
  have z2 := hok.z2
  have s1 := hok.s1
  have s2 := hok.s2
  obtain ⟨s, hs⟩ : ∃ s : Nat, c.slots = (s : Int) := ⟨c.slots.toNat, by omega⟩
  have hZ : esize c l = ((l.length * s : Nat) : Int) := by rw [esize, hs]; simp
  rw [eend, if_pos hG, hZ] at hend
  rw [hZ] at b2 z2
  rw [hs] at s1 s2
  have hso := fun j hj => slots_of start l hok.rise j s hj
  have hes : ∀ j, j < l.length → eslots c number start l (l.getD j 0) = (List.range s).map fun i : Nat => start + ((i * l.length + j : Nat) : Int) := by
    intro j hj
    unfold eslots
    have hin : l.getD j 0 ∈ l := by
      simp only [List.getD, List.getElem?_eq_getElem hj, Option.getD_some]
      exact List.getElem_mem _
    rw [if_pos (by rw [hG, eleads, decide_eq_true hin]; rfl), hZ, Int.toNat_natCast]
    exact hso j hj
  have hel := hok.el
  have how : ∀ j i, j < l.length → i < s → eowner c number start l (start + ((i * l.length + j : Nat) : Int)) = l.getD j 0 := by
    intro j i hj hi
    have hlt : i * l.length + j < l.length * s := by
      have : (i + 1) * l.length ≤ s * l.length := Nat.mul_le_mul_right _ hi
      rw [Nat.add_mul, Nat.one_mul] at this
      rw [Nat.mul_comm l.length s]
      omega
    unfold eowner
    have hh : ehas c start l (start + ((i * l.length + j : Nat) : Int)) = true := by
      simp only [ehas, Bool.and_eq_true, decide_eq_true_eq, hZ]
      omega
    rw [if_pos (by rw [hG, hh]; rfl)]
    have e1 : (start + ((i * l.length + j : Nat) : Int) - start).toNat = i * l.length + j := by omega
    rw [e1, Nat.mul_comm i, Nat.mul_add_mod, Nat.mod_eq_of_lt hj]
  obtain ⟨n, hnl⟩ : ∃ n, n = l.length := ⟨_, rfl⟩
  have hlw : ∀ j, j < l.length → (l.getD j 0) ≤ 9223372036854775807 ∧ -9223372036854775808 ≤ l.getD j 0 := fun j hj => by
    have h1 := hok.el j hj
    have h2 := hok.n2
    omega
  have hsl0 := fun (j : Nat) (hj : j < l.length) w h => eslots_any c number start ao cap l (l.getD j 0) w h (hlw j hj).1 (hlw j hj).2
  have how0 := fun (j i : Nat) w h (hb : start + ((i * l.length + j : Nat) : Int) ≤ 9223372036854775807) (hb2 : -9223372036854775808 ≤ start + ((i * l.length + j : Nat) : Int)) => eowner_any c number start ao cap l (start + ((i * l.length + j : Nat) : Int)) w h hb hb2
  have hcap := hsl.cap
  have hiv : ∀ j, j < l.length → (iv l)[j]? = some (.int .i64 (l.getD j 0)) := fun j hj => by rw [iv_get hj]; simp [List.getD, hj]
  obtain ⟨bk, off, rfl, hbkl, hcell⟩ := hsl.at (by intro h2; rw [iv, List.map_eq_nil_iff] at h2; rw [h2] at hl1; simp at hl1)
  rw [← hnl] at hinf hgd hend hsl hn hl1 hes how hlw hsl0 how0 hcap hiv b2 z2 ⊢
  have hdn : decide (100 < (n : Int)) = false := decide_eq_false (by omega)
  obtain ⟨Z, hZe⟩ : ∃ Z, Z = n * s := ⟨_, rfl⟩
  rw [← hZe] at hend b2 z2
  have hZlt : ∀ j i, j < n → i < s → i * n + j < Z := by
    intro j i hj hi
    rw [hZe, Nat.mul_comm n s]
    have : (i + 1) * n ≤ s * n := Nat.mul_le_mul_right _ hi
    rw [Nat.add_mul, Nat.one_mul] at this
    omega
  clear hG hok hZ hso hel hwl
  replace hdn := Lib.hid hdn
  replace hs := Lib.hid hs
  replace hnl := Lib.hid hnl
  replace hgd := Lib.hid hgd
  replace hend := Lib.hid hend
  replace hsl := Lib.hid hsl
  replace hes := Lib.hid hes
  replace how := Lib.hid how
  replace hlw := Lib.hid hlw
  replace hsl0 := Lib.hid hsl0
  replace how0 := Lib.hid how0
  replace hiv := Lib.hid hiv
  replace hcell := Lib.hid hcell
  replace hZe := Lib.hid hZe
  replace hZlt := Lib.hid hZlt
  go_enter Try.func5, Try.ntmps5
  go_upto_region 1 with (refine box_row rfl _ _ rfl _ rfl hinf.out ?_; intro w0 hbx hs0; have hbxl := blk_lt hbx; replace hbx := Lib.hid hbx; replace hs0 := Lib.hid hs0)
  have e3 := ep_leaders hbx.out
  have hdn := hdn.out
  go_wp2_with (refine load_row rfl _ _ rfl w.heap.size rfl _ _ _ _ hbx.out Try.underlying33 rfl hinf.out ?_)
  refine (hgd.out _ (hsl.out.same hs0.out)).mono ?_
  rintro e w1 ⟨rfl, hs1⟩
  have hbx1 := (hs1.block _ hbxl).trans hbx.out
  have hw1 := hs0.out.trans hs1
  have e1 := ep_start hbx1
  have hbx1l := blk_lt hbx1
  have hsl1 := hsl.out.same hw1
  clear e3 hs0 hs1 hbx hdn
  replace hbx1 := Lib.hid hbx1
  replace hw1 := Lib.hid hw1
  replace e1 := Lib.hid e1
  replace hsl1 := Lib.hid hsl1
  have hwz : IntKind.i64.wrap (start + (Z : Int) - start) = (Z : Int) := by rw [show start + (Z : Int) - start = (Z : Int) from by omega]; exact IntWalk.i64_in _ ⟨by omega, by omega⟩
  replace hwz := Lib.hid hwz
  go_upto_region 3 with fail
  go_cut [3] (fun v wx => ∃ g, v = .slice (some ⟨g, 0, none⟩) Z Z ∧ w1.heap.size ≤ g ∧ wx.heap[g]? = some (.cells (iv (metP n Z 0 0)).toArray 3 (0, 0)) ∧ Same w1 wx)
  case first =>
    refine wp_region_tails (by kernel_rfl) [(21, 0), (22, 1), (23, 2), (24, 3), (25, 4)] Same (Same _) [isV (.agg (epC c number start (some ⟨bk, off, none⟩) n cap).toArray), isV (.int .i64 (start + (Z : Int))), isV (.pointer (some ⟨w.heap.size, 11, none⟩)), isV (.int .i64 start), isV (.int .i64 (Z : Int))] Same.refl.drew (fun _ _ h k => h.trans k) (by simp [isV_stable, isB_stable, isAny_stable]) (by decide) (l := [_, _, _, _, _]) rfl (by decide) (by kernel_rfl) ?_ ?_
    · refine ⟨?_, ?_, ?_, ?_, ?_, trivial⟩
      all_goals (intro u wx hI hp; simp only [mkAct, List.foldl_cons, List.foldl_nil, List.setIfInBounds_toArray, List.set_cons_succ, List.set_cons_zero])
      · -- operation 0
        go_wp2_with (refine load_row rfl _ _ rfl w.heap.size rfl _ _ _ _ ((hI.block _ hbx1l).trans hbx1.out) Try.underlying33 rfl hinf.out ?_)
        refine stq_v rfl Same.refl ?_
        first | (simp only [mkAct, List.foldl_cons, List.foldl_nil, List.setIfInBounds_toArray, List.set_cons_succ, List.set_cons_zero, upd, reduceIte, Nat.reduceEqDiff, Nat.reduceAdd, str]; done) | (simp [mkAct, upd, str, *]; done)
      · -- operation 1
        obtain ⟨f0, -⟩ := hp
        replace f0 : u 0 = (.agg (epC c number start (some ⟨bk, off, none⟩) n cap).toArray) := f0
        try simp only [f0, str]
        go_wp2_with fail
        refine (hend.out _ (hsl1.out.same hI)).mono ?_
        rintro e w1 ⟨rfl, hs'⟩
        go_wp2
        refine stq_v rfl hs' ?_
        first | (simp only [mkAct, List.foldl_cons, List.foldl_nil, List.setIfInBounds_toArray, List.set_cons_succ, List.set_cons_zero, upd, reduceIte, Nat.reduceEqDiff, Nat.reduceAdd, f0, str]; done) | (simp [mkAct, upd, f0, str, *]; done)
      · -- operation 2
        go_wp2
        refine stq_v rfl Same.refl ?_
        first | (simp only [mkAct, List.foldl_cons, List.foldl_nil, List.setIfInBounds_toArray, List.set_cons_succ, List.set_cons_zero, upd, reduceIte, Nat.reduceEqDiff, Nat.reduceAdd, str]; done) | (simp [mkAct, upd, str, *]; done)
      · -- operation 3
        obtain ⟨f2, -⟩ := hp
        replace f2 : u 2 = (.pointer (some ⟨w.heap.size, 11, none⟩)) := f2
        try simp only [f2, str]
        have cx := hI.cell (e1.out)
        go_wp2
        refine stq_v rfl Same.refl ?_
        first | (simp only [mkAct, List.foldl_cons, List.foldl_nil, List.setIfInBounds_toArray, List.set_cons_succ, List.set_cons_zero, upd, reduceIte, Nat.reduceEqDiff, Nat.reduceAdd, f2, str]; done) | (simp [mkAct, upd, f2, str, *]; done)
      · -- operation 4
        obtain ⟨f1, f3, -⟩ := hp
        replace f1 : u 1 = (.int .i64 (start + (Z : Int))) := f1
        replace f3 : u 3 = (.int .i64 start) := f3
        try simp only [f1, f3, str]
        have hwz := hwz.out
        go_wp2
        refine stq_v rfl Same.refl ?_
        first | (simp only [mkAct, List.foldl_cons, List.foldl_nil, List.setIfInBounds_toArray, List.set_cons_succ, List.set_cons_zero, upd, reduceIte, Nat.reduceEqDiff, Nat.reduceAdd, f1, f3, str]; done) | (simp [mkAct, upd, f1, f3, str, *]; done)
    · intro u wx hI hR
      obtain ⟨r0, r1, r2, r3, r4, -⟩ := hR
      replace r0 : u 0 = (.agg (epC c number start (some ⟨bk, off, none⟩) n cap).toArray) := r0
      replace r1 : u 1 = (.int .i64 (start + (Z : Int))) := r1
      replace r2 : u 2 = (.pointer (some ⟨w.heap.size, 11, none⟩)) := r2
      replace r3 : u 3 = (.int .i64 start) := r3
      replace r4 : u 4 = (.int .i64 (Z : Int)) := r4
      simp only [mkAct, List.foldl_cons, List.foldl_nil, List.setIfInBounds_toArray, List.set_cons_succ, List.set_cons_zero]
      try simp only [str, r0, r1, r2, r3, r4]
      go_wp2_with (refine make_block rfl _ _ rfl isT .i64 .i64 (Z : Int) (Z : Int) Z rfl rfl rfl rfl (by omega) (by omega) ?_; intro w3 hb3 hs3)
      have hmk : madeCells (Value.int .i64 0).cells (Z * 1) = (iv (metP n Z 0 0)).toArray := by
        rw [metP_zero, Nat.mul_one]
        apply Array.ext
        · simp [madeCells, Value.cells, iv]
        · intro i h1 h2
          simp [madeCells, Value.cells, Nat.mod_one, iv]
      rw [hmk] at hb3
      go_meet
      exact ⟨_, rfl, hI.size, hb3, hI.trans hs3⟩
  case rest =>
    obtain ⟨g, rfl, hg, hb3, hs3⟩ := hcut
    have hbx3 := (hs3.block _ hbx1l).trans hbx1.out
    have hw3 := hw1.out.trans hs3
    have e2 := ep_leaders hbx3
    have hsl3 := hsl.out.same hw3
    have hbx3l := blk_lt hbx3
    have hgl := blk_lt hb3
    have hz01 := hw1.out.size
    have hg1 : w.heap.size < g := by omega
    clear hs3 hbx1 hw1 e1 hsl1 hsl
    replace hbx3 := Lib.hid hbx3
    replace hw3 := Lib.hid hw3
    replace hsl3 := Lib.hid hsl3
    replace hb3 := Lib.hid hb3
    rename_i w3
    go_wp2
    clear e2
    go_loopw [30] (fun i wr => ∃ j : Nat, j ≤ n ∧ i = .int .i64 j ∧ wr.heap[g]? = some (.cells (iv (metP n Z j 0)).toArray 3 (0, 0)) ∧ Keep (· = g) wc wr) (fun i _ => n - (intOf i).toNat)
    case atStart => exact ⟨0, by omega, rfl, hb3.out, Keep.refl⟩
    case round =>
      obtain ⟨j, hj, rfl, hb, hkp⟩ := hrel
      by_cases hlt : j < n
      · have hbxr := (hkp.block _ hbx3l (by omega)).trans hbx3.out
        have hslr := hsl3.out.keep hkp (fun q hq _ => by injection hq with hq; subst hq; simp; omega)
        have cc : wr.cell? ⟨bk, off + j, none⟩ = some (.int .i64 (l.getD j 0)) := hkp.cell (hw3.out.cell (hcell.out j _ (hiv.out j hlt))) (by simp; omega)
        have hSl := hsl0.out j hlt wr hslr
        unfold RetI at hSl
        rw [hes.out j hlt] at hSl
        have howj := fun i hi => how.out j i hlt hi
        obtain ⟨SL, hSL⟩ : ∃ SL, SL = (List.range s).map fun i : Nat => start + ((i * n + j : Nat) : Int) := ⟨_, rfl⟩
        rw [← hSL] at hSl
        have hSLl : SL.length = s := by rw [hSL]; simp
        have hSLg : ∀ i, i < s → (iv SL)[i]? = some (.int .i64 (start + ((i * n + j : Nat) : Int))) := by
          intro i hi
          rw [hSL]
          simp [iv, hi]
        rw [hSLl] at hSl
        obtain ⟨x, hxe⟩ : ∃ x, x = l.getD j 0 := ⟨_, rfl⟩
        rw [← hxe] at cc hSl howj
        have q0 : 0 ≤ (j : Int) := by omega
        have q1 : (j : Int) < (n : Int) := by omega
        have hss : ((s : Int) != (s : Int)) = false := by simp
        clear hSL hslr hxe
        replace hSLl := Lib.hid hSLl
        replace hSLg := Lib.hid hSLg
        replace hSl := Lib.hid hSl
        replace howj := Lib.hid howj
        replace hb := Lib.hid hb
        replace hkp := Lib.hid hkp
        replace hbxr := Lib.hid hbxr
        go_wp2_with (refine load_row rfl _ _ rfl w.heap.size rfl _ _ _ _ hbxr.out Try.underlying33 rfl hinf.out ?_)
        refine hSl.out.mono ?_
        rintro e w5 ⟨v5, rfl, ho5, hs5⟩
        obtain ⟨so, sc, rfl, hrow⟩ := ho5.sl
        have hso1 : ∀ q, so = some q → wr.heap.size ≤ q.block := fun q hq => ho5.base q.block (by subst hq; rfl)
        have hgr := blk_lt hb.out
        have hbx5 := (hs5.block _ (blk_lt hbxr.out)).trans hbxr.out
        have hb5 := (hs5.block _ hgr).trans hb.out
        have e5 : w5.cell? ⟨w.heap.size, 5, none⟩ = some (.int .i64 (s : Int)) := by rw [← hs.out]; exact ep_cell hbx5 5 (by omega)
        have hk5 := hkp.out.trans (Keep.of_same (p := fun _ => False) hs5) (fun _ _ h => h.elim)
        clear hs5 hb hkp hbxr hSl ho5 cc
        replace hbx5 := Lib.hid hbx5
        replace hb5 := Lib.hid hb5
        replace hk5 := Lib.hid hk5
        replace hrow := Lib.hid hrow
        replace hso1 := Lib.hid hso1
        go_wp2
        clear e5
        go_loopw [45] (fun i wy => ∃ k : Nat, k ≤ s ∧ i = .int .i64 k ∧ wy.heap[g]? = some (.cells (iv (metP n Z j k)).toArray 3 (0, 0)) ∧ Keep (· = g) w5 wy) (fun i _ => s - (intOf i).toNat)
        case atStart => exact ⟨0, by omega, rfl, hb5.out, Keep.refl⟩
        case round =>
          obtain ⟨i, hi, rfl, hb, hkp2⟩ := hrel
          by_cases hli : i < s
          · have hp := hZlt.out j i hlt hli
            have hmz := metP_set n Z j i hlt hp
            have hoc0 := fun w h => how0.out j i w h (by omega) (by omega)
            rw [howj.out i hli] at hoc0
            obtain ⟨sb, sof, rfl, _, hrc⟩ := hrow.out.at (by intro h2; rw [iv, List.map_eq_nil_iff] at h2; have := hSLl.out; rw [h2] at this; simp at this; omega)
            have hsb := hso1.out _ rfl
            simp only at hsb
            have cs := hkp2.cell (hrc i _ (hSLg.out i hli)) (by simp; omega)
            have hpv : ∀ k, k + 1 = i → wr.cell? ⟨sb, sof + k, none⟩ = some (.int .i64 (start + ((k * n + j : Nat) : Int))) := fun k hk => hkp2.cell (hrc k _ (hSLg.out k (by omega))) (by simp; omega)
            have hpl : ∀ k, k + 1 = i → start + ((k * n + j : Nat) : Int) < start + ((i * n + j : Nat) : Int) := by
              intro k hk
              subst hk
              rw [Nat.add_mul, Nat.one_mul]
              omega
            obtain ⟨p, hpe⟩ : ∃ p, p = i * n + j := ⟨_, rfl⟩
            rw [← hpe] at hp hmz hoc0 cs hpl
            obtain ⟨hm0, hm1⟩ := hmz
            have cq : wr.cell? ⟨g, p, none⟩ = some (.int .i64 0) := by
              rw [blk_cell hb]
              have h1 : p < (metP n Z j i).length := by rw [metP_length]; exact hp
              rw [List.getElem?_toArray, iv_get h1]
              have h3 : (metP n Z j i).getD p 0 = (metP n Z j i)[p]'h1 := by simp [List.getD, h1]
              rw [← h3, hm0]
            have hms : (iv (metP n Z j i)).toArray.setIfInBounds p (.int .i64 1) = (iv (metP n Z j (i + 1))).toArray := by rw [← hm1]; simp [iv, List.map_set]
            obtain ⟨sv, hsv⟩ : ∃ sv, sv = start + (p : Int) := ⟨_, rfl⟩
            rw [← hsv] at hoc0 cs hpl
            have v1 : start ≤ sv := by omega
            have v2 : sv < start + (Z : Int) := by omega
            have d1 : decide (sv < start) = false := decide_eq_false (by omega)
            have d2 : decide (start + (Z : Int) ≤ sv) = false := decide_eq_false (by omega)
            have hwp : sv - start = (p : Int) := by omega
            have hbx6 := (hkp2.block _ (blk_lt hbx5.out) (by omega)).trans hbx5.out
            have e16 := ep_start hbx6
            have hsl6 : Sl wr 1 (some ⟨bk, off, none⟩) n cap (iv l) := hsl3.out.keep (hk5.out.trans hkp2 (fun _ _ h => h)) (fun q hq _ => by injection hq with hq; subst hq; simp; omega)
            have hoc := Lib.hid hoc0
            have hxx : (x != x) = false := by simp
            have u0 : 0 ≤ (i : Int) := by omega
            have u1 : (i : Int) < (s : Int) := by omega
            have u2 : 0 ≤ (p : Int) := by omega
            have u3 : (p : Int) < (Z : Int) := by omega
            have hscap := hrow.out.cap
            clear hm0 hm1 hoc0 hrc hsb hsv hpe
            replace hms := Lib.hid hms
            replace hwp := Lib.hid hwp
            replace cq := Lib.hid cq
            replace hb := Lib.hid hb
            replace hkp2 := Lib.hid hkp2
            replace hbx6 := Lib.hid hbx6
            replace hsl6 := Lib.hid hsl6
            have e16' := e16
            replace e16 := Lib.hid e16
            by_cases hi0 : i = 0
            · subst hi0
              rw [Nat.add_zero] at cs
              clear hpv hpl
              go_wp2_with (refine load_row rfl _ _ rfl w.heap.size rfl _ _ _ _ hbx6.out Try.underlying33 rfl hinf.out ?_)
              refine (hend.out _ hsl6.out).mono ?_
              rintro e w7 ⟨rfl, hs7⟩
              have hbx7 := Lib.hid ((hs7.block _ (blk_lt hbx6.out)).trans hbx6.out)
              have hsl7 := Lib.hid (hsl6.out.same hs7)
              have hw7 := Lib.hid hs7
              clear hs7
              go_wp2_with (refine load_row rfl _ _ rfl w.heap.size rfl _ _ _ _ hbx7.out Try.underlying33 rfl hinf.out ?_)
              refine (hoc.out _ hsl7.out).mono ?_
              rintro e w8 ⟨rfl, hs8⟩
              have hs68 := hw7.out.trans hs8
              have hb8 := (hs68.block _ (blk_lt hb.out)).trans hb.out
              have cq8 := hs68.cell cq.out
              have fz8 := blk_frozen hb8 p
              have e18 := hs68.cell e16.out
              have hk8 := hkp2.out.trans (Keep.of_same (p := fun _ => False) hs68) (fun _ _ h => h.elim)
              have hwp' := hwp.out
              clear hs8 hs68 hw7 hbx7 hsl7 hb hkp2 cq hbx6 hsl6
              replace hb8 := Lib.hid hb8
              replace hk8 := Lib.hid hk8
              go_wp2
              go_roundw
              case rel => exact ⟨0 + 1, by omega, by simp, (blk_set hb8.out).trans (by rw [hms.out]), hk8.out.trans (Keep.setCell (p := (· = g)) _ rfl) (fun _ _ h => h)⟩
              case measure => simp [intOf]; omega
            · obtain ⟨k, hki⟩ : ∃ k, k + 1 = i := ⟨i - 1, by omega⟩
              have cp := hpv k hki
              have hpl2 := hpl k hki
              obtain ⟨pv, hpve⟩ : ∃ pv, pv = start + ((k * n + j : Nat) : Int) := ⟨_, rfl⟩
              rw [← hpve] at cp hpl2
              have hi1 : (i : Int) - 1 = (k : Int) := by omega
              have hi2 : (0 : Int) < (i : Int) := by omega
              have hi3 : 0 < i := by omega
              have u4 : 0 ≤ (k : Int) := by omega
              have u5 : (k : Int) < (s : Int) := by omega
              clear hpv hpl hpve hki hi0
              replace cp := Lib.hid cp
              go_wp2_with (refine load_row rfl _ _ rfl w.heap.size rfl _ _ _ _ hbx6.out Try.underlying33 rfl hinf.out ?_)
              refine (hend.out _ hsl6.out).mono ?_
              rintro e w7 ⟨rfl, hs7⟩
              have hbx7 := Lib.hid ((hs7.block _ (blk_lt hbx6.out)).trans hbx6.out)
              have hsl7 := Lib.hid (hsl6.out.same hs7)
              have hw7 := Lib.hid hs7
              clear hs7
              go_wp2_with (refine load_row rfl _ _ rfl w.heap.size rfl _ _ _ _ hbx7.out Try.underlying33 rfl hinf.out ?_)
              refine (hoc.out _ hsl7.out).mono ?_
              rintro e w8 ⟨rfl, hs8⟩
              have hs68 := hw7.out.trans hs8
              have hb8 := (hs68.block _ (blk_lt hb.out)).trans hb.out
              have cq8 := hs68.cell cq.out
              have fz8 := blk_frozen hb8 p
              have e18 := hs68.cell e16.out
              have cp8 := hs68.cell cp.out
              have hk8 := hkp2.out.trans (Keep.of_same (p := fun _ => False) hs68) (fun _ _ h => h.elim)
              have hwp' := hwp.out
              clear hs8 hs68 hw7 hbx7 hsl7 hb hkp2 cq hbx6 hsl6
              replace hb8 := Lib.hid hb8
              replace hk8 := Lib.hid hk8
              go_wp2
              go_roundw
              case rel => exact ⟨i + 1, by omega, by go_num, (blk_set hb8.out).trans (by rw [hms.out]), hk8.out.trans (Keep.setCell (p := (· = g)) _ rfl) (fun _ _ h => h)⟩
              case measure => simp [intOf]; omega
          · obtain rfl : i = s := by omega
            have hbn : metP n Z j i = metP n Z (j + 1) 0 := by rw [hZe.out]; exact (metP_next n i j (by omega)).symm
            rw [hbn] at hb
            clear hbn
            replace hb := Lib.hid hb
            replace hkp2 := Lib.hid hkp2
            go_wp2
            go_roundw
            case rel => exact ⟨j + 1, by omega, by go_num, hb.out, hk5.out.trans hkp2.out (fun _ _ h => h)⟩
            case measure => simp [intOf]; omega
      · obtain rfl : j = n := by omega
        have hall := fun p hp => metP_all j Z (by omega) p hp
        have hsF : Same w wr := hw3.out.keep hkp (fun x hx hv => by omega)
        obtain ⟨M, hM⟩ : ∃ M, M = metP j Z j 0 := ⟨_, rfl⟩
        rw [← hM] at hall hb
        have hMl : M.length = Z := by rw [hM, metP_length]
        clear hM hkp
        replace hall := Lib.hid hall
        replace hb := Lib.hid hb
        replace hMl := Lib.hid hMl
        replace hsF := Lib.hid hsF
        rename_i wq
        go_wp2
        go_loopw [93] (fun i wy => ∃ k : Nat, k ≤ Z ∧ i = .int .i64 k ∧ Same wr wy) (fun i _ => Z - (intOf i).toNat)
        case atStart => exact ⟨0, by omega, rfl, Same.refl⟩
        case round =>
          obtain ⟨k, hk, rfl, hs9⟩ := hrel
          by_cases hkl : k < Z
          · have hb9 := (hs9.block _ (blk_lt hb.out)).trans hb.out
            have cz : wr.cell? ⟨g, k, none⟩ = some (.int .i64 1) := by
              rw [blk_cell hb9]
              have h1 : k < M.length := by rw [hMl.out]; exact hkl
              rw [List.getElem?_toArray, iv_get h1]
              have h3 : M.getD k 0 = M[k]'h1 := by simp [List.getD, h1]
              rw [← h3, hall.out k hkl]
            have u0 : 0 ≤ (k : Int) := by omega
            have u1 : (k : Int) < (Z : Int) := by omega
            clear hb9
            replace hs9 := Lib.hid hs9
            go_wp2
            go_roundw
            case rel => exact ⟨k + 1, by omega, by go_num, hs9.out⟩
            case measure => simp [intOf]; omega
          · go_wp2_with fail
            refine (hl.out _).mono ?_
            rintro e w9 ⟨rfl, hs10⟩
            go_wp2
            go_ret
            exact ⟨rfl, (hsF.out.trans hs9).trans hs10⟩
theorem walk_EpochParts (w : World) (a : EpIn) (ha : a.ep.cfg.wf ∧ (Lit.int .i64 a.ep.number).wf = true ∧ (Lit.int .i64 a.ep.start).wf = true ∧ Sl w 1 a.ao a.ep.leaders.length a.cap (iv a.ep.leaders) ∧ ∀ n ∈ a.ep.leaders, (Lit.int .i64 n).wf = true) :
    Calls Try.prog 5 #[.agg (epC a.ep.cfg a.ep.number a.ep.start a.ao a.ep.leaders.length a.cap).toArray] w fun e w' => e = .returned (.bool true) ∧ Same w w' := by
  by_cases h : 100 < a.ep.leaders.length
  · exact parts_no w _ _ _ _ _ _ a.ep.leaders ha.2.2.2.1 (.inl h)
  · cases hG : egood a.ep.cfg a.ep.number a.ep.start a.ep.leaders
    · exact parts_no w _ _ _ _ _ _ a.ep.leaders ha.2.2.2.1 (.inr ⟨by omega, hG⟩)
    · exact parts_yes w _ _ _ _ _ a.ep.leaders ha.2.2.2.1 ha.2.2.2.2 (by omega) hG
end Go.Proofs.Ytejdiganmghopaa
