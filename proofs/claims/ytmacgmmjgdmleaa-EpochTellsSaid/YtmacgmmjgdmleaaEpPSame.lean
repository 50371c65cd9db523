/-
  The program's epoch.Same.
-/
import Derived.Test.YtmacgmmjgdmleaaEpSame
import Derived.Test.YtmacgmmjgdmleaaSeq
import Derived.Deep.DeepCutAuto
import Derived.Deep.QuietTactic
import Derived.BigQuiet
namespace Go.Proofs.Ytmacgmmjgdmleaa
open Go Go.RowKit
set_option linter.unusedSimpArgs false
set_option linter.unusedVariables false

theorem Same.rng {w w' : World} (k : Same w w') {b o : Nat} {cs : List Value} (h : w.rangeAt b o cs) : w'.rangeAt b o cs := fun j v hj => k.cell (h j v hj)
theorem cfg_neq (a b : Cfg) (ha : a.wf) (hb : b.wf) (w : World) : (binOp .neq 68 (.agg a.cells.toArray) (.agg b.cells.toArray)).run Try.prog w = .ok (.bool (!Cfg.same a b)) w := by
  have h4 : Try.prog.cellsOf 68 = 10 := by kernel_rfl
  obtain ⟨r, hr, hiff⟩ := equal_lits w (by decide : 2 ≤ 10000) (by kernel_rfl) (by rw [Try.underlying68]) a.cells b.cells _ _ 3 (keyLits_cfg a ha) (keyLits_cfg b hb) (by rw [h4]; rfl) (by rw [h4]; rfl)
  rw [run_neq_struct, hr]
  have e : r = Cfg.same a b := by
    rw [Bool.eq_iff_iff, hiff, litsC_inj, Cfg.same, decide_eq_true_iff]
  rw [e]
  rfl
set_option maxRecDepth 100000 in
set_option maxHeartbeats 3200000 in
theorem psame_any (a b : EpV) (ao : Option Addr) (ac : Nat) (bo : Option Addr) (bc : Nat) (w : World) (ha : Sl w 1 ao a.leaders.length ac (iv a.leaders)) (hb : Sl w 1 bo b.leaders.length bc (iv b.leaders)) (wa : a.cfg.wf) (wb : b.cfg.wf) :
    Calls Try.prog 58 #[.agg (epC a.cfg a.number a.start ao a.leaders.length ac).toArray, .agg (epC b.cfg b.number b.start bo b.leaders.length bc).toArray] w fun e w' => e = .returned (.bool (esame a b)) ∧ Same w w' := by
  obtain ⟨c, na, sa, la⟩ := a
  obtain ⟨d, nb, sb, lb⟩ := b
  simp only at ha hb wa wb ⊢
  have hinfA := Lib.hid (ep_info c na sa ao la.length ac)
  have hinfB := Lib.hid (ep_info d nb sb bo lb.length bc)
  have hinfL := Lib.hid (cfg_infoL c)
  have hinfM := Lib.hid (cfg_infoL d)
  have hce := fun w => cfg_neq c d wa wb w
  unfold esame
  simp only
  obtain ⟨q, hq⟩ : ∃ q, q = Cfg.same c d := ⟨_, rfl⟩
  rw [← hq] at hce ⊢
  obtain ⟨R, hR⟩ : ∃ R, R = (q && (decide (na = nb) && (decide (sa = sb) && decide (la = lb)))) := ⟨_, rfl⟩
  rw [← hR]
  clear hq wa wb
  obtain ⟨n, hn⟩ : ∃ n, n = la.length := ⟨_, rfl⟩
  obtain ⟨m, hm⟩ : ∃ m, m = lb.length := ⟨_, rfl⟩
  rw [← hn] at hinfA ha ⊢
  rw [← hm] at hinfB hb ⊢
  replace ha := Lib.hid ha
  replace hb := Lib.hid hb
  cases q
  · have hR2 : R = false := by rw [hR]; rfl
    subst hR2
    clear hR hn hm
    replace hce : Hid (∀ w : World, (binOp .neq 68 (.agg c.cells.toArray) (.agg d.cells.toArray)).run Try.prog w = .ok (.bool true) w) := hce
    go_enter Try.func58, Try.ntmps58
    go_upto_region 1 with (first | (refine box_row rfl _ _ rfl (epC c na sa ao n ac).toArray rfl hinfA.out ?_; intro w0 hbx hs0; have hbxl := blk_lt hbx; replace hbx := Lib.hid hbx; replace hs0 := Lib.hid hs0) | (refine box_row rfl _ _ rfl (epC d nb sb bo m bc).toArray rfl hinfB.out ?_; intro w1 hd hs1; replace hd := Lib.hid hd; replace hs1 := Lib.hid hs1))
    have hbx1 := (hs1.out.block _ hbxl).trans hbx.out
    have hw1 := Lib.hid (hs0.out.trans hs1.out)
    have ra := Lib.hid (ep_cfg hbx1)
    have rb := Lib.hid (ep_cfg hd.out)
    have a1 := Lib.hid (ep_number hbx1)
    have a2 := Lib.hid (ep_start hbx1)
    have a3 := Lib.hid (ep_leaders hbx1)
    have d1 := Lib.hid (ep_number hd.out)
    have d2 := Lib.hid (ep_start hd.out)
    have d3 := Lib.hid (ep_leaders hd.out)
    clear hbx hs0 hs1 hbx1 hd
    refine wp_region_seq [(6, 0), (7, 1), (8, 2), (9, 3), (10, 4), (11, 5), (12, 6), (13, 7), (14, 8), (15, 9), (16, 10), (17, 11), (18, 12), (19, 13), (20, 14), (21, 15), (22, 16), (23, 17), (24, 18), (25, 19), (26, 20), (27, 21), (28, 22), (29, 23), (30, 24), (31, 25), (32, 26), (33, 27)] [[], [0], [], [2], [1, 3], [4], [5], [6, 5], [5], [8, 5], [7, 9, 5], [5, 10], [11], [12], [13, 12], [12], [15, 12], [14, 16, 12], [12, 17], [18], [19], [20, 19], [21, 19], [19], [23, 19], [24, 19], [22, 25, 19], [19, 26]] Same (Same _) [isV (.pointer (some ⟨w.heap.size, 0, none⟩)), isV (.agg c.cells.toArray), isV (.pointer (some ⟨w0.heap.size, 0, none⟩)), isV (.agg d.cells.toArray), isV (.bool true), isV (.bool true), isV undef, isV undef, isV undef, isV undef, isV undef, isV (.bool true), isV (.bool true), isV undef, isV undef, isV undef, isV undef, isV undef, isV (.bool true), isV (.bool true), isV undef, isV undef, isV undef, isV undef, isV undef, isV undef, isV undef, isV (.bool true)] Same.refl (fun _ _ h k => h.trans k) (by simp [isV_stable, isB_stable, isAny_stable]) (by decide +kernel) (l := [_, _, _, _, _, _, _, _, _, _, _, _, _, _, _, _, _, _, _, _, _, _, _, _, _, _, _, _]) rfl (by kernel_rfl) ?_ ?_
    · refine ⟨?_, ?_, ?_, ?_, ?_, ?_, ?_, ?_, ?_, ?_, ?_, ?_, ?_, ?_, ?_, ?_, ?_, ?_, ?_, ?_, ?_, ?_, ?_, ?_, ?_, ?_, ?_, ?_, trivial⟩
      all_goals (intro u wx hI hp; simp only [mkAct, List.foldl_cons, List.foldl_nil, List.setIfInBounds_toArray, List.set_cons_succ, List.set_cons_zero])
      · -- operation 0
        go_wp2
        refine stq_v rfl Same.refl ?_
        first | (simp only [mkAct, List.foldl_cons, List.foldl_nil, List.setIfInBounds_toArray, List.set_cons_succ, List.set_cons_zero, upd, reduceIte, Nat.reduceEqDiff, Nat.reduceAdd, str]; done) | (simp [mkAct, upd, str, *]; done)
      · -- operation 1
        obtain ⟨f0, -⟩ := hp
        replace f0 : u 0 = (.pointer (some ⟨w.heap.size, 0, none⟩)) := f0
        try simp only [f0, str]
        go_wp2_with (refine load_mid rfl _ _ rfl w.heap.size 0 rfl c.cells _ (hI.rng ra.out) Try.underlying68 rfl hinfL.out ?_)
        refine stq_v rfl Same.refl ?_
        first | (simp only [mkAct, List.foldl_cons, List.foldl_nil, List.setIfInBounds_toArray, List.set_cons_succ, List.set_cons_zero, upd, reduceIte, Nat.reduceEqDiff, Nat.reduceAdd, f0, str]; done) | (simp [mkAct, upd, f0, str, *]; done)
      · -- operation 2
        go_wp2
        refine stq_v rfl Same.refl ?_
        first | (simp only [mkAct, List.foldl_cons, List.foldl_nil, List.setIfInBounds_toArray, List.set_cons_succ, List.set_cons_zero, upd, reduceIte, Nat.reduceEqDiff, Nat.reduceAdd, str]; done) | (simp [mkAct, upd, str, *]; done)
      · -- operation 3
        obtain ⟨f2, -⟩ := hp
        replace f2 : u 2 = (.pointer (some ⟨w0.heap.size, 0, none⟩)) := f2
        try simp only [f2, str]
        go_wp2_with (refine load_mid rfl _ _ rfl w0.heap.size 0 rfl d.cells _ (hI.rng rb.out) Try.underlying68 rfl hinfM.out ?_)
        refine stq_v rfl Same.refl ?_
        first | (simp only [mkAct, List.foldl_cons, List.foldl_nil, List.setIfInBounds_toArray, List.set_cons_succ, List.set_cons_zero, upd, reduceIte, Nat.reduceEqDiff, Nat.reduceAdd, f2, str]; done) | (simp [mkAct, upd, f2, str, *]; done)
      · -- operation 4
        obtain ⟨f1, f3, -⟩ := hp
        replace f1 : u 1 = (.agg c.cells.toArray) := f1
        replace f3 : u 3 = (.agg d.cells.toArray) := f3
        try simp only [f1, f3, str]
        have hce' := hce.out
        have hgd := cfg_guard
        go_wp2
        refine stq_v rfl Same.refl ?_
        first | (simp only [mkAct, List.foldl_cons, List.foldl_nil, List.setIfInBounds_toArray, List.set_cons_succ, List.set_cons_zero, upd, reduceIte, Nat.reduceEqDiff, Nat.reduceAdd, f1, f3, str]; done) | (simp [mkAct, upd, f1, f3, str, *]; done)
      · -- operation 5
        obtain ⟨f4, -⟩ := hp
        replace f4 : u 4 = (.bool true) := f4
        try simp only [f4, str]
        go_wp2
        refine stq_v rfl Same.refl ?_
        first | (simp only [mkAct, List.foldl_cons, List.foldl_nil, List.setIfInBounds_toArray, List.set_cons_succ, List.set_cons_zero, upd, reduceIte, Nat.reduceEqDiff, Nat.reduceAdd, f4, str]; done) | (simp [mkAct, upd, f4, str, *]; done)
      · -- operation 6
        obtain ⟨f5, -⟩ := hp
        replace f5 : u 5 = (.bool true) := f5
        try simp only [f5, str]
        go_wp2
        refine stq_v rfl Same.refl ?_
        first | (simp only [mkAct, List.foldl_cons, List.foldl_nil, List.setIfInBounds_toArray, List.set_cons_succ, List.set_cons_zero, upd, reduceIte, Nat.reduceEqDiff, Nat.reduceAdd, f5, str]; done) | (simp [mkAct, upd, f5, str, *]; done)
      · -- operation 7
        obtain ⟨f6, f5, -⟩ := hp
        replace f6 : u 6 = undef := f6
        replace f5 : u 5 = (.bool true) := f5
        try simp only [f6, f5, str]
        go_wp2
        refine stq_v rfl Same.refl ?_
        first | (simp only [mkAct, List.foldl_cons, List.foldl_nil, List.setIfInBounds_toArray, List.set_cons_succ, List.set_cons_zero, upd, reduceIte, Nat.reduceEqDiff, Nat.reduceAdd, f6, f5, str]; done) | (simp [mkAct, upd, f6, f5, str, *]; done)
      · -- operation 8
        obtain ⟨f5, -⟩ := hp
        replace f5 : u 5 = (.bool true) := f5
        try simp only [f5, str]
        go_wp2
        refine stq_v rfl Same.refl ?_
        first | (simp only [mkAct, List.foldl_cons, List.foldl_nil, List.setIfInBounds_toArray, List.set_cons_succ, List.set_cons_zero, upd, reduceIte, Nat.reduceEqDiff, Nat.reduceAdd, f5, str]; done) | (simp [mkAct, upd, f5, str, *]; done)
      · -- operation 9
        obtain ⟨f8, f5, -⟩ := hp
        replace f8 : u 8 = undef := f8
        replace f5 : u 5 = (.bool true) := f5
        try simp only [f8, f5, str]
        go_wp2
        refine stq_v rfl Same.refl ?_
        first | (simp only [mkAct, List.foldl_cons, List.foldl_nil, List.setIfInBounds_toArray, List.set_cons_succ, List.set_cons_zero, upd, reduceIte, Nat.reduceEqDiff, Nat.reduceAdd, f8, f5, str]; done) | (simp [mkAct, upd, f8, f5, str, *]; done)
      · -- operation 10
        obtain ⟨f7, f9, f5, -⟩ := hp
        replace f7 : u 7 = undef := f7
        replace f9 : u 9 = undef := f9
        replace f5 : u 5 = (.bool true) := f5
        try simp only [f7, f9, f5, str]
        go_wp2
        refine stq_v rfl Same.refl ?_
        first | (simp only [mkAct, List.foldl_cons, List.foldl_nil, List.setIfInBounds_toArray, List.set_cons_succ, List.set_cons_zero, upd, reduceIte, Nat.reduceEqDiff, Nat.reduceAdd, f7, f9, f5, str]; done) | (simp [mkAct, upd, f7, f9, f5, str, *]; done)
      · -- operation 11
        obtain ⟨f5, f10, -⟩ := hp
        replace f5 : u 5 = (.bool true) := f5
        replace f10 : u 10 = undef := f10
        try simp only [f5, f10, str]
        go_wp2
        refine stq_v rfl Same.refl ?_
        first | (simp only [mkAct, List.foldl_cons, List.foldl_nil, List.setIfInBounds_toArray, List.set_cons_succ, List.set_cons_zero, upd, reduceIte, Nat.reduceEqDiff, Nat.reduceAdd, f5, f10, str]; done) | (simp [mkAct, upd, f5, f10, str, *]; done)
      · -- operation 12
        obtain ⟨f11, -⟩ := hp
        replace f11 : u 11 = (.bool true) := f11
        try simp only [f11, str]
        go_wp2
        refine stq_v rfl Same.refl ?_
        first | (simp only [mkAct, List.foldl_cons, List.foldl_nil, List.setIfInBounds_toArray, List.set_cons_succ, List.set_cons_zero, upd, reduceIte, Nat.reduceEqDiff, Nat.reduceAdd, f11, str]; done) | (simp [mkAct, upd, f11, str, *]; done)
      · -- operation 13
        obtain ⟨f12, -⟩ := hp
        replace f12 : u 12 = (.bool true) := f12
        try simp only [f12, str]
        go_wp2
        refine stq_v rfl Same.refl ?_
        first | (simp only [mkAct, List.foldl_cons, List.foldl_nil, List.setIfInBounds_toArray, List.set_cons_succ, List.set_cons_zero, upd, reduceIte, Nat.reduceEqDiff, Nat.reduceAdd, f12, str]; done) | (simp [mkAct, upd, f12, str, *]; done)
      · -- operation 14
        obtain ⟨f13, f12, -⟩ := hp
        replace f13 : u 13 = undef := f13
        replace f12 : u 12 = (.bool true) := f12
        try simp only [f13, f12, str]
        go_wp2
        refine stq_v rfl Same.refl ?_
        first | (simp only [mkAct, List.foldl_cons, List.foldl_nil, List.setIfInBounds_toArray, List.set_cons_succ, List.set_cons_zero, upd, reduceIte, Nat.reduceEqDiff, Nat.reduceAdd, f13, f12, str]; done) | (simp [mkAct, upd, f13, f12, str, *]; done)
      · -- operation 15
        obtain ⟨f12, -⟩ := hp
        replace f12 : u 12 = (.bool true) := f12
        try simp only [f12, str]
        go_wp2
        refine stq_v rfl Same.refl ?_
        first | (simp only [mkAct, List.foldl_cons, List.foldl_nil, List.setIfInBounds_toArray, List.set_cons_succ, List.set_cons_zero, upd, reduceIte, Nat.reduceEqDiff, Nat.reduceAdd, f12, str]; done) | (simp [mkAct, upd, f12, str, *]; done)
      · -- operation 16
        obtain ⟨f15, f12, -⟩ := hp
        replace f15 : u 15 = undef := f15
        replace f12 : u 12 = (.bool true) := f12
        try simp only [f15, f12, str]
        go_wp2
        refine stq_v rfl Same.refl ?_
        first | (simp only [mkAct, List.foldl_cons, List.foldl_nil, List.setIfInBounds_toArray, List.set_cons_succ, List.set_cons_zero, upd, reduceIte, Nat.reduceEqDiff, Nat.reduceAdd, f15, f12, str]; done) | (simp [mkAct, upd, f15, f12, str, *]; done)
      · -- operation 17
        obtain ⟨f14, f16, f12, -⟩ := hp
        replace f14 : u 14 = undef := f14
        replace f16 : u 16 = undef := f16
        replace f12 : u 12 = (.bool true) := f12
        try simp only [f14, f16, f12, str]
        go_wp2
        refine stq_v rfl Same.refl ?_
        first | (simp only [mkAct, List.foldl_cons, List.foldl_nil, List.setIfInBounds_toArray, List.set_cons_succ, List.set_cons_zero, upd, reduceIte, Nat.reduceEqDiff, Nat.reduceAdd, f14, f16, f12, str]; done) | (simp [mkAct, upd, f14, f16, f12, str, *]; done)
      · -- operation 18
        obtain ⟨f12, f17, -⟩ := hp
        replace f12 : u 12 = (.bool true) := f12
        replace f17 : u 17 = undef := f17
        try simp only [f12, f17, str]
        go_wp2
        refine stq_v rfl Same.refl ?_
        first | (simp only [mkAct, List.foldl_cons, List.foldl_nil, List.setIfInBounds_toArray, List.set_cons_succ, List.set_cons_zero, upd, reduceIte, Nat.reduceEqDiff, Nat.reduceAdd, f12, f17, str]; done) | (simp [mkAct, upd, f12, f17, str, *]; done)
      · -- operation 19
        obtain ⟨f18, -⟩ := hp
        replace f18 : u 18 = (.bool true) := f18
        try simp only [f18, str]
        go_wp2
        refine stq_v rfl Same.refl ?_
        first | (simp only [mkAct, List.foldl_cons, List.foldl_nil, List.setIfInBounds_toArray, List.set_cons_succ, List.set_cons_zero, upd, reduceIte, Nat.reduceEqDiff, Nat.reduceAdd, f18, str]; done) | (simp [mkAct, upd, f18, str, *]; done)
      · -- operation 20
        obtain ⟨f19, -⟩ := hp
        replace f19 : u 19 = (.bool true) := f19
        try simp only [f19, str]
        go_wp2
        refine stq_v rfl Same.refl ?_
        first | (simp only [mkAct, List.foldl_cons, List.foldl_nil, List.setIfInBounds_toArray, List.set_cons_succ, List.set_cons_zero, upd, reduceIte, Nat.reduceEqDiff, Nat.reduceAdd, f19, str]; done) | (simp [mkAct, upd, f19, str, *]; done)
      · -- operation 21
        obtain ⟨f20, f19, -⟩ := hp
        replace f20 : u 20 = undef := f20
        replace f19 : u 19 = (.bool true) := f19
        try simp only [f20, f19, str]
        go_wp2
        refine stq_v rfl Same.refl ?_
        first | (simp only [mkAct, List.foldl_cons, List.foldl_nil, List.setIfInBounds_toArray, List.set_cons_succ, List.set_cons_zero, upd, reduceIte, Nat.reduceEqDiff, Nat.reduceAdd, f20, f19, str]; done) | (simp [mkAct, upd, f20, f19, str, *]; done)
      · -- operation 22
        obtain ⟨f21, f19, -⟩ := hp
        replace f21 : u 21 = undef := f21
        replace f19 : u 19 = (.bool true) := f19
        try simp only [f21, f19, str]
        go_wp2
        refine stq_v rfl Same.refl ?_
        first | (simp only [mkAct, List.foldl_cons, List.foldl_nil, List.setIfInBounds_toArray, List.set_cons_succ, List.set_cons_zero, upd, reduceIte, Nat.reduceEqDiff, Nat.reduceAdd, f21, f19, str]; done) | (simp [mkAct, upd, f21, f19, str, *]; done)
      · -- operation 23
        obtain ⟨f19, -⟩ := hp
        replace f19 : u 19 = (.bool true) := f19
        try simp only [f19, str]
        go_wp2
        refine stq_v rfl Same.refl ?_
        first | (simp only [mkAct, List.foldl_cons, List.foldl_nil, List.setIfInBounds_toArray, List.set_cons_succ, List.set_cons_zero, upd, reduceIte, Nat.reduceEqDiff, Nat.reduceAdd, f19, str]; done) | (simp [mkAct, upd, f19, str, *]; done)
      · -- operation 24
        obtain ⟨f23, f19, -⟩ := hp
        replace f23 : u 23 = undef := f23
        replace f19 : u 19 = (.bool true) := f19
        try simp only [f23, f19, str]
        go_wp2
        refine stq_v rfl Same.refl ?_
        first | (simp only [mkAct, List.foldl_cons, List.foldl_nil, List.setIfInBounds_toArray, List.set_cons_succ, List.set_cons_zero, upd, reduceIte, Nat.reduceEqDiff, Nat.reduceAdd, f23, f19, str]; done) | (simp [mkAct, upd, f23, f19, str, *]; done)
      · -- operation 25
        obtain ⟨f24, f19, -⟩ := hp
        replace f24 : u 24 = undef := f24
        replace f19 : u 19 = (.bool true) := f19
        try simp only [f24, f19, str]
        go_wp2
        refine stq_v rfl Same.refl ?_
        first | (simp only [mkAct, List.foldl_cons, List.foldl_nil, List.setIfInBounds_toArray, List.set_cons_succ, List.set_cons_zero, upd, reduceIte, Nat.reduceEqDiff, Nat.reduceAdd, f24, f19, str]; done) | (simp [mkAct, upd, f24, f19, str, *]; done)
      · -- operation 26
        obtain ⟨f22, f25, f19, -⟩ := hp
        replace f22 : u 22 = undef := f22
        replace f25 : u 25 = undef := f25
        replace f19 : u 19 = (.bool true) := f19
        try simp only [f22, f25, f19, str]
        go_wp2
        refine stq_v rfl Same.refl ?_
        first | (simp only [mkAct, List.foldl_cons, List.foldl_nil, List.setIfInBounds_toArray, List.set_cons_succ, List.set_cons_zero, upd, reduceIte, Nat.reduceEqDiff, Nat.reduceAdd, f22, f25, f19, str]; done) | (simp [mkAct, upd, f22, f25, f19, str, *]; done)
      · -- operation 27
        obtain ⟨f19, f26, -⟩ := hp
        replace f19 : u 19 = (.bool true) := f19
        replace f26 : u 26 = undef := f26
        try simp only [f19, f26, str]
        go_wp2
        refine stq_v rfl Same.refl ?_
        first | (simp only [mkAct, List.foldl_cons, List.foldl_nil, List.setIfInBounds_toArray, List.set_cons_succ, List.set_cons_zero, upd, reduceIte, Nat.reduceEqDiff, Nat.reduceAdd, f19, f26, str]; done) | (simp [mkAct, upd, f19, f26, str, *]; done)
    · intro u wx hI hR
      obtain ⟨r0, r1, r2, r3, r4, r5, r6, r7, r8, r9, r10, r11, r12, r13, r14, r15, r16, r17, r18, r19, r20, r21, r22, r23, r24, r25, r26, r27, -⟩ := hR
      replace r0 : u 0 = (.pointer (some ⟨w.heap.size, 0, none⟩)) := r0
      replace r1 : u 1 = (.agg c.cells.toArray) := r1
      replace r2 : u 2 = (.pointer (some ⟨w0.heap.size, 0, none⟩)) := r2
      replace r3 : u 3 = (.agg d.cells.toArray) := r3
      replace r4 : u 4 = (.bool true) := r4
      replace r5 : u 5 = (.bool true) := r5
      replace r6 : u 6 = undef := r6
      replace r7 : u 7 = undef := r7
      replace r8 : u 8 = undef := r8
      replace r9 : u 9 = undef := r9
      replace r10 : u 10 = undef := r10
      replace r11 : u 11 = (.bool true) := r11
      replace r12 : u 12 = (.bool true) := r12
      replace r13 : u 13 = undef := r13
      replace r14 : u 14 = undef := r14
      replace r15 : u 15 = undef := r15
      replace r16 : u 16 = undef := r16
      replace r17 : u 17 = undef := r17
      replace r18 : u 18 = (.bool true) := r18
      replace r19 : u 19 = (.bool true) := r19
      replace r20 : u 20 = undef := r20
      replace r21 : u 21 = undef := r21
      replace r22 : u 22 = undef := r22
      replace r23 : u 23 = undef := r23
      replace r24 : u 24 = undef := r24
      replace r25 : u 25 = undef := r25
      replace r26 : u 26 = undef := r26
      replace r27 : u 27 = (.bool true) := r27
      simp only [mkAct, List.foldl_cons, List.foldl_nil, List.setIfInBounds_toArray, List.set_cons_succ, List.set_cons_zero]
      try simp only [str, r0, r1, r2, r3, r4, r5, r6, r7, r8, r9, r10, r11, r12, r13, r14, r15, r16, r17, r18, r19, r20, r21, r22, r23, r24, r25, r26, r27]
      go_wp2
      go_ret
      exact ⟨rfl, hw1.out.trans hI⟩
  · replace hce : Hid (∀ w : World, (binOp .neq 68 (.agg c.cells.toArray) (.agg d.cells.toArray)).run Try.prog w = .ok (.bool false) w) := hce
    rw [Bool.true_and] at hR
    by_cases h1 : na = nb
    · have g1 : (na != nb) = false := by simp [h1]
      rw [decide_eq_true h1, Bool.true_and] at hR
      by_cases h2 : sa = sb
      · have g2 : (sa != sb) = false := by simp [h2]
        rw [decide_eq_true h2, Bool.true_and] at hR
        clear h1 h2
        replace g1 := Lib.hid g1
        replace g2 := Lib.hid g2
        by_cases h3 : n = m
        · subst h3
          have g3 : ((n : Int) != (n : Int)) = false := by simp
          have hcapA := ha.out.cap
          have hcapB := hb.out.cap
          have hmostA := ha.out.most
          unfold maxLen at hmostA
          have hstop : la.take n = lb.take n → R = true := by
            intro h
            rw [List.take_of_length_le (by omega), List.take_of_length_le (by omega)] at h
            rw [hR, h]
            simp
          have hbad : ∀ k, k < n → la.getD k 0 ≠ lb.getD k 0 → R = false := by
            intro k hk hne
            rw [hR, decide_eq_false]
            intro e
            exact hne (by rw [e])
          have hnx : ∀ k, k < n → la.take k = lb.take k → la.getD k 0 = lb.getD k 0 → la.take (k + 1) = lb.take (k + 1) := by
            intro k hk h1 h2
            rw [List.take_succ_eq_append_getElem (by omega), List.take_succ_eq_append_getElem (by omega), h1]
            simp only [List.getD, List.getElem?_eq_getElem (show k < la.length by omega), List.getElem?_eq_getElem (show k < lb.length by omega), Option.getD_some] at h2
            rw [h2]
          replace g3 := Lib.hid g3
          replace hR := Lib.hid hR
          replace hstop := Lib.hid hstop
          replace hbad := Lib.hid hbad
          replace hnx := Lib.hid hnx
          replace hn := Lib.hid hn
          replace hm := Lib.hid hm
          obtain ⟨m, hmn⟩ : ∃ m, m = n := ⟨_, rfl⟩
          rw [← hmn] at hinfB
          have g3' : ((n : Int) != (m : Int)) = false := by rw [hmn]; exact g3.out
          rw [show #[Value.agg (epC c na sa ao n ac).toArray, .agg (epC d nb sb bo n bc).toArray] = #[.agg (epC c na sa ao n ac).toArray, .agg (epC d nb sb bo m bc).toArray] from by rw [hmn]]
          replace hmn := Lib.hid hmn
          replace g3' := Lib.hid g3'
          go_enter Try.func58, Try.ntmps58
          go_upto_region 1 with (first | (refine box_row rfl _ _ rfl (epC c na sa ao n ac).toArray rfl hinfA.out ?_; intro w0 hbx hs0; have hbxl := blk_lt hbx; replace hbx := Lib.hid hbx; replace hs0 := Lib.hid hs0) | (refine box_row rfl _ _ rfl (epC d nb sb bo m bc).toArray rfl hinfB.out ?_; intro w1 hd hs1; replace hd := Lib.hid hd; replace hs1 := Lib.hid hs1))
          have hbx1 := (hs1.out.block _ hbxl).trans hbx.out
          have hw1 := Lib.hid (hs0.out.trans hs1.out)
          have ra := Lib.hid (ep_cfg hbx1)
          have rb := Lib.hid (ep_cfg hd.out)
          have a1 := Lib.hid (ep_number hbx1)
          have a2 := Lib.hid (ep_start hbx1)
          have a3 := Lib.hid (ep_leaders hbx1)
          have d1 := Lib.hid (ep_number hd.out)
          have d2 := Lib.hid (ep_start hd.out)
          have d3 := Lib.hid (ep_leaders hd.out)
          clear hbx hs0 hs1 hbx1 hd
          refine wp_region_seq [(6, 0), (7, 1), (8, 2), (9, 3), (10, 4), (11, 5), (12, 6), (13, 7), (14, 8), (15, 9), (16, 10), (17, 11), (18, 12), (19, 13), (20, 14), (21, 15), (22, 16), (23, 17), (24, 18), (25, 19), (26, 20), (27, 21), (28, 22), (29, 23), (30, 24), (31, 25), (32, 26), (33, 27)] [[], [0], [], [2], [1, 3], [4], [5], [6, 5], [5], [8, 5], [7, 9, 5], [5, 10], [11], [12], [13, 12], [12], [15, 12], [14, 16, 12], [12, 17], [18], [19], [20, 19], [21, 19], [19], [23, 19], [24, 19], [22, 25, 19], [19, 26]] Same (Same _) [isV (.pointer (some ⟨w.heap.size, 0, none⟩)), isV (.agg c.cells.toArray), isV (.pointer (some ⟨w0.heap.size, 0, none⟩)), isV (.agg d.cells.toArray), isV (.bool false), isV (.bool false), isV (.pointer (some ⟨w.heap.size, 10, none⟩)), isV (.int .i64 na), isV (.pointer (some ⟨w0.heap.size, 10, none⟩)), isV (.int .i64 nb), isV (.bool false), isV (.bool false), isV (.bool false), isV (.pointer (some ⟨w.heap.size, 11, none⟩)), isV (.int .i64 sa), isV (.pointer (some ⟨w0.heap.size, 11, none⟩)), isV (.int .i64 sb), isV (.bool false), isV (.bool false), isV (.bool false), isV (.pointer (some ⟨w.heap.size, 12, none⟩)), isV (.slice ao n ac), isV (.int .i64 n), isV (.pointer (some ⟨w0.heap.size, 12, none⟩)), isV (.slice bo m bc), isV (.int .i64 m), isV (.bool false), isV (.bool false)] Same.refl (fun _ _ h k => h.trans k) (by simp [isV_stable, isB_stable, isAny_stable]) (by decide +kernel) (l := [_, _, _, _, _, _, _, _, _, _, _, _, _, _, _, _, _, _, _, _, _, _, _, _, _, _, _, _]) rfl (by kernel_rfl) ?_ ?_
          · refine ⟨?_, ?_, ?_, ?_, ?_, ?_, ?_, ?_, ?_, ?_, ?_, ?_, ?_, ?_, ?_, ?_, ?_, ?_, ?_, ?_, ?_, ?_, ?_, ?_, ?_, ?_, ?_, ?_, trivial⟩
            all_goals (intro u wx hI hp; simp only [mkAct, List.foldl_cons, List.foldl_nil, List.setIfInBounds_toArray, List.set_cons_succ, List.set_cons_zero])
            · -- operation 0
              go_wp2
              refine stq_v rfl Same.refl ?_
              first | (simp only [mkAct, List.foldl_cons, List.foldl_nil, List.setIfInBounds_toArray, List.set_cons_succ, List.set_cons_zero, upd, reduceIte, Nat.reduceEqDiff, Nat.reduceAdd, str]; done) | (simp [mkAct, upd, str, *]; done)
            · -- operation 1
              obtain ⟨f0, -⟩ := hp
              replace f0 : u 0 = (.pointer (some ⟨w.heap.size, 0, none⟩)) := f0
              try simp only [f0, str]
              go_wp2_with (refine load_mid rfl _ _ rfl w.heap.size 0 rfl c.cells _ (hI.rng ra.out) Try.underlying68 rfl hinfL.out ?_)
              refine stq_v rfl Same.refl ?_
              first | (simp only [mkAct, List.foldl_cons, List.foldl_nil, List.setIfInBounds_toArray, List.set_cons_succ, List.set_cons_zero, upd, reduceIte, Nat.reduceEqDiff, Nat.reduceAdd, f0, str]; done) | (simp [mkAct, upd, f0, str, *]; done)
            · -- operation 2
              go_wp2
              refine stq_v rfl Same.refl ?_
              first | (simp only [mkAct, List.foldl_cons, List.foldl_nil, List.setIfInBounds_toArray, List.set_cons_succ, List.set_cons_zero, upd, reduceIte, Nat.reduceEqDiff, Nat.reduceAdd, str]; done) | (simp [mkAct, upd, str, *]; done)
            · -- operation 3
              obtain ⟨f2, -⟩ := hp
              replace f2 : u 2 = (.pointer (some ⟨w0.heap.size, 0, none⟩)) := f2
              try simp only [f2, str]
              go_wp2_with (refine load_mid rfl _ _ rfl w0.heap.size 0 rfl d.cells _ (hI.rng rb.out) Try.underlying68 rfl hinfM.out ?_)
              refine stq_v rfl Same.refl ?_
              first | (simp only [mkAct, List.foldl_cons, List.foldl_nil, List.setIfInBounds_toArray, List.set_cons_succ, List.set_cons_zero, upd, reduceIte, Nat.reduceEqDiff, Nat.reduceAdd, f2, str]; done) | (simp [mkAct, upd, f2, str, *]; done)
            · -- operation 4
              obtain ⟨f1, f3, -⟩ := hp
              replace f1 : u 1 = (.agg c.cells.toArray) := f1
              replace f3 : u 3 = (.agg d.cells.toArray) := f3
              try simp only [f1, f3, str]
              have hce' := hce.out
              have hgd := cfg_guard
              go_wp2
              refine stq_v rfl Same.refl ?_
              first | (simp only [mkAct, List.foldl_cons, List.foldl_nil, List.setIfInBounds_toArray, List.set_cons_succ, List.set_cons_zero, upd, reduceIte, Nat.reduceEqDiff, Nat.reduceAdd, f1, f3, str]; done) | (simp [mkAct, upd, f1, f3, str, *]; done)
            · -- operation 5
              obtain ⟨f4, -⟩ := hp
              replace f4 : u 4 = (.bool false) := f4
              try simp only [f4, str]
              go_wp2
              refine stq_v rfl Same.refl ?_
              first | (simp only [mkAct, List.foldl_cons, List.foldl_nil, List.setIfInBounds_toArray, List.set_cons_succ, List.set_cons_zero, upd, reduceIte, Nat.reduceEqDiff, Nat.reduceAdd, f4, str]; done) | (simp [mkAct, upd, f4, str, *]; done)
            · -- operation 6
              obtain ⟨f5, -⟩ := hp
              replace f5 : u 5 = (.bool false) := f5
              try simp only [f5, str]
              go_wp2
              refine stq_v rfl Same.refl ?_
              first | (simp only [mkAct, List.foldl_cons, List.foldl_nil, List.setIfInBounds_toArray, List.set_cons_succ, List.set_cons_zero, upd, reduceIte, Nat.reduceEqDiff, Nat.reduceAdd, f5, str]; done) | (simp [mkAct, upd, f5, str, *]; done)
            · -- operation 7
              obtain ⟨f6, f5, -⟩ := hp
              replace f6 : u 6 = (.pointer (some ⟨w.heap.size, 10, none⟩)) := f6
              replace f5 : u 5 = (.bool false) := f5
              try simp only [f6, f5, str]
              have cx := hI.cell (a1.out)
              go_wp2
              refine stq_v rfl Same.refl ?_
              first | (simp only [mkAct, List.foldl_cons, List.foldl_nil, List.setIfInBounds_toArray, List.set_cons_succ, List.set_cons_zero, upd, reduceIte, Nat.reduceEqDiff, Nat.reduceAdd, f6, f5, str]; done) | (simp [mkAct, upd, f6, f5, str, *]; done)
            · -- operation 8
              obtain ⟨f5, -⟩ := hp
              replace f5 : u 5 = (.bool false) := f5
              try simp only [f5, str]
              go_wp2
              refine stq_v rfl Same.refl ?_
              first | (simp only [mkAct, List.foldl_cons, List.foldl_nil, List.setIfInBounds_toArray, List.set_cons_succ, List.set_cons_zero, upd, reduceIte, Nat.reduceEqDiff, Nat.reduceAdd, f5, str]; done) | (simp [mkAct, upd, f5, str, *]; done)
            · -- operation 9
              obtain ⟨f8, f5, -⟩ := hp
              replace f8 : u 8 = (.pointer (some ⟨w0.heap.size, 10, none⟩)) := f8
              replace f5 : u 5 = (.bool false) := f5
              try simp only [f8, f5, str]
              have cx := hI.cell (d1.out)
              go_wp2
              refine stq_v rfl Same.refl ?_
              first | (simp only [mkAct, List.foldl_cons, List.foldl_nil, List.setIfInBounds_toArray, List.set_cons_succ, List.set_cons_zero, upd, reduceIte, Nat.reduceEqDiff, Nat.reduceAdd, f8, f5, str]; done) | (simp [mkAct, upd, f8, f5, str, *]; done)
            · -- operation 10
              obtain ⟨f7, f9, f5, -⟩ := hp
              replace f7 : u 7 = (.int .i64 na) := f7
              replace f9 : u 9 = (.int .i64 nb) := f9
              replace f5 : u 5 = (.bool false) := f5
              try simp only [f7, f9, f5, str]
              have g := g1.out
              go_wp2
              refine stq_v rfl Same.refl ?_
              first | (simp only [mkAct, List.foldl_cons, List.foldl_nil, List.setIfInBounds_toArray, List.set_cons_succ, List.set_cons_zero, upd, reduceIte, Nat.reduceEqDiff, Nat.reduceAdd, f7, f9, f5, str]; done) | (simp [mkAct, upd, f7, f9, f5, str, *]; done)
            · -- operation 11
              obtain ⟨f5, f10, -⟩ := hp
              replace f5 : u 5 = (.bool false) := f5
              replace f10 : u 10 = (.bool false) := f10
              try simp only [f5, f10, str]
              go_wp2
              refine stq_v rfl Same.refl ?_
              first | (simp only [mkAct, List.foldl_cons, List.foldl_nil, List.setIfInBounds_toArray, List.set_cons_succ, List.set_cons_zero, upd, reduceIte, Nat.reduceEqDiff, Nat.reduceAdd, f5, f10, str]; done) | (simp [mkAct, upd, f5, f10, str, *]; done)
            · -- operation 12
              obtain ⟨f11, -⟩ := hp
              replace f11 : u 11 = (.bool false) := f11
              try simp only [f11, str]
              go_wp2
              refine stq_v rfl Same.refl ?_
              first | (simp only [mkAct, List.foldl_cons, List.foldl_nil, List.setIfInBounds_toArray, List.set_cons_succ, List.set_cons_zero, upd, reduceIte, Nat.reduceEqDiff, Nat.reduceAdd, f11, str]; done) | (simp [mkAct, upd, f11, str, *]; done)
            · -- operation 13
              obtain ⟨f12, -⟩ := hp
              replace f12 : u 12 = (.bool false) := f12
              try simp only [f12, str]
              go_wp2
              refine stq_v rfl Same.refl ?_
              first | (simp only [mkAct, List.foldl_cons, List.foldl_nil, List.setIfInBounds_toArray, List.set_cons_succ, List.set_cons_zero, upd, reduceIte, Nat.reduceEqDiff, Nat.reduceAdd, f12, str]; done) | (simp [mkAct, upd, f12, str, *]; done)
            · -- operation 14
              obtain ⟨f13, f12, -⟩ := hp
              replace f13 : u 13 = (.pointer (some ⟨w.heap.size, 11, none⟩)) := f13
              replace f12 : u 12 = (.bool false) := f12
              try simp only [f13, f12, str]
              have cx := hI.cell (a2.out)
              go_wp2
              refine stq_v rfl Same.refl ?_
              first | (simp only [mkAct, List.foldl_cons, List.foldl_nil, List.setIfInBounds_toArray, List.set_cons_succ, List.set_cons_zero, upd, reduceIte, Nat.reduceEqDiff, Nat.reduceAdd, f13, f12, str]; done) | (simp [mkAct, upd, f13, f12, str, *]; done)
            · -- operation 15
              obtain ⟨f12, -⟩ := hp
              replace f12 : u 12 = (.bool false) := f12
              try simp only [f12, str]
              go_wp2
              refine stq_v rfl Same.refl ?_
              first | (simp only [mkAct, List.foldl_cons, List.foldl_nil, List.setIfInBounds_toArray, List.set_cons_succ, List.set_cons_zero, upd, reduceIte, Nat.reduceEqDiff, Nat.reduceAdd, f12, str]; done) | (simp [mkAct, upd, f12, str, *]; done)
            · -- operation 16
              obtain ⟨f15, f12, -⟩ := hp
              replace f15 : u 15 = (.pointer (some ⟨w0.heap.size, 11, none⟩)) := f15
              replace f12 : u 12 = (.bool false) := f12
              try simp only [f15, f12, str]
              have cx := hI.cell (d2.out)
              go_wp2
              refine stq_v rfl Same.refl ?_
              first | (simp only [mkAct, List.foldl_cons, List.foldl_nil, List.setIfInBounds_toArray, List.set_cons_succ, List.set_cons_zero, upd, reduceIte, Nat.reduceEqDiff, Nat.reduceAdd, f15, f12, str]; done) | (simp [mkAct, upd, f15, f12, str, *]; done)
            · -- operation 17
              obtain ⟨f14, f16, f12, -⟩ := hp
              replace f14 : u 14 = (.int .i64 sa) := f14
              replace f16 : u 16 = (.int .i64 sb) := f16
              replace f12 : u 12 = (.bool false) := f12
              try simp only [f14, f16, f12, str]
              have g := g2.out
              go_wp2
              refine stq_v rfl Same.refl ?_
              first | (simp only [mkAct, List.foldl_cons, List.foldl_nil, List.setIfInBounds_toArray, List.set_cons_succ, List.set_cons_zero, upd, reduceIte, Nat.reduceEqDiff, Nat.reduceAdd, f14, f16, f12, str]; done) | (simp [mkAct, upd, f14, f16, f12, str, *]; done)
            · -- operation 18
              obtain ⟨f12, f17, -⟩ := hp
              replace f12 : u 12 = (.bool false) := f12
              replace f17 : u 17 = (.bool false) := f17
              try simp only [f12, f17, str]
              go_wp2
              refine stq_v rfl Same.refl ?_
              first | (simp only [mkAct, List.foldl_cons, List.foldl_nil, List.setIfInBounds_toArray, List.set_cons_succ, List.set_cons_zero, upd, reduceIte, Nat.reduceEqDiff, Nat.reduceAdd, f12, f17, str]; done) | (simp [mkAct, upd, f12, f17, str, *]; done)
            · -- operation 19
              obtain ⟨f18, -⟩ := hp
              replace f18 : u 18 = (.bool false) := f18
              try simp only [f18, str]
              go_wp2
              refine stq_v rfl Same.refl ?_
              first | (simp only [mkAct, List.foldl_cons, List.foldl_nil, List.setIfInBounds_toArray, List.set_cons_succ, List.set_cons_zero, upd, reduceIte, Nat.reduceEqDiff, Nat.reduceAdd, f18, str]; done) | (simp [mkAct, upd, f18, str, *]; done)
            · -- operation 20
              obtain ⟨f19, -⟩ := hp
              replace f19 : u 19 = (.bool false) := f19
              try simp only [f19, str]
              go_wp2
              refine stq_v rfl Same.refl ?_
              first | (simp only [mkAct, List.foldl_cons, List.foldl_nil, List.setIfInBounds_toArray, List.set_cons_succ, List.set_cons_zero, upd, reduceIte, Nat.reduceEqDiff, Nat.reduceAdd, f19, str]; done) | (simp [mkAct, upd, f19, str, *]; done)
            · -- operation 21
              obtain ⟨f20, f19, -⟩ := hp
              replace f20 : u 20 = (.pointer (some ⟨w.heap.size, 12, none⟩)) := f20
              replace f19 : u 19 = (.bool false) := f19
              try simp only [f20, f19, str]
              have cx := hI.cell (a3.out)
              go_wp2
              refine stq_v rfl Same.refl ?_
              first | (simp only [mkAct, List.foldl_cons, List.foldl_nil, List.setIfInBounds_toArray, List.set_cons_succ, List.set_cons_zero, upd, reduceIte, Nat.reduceEqDiff, Nat.reduceAdd, f20, f19, str]; done) | (simp [mkAct, upd, f20, f19, str, *]; done)
            · -- operation 22
              obtain ⟨f21, f19, -⟩ := hp
              replace f21 : u 21 = (.slice ao n ac) := f21
              replace f19 : u 19 = (.bool false) := f19
              try simp only [f21, f19, str]
              go_wp2
              refine stq_v rfl Same.refl ?_
              first | (simp only [mkAct, List.foldl_cons, List.foldl_nil, List.setIfInBounds_toArray, List.set_cons_succ, List.set_cons_zero, upd, reduceIte, Nat.reduceEqDiff, Nat.reduceAdd, f21, f19, str]; done) | (simp [mkAct, upd, f21, f19, str, *]; done)
            · -- operation 23
              obtain ⟨f19, -⟩ := hp
              replace f19 : u 19 = (.bool false) := f19
              try simp only [f19, str]
              go_wp2
              refine stq_v rfl Same.refl ?_
              first | (simp only [mkAct, List.foldl_cons, List.foldl_nil, List.setIfInBounds_toArray, List.set_cons_succ, List.set_cons_zero, upd, reduceIte, Nat.reduceEqDiff, Nat.reduceAdd, f19, str]; done) | (simp [mkAct, upd, f19, str, *]; done)
            · -- operation 24
              obtain ⟨f23, f19, -⟩ := hp
              replace f23 : u 23 = (.pointer (some ⟨w0.heap.size, 12, none⟩)) := f23
              replace f19 : u 19 = (.bool false) := f19
              try simp only [f23, f19, str]
              have cx := hI.cell (d3.out)
              go_wp2
              refine stq_v rfl Same.refl ?_
              first | (simp only [mkAct, List.foldl_cons, List.foldl_nil, List.setIfInBounds_toArray, List.set_cons_succ, List.set_cons_zero, upd, reduceIte, Nat.reduceEqDiff, Nat.reduceAdd, f23, f19, str]; done) | (simp [mkAct, upd, f23, f19, str, *]; done)
            · -- operation 25
              obtain ⟨f24, f19, -⟩ := hp
              replace f24 : u 24 = (.slice bo m bc) := f24
              replace f19 : u 19 = (.bool false) := f19
              try simp only [f24, f19, str]
              go_wp2
              refine stq_v rfl Same.refl ?_
              first | (simp only [mkAct, List.foldl_cons, List.foldl_nil, List.setIfInBounds_toArray, List.set_cons_succ, List.set_cons_zero, upd, reduceIte, Nat.reduceEqDiff, Nat.reduceAdd, f24, f19, str]; done) | (simp [mkAct, upd, f24, f19, str, *]; done)
            · -- operation 26
              obtain ⟨f22, f25, f19, -⟩ := hp
              replace f22 : u 22 = (.int .i64 n) := f22
              replace f25 : u 25 = (.int .i64 m) := f25
              replace f19 : u 19 = (.bool false) := f19
              try simp only [f22, f25, f19, str]
              have g := g3'.out
              go_wp2
              refine stq_v rfl Same.refl ?_
              first | (simp only [mkAct, List.foldl_cons, List.foldl_nil, List.setIfInBounds_toArray, List.set_cons_succ, List.set_cons_zero, upd, reduceIte, Nat.reduceEqDiff, Nat.reduceAdd, f22, f25, f19, str]; done) | (simp [mkAct, upd, f22, f25, f19, str, *]; done)
            · -- operation 27
              obtain ⟨f19, f26, -⟩ := hp
              replace f19 : u 19 = (.bool false) := f19
              replace f26 : u 26 = (.bool false) := f26
              try simp only [f19, f26, str]
              go_wp2
              refine stq_v rfl Same.refl ?_
              first | (simp only [mkAct, List.foldl_cons, List.foldl_nil, List.setIfInBounds_toArray, List.set_cons_succ, List.set_cons_zero, upd, reduceIte, Nat.reduceEqDiff, Nat.reduceAdd, f19, f26, str]; done) | (simp [mkAct, upd, f19, f26, str, *]; done)
          · intro u wx hI hR
            obtain ⟨r0, r1, r2, r3, r4, r5, r6, r7, r8, r9, r10, r11, r12, r13, r14, r15, r16, r17, r18, r19, r20, r21, r22, r23, r24, r25, r26, r27, -⟩ := hR
            replace r0 : u 0 = (.pointer (some ⟨w.heap.size, 0, none⟩)) := r0
            replace r1 : u 1 = (.agg c.cells.toArray) := r1
            replace r2 : u 2 = (.pointer (some ⟨w0.heap.size, 0, none⟩)) := r2
            replace r3 : u 3 = (.agg d.cells.toArray) := r3
            replace r4 : u 4 = (.bool false) := r4
            replace r5 : u 5 = (.bool false) := r5
            replace r6 : u 6 = (.pointer (some ⟨w.heap.size, 10, none⟩)) := r6
            replace r7 : u 7 = (.int .i64 na) := r7
            replace r8 : u 8 = (.pointer (some ⟨w0.heap.size, 10, none⟩)) := r8
            replace r9 : u 9 = (.int .i64 nb) := r9
            replace r10 : u 10 = (.bool false) := r10
            replace r11 : u 11 = (.bool false) := r11
            replace r12 : u 12 = (.bool false) := r12
            replace r13 : u 13 = (.pointer (some ⟨w.heap.size, 11, none⟩)) := r13
            replace r14 : u 14 = (.int .i64 sa) := r14
            replace r15 : u 15 = (.pointer (some ⟨w0.heap.size, 11, none⟩)) := r15
            replace r16 : u 16 = (.int .i64 sb) := r16
            replace r17 : u 17 = (.bool false) := r17
            replace r18 : u 18 = (.bool false) := r18
            replace r19 : u 19 = (.bool false) := r19
            replace r20 : u 20 = (.pointer (some ⟨w.heap.size, 12, none⟩)) := r20
            replace r21 : u 21 = (.slice ao n ac) := r21
            replace r22 : u 22 = (.int .i64 n) := r22
            replace r23 : u 23 = (.pointer (some ⟨w0.heap.size, 12, none⟩)) := r23
            replace r24 : u 24 = (.slice bo m bc) := r24
            replace r25 : u 25 = (.int .i64 m) := r25
            replace r26 : u 26 = (.bool false) := r26
            replace r27 : u 27 = (.bool false) := r27
            simp only [mkAct, List.foldl_cons, List.foldl_nil, List.setIfInBounds_toArray, List.set_cons_succ, List.set_cons_zero]
            try simp only [str, r0, r1, r2, r3, r4, r5, r6, r7, r8, r9, r10, r11, r12, r13, r14, r15, r16, r17, r18, r19, r20, r21, r22, r23, r24, r25, r26, r27]
            replace hw1 := Lib.hid (hw1.out.trans hI)
            have a4 := Lib.hid (hI.cell a3.out)
            have d4 := Lib.hid (hI.cell d3.out)
            clear hI ra rb a1 a2 a3 d1 d2 d3
            have a5 := a4.out
            go_wp2
            go_loopw [37] (fun i wr => ∃ k : Nat, k ≤ n ∧ i = .int .i64 k ∧ la.take k = lb.take k ∧ Same wx wr) (fun i _ => n - (intOf i).toNat)
            case atStart => exact ⟨0, by omega, rfl, rfl, Same.refl⟩
            case round =>
              obtain ⟨k, hk, rfl, htk, hs⟩ := hrel
              by_cases hlt : k < n
              · obtain ⟨b1, o1, rfl, _, hc1⟩ := ha.out.at (by intro h2; rw [iv, List.map_eq_nil_iff] at h2; have := hn.out; rw [h2] at this; simp at this; omega)
                obtain ⟨b2, o2, rfl, _, hc2⟩ := hb.out.at (by intro h2; rw [iv, List.map_eq_nil_iff] at h2; have := hm.out; rw [h2] at this; simp at this; omega)
                have cc1 := (hw1.out.trans hs).cell (hc1 k _ (iv_get (by have := hn.out; omega)))
                have cc2 := (hw1.out.trans hs).cell (hc2 k _ (iv_get (by have := hm.out; omega)))
                have hx1 : la[k]'(by have := hn.out; omega) = la.getD k 0 := by simp [List.getD, show k < la.length by have := hn.out; omega]
                have hx2 : lb[k]'(by have := hm.out; omega) = lb.getD k 0 := by simp [List.getD, show k < lb.length by have := hm.out; omega]
                rw [hx1] at cc1
                rw [hx2] at cc2
                have hbd := hbad.out k hlt
                have hnk := hnx.out k hlt htk
                obtain ⟨x, hxe⟩ : ∃ x, x = la.getD k 0 := ⟨_, rfl⟩
                obtain ⟨y, hye⟩ : ∃ y, y = lb.getD k 0 := ⟨_, rfl⟩
                rw [← hxe] at cc1 hbd hnk
                rw [← hye] at cc2 hbd hnk
                have q0 : 0 ≤ (k : Int) := by omega
                have q1 : (k : Int) < (n : Int) := by omega
                have q2 : (k : Int) < (m : Int) := by have := hmn.out; omega
                have l1 := hs.cell a4.out
                have l2 := hs.cell d4.out
                have qk : k < m := by have := hmn.out; omega
                clear hc1 hc2 hx1 hx2 hxe hye htk a5
                replace hs := Lib.hid hs
                by_cases hxy : x = y
                · subst hxy
                  have hnk2 := hnk rfl
                  have hxx : (x != x) = false := by simp
                  clear hbd hnk
                  replace hnk2 := Lib.hid hnk2
                  go_upto_region 6 with fail
                  go_quiet (fail)
                  go_wp2
                  go_roundw
                  case rel => exact ⟨k + 1, by omega, by go_num, hnk2.out, by first | exact hs.out | exact hs.out.drewN _⟩
                  case measure => simp [intOf]; omega
                · have hxx : (x != y) = true := by simpa using hxy
                  have hR3 := hbd hxy
                  clear hbd hnk hxy
                  replace hR3 := Lib.hid hR3
                  go_upto_region 6 with fail
                  go_quiet (fail)
                  go_wp2
                  go_ret
                  exact ⟨by rw [hR3.out]; rfl, hw1.out.trans (by first | exact hs.out | exact hs.out.drewN _)⟩
              · obtain rfl : k = n := by omega
                have hR3 := hstop.out htk
                clear htk a5
                replace hR3 := Lib.hid hR3
                go_wp2
                go_ret
                exact ⟨by rw [hR3.out]; rfl, hw1.out.trans hs⟩
        · have hR2 : R = false := by
            rw [hR]
            refine decide_eq_false ?_
            rintro rfl
            exact h3 (by omega)
          subst hR2
          have g3 : ((n : Int) != (m : Int)) = true := by simp; omega
          clear hR hn hm h3
          replace g3 := Lib.hid g3
          go_enter Try.func58, Try.ntmps58
          go_upto_region 1 with (first | (refine box_row rfl _ _ rfl (epC c na sa ao n ac).toArray rfl hinfA.out ?_; intro w0 hbx hs0; have hbxl := blk_lt hbx; replace hbx := Lib.hid hbx; replace hs0 := Lib.hid hs0) | (refine box_row rfl _ _ rfl (epC d nb sb bo m bc).toArray rfl hinfB.out ?_; intro w1 hd hs1; replace hd := Lib.hid hd; replace hs1 := Lib.hid hs1))
          have hbx1 := (hs1.out.block _ hbxl).trans hbx.out
          have hw1 := Lib.hid (hs0.out.trans hs1.out)
          have ra := Lib.hid (ep_cfg hbx1)
          have rb := Lib.hid (ep_cfg hd.out)
          have a1 := Lib.hid (ep_number hbx1)
          have a2 := Lib.hid (ep_start hbx1)
          have a3 := Lib.hid (ep_leaders hbx1)
          have d1 := Lib.hid (ep_number hd.out)
          have d2 := Lib.hid (ep_start hd.out)
          have d3 := Lib.hid (ep_leaders hd.out)
          clear hbx hs0 hs1 hbx1 hd
          refine wp_region_seq [(6, 0), (7, 1), (8, 2), (9, 3), (10, 4), (11, 5), (12, 6), (13, 7), (14, 8), (15, 9), (16, 10), (17, 11), (18, 12), (19, 13), (20, 14), (21, 15), (22, 16), (23, 17), (24, 18), (25, 19), (26, 20), (27, 21), (28, 22), (29, 23), (30, 24), (31, 25), (32, 26), (33, 27)] [[], [0], [], [2], [1, 3], [4], [5], [6, 5], [5], [8, 5], [7, 9, 5], [5, 10], [11], [12], [13, 12], [12], [15, 12], [14, 16, 12], [12, 17], [18], [19], [20, 19], [21, 19], [19], [23, 19], [24, 19], [22, 25, 19], [19, 26]] Same (Same _) [isV (.pointer (some ⟨w.heap.size, 0, none⟩)), isV (.agg c.cells.toArray), isV (.pointer (some ⟨w0.heap.size, 0, none⟩)), isV (.agg d.cells.toArray), isV (.bool false), isV (.bool false), isV (.pointer (some ⟨w.heap.size, 10, none⟩)), isV (.int .i64 na), isV (.pointer (some ⟨w0.heap.size, 10, none⟩)), isV (.int .i64 nb), isV (.bool false), isV (.bool false), isV (.bool false), isV (.pointer (some ⟨w.heap.size, 11, none⟩)), isV (.int .i64 sa), isV (.pointer (some ⟨w0.heap.size, 11, none⟩)), isV (.int .i64 sb), isV (.bool false), isV (.bool false), isV (.bool false), isV (.pointer (some ⟨w.heap.size, 12, none⟩)), isV (.slice ao n ac), isV (.int .i64 n), isV (.pointer (some ⟨w0.heap.size, 12, none⟩)), isV (.slice bo m bc), isV (.int .i64 m), isV (.bool true), isV (.bool true)] Same.refl (fun _ _ h k => h.trans k) (by simp [isV_stable, isB_stable, isAny_stable]) (by decide +kernel) (l := [_, _, _, _, _, _, _, _, _, _, _, _, _, _, _, _, _, _, _, _, _, _, _, _, _, _, _, _]) rfl (by kernel_rfl) ?_ ?_
          · refine ⟨?_, ?_, ?_, ?_, ?_, ?_, ?_, ?_, ?_, ?_, ?_, ?_, ?_, ?_, ?_, ?_, ?_, ?_, ?_, ?_, ?_, ?_, ?_, ?_, ?_, ?_, ?_, ?_, trivial⟩
            all_goals (intro u wx hI hp; simp only [mkAct, List.foldl_cons, List.foldl_nil, List.setIfInBounds_toArray, List.set_cons_succ, List.set_cons_zero])
            · -- operation 0
              go_wp2
              refine stq_v rfl Same.refl ?_
              first | (simp only [mkAct, List.foldl_cons, List.foldl_nil, List.setIfInBounds_toArray, List.set_cons_succ, List.set_cons_zero, upd, reduceIte, Nat.reduceEqDiff, Nat.reduceAdd, str]; done) | (simp [mkAct, upd, str, *]; done)
            · -- operation 1
              obtain ⟨f0, -⟩ := hp
              replace f0 : u 0 = (.pointer (some ⟨w.heap.size, 0, none⟩)) := f0
              try simp only [f0, str]
              go_wp2_with (refine load_mid rfl _ _ rfl w.heap.size 0 rfl c.cells _ (hI.rng ra.out) Try.underlying68 rfl hinfL.out ?_)
              refine stq_v rfl Same.refl ?_
              first | (simp only [mkAct, List.foldl_cons, List.foldl_nil, List.setIfInBounds_toArray, List.set_cons_succ, List.set_cons_zero, upd, reduceIte, Nat.reduceEqDiff, Nat.reduceAdd, f0, str]; done) | (simp [mkAct, upd, f0, str, *]; done)
            · -- operation 2
              go_wp2
              refine stq_v rfl Same.refl ?_
              first | (simp only [mkAct, List.foldl_cons, List.foldl_nil, List.setIfInBounds_toArray, List.set_cons_succ, List.set_cons_zero, upd, reduceIte, Nat.reduceEqDiff, Nat.reduceAdd, str]; done) | (simp [mkAct, upd, str, *]; done)
            · -- operation 3
              obtain ⟨f2, -⟩ := hp
              replace f2 : u 2 = (.pointer (some ⟨w0.heap.size, 0, none⟩)) := f2
              try simp only [f2, str]
              go_wp2_with (refine load_mid rfl _ _ rfl w0.heap.size 0 rfl d.cells _ (hI.rng rb.out) Try.underlying68 rfl hinfM.out ?_)
              refine stq_v rfl Same.refl ?_
              first | (simp only [mkAct, List.foldl_cons, List.foldl_nil, List.setIfInBounds_toArray, List.set_cons_succ, List.set_cons_zero, upd, reduceIte, Nat.reduceEqDiff, Nat.reduceAdd, f2, str]; done) | (simp [mkAct, upd, f2, str, *]; done)
            · -- operation 4
              obtain ⟨f1, f3, -⟩ := hp
              replace f1 : u 1 = (.agg c.cells.toArray) := f1
              replace f3 : u 3 = (.agg d.cells.toArray) := f3
              try simp only [f1, f3, str]
              have hce' := hce.out
              have hgd := cfg_guard
              go_wp2
              refine stq_v rfl Same.refl ?_
              first | (simp only [mkAct, List.foldl_cons, List.foldl_nil, List.setIfInBounds_toArray, List.set_cons_succ, List.set_cons_zero, upd, reduceIte, Nat.reduceEqDiff, Nat.reduceAdd, f1, f3, str]; done) | (simp [mkAct, upd, f1, f3, str, *]; done)
            · -- operation 5
              obtain ⟨f4, -⟩ := hp
              replace f4 : u 4 = (.bool false) := f4
              try simp only [f4, str]
              go_wp2
              refine stq_v rfl Same.refl ?_
              first | (simp only [mkAct, List.foldl_cons, List.foldl_nil, List.setIfInBounds_toArray, List.set_cons_succ, List.set_cons_zero, upd, reduceIte, Nat.reduceEqDiff, Nat.reduceAdd, f4, str]; done) | (simp [mkAct, upd, f4, str, *]; done)
            · -- operation 6
              obtain ⟨f5, -⟩ := hp
              replace f5 : u 5 = (.bool false) := f5
              try simp only [f5, str]
              go_wp2
              refine stq_v rfl Same.refl ?_
              first | (simp only [mkAct, List.foldl_cons, List.foldl_nil, List.setIfInBounds_toArray, List.set_cons_succ, List.set_cons_zero, upd, reduceIte, Nat.reduceEqDiff, Nat.reduceAdd, f5, str]; done) | (simp [mkAct, upd, f5, str, *]; done)
            · -- operation 7
              obtain ⟨f6, f5, -⟩ := hp
              replace f6 : u 6 = (.pointer (some ⟨w.heap.size, 10, none⟩)) := f6
              replace f5 : u 5 = (.bool false) := f5
              try simp only [f6, f5, str]
              have cx := hI.cell (a1.out)
              go_wp2
              refine stq_v rfl Same.refl ?_
              first | (simp only [mkAct, List.foldl_cons, List.foldl_nil, List.setIfInBounds_toArray, List.set_cons_succ, List.set_cons_zero, upd, reduceIte, Nat.reduceEqDiff, Nat.reduceAdd, f6, f5, str]; done) | (simp [mkAct, upd, f6, f5, str, *]; done)
            · -- operation 8
              obtain ⟨f5, -⟩ := hp
              replace f5 : u 5 = (.bool false) := f5
              try simp only [f5, str]
              go_wp2
              refine stq_v rfl Same.refl ?_
              first | (simp only [mkAct, List.foldl_cons, List.foldl_nil, List.setIfInBounds_toArray, List.set_cons_succ, List.set_cons_zero, upd, reduceIte, Nat.reduceEqDiff, Nat.reduceAdd, f5, str]; done) | (simp [mkAct, upd, f5, str, *]; done)
            · -- operation 9
              obtain ⟨f8, f5, -⟩ := hp
              replace f8 : u 8 = (.pointer (some ⟨w0.heap.size, 10, none⟩)) := f8
              replace f5 : u 5 = (.bool false) := f5
              try simp only [f8, f5, str]
              have cx := hI.cell (d1.out)
              go_wp2
              refine stq_v rfl Same.refl ?_
              first | (simp only [mkAct, List.foldl_cons, List.foldl_nil, List.setIfInBounds_toArray, List.set_cons_succ, List.set_cons_zero, upd, reduceIte, Nat.reduceEqDiff, Nat.reduceAdd, f8, f5, str]; done) | (simp [mkAct, upd, f8, f5, str, *]; done)
            · -- operation 10
              obtain ⟨f7, f9, f5, -⟩ := hp
              replace f7 : u 7 = (.int .i64 na) := f7
              replace f9 : u 9 = (.int .i64 nb) := f9
              replace f5 : u 5 = (.bool false) := f5
              try simp only [f7, f9, f5, str]
              have g := g1.out
              go_wp2
              refine stq_v rfl Same.refl ?_
              first | (simp only [mkAct, List.foldl_cons, List.foldl_nil, List.setIfInBounds_toArray, List.set_cons_succ, List.set_cons_zero, upd, reduceIte, Nat.reduceEqDiff, Nat.reduceAdd, f7, f9, f5, str]; done) | (simp [mkAct, upd, f7, f9, f5, str, *]; done)
            · -- operation 11
              obtain ⟨f5, f10, -⟩ := hp
              replace f5 : u 5 = (.bool false) := f5
              replace f10 : u 10 = (.bool false) := f10
              try simp only [f5, f10, str]
              go_wp2
              refine stq_v rfl Same.refl ?_
              first | (simp only [mkAct, List.foldl_cons, List.foldl_nil, List.setIfInBounds_toArray, List.set_cons_succ, List.set_cons_zero, upd, reduceIte, Nat.reduceEqDiff, Nat.reduceAdd, f5, f10, str]; done) | (simp [mkAct, upd, f5, f10, str, *]; done)
            · -- operation 12
              obtain ⟨f11, -⟩ := hp
              replace f11 : u 11 = (.bool false) := f11
              try simp only [f11, str]
              go_wp2
              refine stq_v rfl Same.refl ?_
              first | (simp only [mkAct, List.foldl_cons, List.foldl_nil, List.setIfInBounds_toArray, List.set_cons_succ, List.set_cons_zero, upd, reduceIte, Nat.reduceEqDiff, Nat.reduceAdd, f11, str]; done) | (simp [mkAct, upd, f11, str, *]; done)
            · -- operation 13
              obtain ⟨f12, -⟩ := hp
              replace f12 : u 12 = (.bool false) := f12
              try simp only [f12, str]
              go_wp2
              refine stq_v rfl Same.refl ?_
              first | (simp only [mkAct, List.foldl_cons, List.foldl_nil, List.setIfInBounds_toArray, List.set_cons_succ, List.set_cons_zero, upd, reduceIte, Nat.reduceEqDiff, Nat.reduceAdd, f12, str]; done) | (simp [mkAct, upd, f12, str, *]; done)
            · -- operation 14
              obtain ⟨f13, f12, -⟩ := hp
              replace f13 : u 13 = (.pointer (some ⟨w.heap.size, 11, none⟩)) := f13
              replace f12 : u 12 = (.bool false) := f12
              try simp only [f13, f12, str]
              have cx := hI.cell (a2.out)
              go_wp2
              refine stq_v rfl Same.refl ?_
              first | (simp only [mkAct, List.foldl_cons, List.foldl_nil, List.setIfInBounds_toArray, List.set_cons_succ, List.set_cons_zero, upd, reduceIte, Nat.reduceEqDiff, Nat.reduceAdd, f13, f12, str]; done) | (simp [mkAct, upd, f13, f12, str, *]; done)
            · -- operation 15
              obtain ⟨f12, -⟩ := hp
              replace f12 : u 12 = (.bool false) := f12
              try simp only [f12, str]
              go_wp2
              refine stq_v rfl Same.refl ?_
              first | (simp only [mkAct, List.foldl_cons, List.foldl_nil, List.setIfInBounds_toArray, List.set_cons_succ, List.set_cons_zero, upd, reduceIte, Nat.reduceEqDiff, Nat.reduceAdd, f12, str]; done) | (simp [mkAct, upd, f12, str, *]; done)
            · -- operation 16
              obtain ⟨f15, f12, -⟩ := hp
              replace f15 : u 15 = (.pointer (some ⟨w0.heap.size, 11, none⟩)) := f15
              replace f12 : u 12 = (.bool false) := f12
              try simp only [f15, f12, str]
              have cx := hI.cell (d2.out)
              go_wp2
              refine stq_v rfl Same.refl ?_
              first | (simp only [mkAct, List.foldl_cons, List.foldl_nil, List.setIfInBounds_toArray, List.set_cons_succ, List.set_cons_zero, upd, reduceIte, Nat.reduceEqDiff, Nat.reduceAdd, f15, f12, str]; done) | (simp [mkAct, upd, f15, f12, str, *]; done)
            · -- operation 17
              obtain ⟨f14, f16, f12, -⟩ := hp
              replace f14 : u 14 = (.int .i64 sa) := f14
              replace f16 : u 16 = (.int .i64 sb) := f16
              replace f12 : u 12 = (.bool false) := f12
              try simp only [f14, f16, f12, str]
              have g := g2.out
              go_wp2
              refine stq_v rfl Same.refl ?_
              first | (simp only [mkAct, List.foldl_cons, List.foldl_nil, List.setIfInBounds_toArray, List.set_cons_succ, List.set_cons_zero, upd, reduceIte, Nat.reduceEqDiff, Nat.reduceAdd, f14, f16, f12, str]; done) | (simp [mkAct, upd, f14, f16, f12, str, *]; done)
            · -- operation 18
              obtain ⟨f12, f17, -⟩ := hp
              replace f12 : u 12 = (.bool false) := f12
              replace f17 : u 17 = (.bool false) := f17
              try simp only [f12, f17, str]
              go_wp2
              refine stq_v rfl Same.refl ?_
              first | (simp only [mkAct, List.foldl_cons, List.foldl_nil, List.setIfInBounds_toArray, List.set_cons_succ, List.set_cons_zero, upd, reduceIte, Nat.reduceEqDiff, Nat.reduceAdd, f12, f17, str]; done) | (simp [mkAct, upd, f12, f17, str, *]; done)
            · -- operation 19
              obtain ⟨f18, -⟩ := hp
              replace f18 : u 18 = (.bool false) := f18
              try simp only [f18, str]
              go_wp2
              refine stq_v rfl Same.refl ?_
              first | (simp only [mkAct, List.foldl_cons, List.foldl_nil, List.setIfInBounds_toArray, List.set_cons_succ, List.set_cons_zero, upd, reduceIte, Nat.reduceEqDiff, Nat.reduceAdd, f18, str]; done) | (simp [mkAct, upd, f18, str, *]; done)
            · -- operation 20
              obtain ⟨f19, -⟩ := hp
              replace f19 : u 19 = (.bool false) := f19
              try simp only [f19, str]
              go_wp2
              refine stq_v rfl Same.refl ?_
              first | (simp only [mkAct, List.foldl_cons, List.foldl_nil, List.setIfInBounds_toArray, List.set_cons_succ, List.set_cons_zero, upd, reduceIte, Nat.reduceEqDiff, Nat.reduceAdd, f19, str]; done) | (simp [mkAct, upd, f19, str, *]; done)
            · -- operation 21
              obtain ⟨f20, f19, -⟩ := hp
              replace f20 : u 20 = (.pointer (some ⟨w.heap.size, 12, none⟩)) := f20
              replace f19 : u 19 = (.bool false) := f19
              try simp only [f20, f19, str]
              have cx := hI.cell (a3.out)
              go_wp2
              refine stq_v rfl Same.refl ?_
              first | (simp only [mkAct, List.foldl_cons, List.foldl_nil, List.setIfInBounds_toArray, List.set_cons_succ, List.set_cons_zero, upd, reduceIte, Nat.reduceEqDiff, Nat.reduceAdd, f20, f19, str]; done) | (simp [mkAct, upd, f20, f19, str, *]; done)
            · -- operation 22
              obtain ⟨f21, f19, -⟩ := hp
              replace f21 : u 21 = (.slice ao n ac) := f21
              replace f19 : u 19 = (.bool false) := f19
              try simp only [f21, f19, str]
              go_wp2
              refine stq_v rfl Same.refl ?_
              first | (simp only [mkAct, List.foldl_cons, List.foldl_nil, List.setIfInBounds_toArray, List.set_cons_succ, List.set_cons_zero, upd, reduceIte, Nat.reduceEqDiff, Nat.reduceAdd, f21, f19, str]; done) | (simp [mkAct, upd, f21, f19, str, *]; done)
            · -- operation 23
              obtain ⟨f19, -⟩ := hp
              replace f19 : u 19 = (.bool false) := f19
              try simp only [f19, str]
              go_wp2
              refine stq_v rfl Same.refl ?_
              first | (simp only [mkAct, List.foldl_cons, List.foldl_nil, List.setIfInBounds_toArray, List.set_cons_succ, List.set_cons_zero, upd, reduceIte, Nat.reduceEqDiff, Nat.reduceAdd, f19, str]; done) | (simp [mkAct, upd, f19, str, *]; done)
            · -- operation 24
              obtain ⟨f23, f19, -⟩ := hp
              replace f23 : u 23 = (.pointer (some ⟨w0.heap.size, 12, none⟩)) := f23
              replace f19 : u 19 = (.bool false) := f19
              try simp only [f23, f19, str]
              have cx := hI.cell (d3.out)
              go_wp2
              refine stq_v rfl Same.refl ?_
              first | (simp only [mkAct, List.foldl_cons, List.foldl_nil, List.setIfInBounds_toArray, List.set_cons_succ, List.set_cons_zero, upd, reduceIte, Nat.reduceEqDiff, Nat.reduceAdd, f23, f19, str]; done) | (simp [mkAct, upd, f23, f19, str, *]; done)
            · -- operation 25
              obtain ⟨f24, f19, -⟩ := hp
              replace f24 : u 24 = (.slice bo m bc) := f24
              replace f19 : u 19 = (.bool false) := f19
              try simp only [f24, f19, str]
              go_wp2
              refine stq_v rfl Same.refl ?_
              first | (simp only [mkAct, List.foldl_cons, List.foldl_nil, List.setIfInBounds_toArray, List.set_cons_succ, List.set_cons_zero, upd, reduceIte, Nat.reduceEqDiff, Nat.reduceAdd, f24, f19, str]; done) | (simp [mkAct, upd, f24, f19, str, *]; done)
            · -- operation 26
              obtain ⟨f22, f25, f19, -⟩ := hp
              replace f22 : u 22 = (.int .i64 n) := f22
              replace f25 : u 25 = (.int .i64 m) := f25
              replace f19 : u 19 = (.bool false) := f19
              try simp only [f22, f25, f19, str]
              have g := g3.out
              go_wp2
              refine stq_v rfl Same.refl ?_
              first | (simp only [mkAct, List.foldl_cons, List.foldl_nil, List.setIfInBounds_toArray, List.set_cons_succ, List.set_cons_zero, upd, reduceIte, Nat.reduceEqDiff, Nat.reduceAdd, f22, f25, f19, str]; done) | (simp [mkAct, upd, f22, f25, f19, str, *]; done)
            · -- operation 27
              obtain ⟨f19, f26, -⟩ := hp
              replace f19 : u 19 = (.bool false) := f19
              replace f26 : u 26 = (.bool true) := f26
              try simp only [f19, f26, str]
              go_wp2
              refine stq_v rfl Same.refl ?_
              first | (simp only [mkAct, List.foldl_cons, List.foldl_nil, List.setIfInBounds_toArray, List.set_cons_succ, List.set_cons_zero, upd, reduceIte, Nat.reduceEqDiff, Nat.reduceAdd, f19, f26, str]; done) | (simp [mkAct, upd, f19, f26, str, *]; done)
          · intro u wx hI hR
            obtain ⟨r0, r1, r2, r3, r4, r5, r6, r7, r8, r9, r10, r11, r12, r13, r14, r15, r16, r17, r18, r19, r20, r21, r22, r23, r24, r25, r26, r27, -⟩ := hR
            replace r0 : u 0 = (.pointer (some ⟨w.heap.size, 0, none⟩)) := r0
            replace r1 : u 1 = (.agg c.cells.toArray) := r1
            replace r2 : u 2 = (.pointer (some ⟨w0.heap.size, 0, none⟩)) := r2
            replace r3 : u 3 = (.agg d.cells.toArray) := r3
            replace r4 : u 4 = (.bool false) := r4
            replace r5 : u 5 = (.bool false) := r5
            replace r6 : u 6 = (.pointer (some ⟨w.heap.size, 10, none⟩)) := r6
            replace r7 : u 7 = (.int .i64 na) := r7
            replace r8 : u 8 = (.pointer (some ⟨w0.heap.size, 10, none⟩)) := r8
            replace r9 : u 9 = (.int .i64 nb) := r9
            replace r10 : u 10 = (.bool false) := r10
            replace r11 : u 11 = (.bool false) := r11
            replace r12 : u 12 = (.bool false) := r12
            replace r13 : u 13 = (.pointer (some ⟨w.heap.size, 11, none⟩)) := r13
            replace r14 : u 14 = (.int .i64 sa) := r14
            replace r15 : u 15 = (.pointer (some ⟨w0.heap.size, 11, none⟩)) := r15
            replace r16 : u 16 = (.int .i64 sb) := r16
            replace r17 : u 17 = (.bool false) := r17
            replace r18 : u 18 = (.bool false) := r18
            replace r19 : u 19 = (.bool false) := r19
            replace r20 : u 20 = (.pointer (some ⟨w.heap.size, 12, none⟩)) := r20
            replace r21 : u 21 = (.slice ao n ac) := r21
            replace r22 : u 22 = (.int .i64 n) := r22
            replace r23 : u 23 = (.pointer (some ⟨w0.heap.size, 12, none⟩)) := r23
            replace r24 : u 24 = (.slice bo m bc) := r24
            replace r25 : u 25 = (.int .i64 m) := r25
            replace r26 : u 26 = (.bool true) := r26
            replace r27 : u 27 = (.bool true) := r27
            simp only [mkAct, List.foldl_cons, List.foldl_nil, List.setIfInBounds_toArray, List.set_cons_succ, List.set_cons_zero]
            try simp only [str, r0, r1, r2, r3, r4, r5, r6, r7, r8, r9, r10, r11, r12, r13, r14, r15, r16, r17, r18, r19, r20, r21, r22, r23, r24, r25, r26, r27]
            go_wp2
            go_ret
            exact ⟨rfl, hw1.out.trans hI⟩
      · have hR2 : R = false := by rw [hR, decide_eq_false h2]; rfl
        subst hR2
        have g2 : (sa != sb) = true := by simpa using h2
        clear hR hn hm h1 h2
        replace g1 := Lib.hid g1
        replace g2 := Lib.hid g2
        go_enter Try.func58, Try.ntmps58
        go_upto_region 1 with (first | (refine box_row rfl _ _ rfl (epC c na sa ao n ac).toArray rfl hinfA.out ?_; intro w0 hbx hs0; have hbxl := blk_lt hbx; replace hbx := Lib.hid hbx; replace hs0 := Lib.hid hs0) | (refine box_row rfl _ _ rfl (epC d nb sb bo m bc).toArray rfl hinfB.out ?_; intro w1 hd hs1; replace hd := Lib.hid hd; replace hs1 := Lib.hid hs1))
        have hbx1 := (hs1.out.block _ hbxl).trans hbx.out
        have hw1 := Lib.hid (hs0.out.trans hs1.out)
        have ra := Lib.hid (ep_cfg hbx1)
        have rb := Lib.hid (ep_cfg hd.out)
        have a1 := Lib.hid (ep_number hbx1)
        have a2 := Lib.hid (ep_start hbx1)
        have a3 := Lib.hid (ep_leaders hbx1)
        have d1 := Lib.hid (ep_number hd.out)
        have d2 := Lib.hid (ep_start hd.out)
        have d3 := Lib.hid (ep_leaders hd.out)
        clear hbx hs0 hs1 hbx1 hd
        refine wp_region_seq [(6, 0), (7, 1), (8, 2), (9, 3), (10, 4), (11, 5), (12, 6), (13, 7), (14, 8), (15, 9), (16, 10), (17, 11), (18, 12), (19, 13), (20, 14), (21, 15), (22, 16), (23, 17), (24, 18), (25, 19), (26, 20), (27, 21), (28, 22), (29, 23), (30, 24), (31, 25), (32, 26), (33, 27)] [[], [0], [], [2], [1, 3], [4], [5], [6, 5], [5], [8, 5], [7, 9, 5], [5, 10], [11], [12], [13, 12], [12], [15, 12], [14, 16, 12], [12, 17], [18], [19], [20, 19], [21, 19], [19], [23, 19], [24, 19], [22, 25, 19], [19, 26]] Same (Same _) [isV (.pointer (some ⟨w.heap.size, 0, none⟩)), isV (.agg c.cells.toArray), isV (.pointer (some ⟨w0.heap.size, 0, none⟩)), isV (.agg d.cells.toArray), isV (.bool false), isV (.bool false), isV (.pointer (some ⟨w.heap.size, 10, none⟩)), isV (.int .i64 na), isV (.pointer (some ⟨w0.heap.size, 10, none⟩)), isV (.int .i64 nb), isV (.bool false), isV (.bool false), isV (.bool false), isV (.pointer (some ⟨w.heap.size, 11, none⟩)), isV (.int .i64 sa), isV (.pointer (some ⟨w0.heap.size, 11, none⟩)), isV (.int .i64 sb), isV (.bool true), isV (.bool true), isV (.bool true), isV undef, isV undef, isV undef, isV undef, isV undef, isV undef, isV undef, isV (.bool true)] Same.refl (fun _ _ h k => h.trans k) (by simp [isV_stable, isB_stable, isAny_stable]) (by decide +kernel) (l := [_, _, _, _, _, _, _, _, _, _, _, _, _, _, _, _, _, _, _, _, _, _, _, _, _, _, _, _]) rfl (by kernel_rfl) ?_ ?_
        · refine ⟨?_, ?_, ?_, ?_, ?_, ?_, ?_, ?_, ?_, ?_, ?_, ?_, ?_, ?_, ?_, ?_, ?_, ?_, ?_, ?_, ?_, ?_, ?_, ?_, ?_, ?_, ?_, ?_, trivial⟩
          all_goals (intro u wx hI hp; simp only [mkAct, List.foldl_cons, List.foldl_nil, List.setIfInBounds_toArray, List.set_cons_succ, List.set_cons_zero])
          · -- operation 0
            go_wp2
            refine stq_v rfl Same.refl ?_
            first | (simp only [mkAct, List.foldl_cons, List.foldl_nil, List.setIfInBounds_toArray, List.set_cons_succ, List.set_cons_zero, upd, reduceIte, Nat.reduceEqDiff, Nat.reduceAdd, str]; done) | (simp [mkAct, upd, str, *]; done)
          · -- operation 1
            obtain ⟨f0, -⟩ := hp
            replace f0 : u 0 = (.pointer (some ⟨w.heap.size, 0, none⟩)) := f0
            try simp only [f0, str]
            go_wp2_with (refine load_mid rfl _ _ rfl w.heap.size 0 rfl c.cells _ (hI.rng ra.out) Try.underlying68 rfl hinfL.out ?_)
            refine stq_v rfl Same.refl ?_
            first | (simp only [mkAct, List.foldl_cons, List.foldl_nil, List.setIfInBounds_toArray, List.set_cons_succ, List.set_cons_zero, upd, reduceIte, Nat.reduceEqDiff, Nat.reduceAdd, f0, str]; done) | (simp [mkAct, upd, f0, str, *]; done)
          · -- operation 2
            go_wp2
            refine stq_v rfl Same.refl ?_
            first | (simp only [mkAct, List.foldl_cons, List.foldl_nil, List.setIfInBounds_toArray, List.set_cons_succ, List.set_cons_zero, upd, reduceIte, Nat.reduceEqDiff, Nat.reduceAdd, str]; done) | (simp [mkAct, upd, str, *]; done)
          · -- operation 3
            obtain ⟨f2, -⟩ := hp
            replace f2 : u 2 = (.pointer (some ⟨w0.heap.size, 0, none⟩)) := f2
            try simp only [f2, str]
            go_wp2_with (refine load_mid rfl _ _ rfl w0.heap.size 0 rfl d.cells _ (hI.rng rb.out) Try.underlying68 rfl hinfM.out ?_)
            refine stq_v rfl Same.refl ?_
            first | (simp only [mkAct, List.foldl_cons, List.foldl_nil, List.setIfInBounds_toArray, List.set_cons_succ, List.set_cons_zero, upd, reduceIte, Nat.reduceEqDiff, Nat.reduceAdd, f2, str]; done) | (simp [mkAct, upd, f2, str, *]; done)
          · -- operation 4
            obtain ⟨f1, f3, -⟩ := hp
            replace f1 : u 1 = (.agg c.cells.toArray) := f1
            replace f3 : u 3 = (.agg d.cells.toArray) := f3
            try simp only [f1, f3, str]
            have hce' := hce.out
            have hgd := cfg_guard
            go_wp2
            refine stq_v rfl Same.refl ?_
            first | (simp only [mkAct, List.foldl_cons, List.foldl_nil, List.setIfInBounds_toArray, List.set_cons_succ, List.set_cons_zero, upd, reduceIte, Nat.reduceEqDiff, Nat.reduceAdd, f1, f3, str]; done) | (simp [mkAct, upd, f1, f3, str, *]; done)
          · -- operation 5
            obtain ⟨f4, -⟩ := hp
            replace f4 : u 4 = (.bool false) := f4
            try simp only [f4, str]
            go_wp2
            refine stq_v rfl Same.refl ?_
            first | (simp only [mkAct, List.foldl_cons, List.foldl_nil, List.setIfInBounds_toArray, List.set_cons_succ, List.set_cons_zero, upd, reduceIte, Nat.reduceEqDiff, Nat.reduceAdd, f4, str]; done) | (simp [mkAct, upd, f4, str, *]; done)
          · -- operation 6
            obtain ⟨f5, -⟩ := hp
            replace f5 : u 5 = (.bool false) := f5
            try simp only [f5, str]
            go_wp2
            refine stq_v rfl Same.refl ?_
            first | (simp only [mkAct, List.foldl_cons, List.foldl_nil, List.setIfInBounds_toArray, List.set_cons_succ, List.set_cons_zero, upd, reduceIte, Nat.reduceEqDiff, Nat.reduceAdd, f5, str]; done) | (simp [mkAct, upd, f5, str, *]; done)
          · -- operation 7
            obtain ⟨f6, f5, -⟩ := hp
            replace f6 : u 6 = (.pointer (some ⟨w.heap.size, 10, none⟩)) := f6
            replace f5 : u 5 = (.bool false) := f5
            try simp only [f6, f5, str]
            have cx := hI.cell (a1.out)
            go_wp2
            refine stq_v rfl Same.refl ?_
            first | (simp only [mkAct, List.foldl_cons, List.foldl_nil, List.setIfInBounds_toArray, List.set_cons_succ, List.set_cons_zero, upd, reduceIte, Nat.reduceEqDiff, Nat.reduceAdd, f6, f5, str]; done) | (simp [mkAct, upd, f6, f5, str, *]; done)
          · -- operation 8
            obtain ⟨f5, -⟩ := hp
            replace f5 : u 5 = (.bool false) := f5
            try simp only [f5, str]
            go_wp2
            refine stq_v rfl Same.refl ?_
            first | (simp only [mkAct, List.foldl_cons, List.foldl_nil, List.setIfInBounds_toArray, List.set_cons_succ, List.set_cons_zero, upd, reduceIte, Nat.reduceEqDiff, Nat.reduceAdd, f5, str]; done) | (simp [mkAct, upd, f5, str, *]; done)
          · -- operation 9
            obtain ⟨f8, f5, -⟩ := hp
            replace f8 : u 8 = (.pointer (some ⟨w0.heap.size, 10, none⟩)) := f8
            replace f5 : u 5 = (.bool false) := f5
            try simp only [f8, f5, str]
            have cx := hI.cell (d1.out)
            go_wp2
            refine stq_v rfl Same.refl ?_
            first | (simp only [mkAct, List.foldl_cons, List.foldl_nil, List.setIfInBounds_toArray, List.set_cons_succ, List.set_cons_zero, upd, reduceIte, Nat.reduceEqDiff, Nat.reduceAdd, f8, f5, str]; done) | (simp [mkAct, upd, f8, f5, str, *]; done)
          · -- operation 10
            obtain ⟨f7, f9, f5, -⟩ := hp
            replace f7 : u 7 = (.int .i64 na) := f7
            replace f9 : u 9 = (.int .i64 nb) := f9
            replace f5 : u 5 = (.bool false) := f5
            try simp only [f7, f9, f5, str]
            have g := g1.out
            go_wp2
            refine stq_v rfl Same.refl ?_
            first | (simp only [mkAct, List.foldl_cons, List.foldl_nil, List.setIfInBounds_toArray, List.set_cons_succ, List.set_cons_zero, upd, reduceIte, Nat.reduceEqDiff, Nat.reduceAdd, f7, f9, f5, str]; done) | (simp [mkAct, upd, f7, f9, f5, str, *]; done)
          · -- operation 11
            obtain ⟨f5, f10, -⟩ := hp
            replace f5 : u 5 = (.bool false) := f5
            replace f10 : u 10 = (.bool false) := f10
            try simp only [f5, f10, str]
            go_wp2
            refine stq_v rfl Same.refl ?_
            first | (simp only [mkAct, List.foldl_cons, List.foldl_nil, List.setIfInBounds_toArray, List.set_cons_succ, List.set_cons_zero, upd, reduceIte, Nat.reduceEqDiff, Nat.reduceAdd, f5, f10, str]; done) | (simp [mkAct, upd, f5, f10, str, *]; done)
          · -- operation 12
            obtain ⟨f11, -⟩ := hp
            replace f11 : u 11 = (.bool false) := f11
            try simp only [f11, str]
            go_wp2
            refine stq_v rfl Same.refl ?_
            first | (simp only [mkAct, List.foldl_cons, List.foldl_nil, List.setIfInBounds_toArray, List.set_cons_succ, List.set_cons_zero, upd, reduceIte, Nat.reduceEqDiff, Nat.reduceAdd, f11, str]; done) | (simp [mkAct, upd, f11, str, *]; done)
          · -- operation 13
            obtain ⟨f12, -⟩ := hp
            replace f12 : u 12 = (.bool false) := f12
            try simp only [f12, str]
            go_wp2
            refine stq_v rfl Same.refl ?_
            first | (simp only [mkAct, List.foldl_cons, List.foldl_nil, List.setIfInBounds_toArray, List.set_cons_succ, List.set_cons_zero, upd, reduceIte, Nat.reduceEqDiff, Nat.reduceAdd, f12, str]; done) | (simp [mkAct, upd, f12, str, *]; done)
          · -- operation 14
            obtain ⟨f13, f12, -⟩ := hp
            replace f13 : u 13 = (.pointer (some ⟨w.heap.size, 11, none⟩)) := f13
            replace f12 : u 12 = (.bool false) := f12
            try simp only [f13, f12, str]
            have cx := hI.cell (a2.out)
            go_wp2
            refine stq_v rfl Same.refl ?_
            first | (simp only [mkAct, List.foldl_cons, List.foldl_nil, List.setIfInBounds_toArray, List.set_cons_succ, List.set_cons_zero, upd, reduceIte, Nat.reduceEqDiff, Nat.reduceAdd, f13, f12, str]; done) | (simp [mkAct, upd, f13, f12, str, *]; done)
          · -- operation 15
            obtain ⟨f12, -⟩ := hp
            replace f12 : u 12 = (.bool false) := f12
            try simp only [f12, str]
            go_wp2
            refine stq_v rfl Same.refl ?_
            first | (simp only [mkAct, List.foldl_cons, List.foldl_nil, List.setIfInBounds_toArray, List.set_cons_succ, List.set_cons_zero, upd, reduceIte, Nat.reduceEqDiff, Nat.reduceAdd, f12, str]; done) | (simp [mkAct, upd, f12, str, *]; done)
          · -- operation 16
            obtain ⟨f15, f12, -⟩ := hp
            replace f15 : u 15 = (.pointer (some ⟨w0.heap.size, 11, none⟩)) := f15
            replace f12 : u 12 = (.bool false) := f12
            try simp only [f15, f12, str]
            have cx := hI.cell (d2.out)
            go_wp2
            refine stq_v rfl Same.refl ?_
            first | (simp only [mkAct, List.foldl_cons, List.foldl_nil, List.setIfInBounds_toArray, List.set_cons_succ, List.set_cons_zero, upd, reduceIte, Nat.reduceEqDiff, Nat.reduceAdd, f15, f12, str]; done) | (simp [mkAct, upd, f15, f12, str, *]; done)
          · -- operation 17
            obtain ⟨f14, f16, f12, -⟩ := hp
            replace f14 : u 14 = (.int .i64 sa) := f14
            replace f16 : u 16 = (.int .i64 sb) := f16
            replace f12 : u 12 = (.bool false) := f12
            try simp only [f14, f16, f12, str]
            have g := g2.out
            go_wp2
            refine stq_v rfl Same.refl ?_
            first | (simp only [mkAct, List.foldl_cons, List.foldl_nil, List.setIfInBounds_toArray, List.set_cons_succ, List.set_cons_zero, upd, reduceIte, Nat.reduceEqDiff, Nat.reduceAdd, f14, f16, f12, str]; done) | (simp [mkAct, upd, f14, f16, f12, str, *]; done)
          · -- operation 18
            obtain ⟨f12, f17, -⟩ := hp
            replace f12 : u 12 = (.bool false) := f12
            replace f17 : u 17 = (.bool true) := f17
            try simp only [f12, f17, str]
            go_wp2
            refine stq_v rfl Same.refl ?_
            first | (simp only [mkAct, List.foldl_cons, List.foldl_nil, List.setIfInBounds_toArray, List.set_cons_succ, List.set_cons_zero, upd, reduceIte, Nat.reduceEqDiff, Nat.reduceAdd, f12, f17, str]; done) | (simp [mkAct, upd, f12, f17, str, *]; done)
          · -- operation 19
            obtain ⟨f18, -⟩ := hp
            replace f18 : u 18 = (.bool true) := f18
            try simp only [f18, str]
            go_wp2
            refine stq_v rfl Same.refl ?_
            first | (simp only [mkAct, List.foldl_cons, List.foldl_nil, List.setIfInBounds_toArray, List.set_cons_succ, List.set_cons_zero, upd, reduceIte, Nat.reduceEqDiff, Nat.reduceAdd, f18, str]; done) | (simp [mkAct, upd, f18, str, *]; done)
          · -- operation 20
            obtain ⟨f19, -⟩ := hp
            replace f19 : u 19 = (.bool true) := f19
            try simp only [f19, str]
            go_wp2
            refine stq_v rfl Same.refl ?_
            first | (simp only [mkAct, List.foldl_cons, List.foldl_nil, List.setIfInBounds_toArray, List.set_cons_succ, List.set_cons_zero, upd, reduceIte, Nat.reduceEqDiff, Nat.reduceAdd, f19, str]; done) | (simp [mkAct, upd, f19, str, *]; done)
          · -- operation 21
            obtain ⟨f20, f19, -⟩ := hp
            replace f20 : u 20 = undef := f20
            replace f19 : u 19 = (.bool true) := f19
            try simp only [f20, f19, str]
            go_wp2
            refine stq_v rfl Same.refl ?_
            first | (simp only [mkAct, List.foldl_cons, List.foldl_nil, List.setIfInBounds_toArray, List.set_cons_succ, List.set_cons_zero, upd, reduceIte, Nat.reduceEqDiff, Nat.reduceAdd, f20, f19, str]; done) | (simp [mkAct, upd, f20, f19, str, *]; done)
          · -- operation 22
            obtain ⟨f21, f19, -⟩ := hp
            replace f21 : u 21 = undef := f21
            replace f19 : u 19 = (.bool true) := f19
            try simp only [f21, f19, str]
            go_wp2
            refine stq_v rfl Same.refl ?_
            first | (simp only [mkAct, List.foldl_cons, List.foldl_nil, List.setIfInBounds_toArray, List.set_cons_succ, List.set_cons_zero, upd, reduceIte, Nat.reduceEqDiff, Nat.reduceAdd, f21, f19, str]; done) | (simp [mkAct, upd, f21, f19, str, *]; done)
          · -- operation 23
            obtain ⟨f19, -⟩ := hp
            replace f19 : u 19 = (.bool true) := f19
            try simp only [f19, str]
            go_wp2
            refine stq_v rfl Same.refl ?_
            first | (simp only [mkAct, List.foldl_cons, List.foldl_nil, List.setIfInBounds_toArray, List.set_cons_succ, List.set_cons_zero, upd, reduceIte, Nat.reduceEqDiff, Nat.reduceAdd, f19, str]; done) | (simp [mkAct, upd, f19, str, *]; done)
          · -- operation 24
            obtain ⟨f23, f19, -⟩ := hp
            replace f23 : u 23 = undef := f23
            replace f19 : u 19 = (.bool true) := f19
            try simp only [f23, f19, str]
            go_wp2
            refine stq_v rfl Same.refl ?_
            first | (simp only [mkAct, List.foldl_cons, List.foldl_nil, List.setIfInBounds_toArray, List.set_cons_succ, List.set_cons_zero, upd, reduceIte, Nat.reduceEqDiff, Nat.reduceAdd, f23, f19, str]; done) | (simp [mkAct, upd, f23, f19, str, *]; done)
          · -- operation 25
            obtain ⟨f24, f19, -⟩ := hp
            replace f24 : u 24 = undef := f24
            replace f19 : u 19 = (.bool true) := f19
            try simp only [f24, f19, str]
            go_wp2
            refine stq_v rfl Same.refl ?_
            first | (simp only [mkAct, List.foldl_cons, List.foldl_nil, List.setIfInBounds_toArray, List.set_cons_succ, List.set_cons_zero, upd, reduceIte, Nat.reduceEqDiff, Nat.reduceAdd, f24, f19, str]; done) | (simp [mkAct, upd, f24, f19, str, *]; done)
          · -- operation 26
            obtain ⟨f22, f25, f19, -⟩ := hp
            replace f22 : u 22 = undef := f22
            replace f25 : u 25 = undef := f25
            replace f19 : u 19 = (.bool true) := f19
            try simp only [f22, f25, f19, str]
            go_wp2
            refine stq_v rfl Same.refl ?_
            first | (simp only [mkAct, List.foldl_cons, List.foldl_nil, List.setIfInBounds_toArray, List.set_cons_succ, List.set_cons_zero, upd, reduceIte, Nat.reduceEqDiff, Nat.reduceAdd, f22, f25, f19, str]; done) | (simp [mkAct, upd, f22, f25, f19, str, *]; done)
          · -- operation 27
            obtain ⟨f19, f26, -⟩ := hp
            replace f19 : u 19 = (.bool true) := f19
            replace f26 : u 26 = undef := f26
            try simp only [f19, f26, str]
            go_wp2
            refine stq_v rfl Same.refl ?_
            first | (simp only [mkAct, List.foldl_cons, List.foldl_nil, List.setIfInBounds_toArray, List.set_cons_succ, List.set_cons_zero, upd, reduceIte, Nat.reduceEqDiff, Nat.reduceAdd, f19, f26, str]; done) | (simp [mkAct, upd, f19, f26, str, *]; done)
        · intro u wx hI hR
          obtain ⟨r0, r1, r2, r3, r4, r5, r6, r7, r8, r9, r10, r11, r12, r13, r14, r15, r16, r17, r18, r19, r20, r21, r22, r23, r24, r25, r26, r27, -⟩ := hR
          replace r0 : u 0 = (.pointer (some ⟨w.heap.size, 0, none⟩)) := r0
          replace r1 : u 1 = (.agg c.cells.toArray) := r1
          replace r2 : u 2 = (.pointer (some ⟨w0.heap.size, 0, none⟩)) := r2
          replace r3 : u 3 = (.agg d.cells.toArray) := r3
          replace r4 : u 4 = (.bool false) := r4
          replace r5 : u 5 = (.bool false) := r5
          replace r6 : u 6 = (.pointer (some ⟨w.heap.size, 10, none⟩)) := r6
          replace r7 : u 7 = (.int .i64 na) := r7
          replace r8 : u 8 = (.pointer (some ⟨w0.heap.size, 10, none⟩)) := r8
          replace r9 : u 9 = (.int .i64 nb) := r9
          replace r10 : u 10 = (.bool false) := r10
          replace r11 : u 11 = (.bool false) := r11
          replace r12 : u 12 = (.bool false) := r12
          replace r13 : u 13 = (.pointer (some ⟨w.heap.size, 11, none⟩)) := r13
          replace r14 : u 14 = (.int .i64 sa) := r14
          replace r15 : u 15 = (.pointer (some ⟨w0.heap.size, 11, none⟩)) := r15
          replace r16 : u 16 = (.int .i64 sb) := r16
          replace r17 : u 17 = (.bool true) := r17
          replace r18 : u 18 = (.bool true) := r18
          replace r19 : u 19 = (.bool true) := r19
          replace r20 : u 20 = undef := r20
          replace r21 : u 21 = undef := r21
          replace r22 : u 22 = undef := r22
          replace r23 : u 23 = undef := r23
          replace r24 : u 24 = undef := r24
          replace r25 : u 25 = undef := r25
          replace r26 : u 26 = undef := r26
          replace r27 : u 27 = (.bool true) := r27
          simp only [mkAct, List.foldl_cons, List.foldl_nil, List.setIfInBounds_toArray, List.set_cons_succ, List.set_cons_zero]
          try simp only [str, r0, r1, r2, r3, r4, r5, r6, r7, r8, r9, r10, r11, r12, r13, r14, r15, r16, r17, r18, r19, r20, r21, r22, r23, r24, r25, r26, r27]
          go_wp2
          go_ret
          exact ⟨rfl, hw1.out.trans hI⟩
    · have hR2 : R = false := by rw [hR, decide_eq_false h1]; rfl
      subst hR2
      have g1 : (na != nb) = true := by simpa using h1
      clear hR hn hm h1
      replace g1 := Lib.hid g1
      go_enter Try.func58, Try.ntmps58
      go_upto_region 1 with (first | (refine box_row rfl _ _ rfl (epC c na sa ao n ac).toArray rfl hinfA.out ?_; intro w0 hbx hs0; have hbxl := blk_lt hbx; replace hbx := Lib.hid hbx; replace hs0 := Lib.hid hs0) | (refine box_row rfl _ _ rfl (epC d nb sb bo m bc).toArray rfl hinfB.out ?_; intro w1 hd hs1; replace hd := Lib.hid hd; replace hs1 := Lib.hid hs1))
      have hbx1 := (hs1.out.block _ hbxl).trans hbx.out
      have hw1 := Lib.hid (hs0.out.trans hs1.out)
      have ra := Lib.hid (ep_cfg hbx1)
      have rb := Lib.hid (ep_cfg hd.out)
      have a1 := Lib.hid (ep_number hbx1)
      have a2 := Lib.hid (ep_start hbx1)
      have a3 := Lib.hid (ep_leaders hbx1)
      have d1 := Lib.hid (ep_number hd.out)
      have d2 := Lib.hid (ep_start hd.out)
      have d3 := Lib.hid (ep_leaders hd.out)
      clear hbx hs0 hs1 hbx1 hd
      refine wp_region_seq [(6, 0), (7, 1), (8, 2), (9, 3), (10, 4), (11, 5), (12, 6), (13, 7), (14, 8), (15, 9), (16, 10), (17, 11), (18, 12), (19, 13), (20, 14), (21, 15), (22, 16), (23, 17), (24, 18), (25, 19), (26, 20), (27, 21), (28, 22), (29, 23), (30, 24), (31, 25), (32, 26), (33, 27)] [[], [0], [], [2], [1, 3], [4], [5], [6, 5], [5], [8, 5], [7, 9, 5], [5, 10], [11], [12], [13, 12], [12], [15, 12], [14, 16, 12], [12, 17], [18], [19], [20, 19], [21, 19], [19], [23, 19], [24, 19], [22, 25, 19], [19, 26]] Same (Same _) [isV (.pointer (some ⟨w.heap.size, 0, none⟩)), isV (.agg c.cells.toArray), isV (.pointer (some ⟨w0.heap.size, 0, none⟩)), isV (.agg d.cells.toArray), isV (.bool false), isV (.bool false), isV (.pointer (some ⟨w.heap.size, 10, none⟩)), isV (.int .i64 na), isV (.pointer (some ⟨w0.heap.size, 10, none⟩)), isV (.int .i64 nb), isV (.bool true), isV (.bool true), isV (.bool true), isV undef, isV undef, isV undef, isV undef, isV undef, isV (.bool true), isV (.bool true), isV undef, isV undef, isV undef, isV undef, isV undef, isV undef, isV undef, isV (.bool true)] Same.refl (fun _ _ h k => h.trans k) (by simp [isV_stable, isB_stable, isAny_stable]) (by decide +kernel) (l := [_, _, _, _, _, _, _, _, _, _, _, _, _, _, _, _, _, _, _, _, _, _, _, _, _, _, _, _]) rfl (by kernel_rfl) ?_ ?_
      · refine ⟨?_, ?_, ?_, ?_, ?_, ?_, ?_, ?_, ?_, ?_, ?_, ?_, ?_, ?_, ?_, ?_, ?_, ?_, ?_, ?_, ?_, ?_, ?_, ?_, ?_, ?_, ?_, ?_, trivial⟩
        all_goals (intro u wx hI hp; simp only [mkAct, List.foldl_cons, List.foldl_nil, List.setIfInBounds_toArray, List.set_cons_succ, List.set_cons_zero])
        · -- operation 0
          go_wp2
          refine stq_v rfl Same.refl ?_
          first | (simp only [mkAct, List.foldl_cons, List.foldl_nil, List.setIfInBounds_toArray, List.set_cons_succ, List.set_cons_zero, upd, reduceIte, Nat.reduceEqDiff, Nat.reduceAdd, str]; done) | (simp [mkAct, upd, str, *]; done)
        · -- operation 1
          obtain ⟨f0, -⟩ := hp
          replace f0 : u 0 = (.pointer (some ⟨w.heap.size, 0, none⟩)) := f0
          try simp only [f0, str]
          go_wp2_with (refine load_mid rfl _ _ rfl w.heap.size 0 rfl c.cells _ (hI.rng ra.out) Try.underlying68 rfl hinfL.out ?_)
          refine stq_v rfl Same.refl ?_
          first | (simp only [mkAct, List.foldl_cons, List.foldl_nil, List.setIfInBounds_toArray, List.set_cons_succ, List.set_cons_zero, upd, reduceIte, Nat.reduceEqDiff, Nat.reduceAdd, f0, str]; done) | (simp [mkAct, upd, f0, str, *]; done)
        · -- operation 2
          go_wp2
          refine stq_v rfl Same.refl ?_
          first | (simp only [mkAct, List.foldl_cons, List.foldl_nil, List.setIfInBounds_toArray, List.set_cons_succ, List.set_cons_zero, upd, reduceIte, Nat.reduceEqDiff, Nat.reduceAdd, str]; done) | (simp [mkAct, upd, str, *]; done)
        · -- operation 3
          obtain ⟨f2, -⟩ := hp
          replace f2 : u 2 = (.pointer (some ⟨w0.heap.size, 0, none⟩)) := f2
          try simp only [f2, str]
          go_wp2_with (refine load_mid rfl _ _ rfl w0.heap.size 0 rfl d.cells _ (hI.rng rb.out) Try.underlying68 rfl hinfM.out ?_)
          refine stq_v rfl Same.refl ?_
          first | (simp only [mkAct, List.foldl_cons, List.foldl_nil, List.setIfInBounds_toArray, List.set_cons_succ, List.set_cons_zero, upd, reduceIte, Nat.reduceEqDiff, Nat.reduceAdd, f2, str]; done) | (simp [mkAct, upd, f2, str, *]; done)
        · -- operation 4
          obtain ⟨f1, f3, -⟩ := hp
          replace f1 : u 1 = (.agg c.cells.toArray) := f1
          replace f3 : u 3 = (.agg d.cells.toArray) := f3
          try simp only [f1, f3, str]
          have hce' := hce.out
          have hgd := cfg_guard
          go_wp2
          refine stq_v rfl Same.refl ?_
          first | (simp only [mkAct, List.foldl_cons, List.foldl_nil, List.setIfInBounds_toArray, List.set_cons_succ, List.set_cons_zero, upd, reduceIte, Nat.reduceEqDiff, Nat.reduceAdd, f1, f3, str]; done) | (simp [mkAct, upd, f1, f3, str, *]; done)
        · -- operation 5
          obtain ⟨f4, -⟩ := hp
          replace f4 : u 4 = (.bool false) := f4
          try simp only [f4, str]
          go_wp2
          refine stq_v rfl Same.refl ?_
          first | (simp only [mkAct, List.foldl_cons, List.foldl_nil, List.setIfInBounds_toArray, List.set_cons_succ, List.set_cons_zero, upd, reduceIte, Nat.reduceEqDiff, Nat.reduceAdd, f4, str]; done) | (simp [mkAct, upd, f4, str, *]; done)
        · -- operation 6
          obtain ⟨f5, -⟩ := hp
          replace f5 : u 5 = (.bool false) := f5
          try simp only [f5, str]
          go_wp2
          refine stq_v rfl Same.refl ?_
          first | (simp only [mkAct, List.foldl_cons, List.foldl_nil, List.setIfInBounds_toArray, List.set_cons_succ, List.set_cons_zero, upd, reduceIte, Nat.reduceEqDiff, Nat.reduceAdd, f5, str]; done) | (simp [mkAct, upd, f5, str, *]; done)
        · -- operation 7
          obtain ⟨f6, f5, -⟩ := hp
          replace f6 : u 6 = (.pointer (some ⟨w.heap.size, 10, none⟩)) := f6
          replace f5 : u 5 = (.bool false) := f5
          try simp only [f6, f5, str]
          have cx := hI.cell (a1.out)
          go_wp2
          refine stq_v rfl Same.refl ?_
          first | (simp only [mkAct, List.foldl_cons, List.foldl_nil, List.setIfInBounds_toArray, List.set_cons_succ, List.set_cons_zero, upd, reduceIte, Nat.reduceEqDiff, Nat.reduceAdd, f6, f5, str]; done) | (simp [mkAct, upd, f6, f5, str, *]; done)
        · -- operation 8
          obtain ⟨f5, -⟩ := hp
          replace f5 : u 5 = (.bool false) := f5
          try simp only [f5, str]
          go_wp2
          refine stq_v rfl Same.refl ?_
          first | (simp only [mkAct, List.foldl_cons, List.foldl_nil, List.setIfInBounds_toArray, List.set_cons_succ, List.set_cons_zero, upd, reduceIte, Nat.reduceEqDiff, Nat.reduceAdd, f5, str]; done) | (simp [mkAct, upd, f5, str, *]; done)
        · -- operation 9
          obtain ⟨f8, f5, -⟩ := hp
          replace f8 : u 8 = (.pointer (some ⟨w0.heap.size, 10, none⟩)) := f8
          replace f5 : u 5 = (.bool false) := f5
          try simp only [f8, f5, str]
          have cx := hI.cell (d1.out)
          go_wp2
          refine stq_v rfl Same.refl ?_
          first | (simp only [mkAct, List.foldl_cons, List.foldl_nil, List.setIfInBounds_toArray, List.set_cons_succ, List.set_cons_zero, upd, reduceIte, Nat.reduceEqDiff, Nat.reduceAdd, f8, f5, str]; done) | (simp [mkAct, upd, f8, f5, str, *]; done)
        · -- operation 10
          obtain ⟨f7, f9, f5, -⟩ := hp
          replace f7 : u 7 = (.int .i64 na) := f7
          replace f9 : u 9 = (.int .i64 nb) := f9
          replace f5 : u 5 = (.bool false) := f5
          try simp only [f7, f9, f5, str]
          have g := g1.out
          go_wp2
          refine stq_v rfl Same.refl ?_
          first | (simp only [mkAct, List.foldl_cons, List.foldl_nil, List.setIfInBounds_toArray, List.set_cons_succ, List.set_cons_zero, upd, reduceIte, Nat.reduceEqDiff, Nat.reduceAdd, f7, f9, f5, str]; done) | (simp [mkAct, upd, f7, f9, f5, str, *]; done)
        · -- operation 11
          obtain ⟨f5, f10, -⟩ := hp
          replace f5 : u 5 = (.bool false) := f5
          replace f10 : u 10 = (.bool true) := f10
          try simp only [f5, f10, str]
          go_wp2
          refine stq_v rfl Same.refl ?_
          first | (simp only [mkAct, List.foldl_cons, List.foldl_nil, List.setIfInBounds_toArray, List.set_cons_succ, List.set_cons_zero, upd, reduceIte, Nat.reduceEqDiff, Nat.reduceAdd, f5, f10, str]; done) | (simp [mkAct, upd, f5, f10, str, *]; done)
        · -- operation 12
          obtain ⟨f11, -⟩ := hp
          replace f11 : u 11 = (.bool true) := f11
          try simp only [f11, str]
          go_wp2
          refine stq_v rfl Same.refl ?_
          first | (simp only [mkAct, List.foldl_cons, List.foldl_nil, List.setIfInBounds_toArray, List.set_cons_succ, List.set_cons_zero, upd, reduceIte, Nat.reduceEqDiff, Nat.reduceAdd, f11, str]; done) | (simp [mkAct, upd, f11, str, *]; done)
        · -- operation 13
          obtain ⟨f12, -⟩ := hp
          replace f12 : u 12 = (.bool true) := f12
          try simp only [f12, str]
          go_wp2
          refine stq_v rfl Same.refl ?_
          first | (simp only [mkAct, List.foldl_cons, List.foldl_nil, List.setIfInBounds_toArray, List.set_cons_succ, List.set_cons_zero, upd, reduceIte, Nat.reduceEqDiff, Nat.reduceAdd, f12, str]; done) | (simp [mkAct, upd, f12, str, *]; done)
        · -- operation 14
          obtain ⟨f13, f12, -⟩ := hp
          replace f13 : u 13 = undef := f13
          replace f12 : u 12 = (.bool true) := f12
          try simp only [f13, f12, str]
          go_wp2
          refine stq_v rfl Same.refl ?_
          first | (simp only [mkAct, List.foldl_cons, List.foldl_nil, List.setIfInBounds_toArray, List.set_cons_succ, List.set_cons_zero, upd, reduceIte, Nat.reduceEqDiff, Nat.reduceAdd, f13, f12, str]; done) | (simp [mkAct, upd, f13, f12, str, *]; done)
        · -- operation 15
          obtain ⟨f12, -⟩ := hp
          replace f12 : u 12 = (.bool true) := f12
          try simp only [f12, str]
          go_wp2
          refine stq_v rfl Same.refl ?_
          first | (simp only [mkAct, List.foldl_cons, List.foldl_nil, List.setIfInBounds_toArray, List.set_cons_succ, List.set_cons_zero, upd, reduceIte, Nat.reduceEqDiff, Nat.reduceAdd, f12, str]; done) | (simp [mkAct, upd, f12, str, *]; done)
        · -- operation 16
          obtain ⟨f15, f12, -⟩ := hp
          replace f15 : u 15 = undef := f15
          replace f12 : u 12 = (.bool true) := f12
          try simp only [f15, f12, str]
          go_wp2
          refine stq_v rfl Same.refl ?_
          first | (simp only [mkAct, List.foldl_cons, List.foldl_nil, List.setIfInBounds_toArray, List.set_cons_succ, List.set_cons_zero, upd, reduceIte, Nat.reduceEqDiff, Nat.reduceAdd, f15, f12, str]; done) | (simp [mkAct, upd, f15, f12, str, *]; done)
        · -- operation 17
          obtain ⟨f14, f16, f12, -⟩ := hp
          replace f14 : u 14 = undef := f14
          replace f16 : u 16 = undef := f16
          replace f12 : u 12 = (.bool true) := f12
          try simp only [f14, f16, f12, str]
          go_wp2
          refine stq_v rfl Same.refl ?_
          first | (simp only [mkAct, List.foldl_cons, List.foldl_nil, List.setIfInBounds_toArray, List.set_cons_succ, List.set_cons_zero, upd, reduceIte, Nat.reduceEqDiff, Nat.reduceAdd, f14, f16, f12, str]; done) | (simp [mkAct, upd, f14, f16, f12, str, *]; done)
        · -- operation 18
          obtain ⟨f12, f17, -⟩ := hp
          replace f12 : u 12 = (.bool true) := f12
          replace f17 : u 17 = undef := f17
          try simp only [f12, f17, str]
          go_wp2
          refine stq_v rfl Same.refl ?_
          first | (simp only [mkAct, List.foldl_cons, List.foldl_nil, List.setIfInBounds_toArray, List.set_cons_succ, List.set_cons_zero, upd, reduceIte, Nat.reduceEqDiff, Nat.reduceAdd, f12, f17, str]; done) | (simp [mkAct, upd, f12, f17, str, *]; done)
        · -- operation 19
          obtain ⟨f18, -⟩ := hp
          replace f18 : u 18 = (.bool true) := f18
          try simp only [f18, str]
          go_wp2
          refine stq_v rfl Same.refl ?_
          first | (simp only [mkAct, List.foldl_cons, List.foldl_nil, List.setIfInBounds_toArray, List.set_cons_succ, List.set_cons_zero, upd, reduceIte, Nat.reduceEqDiff, Nat.reduceAdd, f18, str]; done) | (simp [mkAct, upd, f18, str, *]; done)
        · -- operation 20
          obtain ⟨f19, -⟩ := hp
          replace f19 : u 19 = (.bool true) := f19
          try simp only [f19, str]
          go_wp2
          refine stq_v rfl Same.refl ?_
          first | (simp only [mkAct, List.foldl_cons, List.foldl_nil, List.setIfInBounds_toArray, List.set_cons_succ, List.set_cons_zero, upd, reduceIte, Nat.reduceEqDiff, Nat.reduceAdd, f19, str]; done) | (simp [mkAct, upd, f19, str, *]; done)
        · -- operation 21
          obtain ⟨f20, f19, -⟩ := hp
          replace f20 : u 20 = undef := f20
          replace f19 : u 19 = (.bool true) := f19
          try simp only [f20, f19, str]
          go_wp2
          refine stq_v rfl Same.refl ?_
          first | (simp only [mkAct, List.foldl_cons, List.foldl_nil, List.setIfInBounds_toArray, List.set_cons_succ, List.set_cons_zero, upd, reduceIte, Nat.reduceEqDiff, Nat.reduceAdd, f20, f19, str]; done) | (simp [mkAct, upd, f20, f19, str, *]; done)
        · -- operation 22
          obtain ⟨f21, f19, -⟩ := hp
          replace f21 : u 21 = undef := f21
          replace f19 : u 19 = (.bool true) := f19
          try simp only [f21, f19, str]
          go_wp2
          refine stq_v rfl Same.refl ?_
          first | (simp only [mkAct, List.foldl_cons, List.foldl_nil, List.setIfInBounds_toArray, List.set_cons_succ, List.set_cons_zero, upd, reduceIte, Nat.reduceEqDiff, Nat.reduceAdd, f21, f19, str]; done) | (simp [mkAct, upd, f21, f19, str, *]; done)
        · -- operation 23
          obtain ⟨f19, -⟩ := hp
          replace f19 : u 19 = (.bool true) := f19
          try simp only [f19, str]
          go_wp2
          refine stq_v rfl Same.refl ?_
          first | (simp only [mkAct, List.foldl_cons, List.foldl_nil, List.setIfInBounds_toArray, List.set_cons_succ, List.set_cons_zero, upd, reduceIte, Nat.reduceEqDiff, Nat.reduceAdd, f19, str]; done) | (simp [mkAct, upd, f19, str, *]; done)
        · -- operation 24
          obtain ⟨f23, f19, -⟩ := hp
          replace f23 : u 23 = undef := f23
          replace f19 : u 19 = (.bool true) := f19
          try simp only [f23, f19, str]
          go_wp2
          refine stq_v rfl Same.refl ?_
          first | (simp only [mkAct, List.foldl_cons, List.foldl_nil, List.setIfInBounds_toArray, List.set_cons_succ, List.set_cons_zero, upd, reduceIte, Nat.reduceEqDiff, Nat.reduceAdd, f23, f19, str]; done) | (simp [mkAct, upd, f23, f19, str, *]; done)
        · -- operation 25
          obtain ⟨f24, f19, -⟩ := hp
          replace f24 : u 24 = undef := f24
          replace f19 : u 19 = (.bool true) := f19
          try simp only [f24, f19, str]
          go_wp2
          refine stq_v rfl Same.refl ?_
          first | (simp only [mkAct, List.foldl_cons, List.foldl_nil, List.setIfInBounds_toArray, List.set_cons_succ, List.set_cons_zero, upd, reduceIte, Nat.reduceEqDiff, Nat.reduceAdd, f24, f19, str]; done) | (simp [mkAct, upd, f24, f19, str, *]; done)
        · -- operation 26
          obtain ⟨f22, f25, f19, -⟩ := hp
          replace f22 : u 22 = undef := f22
          replace f25 : u 25 = undef := f25
          replace f19 : u 19 = (.bool true) := f19
          try simp only [f22, f25, f19, str]
          go_wp2
          refine stq_v rfl Same.refl ?_
          first | (simp only [mkAct, List.foldl_cons, List.foldl_nil, List.setIfInBounds_toArray, List.set_cons_succ, List.set_cons_zero, upd, reduceIte, Nat.reduceEqDiff, Nat.reduceAdd, f22, f25, f19, str]; done) | (simp [mkAct, upd, f22, f25, f19, str, *]; done)
        · -- operation 27
          obtain ⟨f19, f26, -⟩ := hp
          replace f19 : u 19 = (.bool true) := f19
          replace f26 : u 26 = undef := f26
          try simp only [f19, f26, str]
          go_wp2
          refine stq_v rfl Same.refl ?_
          first | (simp only [mkAct, List.foldl_cons, List.foldl_nil, List.setIfInBounds_toArray, List.set_cons_succ, List.set_cons_zero, upd, reduceIte, Nat.reduceEqDiff, Nat.reduceAdd, f19, f26, str]; done) | (simp [mkAct, upd, f19, f26, str, *]; done)
      · intro u wx hI hR
        obtain ⟨r0, r1, r2, r3, r4, r5, r6, r7, r8, r9, r10, r11, r12, r13, r14, r15, r16, r17, r18, r19, r20, r21, r22, r23, r24, r25, r26, r27, -⟩ := hR
        replace r0 : u 0 = (.pointer (some ⟨w.heap.size, 0, none⟩)) := r0
        replace r1 : u 1 = (.agg c.cells.toArray) := r1
        replace r2 : u 2 = (.pointer (some ⟨w0.heap.size, 0, none⟩)) := r2
        replace r3 : u 3 = (.agg d.cells.toArray) := r3
        replace r4 : u 4 = (.bool false) := r4
        replace r5 : u 5 = (.bool false) := r5
        replace r6 : u 6 = (.pointer (some ⟨w.heap.size, 10, none⟩)) := r6
        replace r7 : u 7 = (.int .i64 na) := r7
        replace r8 : u 8 = (.pointer (some ⟨w0.heap.size, 10, none⟩)) := r8
        replace r9 : u 9 = (.int .i64 nb) := r9
        replace r10 : u 10 = (.bool true) := r10
        replace r11 : u 11 = (.bool true) := r11
        replace r12 : u 12 = (.bool true) := r12
        replace r13 : u 13 = undef := r13
        replace r14 : u 14 = undef := r14
        replace r15 : u 15 = undef := r15
        replace r16 : u 16 = undef := r16
        replace r17 : u 17 = undef := r17
        replace r18 : u 18 = (.bool true) := r18
        replace r19 : u 19 = (.bool true) := r19
        replace r20 : u 20 = undef := r20
        replace r21 : u 21 = undef := r21
        replace r22 : u 22 = undef := r22
        replace r23 : u 23 = undef := r23
        replace r24 : u 24 = undef := r24
        replace r25 : u 25 = undef := r25
        replace r26 : u 26 = undef := r26
        replace r27 : u 27 = (.bool true) := r27
        simp only [mkAct, List.foldl_cons, List.foldl_nil, List.setIfInBounds_toArray, List.set_cons_succ, List.set_cons_zero]
        try simp only [str, r0, r1, r2, r3, r4, r5, r6, r7, r8, r9, r10, r11, r12, r13, r14, r15, r16, r17, r18, r19, r20, r21, r22, r23, r24, r25, r26, r27]
        go_wp2
        go_ret
        exact ⟨rfl, hw1.out.trans hI⟩
end Go.Proofs.Ytmacgmmjgdmleaa
