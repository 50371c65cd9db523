/-
  The walk of the law EpochTurn: of as many views as there are nodes, one behind the other, each node leads one.
-/
-- @law rep ep, int, int
import Derived.Test.YtejdiganmghopaaRdCfg
import Derived.Test.YtejdiganmghopaaLives4
import Derived.Deep.DeepCutAuto
namespace Go.Proofs.Ytejdiganmghopaa
open Go Go.RowKit
set_option linter.unusedSimpArgs false
set_option linter.unusedVariables false

/-- Who was met, of N, from a on, k of them. -/
def mets (N a k : Nat) : List Bool := (List.range N).map fun j => (List.range k).any fun i => (a + i) % N == j
theorem mets_length (N a k : Nat) : (mets N a k).length = N := by simp [mets]
theorem mets_get (N a k : Nat) (hk : k < N) : (mets N a k).getD ((a + k) % N) false = false := by
  have hp : (a + k) % N < N := Nat.mod_lt _ (by omega)
  have e1 : (mets N a k).getD ((a + k) % N) false = (List.range k).any fun i => (a + i) % N == (a + k) % N := by simp [mets, List.getD, hp]
  rw [e1, List.any_eq_false]
  intro i hi
  rw [List.mem_range] at hi
  simp only [beq_iff_eq]
  intro h
  have h2 := Nat.sub_mod_eq_zero_of_mod_eq h.symm
  rw [show a + k - (a + i) = k - i from by omega, Nat.mod_eq_of_lt (by omega)] at h2
  omega
def bvs (l : List Bool) : List Value := l.map .bool
theorem mets_set (N a k : Nat) (hN : 0 < N) : (bvs (mets N a k)).toArray.setIfInBounds ((a + k) % N) (.bool true) = (bvs (mets N a (k + 1))).toArray := by
  have e : (mets N a k).set ((a + k) % N) true = mets N a (k + 1) := by
    apply List.ext_getElem?
    intro j
    rw [List.getElem?_set]
    by_cases hj : j < N
    · have h1 : (mets N a (k + 1))[j]? = some ((List.range (k + 1)).any fun i => (a + i) % N == j) := by simp [mets, hj]
      have h2 : (mets N a k)[j]? = some ((List.range k).any fun i => (a + i) % N == j) := by simp [mets, hj]
      rw [h1, h2, List.range_succ, List.any_append]
      by_cases h : (a + k) % N = j
      · rw [if_pos h, if_pos (by rw [mets_length]; omega)]
        simp [h]
      · rw [if_neg h]
        simp [h]
    · have hp : (a + k) % N < N := Nat.mod_lt _ hN
      rw [if_neg (by omega), List.getElem?_eq_none (by rw [mets_length]; omega), List.getElem?_eq_none (by rw [mets_length]; omega)]
  rw [← e]
  simp [bvs, List.map_set]
theorem boT : SlT Try.prog 49 4 (.bool false) 1 1 := ⟨Try.underlying49, by kernel_rfl, rfl, by decide⟩
theorem wrapU (c : Int) : ∃ m : Nat, IntKind.u64.wrap c = (m : Int) ∧ m < 18446744073709551616 := by
  refine ⟨(c % 18446744073709551616).toNat, ?_, ?_⟩
  · rw [show IntKind.u64.wrap c = c % 18446744073709551616 from by simp [IntKind.wrap, IntKind.signed, IntKind.bits]]
    omega
  · omega
theorem rem_view (view : Int) : ∃ v : Nat, v < 1099511627676 ∧ wrap64 ((IntKind.u64.wrap view).tmod 1099511627676) = (v : Int) := by
  obtain ⟨b, hb, _⟩ := wrapU view
  refine ⟨b % 1099511627676, Nat.mod_lt _ (by decide), ?_⟩
  rw [hb, show (1099511627676 : Int) = ((1099511627676 : Nat) : Int) from rfl, tmod_nat]
  have h := Nat.mod_lt b (show 0 < 1099511627676 by decide)
  generalize b % 1099511627676 = q at *
  unfold wrap64
  omega
set_option maxRecDepth 100000 in
set_option maxHeartbeats 800000 in
theorem turn_no (w : World) (c : Cfg) (number start : Int) (ao : Option Addr) (n cap : Nat) (l : List Int) (leader view : Int) (hsl : Sl w 1 ao n cap (iv l)) (h : 100 < n ∨ n ≤ 100 ∧ egood c number start l = false) :
    Calls Try.prog 6 #[.agg (epC c number start ao n cap).toArray, .int .i64 leader, .int .i64 view] w fun e w' => e = .returned (.bool true) ∧ Same w w' := by
  have hl := Lib.hid lives12
  have hinf := Lib.hid (ep_info c number start ao n cap)
  have hgd := fun w h => egood_any c number start ao n cap l w h
  replace hsl := Lib.hid hsl
  rcases h with h | ⟨h, h'⟩
  · clear hgd
    go_enter Try.func6, Try.ntmps6
    go_upto_region 1 with (refine box_row rfl _ _ rfl _ rfl hinf.out ?_; intro w0 hbx hs0; have e3 := ep_leaders hbx; clear hbx; replace hs0 := Lib.hid hs0)
    go_wp2_with fail
    refine (hl.out _).mono ?_
    rintro e w2 ⟨rfl, hs2⟩
    go_wp2
    go_ret
    exact ⟨rfl, hs0.out.trans hs2⟩
  · rw [h'] at hgd
    replace hgd := Lib.hid hgd
    have hdn : decide (100 < (n : Int)) = false := decide_eq_false (by omega)
    clear h'
    go_enter Try.func6, Try.ntmps6
    go_upto_region 1 with (refine box_row rfl _ _ rfl _ rfl hinf.out ?_; intro w0 hbx hs0; have e3 := ep_leaders hbx; replace hbx := Lib.hid hbx; replace hs0 := Lib.hid hs0)
    go_wp2_with (refine load_row rfl _ _ rfl w.heap.size rfl _ _ _ _ hbx.out Try.underlying33 rfl hinf.out ?_)
    refine (hgd.out _ (hsl.out.same hs0.out)).mono ?_
    rintro e w1 ⟨rfl, hs1⟩
    go_wp2_with fail
    refine (hl.out _).mono ?_
    rintro e w2 ⟨rfl, hs2⟩
    go_wp2
    go_ret
    exact ⟨rfl, (hs0.out.trans hs1).trans hs2⟩
set_option maxRecDepth 100000 in
set_option maxHeartbeats 3200000 in
theorem turn_yes (w : World) (c : Cfg) (number start : Int) (ao : Option Addr) (cap : Nat) (l : List Int) (leader view : Int) (hsl : Sl w 1 ao l.length cap (iv l)) (hn : l.length ≤ 100) (hG : egood c number start l = true) :
    Calls Try.prog 6 #[.agg (epC c number start ao l.length cap).toArray, .int .i64 leader, .int .i64 view] w fun e w' => e = .returned (.bool true) ∧ Same w w' := by
  have hl := Lib.hid lives12
  have hinf := Lib.hid (ep_info c number start ao l.length cap)
  have hgd := fun w h => egood_any c number start ao l.length cap l w h
  have hok := egood_ok hG
  rw [hG] at hgd
  have hl1 := hok.l1
  obtain ⟨a', ha, _⟩ := wrapU leader
  obtain ⟨m, hm⟩ : ∃ m, m = a' % l.length := ⟨_, rfl⟩
  have hml : m < l.length := by rw [hm]; exact Nat.mod_lt _ hl1
  have hmod : (a' : Int).tmod (l.length : Int) = (m : Int) := by rw [tmod_nat, hm]
  obtain ⟨v, hv1, hvI⟩ := rem_view view
  clear hm
  replace ha := Lib.hid ha
  replace hmod := Lib.hid hmod
  replace hvI := Lib.hid hvI
  have hel := hok.el m hml
  obtain ⟨x, hxe⟩ : ∃ x : Nat, l.getD m 0 = (x : Int) := ⟨(l.getD m 0).toNat, by omega⟩
  obtain ⟨N, hN⟩ : ∃ N : Nat, c.nodes = (N : Int) := ⟨c.nodes.toNat, by have := hok.n1; omega⟩
  have n1 := hok.n1
  have n2 := hok.n2
  rw [hxe] at hel
  rw [hN] at hel n1 n2
  have hin : (x : Int) ∈ l := by
    rw [← hxe]
    simp only [List.getD, List.getElem?_eq_getElem hml, Option.getD_some]
    exact List.getElem_mem _
  have hpr := fun (k : Nat) w h => eprimary_any c number start ao cap l (x : Int) ((v : Int) + (k : Int)) w h (by omega) (by omega)
  have hprv : ∀ k : Nat, k < N → eprimary c number start l (x : Int) ((v : Int) + (k : Int)) = (((x + v + k) % N : Nat) : Int) := by
    intro k hk
    unfold eprimary
    rw [if_pos ⟨by rw [hG, eleads, decide_eq_true hin]; rfl, by omega, by omega⟩, hN]
    have : (x : Int) + ((v : Int) + (k : Int)) = ((x + v + k : Nat) : Int) := by omega
    rw [this]
    rfl
  obtain ⟨bk, off, rfl, hbkl, hcell⟩ := hsl.at (by intro h2; rw [iv, List.map_eq_nil_iff] at h2; rw [h2] at hl1; simp at hl1)
  have cc := hcell m _ (iv_get hml)
  have hx : l[m]'hml = (x : Int) := by rw [← hxe]; simp [List.getD, hml]
  rw [hx] at cc
  have hcap := hsl.cap
  obtain ⟨n, hnl⟩ : ∃ n, n = l.length := ⟨_, rfl⟩
  rw [← hnl] at hinf hgd hsl hn hmod hml hcap hpr ⊢
  have hm100 : (m : Int) ≤ 100 := by omega
  have hz : ((n : Int) == 0) = false := by simp; omega
  have q0 : 0 ≤ (m : Int) := by omega
  have q1 : (m : Int) < (n : Int) := by omega
  have hx0 : 0 ≤ (x : Int) := by omega
  have hx1 := hel.2
  have hlu : IntKind.u64.wrap (n : Int) = (n : Int) := by simp [IntKind.wrap, IntKind.signed, IntKind.bits]; omega
  replace hlu := Lib.hid hlu
  have hdn : decide (100 < (n : Int)) = false := decide_eq_false (by omega)
  replace hdn := Lib.hid hdn
  obtain ⟨A, hA⟩ : ∃ A, A = x + v := ⟨_, rfl⟩
  rw [← hA] at hprv
  clear hG hok hel hxe hin hcell hx hl1
  replace hA := Lib.hid hA
  replace hN := Lib.hid hN
  replace hpr := Lib.hid hpr
  replace hprv := Lib.hid hprv
  replace hgd := Lib.hid hgd
  replace hsl := Lib.hid hsl
  replace cc := Lib.hid cc
  replace hnl := Lib.hid hnl
  go_enter Try.func6, Try.ntmps6
  go_upto_region 1 with (refine box_row rfl _ _ rfl _ rfl hinf.out ?_; intro w0 hbx hs0; have hbxl := blk_lt hbx; replace hbx := Lib.hid hbx; replace hs0 := Lib.hid hs0)
  have e3 := ep_leaders hbx.out
  have hdn := hdn.out
  go_wp2_with (refine load_row rfl _ _ rfl w.heap.size rfl _ _ _ _ hbx.out Try.underlying33 rfl hinf.out ?_)
  refine (hgd.out _ (hsl.out.same hs0.out)).mono ?_
  rintro e w1 ⟨rfl, hs1⟩
  have hbx1 := (hs1.block _ hbxl).trans hbx.out
  have hw1 := hs0.out.trans hs1
  have e1 := ep_leaders hbx1
  have e2 : w1.cell? ⟨w.heap.size, 0, none⟩ = some (.int .i64 (N : Int)) := by rw [← hN.out]; exact ep_cell hbx1 0 (by omega)
  have cc1 := hw1.cell cc.out
  have hbx1l := blk_lt hbx1
  clear e3 hs0 hs1 hbx cc
  replace hbx1 := Lib.hid hbx1
  replace hw1 := Lib.hid hw1
  replace e1 := Lib.hid e1
  replace e2 := Lib.hid e2
  replace cc1 := Lib.hid cc1
  go_upto_region 3 with fail
  go_cut [7] (fun v wx => v = .int .i64 (x : Int) ∧ Same w1 wx)
  case first =>
    refine wp_region_tails (by kernel_rfl) [(22, 0), (23, 1), (24, 2), (25, 3), (26, 4), (27, 5), (28, 6), (29, 7), (30, 8), (31, 9), (32, 10), (33, 11)] Same (Same _) [isV (.pointer (some ⟨w.heap.size, 12, none⟩)), isV (.slice (some ⟨bk, off, none⟩) n cap), isV (.int .i64 leader), isV (.int .u64 (a' : Int)), isV (.pointer (some ⟨w.heap.size, 12, none⟩)), isV (.slice (some ⟨bk, off, none⟩) n cap), isV (.int .i64 (n : Int)), isV (.int .u64 (n : Int)), isV (.int .u64 (m : Int)), isV (.int .i64 (m : Int)), isV (.pointer (some ⟨bk, off + m, none⟩)), isV (.int .i64 (x : Int))] Same.refl.drew (fun _ _ h k => h.trans k) (by simp [isV_stable, isB_stable, isAny_stable]) (by decide) (l := [_, _, _, _, _, _, _, _, _, _, _, _]) rfl (by decide) (by kernel_rfl) ?_ ?_
    · refine ⟨?_, ?_, ?_, ?_, ?_, ?_, ?_, ?_, ?_, ?_, ?_, ?_, trivial⟩
      all_goals (intro u wx hI hp; simp only [mkAct, List.foldl_cons, List.foldl_nil, List.setIfInBounds_toArray, List.set_cons_succ, List.set_cons_zero])
      · -- operation 0
        go_wp2
        refine stq_v rfl Same.refl ?_
        first | (simp only [mkAct, List.foldl_cons, List.foldl_nil, List.setIfInBounds_toArray, List.set_cons_succ, List.set_cons_zero, upd, reduceIte, Nat.reduceEqDiff, Nat.reduceAdd, str]; done) | (simp [mkAct, upd, str, *]; done)
      · -- operation 1
        obtain ⟨f0, -⟩ := hp
        replace f0 : u 0 = (.pointer (some ⟨w.heap.size, 12, none⟩)) := f0
        try simp only [f0, str]
        have cx := hI.cell (e1.out)
        go_wp2
        refine stq_v rfl Same.refl ?_
        first | (simp only [mkAct, List.foldl_cons, List.foldl_nil, List.setIfInBounds_toArray, List.set_cons_succ, List.set_cons_zero, upd, reduceIte, Nat.reduceEqDiff, Nat.reduceAdd, f0, str]; done) | (simp [mkAct, upd, f0, str, *]; done)
      · -- operation 2
        go_wp2
        refine stq_v rfl Same.refl ?_
        first | (simp only [mkAct, List.foldl_cons, List.foldl_nil, List.setIfInBounds_toArray, List.set_cons_succ, List.set_cons_zero, upd, reduceIte, Nat.reduceEqDiff, Nat.reduceAdd, str]; done) | (simp [mkAct, upd, str, *]; done)
      · -- operation 3
        obtain ⟨f2, -⟩ := hp
        replace f2 : u 2 = (.int .i64 leader) := f2
        try simp only [f2, str]
        have ha := ha.out
        go_wp2
        refine stq_v rfl Same.refl ?_
        first | (simp only [mkAct, List.foldl_cons, List.foldl_nil, List.setIfInBounds_toArray, List.set_cons_succ, List.set_cons_zero, upd, reduceIte, Nat.reduceEqDiff, Nat.reduceAdd, f2, str]; done) | (simp [mkAct, upd, f2, str, *]; done)
      · -- operation 4
        go_wp2
        refine stq_v rfl Same.refl ?_
        first | (simp only [mkAct, List.foldl_cons, List.foldl_nil, List.setIfInBounds_toArray, List.set_cons_succ, List.set_cons_zero, upd, reduceIte, Nat.reduceEqDiff, Nat.reduceAdd, str]; done) | (simp [mkAct, upd, str, *]; done)
      · -- operation 5
        obtain ⟨f4, -⟩ := hp
        replace f4 : u 4 = (.pointer (some ⟨w.heap.size, 12, none⟩)) := f4
        try simp only [f4, str]
        have cx := hI.cell (e1.out)
        go_wp2
        refine stq_v rfl Same.refl ?_
        first | (simp only [mkAct, List.foldl_cons, List.foldl_nil, List.setIfInBounds_toArray, List.set_cons_succ, List.set_cons_zero, upd, reduceIte, Nat.reduceEqDiff, Nat.reduceAdd, f4, str]; done) | (simp [mkAct, upd, f4, str, *]; done)
      · -- operation 6
        obtain ⟨f5, -⟩ := hp
        replace f5 : u 5 = (.slice (some ⟨bk, off, none⟩) n cap) := f5
        try simp only [f5, str]
        go_wp2
        refine stq_v rfl Same.refl ?_
        first | (simp only [mkAct, List.foldl_cons, List.foldl_nil, List.setIfInBounds_toArray, List.set_cons_succ, List.set_cons_zero, upd, reduceIte, Nat.reduceEqDiff, Nat.reduceAdd, f5, str]; done) | (simp [mkAct, upd, f5, str, *]; done)
      · -- operation 7
        obtain ⟨f6, -⟩ := hp
        replace f6 : u 6 = (.int .i64 (n : Int)) := f6
        try simp only [f6, str]
        have hlu := hlu.out
        go_wp2
        refine stq_v rfl Same.refl ?_
        first | (simp only [mkAct, List.foldl_cons, List.foldl_nil, List.setIfInBounds_toArray, List.set_cons_succ, List.set_cons_zero, upd, reduceIte, Nat.reduceEqDiff, Nat.reduceAdd, f6, str]; done) | (simp [mkAct, upd, f6, str, *]; done)
      · -- operation 8
        obtain ⟨f3, f7, -⟩ := hp
        replace f3 : u 3 = (.int .u64 (a' : Int)) := f3
        replace f7 : u 7 = (.int .u64 (n : Int)) := f7
        try simp only [f3, f7, str]
        have hmod := hmod.out
        go_wp2
        refine stq_v rfl Same.refl ?_
        first | (simp only [mkAct, List.foldl_cons, List.foldl_nil, List.setIfInBounds_toArray, List.set_cons_succ, List.set_cons_zero, upd, reduceIte, Nat.reduceEqDiff, Nat.reduceAdd, f3, f7, str]; done) | (simp [mkAct, upd, f3, f7, str, *]; done)
      · -- operation 9
        obtain ⟨f8, -⟩ := hp
        replace f8 : u 8 = (.int .u64 (m : Int)) := f8
        try simp only [f8, str]
        go_wp2
        refine stq_v rfl Same.refl ?_
        first | (simp only [mkAct, List.foldl_cons, List.foldl_nil, List.setIfInBounds_toArray, List.set_cons_succ, List.set_cons_zero, upd, reduceIte, Nat.reduceEqDiff, Nat.reduceAdd, f8, str]; done) | (simp [mkAct, upd, f8, str, *]; done)
      · -- operation 10
        obtain ⟨f1, f9, -⟩ := hp
        replace f1 : u 1 = (.slice (some ⟨bk, off, none⟩) n cap) := f1
        replace f9 : u 9 = (.int .i64 (m : Int)) := f9
        try simp only [f1, f9, str]
        go_wp2
        refine stq_v rfl Same.refl ?_
        first | (simp only [mkAct, List.foldl_cons, List.foldl_nil, List.setIfInBounds_toArray, List.set_cons_succ, List.set_cons_zero, upd, reduceIte, Nat.reduceEqDiff, Nat.reduceAdd, f1, f9, str]; done) | (simp [mkAct, upd, f1, f9, str, *]; done)
      · -- operation 11
        obtain ⟨f10, -⟩ := hp
        replace f10 : u 10 = (.pointer (some ⟨bk, off + m, none⟩)) := f10
        try simp only [f10, str]
        have cx := hI.cell (cc1.out)
        go_wp2
        refine stq_v rfl Same.refl ?_
        first | (simp only [mkAct, List.foldl_cons, List.foldl_nil, List.setIfInBounds_toArray, List.set_cons_succ, List.set_cons_zero, upd, reduceIte, Nat.reduceEqDiff, Nat.reduceAdd, f10, str]; done) | (simp [mkAct, upd, f10, str, *]; done)
    · intro u wx hI hR
      obtain ⟨r0, r1, r2, r3, r4, r5, r6, r7, r8, r9, r10, r11, -⟩ := hR
      replace r0 : u 0 = (.pointer (some ⟨w.heap.size, 12, none⟩)) := r0
      replace r1 : u 1 = (.slice (some ⟨bk, off, none⟩) n cap) := r1
      replace r2 : u 2 = (.int .i64 leader) := r2
      replace r3 : u 3 = (.int .u64 (a' : Int)) := r3
      replace r4 : u 4 = (.pointer (some ⟨w.heap.size, 12, none⟩)) := r4
      replace r5 : u 5 = (.slice (some ⟨bk, off, none⟩) n cap) := r5
      replace r6 : u 6 = (.int .i64 (n : Int)) := r6
      replace r7 : u 7 = (.int .u64 (n : Int)) := r7
      replace r8 : u 8 = (.int .u64 (m : Int)) := r8
      replace r9 : u 9 = (.int .i64 (m : Int)) := r9
      replace r10 : u 10 = (.pointer (some ⟨bk, off + m, none⟩)) := r10
      replace r11 : u 11 = (.int .i64 (x : Int)) := r11
      simp only [mkAct, List.foldl_cons, List.foldl_nil, List.setIfInBounds_toArray, List.set_cons_succ, List.set_cons_zero]
      try simp only [str, r0, r1, r2, r3, r4, r5, r6, r7, r8, r9, r10, r11]
      go_wp2_with fail
      go_meet
      exact ⟨rfl, hI⟩
  case rest =>
    obtain ⟨rfl, hs2⟩ := hcut
    have hbx2 := (hs2.block _ hbx1l).trans hbx1.out
    have hw2 := hw1.out.trans hs2
    have e2' := hs2.cell e2.out
    have hbx2l := blk_lt hbx2
    have hw0 := Lib.hid hw2.size
    clear hs2 hw1 hbx1 e1 e2 cc1
    replace hbx2 := Lib.hid hbx2
    replace hw2 := Lib.hid hw2
    rename_i w2
    go_upto_region 5 with fail
    rw [hvI.out]
    go_upto_region 6 with (refine make_block rfl _ _ rfl boT .i64 .i64 (N : Int) (N : Int) N rfl rfl rfl rfl (by omega) (by omega) ?_; intro w3 hb3 hs3)
    have hmk : madeCells (Value.bool false).cells (N * 1) = (bvs (mets N A 0)).toArray := by
      have e1 : bvs (mets N A 0) = List.replicate N (.bool false) := by
        simp [bvs, mets, List.map_const']
      rw [e1, Nat.mul_one]
      apply Array.ext
      · simp [madeCells, Value.cells]
      · intro i h1 h2
        simp [madeCells, Value.cells, Nat.mod_one]
    rw [hmk] at hb3
    have hbx3 := (hs3.block _ hbx2l).trans hbx2.out
    have hw3 := hw2.out.trans hs3
    have hsl3 := hsl.out.same hw3
    have hbx3l := blk_lt hbx3
    have hgl : wc.heap.size < w3.heap.size := blk_lt hb3
    clear hmk hs3 hbx2 hw2 e2' hsl
    replace hbx3 := Lib.hid hbx3
    replace hw3 := Lib.hid hw3
    replace hb3 := Lib.hid hb3
    replace hsl3 := Lib.hid hsl3
    go_wp2
    go_loopw [44] (fun i wr => ∃ k : Nat, k ≤ N ∧ i = .int .i64 k ∧ wr.heap[wc.heap.size]? = some (.cells (bvs (mets N A k)).toArray 4 (0, 0)) ∧ Keep (· = wc.heap.size) w3 wr) (fun i _ => N - (intOf i).toNat)
    case atStart => exact ⟨0, by omega, rfl, hb3.out, Keep.refl⟩
    case round =>
      obtain ⟨k, hk, rfl, hb, hkp⟩ := hrel
      by_cases hlt : k < N
      · have hbxr := (hkp.block _ hbx3l (by omega)).trans hbx3.out
        have hslr := hsl3.out.keep hkp (fun q hq _ => by injection hq with hq; subst hq; simp; omega)
        have hpk := hpr.out k wr hslr
        rw [hprv.out k hlt] at hpk
        have hmg := mets_get N A k hlt
        have hms := mets_set N A k (by omega)
        obtain ⟨q, hq⟩ : ∃ q, q = (A + k) % N := ⟨_, rfl⟩
        have hqN : q < N := by rw [hq]; exact Nat.mod_lt _ (by omega)
        rw [← hq] at hpk hmg hms
        have cq : wr.cell? ⟨wc.heap.size, q, none⟩ = some (.bool false) := by
          rw [blk_cell hb]
          have h1 : q < (mets N A k).length := by rw [mets_length]; exact hqN
          have h2 : (mets N A k)[q]'h1 = false := by
            have h3 : (mets N A k).getD q false = (mets N A k)[q]'h1 := by simp [List.getD, h1]
            rw [← h3]; exact hmg
          simp [bvs, h1, h2]
        clear hq hmg hslr
        replace hms := Lib.hid hms
        replace hpk := Lib.hid hpk
        replace cq := Lib.hid cq
        replace hb := Lib.hid hb
        replace hkp := Lib.hid hkp
        replace hbxr := Lib.hid hbxr
        go_wp2_with (refine load_row rfl _ _ rfl w.heap.size rfl _ _ _ _ hbxr.out Try.underlying33 rfl hinf.out ?_)
        refine hpk.out.mono ?_
        rintro e w5 ⟨rfl, hs5⟩
        have hb5 := (hs5.block _ (blk_lt hb.out)).trans hb.out
        have cq5 := hs5.cell cq.out
        have fz5 := blk_frozen hb5 q
        have hk5 := hkp.out.trans (Keep.of_same (p := fun _ => False) hs5) (fun _ _ h => h.elim)
        have q2 : 0 ≤ (q : Int) := by omega
        have q3 : (q : Int) < (N : Int) := by omega
        clear hs5 hb hkp cq hbxr hpk
        replace hb5 := Lib.hid hb5
        replace hk5 := Lib.hid hk5
        go_wp2
        go_roundw
        case rel => exact ⟨k + 1, by omega, by go_num, (blk_set hb5.out).trans (by rw [hms.out]), hk5.out.trans (Keep.setCell (p := (· = wc.heap.size)) _ rfl) (fun _ _ h => h)⟩
        case measure => simp [intOf]; omega
      · have hsF : Same w wr := hw3.out.keep hkp (fun x hx hv => by have := hw3.out.size; have := hw0.out; omega)
        go_wp2_with fail
        refine (hl.out _).mono ?_
        rintro e w9 ⟨rfl, hs9⟩
        go_wp2
        go_ret
        exact ⟨rfl, hsF.trans hs9⟩
theorem walk_EpochTurn (w : World) (a : EpIn) (ha : a.ep.cfg.wf ∧ (Lit.int .i64 a.ep.number).wf = true ∧ (Lit.int .i64 a.ep.start).wf = true ∧ Sl w 1 a.ao a.ep.leaders.length a.cap (iv a.ep.leaders) ∧ ∀ n ∈ a.ep.leaders, (Lit.int .i64 n).wf = true) (leader : Int) (hl : (Lit.int .i64 leader).wf = true) (view : Int) (hv : (Lit.int .i64 view).wf = true) :
    Calls Try.prog 6 #[.agg (epC a.ep.cfg a.ep.number a.ep.start a.ao a.ep.leaders.length a.cap).toArray, .int .i64 leader, .int .i64 view] w fun e w' => e = .returned (.bool true) ∧ Same w w' := by
  by_cases h : 100 < a.ep.leaders.length
  · exact turn_no w _ _ _ _ _ _ a.ep.leaders leader view ha.2.2.2.1 (.inl h)
  · cases hG : egood a.ep.cfg a.ep.number a.ep.start a.ep.leaders
    · exact turn_no w _ _ _ _ _ _ a.ep.leaders leader view ha.2.2.2.1 (.inr ⟨by omega, hG⟩)
    · exact turn_yes w _ _ _ _ _ a.ep.leaders leader view ha.2.2.2.1 (by omega) hG
end Go.Proofs.Ytejdiganmghopaa
