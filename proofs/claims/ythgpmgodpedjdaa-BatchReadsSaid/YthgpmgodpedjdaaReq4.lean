/-
  Requests, the document's: how one is made.
-/
import Derived.Test.YthgpmgodpedjdaaReq3
import Derived.Test.YthgpmgodpedjdaaMutL
namespace Go.Proofs.Ythgpmgodpedjdaa
open Go Go.RowKit
set_option linter.unusedSimpArgs false
set_option linter.unusedVariables false

/-- A whole value in a block of the call's own, from block B on. -/
def isCell (B : Nat) (cs : List Value) (T : TypeId) : Value → World → Prop := fun v w => ∃ g, v = .pointer (some ⟨g, 0, none⟩) ∧ B ≤ g ∧ w.heap[g]? = some (.cells cs.toArray T (0, 0))
theorem isCell_stable (B : Nat) (cs : List Value) (T : TypeId) : Stable Same (isCell B cs T) := fun _ _ _ k ⟨g, h, hB, hb⟩ => ⟨g, h, hB, (k.block _ (blk_lt hb)).trans hb⟩
set_option maxRecDepth 100000 in
set_option maxHeartbeats 3200000 in
theorem rqrmake_any (w : World) (seed : ByteArray) (N : Nat) (nodes client num : Int) (data : ByteArray) (hN : N ≠ 0) (hN2 : N ≤ 1000000) (hs : seed.size ≤ 1000000) (hw : num ≤ 9223372036854775807) :
    Calls Try.prog 28 #[rkeys seed N, .int .i64 nodes, .int .i64 client, .int .i64 num, .string data] w (RetReq w (Req.make seed.data.toList N nodes client num data)) := by
  have hinfZ := Lib.hid (req_info zeroReq_tag)
  have hinf0 := Lib.hid (req_info (r := req0 client num data) rfl)
  have hinfK := Lib.hid (keys_info #[.string seed, .int .i64 (N : Nat)] rfl)
  have hmay := fun w => rqform_any (req0 client num data) 8 w rfl
  unfold Req.make
  cases hm : (req0 client num data).may 8
  · rw [hm] at hmay
    rw [if_pos rfl]
    clear hm
    replace hmay := Lib.hid hmay
    go_enter Try.func28, Try.ntmps28
    go_upto_region 1 with (first | (refine box_row rfl _ _ rfl #[.string seed, .int .i64 (N : Nat)] rfl hinfK.out ?_; intro w0 hbk sk; replace hbk := Lib.hid hbk; replace sk := Lib.hid sk) | (refine alloc_new rfl 44 rfl zeroReq.cells.toArray (by kernel_rfl) ?_; intro w1 hd hs1; have hdl := blk_lt hd; replace hd := Lib.hid hd; replace hs1 := Lib.hid hs1))
    have s0 := Lib.hid (sk.out.trans hs1.out)
    have zk0 := sk.out.size
    have zk1 := hs1.out.size
    replace sk := hs1
    go_upto_region 2 with (first | (refine build_const (ty := 44) (.agg (req0 client num data).cells.toArray) rfl rfl (by kernel_rfl) ?_) | (refine alloc_new rfl 44 rfl zeroReq.cells.toArray (by kernel_rfl) ?_; intro w2 hb hs2; have hbl := blk_lt hb; replace hb := Lib.hid hb; replace hs2 := Lib.hid hs2) | (refine store_row rfl _ _ _ rfl w1.heap.size _ rfl rfl _ _ hb.out hinf0.out rfl (req_one _) ?_; intro w2b hb3 hk3))
    have sd : Same w1 w2b := hs2.out.keep hk3 (fun x hx hv => by omega)
    clear hk3 hs2 hb
    have hb := Lib.hid hb3
    clear hb3
    replace s0 := Lib.hid (s0.out.trans sd)
    replace sk := Lib.hid (sk.out.trans sd)
    replace sd := Lib.hid sd
    go_wp2_with (refine load_row rfl _ _ rfl w1.heap.size rfl _ _ _ _ hb.out Try.underlying44 rfl hinf0.out ?_)
    refine (hmay.out _).mono ?_
    rintro e w3 ⟨rfl, hs4⟩
    have sb := Lib.hid hs4
    replace s0 := Lib.hid (s0.out.trans hs4)
    replace sd := Lib.hid (sd.out.trans hs4)
    replace sk := Lib.hid (sk.out.trans hs4)
    clear hs4
    go_wp2_with (first | (refine build_const (ty := 44) (.agg zeroReq.cells.toArray) rfl rfl (by kernel_rfl) ?_) | (refine store_row rfl _ _ _ rfl w0.heap.size _ rfl rfl _ _ (sd.out.at hd.out) hinfZ.out rfl (req_one _) ?_; intro w5 hb5 hk5; replace hb5 := Lib.hid hb5; replace hk5 := Lib.hid hk5))
    refine bodyPost_ret (v := .tuple #[.agg zeroReq.cells.toArray, .int .i64 60]) (results_row2 (p := 10) (q := 11) (ty := 44) rfl _ _ w0.heap.size _ _ _ _ _ rfl rfl hb5.out Try.underlying44 rfl hinfZ.out) rfl ?_
    exact ⟨rfl, s0.out.keep hk5.out (fun x hx hv => by omega)⟩
  · obtain ⟨m1, m2, m3, m4, m5⟩ := Req.may_iff.1 hm
    simp only [req0] at m1 m2 m3 m4 m5
    rw [hm] at hmay
    rw [if_neg (by simp)]
    clear hm
    by_cases hnd : nodes < 0 ∨ 64 < nodes
    · rw [if_pos hnd]
      clear m1 m2 m3 m4 m5
      replace hmay := Lib.hid hmay
      have key : ∀ hh : nodes < 0 ∨ 0 ≤ nodes ∧ 64 < nodes, Calls Try.prog 28 #[rkeys seed N, .int .i64 nodes, .int .i64 client, .int .i64 num, .string data] w (RetReq w (zeroReq, 2)) := by
        intro hh
        clear hnd
        rcases hh with h1 | ⟨h1, h2⟩
        all_goals
          go_enter Try.func28, Try.ntmps28
          go_upto_region 1 with (first | (refine box_row rfl _ _ rfl #[.string seed, .int .i64 (N : Nat)] rfl hinfK.out ?_; intro w0 hbk sk; replace hbk := Lib.hid hbk; replace sk := Lib.hid sk) | (refine alloc_new rfl 44 rfl zeroReq.cells.toArray (by kernel_rfl) ?_; intro w1 hd hs1; have hdl := blk_lt hd; replace hd := Lib.hid hd; replace hs1 := Lib.hid hs1))
          have s0 := Lib.hid (sk.out.trans hs1.out)
          have zk0 := sk.out.size
          have zk1 := hs1.out.size
          replace sk := hs1
          go_upto_region 2 with (first | (refine build_const (ty := 44) (.agg (req0 client num data).cells.toArray) rfl rfl (by kernel_rfl) ?_) | (refine alloc_new rfl 44 rfl zeroReq.cells.toArray (by kernel_rfl) ?_; intro w2 hb hs2; have hbl := blk_lt hb; replace hb := Lib.hid hb; replace hs2 := Lib.hid hs2) | (refine store_row rfl _ _ _ rfl w1.heap.size _ rfl rfl _ _ hb.out hinf0.out rfl (req_one _) ?_; intro w2b hb3 hk3))
          have sd : Same w1 w2b := hs2.out.keep hk3 (fun x hx hv => by omega)
          clear hk3 hs2 hb
          have hb := Lib.hid hb3
          clear hb3
          replace s0 := Lib.hid (s0.out.trans sd)
          replace sk := Lib.hid (sk.out.trans sd)
          replace sd := Lib.hid sd
          go_wp2_with (refine load_row rfl _ _ rfl w1.heap.size rfl _ _ _ _ hb.out Try.underlying44 rfl hinf0.out ?_)
          refine (hmay.out _).mono ?_
          rintro e w3 ⟨rfl, hs4⟩
          have sb := Lib.hid hs4
          replace s0 := Lib.hid (s0.out.trans hs4)
          replace sd := Lib.hid (sd.out.trans hs4)
          replace sk := Lib.hid (sk.out.trans hs4)
          clear hs4
          go_wp2_with (first | (refine build_const (ty := 44) (.agg zeroReq.cells.toArray) rfl rfl (by kernel_rfl) ?_) | (refine store_row rfl _ _ _ rfl w0.heap.size _ rfl rfl _ _ (sd.out.at hd.out) hinfZ.out rfl (req_one _) ?_; intro w5 hb5 hk5; replace hb5 := Lib.hid hb5; replace hk5 := Lib.hid hk5))
          refine bodyPost_ret (v := .tuple #[.agg zeroReq.cells.toArray, .int .i64 2]) (results_row2 (p := 10) (q := 11) (ty := 44) rfl _ _ w0.heap.size _ _ _ _ _ rfl rfl hb5.out Try.underlying44 rfl hinfZ.out) rfl ?_
          exact ⟨rfl, s0.out.keep hk5.out (fun x hx hv => by omega)⟩
      exact key (by omega)
    · rw [if_neg hnd]
      have n1 : 0 ≤ nodes := by omega
      have n2 : nodes ≤ 64 := by omega
      have hsg := fun w => rsign_any w seed N (nodes + client) ⟨(reqBody (req0 client num data)).toArray⟩ hs (by have := reqBody_le (req0 client num data) (show client ≤ _ by omega) (show num ≤ _ by omega) (show data.size ≤ _ by omega); show (reqBody (req0 client num data)).toArray.size ≤ _; rw [List.size_toArray]; simp only [req0] at this ⊢; omega) hN2
      rw [show ((⟨(reqBody (req0 client num data)).toArray⟩ : ByteArray).data.toList) = reqBody (req0 client num data) from rfl, ← Sha.rsign_eq _ _ _ _ hN] at hsg
      have hbd := fun w => rqrbody_any (req0 client num data) w rfl (show client ≤ _ by omega) (show num ≤ _ by omega) (show data.size ≤ _ by omega)
      have hXl := Sha.sign_length seed.data.toList N (nodes + client) (reqBody (req0 client num data))
      unfold RetText0 at hbd
      unfold RetTag at hsg
      obtain ⟨B, hB⟩ : ∃ B, B = reqBody (req0 client num data) := ⟨_, rfl⟩
      rw [← hB] at hsg hbd hXl ⊢
      obtain ⟨X, hX⟩ : ∃ X, X = Sha.sign seed.data.toList N (nodes + client) B := ⟨_, rfl⟩
      rw [← hX] at hsg hXl ⊢
      obtain ⟨T, E⟩ := X
      simp only at hsg hXl ⊢
      have hwr : IntKind.i64.wrap (nodes + client) = nodes + client := IntWalk.i64_in _ ⟨by omega, by omega⟩
      have hinfT := Lib.hid (tag_info hXl)
      have hinfF := Lib.hid (req_info (r := reqT client num data T) hXl)
      obtain ⟨R, hR⟩ : ∃ R, R = (if E = 0 then (reqT client num data T, 0) else (zeroReq, E)) := ⟨_, rfl⟩
      rw [← hR]
      replace hR := Lib.hid hR
      clear hX hB hnd hs m3 m4 m5
      replace hmay := Lib.hid hmay
      replace hsg := Lib.hid hsg
      replace hbd := Lib.hid hbd
      replace hXl := Lib.hid hXl
      go_enter Try.func28, Try.ntmps28
      go_upto_region 1 with (first | (refine box_row rfl _ _ rfl #[.string seed, .int .i64 (N : Nat)] rfl hinfK.out ?_; intro w0 hbk sk; replace hbk := Lib.hid hbk; replace sk := Lib.hid sk) | (refine alloc_new rfl 44 rfl zeroReq.cells.toArray (by kernel_rfl) ?_; intro w1 hd hs1; have hdl := blk_lt hd; replace hd := Lib.hid hd; replace hs1 := Lib.hid hs1))
      have s0 := Lib.hid (sk.out.trans hs1.out)
      have zk0 := sk.out.size
      have zk1 := hs1.out.size
      replace sk := hs1
      go_upto_region 2 with (first | (refine build_const (ty := 44) (.agg (req0 client num data).cells.toArray) rfl rfl (by kernel_rfl) ?_) | (refine alloc_new rfl 44 rfl zeroReq.cells.toArray (by kernel_rfl) ?_; intro w2 hb hs2; have hbl := blk_lt hb; replace hb := Lib.hid hb; replace hs2 := Lib.hid hs2) | (refine store_row rfl _ _ _ rfl w1.heap.size _ rfl rfl _ _ hb.out hinf0.out rfl (req_one _) ?_; intro w2b hb3 hk3))
      have sd : Same w1 w2b := hs2.out.keep hk3 (fun x hx hv => by omega)
      clear hk3 hs2 hb
      have hb := Lib.hid hb3
      clear hb3
      replace s0 := Lib.hid (s0.out.trans sd)
      replace sk := Lib.hid (sk.out.trans sd)
      replace sd := Lib.hid sd
      go_wp2_with (refine load_row rfl _ _ rfl w1.heap.size rfl _ _ _ _ hb.out Try.underlying44 rfl hinf0.out ?_)
      refine (hmay.out _).mono ?_
      rintro e w3 ⟨rfl, hs4⟩
      have sb := Lib.hid hs4
      replace s0 := Lib.hid (s0.out.trans hs4)
      replace sd := Lib.hid (sd.out.trans hs4)
      replace sk := Lib.hid (sk.out.trans hs4)
      clear hs4
      have hbk2 := Lib.hid ((sk.out.at hbk.out))
      have hd2 := Lib.hid (sd.out.at hd.out)
      have hb2 := Lib.hid (sb.out.at hb.out)
      have hw2 := s0
      have hz2 := s0.out.size
      have hzd := sd.out.size
      have hd2l := blk_lt hd2.out
      have hb2l := blk_lt hb2.out
      clear sk sd sb s0 hbk hd hb
      go_upto_region 6 with fail
      refine wp_region_mutL (by kernel_rfl) [(31, 0), (32, 1), (33, 2), (34, 3), (35, 4), (36, 5), (37, 6), (30, 7), (38, 8), (39, 9), (13, 10)] [(11, (Keep (fun k => w3.heap.size ≤ k)))] [(10, [11]), (11, [11])] [(11, 10)] [0, 1, 2, 3, 4, 5, 6, 7, 8, 9, 11] [[], [], [], [1, 2], [], [4], [0, 3, 5], [6], [7], [7], [], [10, 8]] Same (Same _) [] [isV (rkeys seed N), isV (.int .i64 nodes), isV (.int .i64 client), isV (.int .i64 (nodes + client)), isV (.agg (req0 client num data).cells.toArray), isV (str B), isV (.tuple #[.agg (bv T).toArray, .int .i64 (E : Int)]), isV (.tuple #[.agg (bv T).toArray, .int .i64 (E : Int)]), isV (.agg (bv T).toArray), isV (.int .i64 (E : Int)), isCell w3.heap.size (bv noTag) 42, isCell w3.heap.size (bv T) 42] (Same.refl.drew) (by simp) (fun _ _ h k => h.trans k) (by intro g hg; simp only [List.mem_cons, List.not_mem_nil, or_false] at hg; obtain rfl := hg; exact (fun _ _ h k => h.keep k (fun x hx hv => by omega))) (by simp [isV_stable, isB_stable, isAny_stable, isCell_stable]) (by simp) (by simp [killsOf, List.zipIdx_cons, isV_stable, isAny_stable]) (by simp [killsOf, List.zipIdx_cons]) (by decide) (l := [_, _, _, _, _, _, _, _, _, _, _, _]) rfl (by decide) (by kernel_rfl) (by kernel_rfl) (by kernel_rfl) (by decide) (by kernel_rfl) ?_ ?_
      · refine ⟨?_, ?_, ?_, ?_, ?_, ?_, ?_, ?_, ?_, ?_, ?_, ?_, trivial⟩
        all_goals (intro u wx hI hp; simp only [mkAct, List.foldl_cons, List.foldl_nil, List.setIfInBounds_toArray, List.set_cons_succ, List.set_cons_zero])
        · -- operation 0
          go_wp2_with (refine load_row rfl _ _ rfl w.heap.size rfl _ _ _ _ (hI.at hbk2.out) Try.underlying38 rfl hinfK.out ?_)
          refine stl_v (x := (rkeys seed N)) rfl (by decide) Same.refl ?_
          first | (simp only [mkAct, List.foldl_cons, List.foldl_nil, List.setIfInBounds_toArray, List.set_cons_succ, List.set_cons_zero, upd, reduceIte, Nat.reduceEqDiff, Nat.reduceAdd, str]; done) | (simp [mkAct, upd, str, *]; done)
        · -- operation 1
          go_wp2
          refine stl_v (x := (.int .i64 nodes)) rfl (by decide) Same.refl ?_
          first | (simp only [mkAct, List.foldl_cons, List.foldl_nil, List.setIfInBounds_toArray, List.set_cons_succ, List.set_cons_zero, upd, reduceIte, Nat.reduceEqDiff, Nat.reduceAdd, str]; done) | (simp [mkAct, upd, str, *]; done)
        · -- operation 2
          go_wp2
          refine stl_v (x := (.int .i64 client)) rfl (by decide) Same.refl ?_
          first | (simp only [mkAct, List.foldl_cons, List.foldl_nil, List.setIfInBounds_toArray, List.set_cons_succ, List.set_cons_zero, upd, reduceIte, Nat.reduceEqDiff, Nat.reduceAdd, str]; done) | (simp [mkAct, upd, str, *]; done)
        · -- operation 3
          obtain ⟨f1, f2, -⟩ := hp
          replace f1 : u 1 = (.int .i64 nodes) := f1
          replace f2 : u 2 = (.int .i64 client) := f2
          try simp only [f1, f2, str]
          go_wp2
          refine stl_v (x := (.int .i64 (nodes + client))) rfl (by decide) Same.refl ?_
          first | (simp only [mkAct, List.foldl_cons, List.foldl_nil, List.setIfInBounds_toArray, List.set_cons_succ, List.set_cons_zero, upd, reduceIte, Nat.reduceEqDiff, Nat.reduceAdd, f1, f2, str]; done) | (simp [mkAct, upd, f1, f2, str, *]; done)
        · -- operation 4
          go_wp2_with (refine load_row rfl _ _ rfl w1.heap.size rfl _ _ _ _ (hI.at hb2.out) Try.underlying44 rfl hinf0.out ?_)
          refine stl_v (x := (.agg (req0 client num data).cells.toArray)) rfl (by decide) Same.refl ?_
          first | (simp only [mkAct, List.foldl_cons, List.foldl_nil, List.setIfInBounds_toArray, List.set_cons_succ, List.set_cons_zero, upd, reduceIte, Nat.reduceEqDiff, Nat.reduceAdd, str]; done) | (simp [mkAct, upd, str, *]; done)
        · -- operation 5
          obtain ⟨f4, -⟩ := hp
          replace f4 : u 4 = (.agg (req0 client num data).cells.toArray) := f4
          try simp only [f4, str]
          go_wp2_with fail
          refine (hbd.out _).mono ?_
          rintro e w1 ⟨rfl, hs'⟩
          go_wp2
          refine stl_v (x := (str B)) rfl (by decide) hs' ?_
          first | (simp only [mkAct, List.foldl_cons, List.foldl_nil, List.setIfInBounds_toArray, List.set_cons_succ, List.set_cons_zero, upd, reduceIte, Nat.reduceEqDiff, Nat.reduceAdd, f4, str]; done) | (simp [mkAct, upd, f4, str, *]; done)
        · -- operation 6
          obtain ⟨f0, f3, f5, -⟩ := hp
          replace f0 : u 0 = (rkeys seed N) := f0
          replace f3 : u 3 = (.int .i64 (nodes + client)) := f3
          replace f5 : u 5 = (str B) := f5
          try simp only [f0, f3, f5, str]
          go_wp2_with fail
          refine (hsg.out _).mono ?_
          rintro e w1 ⟨rfl, hs'⟩
          go_wp2
          refine stl_v (x := (.tuple #[.agg (bv T).toArray, .int .i64 (E : Int)])) rfl (by decide) hs' ?_
          first | (simp only [mkAct, List.foldl_cons, List.foldl_nil, List.setIfInBounds_toArray, List.set_cons_succ, List.set_cons_zero, upd, reduceIte, Nat.reduceEqDiff, Nat.reduceAdd, f0, f3, f5, str]; done) | (simp [mkAct, upd, f0, f3, f5, str, *]; done)
        · -- operation 7
          obtain ⟨f6, -⟩ := hp
          replace f6 : u 6 = (.tuple #[.agg (bv T).toArray, .int .i64 (E : Int)]) := f6
          try simp only [f6, str]
          go_wp2
          refine stl_v (x := (.tuple #[.agg (bv T).toArray, .int .i64 (E : Int)])) rfl (by decide) Same.refl ?_
          first | (simp only [mkAct, List.foldl_cons, List.foldl_nil, List.setIfInBounds_toArray, List.set_cons_succ, List.set_cons_zero, upd, reduceIte, Nat.reduceEqDiff, Nat.reduceAdd, f6, str]; done) | (simp [mkAct, upd, f6, str, *]; done)
        · -- operation 8
          obtain ⟨f7, -⟩ := hp
          replace f7 : u 7 = (.tuple #[.agg (bv T).toArray, .int .i64 (E : Int)]) := f7
          try simp only [f7, str]
          go_wp2
          refine stl_v (x := (.agg (bv T).toArray)) rfl (by decide) Same.refl ?_
          first | (simp only [mkAct, List.foldl_cons, List.foldl_nil, List.setIfInBounds_toArray, List.set_cons_succ, List.set_cons_zero, upd, reduceIte, Nat.reduceEqDiff, Nat.reduceAdd, f7, str]; done) | (simp [mkAct, upd, f7, str, *]; done)
        · -- operation 9
          obtain ⟨f7, -⟩ := hp
          replace f7 : u 7 = (.tuple #[.agg (bv T).toArray, .int .i64 (E : Int)]) := f7
          try simp only [f7, str]
          go_wp2
          refine stl_v (x := (.int .i64 (E : Int))) rfl (by decide) Same.refl ?_
          first | (simp only [mkAct, List.foldl_cons, List.foldl_nil, List.setIfInBounds_toArray, List.set_cons_succ, List.set_cons_zero, upd, reduceIte, Nat.reduceEqDiff, Nat.reduceAdd, f7, str]; done) | (simp [mkAct, upd, f7, str, *]; done)
        · -- operation 10
          go_wp2_with (refine alloc_new rfl 42 rfl (bv noTag).toArray (by kernel_rfl) ?_; intro w4 hb4 hs4)
          refine stl_v (x := (.pointer (some ⟨wx.heap.size, 0, none⟩))) ⟨_, rfl, hI.size, hb4⟩ (by decide) hs4 ?_
          first | (simp only [mkAct, List.foldl_cons, List.foldl_nil, List.setIfInBounds_toArray, List.set_cons_succ, List.set_cons_zero, upd, reduceIte, Nat.reduceEqDiff, Nat.reduceAdd, str]; done) | (simp [mkAct, upd, str, *]; done)
        · -- operation 11
          obtain ⟨f10, f8, -⟩ := hp
          replace f8 : u 8 = (.agg (bv T).toArray) := f8
          try simp only [f8, str]
          obtain ⟨g, f10, hg, hbg⟩ := f10
          try simp only [f10]
          replace hbg := Lib.hid hbg
          go_wp2_with (refine store_row rfl _ _ _ rfl g _ rfl rfl _ _ hbg.out hinfT.out (by rw [List.size_toArray, List.size_toArray, bv_length, bv_length, hXl.out]; rfl) (by simpa using bv_cell) ?_; intro w4 hb4 hk4)
          refine stl_l (x := .pointer (some ⟨g, 0, none⟩)) ⟨g, rfl, hg, hb4⟩ (by intro p hp hpi; simp only [List.mem_cons, List.not_mem_nil, or_false] at hp; subst hp; exact f10.symm) (hk4.mono (fun x _ hx => by subst hx; exact hg)) ?_
          simp [mkAct, upd, f10, f8]
      · intro u wx hI hR hL
        obtain ⟨r0, r1, r2, r3, r4, r5, r6, r7, r8, r9, r11, -⟩ := hR
        replace r0 : u 0 = (rkeys seed N) := r0
        replace r1 : u 1 = (.int .i64 nodes) := r1
        replace r2 : u 2 = (.int .i64 client) := r2
        replace r3 : u 3 = (.int .i64 (nodes + client)) := r3
        replace r4 : u 4 = (.agg (req0 client num data).cells.toArray) := r4
        replace r5 : u 5 = (str B) := r5
        replace r6 : u 6 = (.tuple #[.agg (bv T).toArray, .int .i64 (E : Int)]) := r6
        replace r7 : u 7 = (.tuple #[.agg (bv T).toArray, .int .i64 (E : Int)]) := r7
        replace r8 : u 8 = (.agg (bv T).toArray) := r8
        replace r9 : u 9 = (.int .i64 (E : Int)) := r9
        simp only [mkAct, List.foldl_cons, List.foldl_nil, List.setIfInBounds_toArray, List.set_cons_succ, List.set_cons_zero]
        try simp only [str, r0, r1, r2, r3, r4, r5, r6, r7, r8, r9]
        obtain ⟨g, r11, hg, hbg⟩ := r11
        have r10 : u 10 = .pointer (some ⟨g, 0, none⟩) := (hL (11, 10) (by simp)).symm.trans r11
        simp only [r10]
        have hd3 := Lib.hid (hI.at hd2.out)
        have hb3 := Lib.hid (hI.at hb2.out)
        have hw3 := Lib.hid (hw2.out.trans hI)
        have hz3 := hI.size
        have hz22 := hb2l
        have hd2l' := hd2l
        have zab : w0.heap.size < w1.heap.size := hdl
        replace hbg := Lib.hid hbg
        clear hI hd2 hb2 hw2 hL r10 r11
        by_cases hE : E = 0
        · have hzE : ((E : Int) != 0) = false := by simp [hE]
          have hR2 := hR.out
          rw [if_pos hE] at hR2
          have hT3 : (req0 client num data).cells.take 3 ++ (bv T ++ (req0 client num data).cells.drop (3 + (bv T).length)) = (reqT client num data T).cells := by
            rw [reqT_set, List.drop_of_length_le (by rw [Req.cells_length rfl, bv_length, hXl.out]; exact Nat.le_refl _), List.append_nil]
          have hTf : 3 + (bv T).length ≤ (req0 client num data).cells.length := by rw [Req.cells_length rfl, bv_length, hXl.out]; exact Nat.le_refl _
          have hinfL := Lib.hid (tag_infoL hXl.out)
          replace hR2 := Lib.hid hR2
          replace hT3 := Lib.hid hT3
          replace hTf := Lib.hid hTf
          go_upto_region 10 with (first | (refine load_row rfl _ _ rfl g rfl _ _ _ _ hbg.out Try.underlying42 rfl hinfT.out ?_) | (refine store_mid rfl _ _ _ rfl w1.heap.size 3 (bv T) rfl rfl _ _ hb3.out hinfL.out hTf.out bv_cell ?_; intro w8 hb8 hk8; rw [hT3.out] at hb8; replace hb8 := Lib.hid hb8; replace hk8 := Lib.hid hk8))
          have hd8 := Lib.hid ((hk8.out.block _ (by omega) (by omega)).trans hd3.out)
          have hw8 : Same w w8 := hw3.out.keep hk8.out (fun x hx hv => by omega)
          clear hk8 hbg hd3 hb3
          replace hw8 := Lib.hid hw8
          go_wp2_with (first | (refine load_row rfl _ _ rfl w1.heap.size rfl _ _ _ _ hb8.out Try.underlying44 rfl hinfF.out ?_) | (refine store_row rfl _ _ _ rfl w0.heap.size _ rfl rfl _ _ hd8.out hinfF.out (req_sizes (r := zeroReq) rfl hXl.out) (req_one _) ?_; intro w9 hb9 hk9; replace hb9 := Lib.hid hb9; replace hk9 := Lib.hid hk9))
          refine bodyPost_ret (v := .tuple #[.agg (reqT client num data T).cells.toArray, .int .i64 0]) (results_row2 (p := 10) (q := 11) (ty := 44) rfl _ _ w0.heap.size _ _ _ _ _ rfl rfl hb9.out Try.underlying44 rfl hinfF.out) rfl ?_
          exact ⟨by rw [hR2.out]; rfl, hw8.out.keep hk9.out (fun x hx hv => by omega)⟩
        · have hzE : ((E : Int) != 0) = true := by simp; omega
          have hR2 := hR.out
          rw [if_neg hE] at hR2
          replace hR2 := Lib.hid hR2
          clear hbg
          go_wp2_with (first | (refine build_const (ty := 44) (.agg zeroReq.cells.toArray) rfl rfl (by kernel_rfl) ?_) | (refine store_row rfl _ _ _ rfl w0.heap.size _ rfl rfl _ _ hd3.out hinfZ.out rfl (req_one _) ?_; intro w8 hb8 hk8; replace hb8 := Lib.hid hb8; replace hk8 := Lib.hid hk8))
          refine bodyPost_ret (v := .tuple #[.agg zeroReq.cells.toArray, .int .i64 (E : Int)]) (results_row2 (p := 10) (q := 11) (ty := 44) rfl _ _ w0.heap.size _ _ _ _ _ rfl rfl hb8.out Try.underlying44 rfl hinfZ.out) rfl ?_
          exact ⟨by rw [hR2.out], hw3.out.keep hk8.out (fun x hx hv => by omega)⟩
end Go.Proofs.Ythgpmgodpedjdaa
