/-
  The walk of the law RequestChecks: whether any request may be, its body, and its bucket of so many, is as the document says.
-/
-- @law rep ask, rep req, int
import Derived.Test.YthgpmgodpedjdaaReq6
import Derived.Test.YthgpmgodpedjdaaReqO
import Derived.Deep.DeepCutAuto
namespace Go.Proofs.Ythgpmgodpedjdaa
open Go Go.RowKit
set_option linter.unusedSimpArgs false
set_option linter.unusedVariables false

theorem reqBucket_in (client num buckets : Int) : 0 ≤ reqBucket client num buckets ∧ (1 ≤ buckets → reqBucket client num buckets < buckets) := by
  unfold reqBucket
  split
  · exact ⟨by omega, by omega⟩
  · unfold shareOf
    split
    · exact ⟨by omega, by omega⟩
    · exact ⟨Int.emod_nonneg _ (by omega), fun _ => Int.emod_lt_of_pos _ (by omega)⟩
set_option maxRecDepth 100000 in
set_option maxHeartbeats 6400000 in
theorem walk_RequestChecks (w : World) (a : AskV) (ha : a.wf) (r : Req) (hr : r.wf) (b : Int) (hb : (Lit.int .i64 b).wf = true) :
    Calls Try.prog 7 #[.agg a.cells.toArray, .agg r.cells.toArray, .int .i64 b] w fun e w' => e = .returned (.bool true) ∧ Same w w' := by
  have hl := Lib.hid lives6
  have hinfA := Lib.hid (ask_info a)
  have hinf := Lib.hid (req_info hr.1)
  obtain ⟨wt, wcl, wnum, wd⟩ := hr
  by_cases hbig : 2000 < r.data.size
  · have h' : 2000 < (r.data.size : Int) := by omega
    obtain ⟨d, hd⟩ : ∃ d, d = r.data := ⟨_, rfl⟩
    rw [← hd] at h'
    clear hbig
    replace hd := Lib.hid hd
    go_enter Try.func7, Try.ntmps7
    go_upto_region 1 with (first | (refine box_row rfl _ _ rfl a.cells.toArray rfl hinfA.out ?_; intro w0 hbx hs0; replace hbx := Lib.hid hbx; replace hs0 := Lib.hid hs0) | (refine box_row rfl _ _ rfl r.cells.toArray rfl hinf.out ?_; intro w1 hbr hs1; have c2 := req_data hbr; rw [← hd.out] at c2; clear hbr; replace hs1 := Lib.hid hs1))
    go_wp2_with fail
    refine (hl.out _).mono ?_
    rintro e w2 ⟨rfl, hs2⟩
    go_wp2
    go_ret
    exact ⟨rfl, (hs0.out.trans hs1.out).trans hs2⟩
  · have hk := Lib.hid keys6_any
    obtain ⟨n, hn⟩ : ∃ n, n = a.nodes := ⟨_, rfl⟩
    obtain ⟨k, hkk⟩ : ∃ k, k = a.clients := ⟨_, rfl⟩
    obtain ⟨c, hc⟩ : ∃ c, c = r.client := ⟨_, rfl⟩
    obtain ⟨m, hm⟩ : ∃ m, m = r.num := ⟨_, rfl⟩
    obtain ⟨d, hd⟩ : ∃ d, d = r.data := ⟨_, rfl⟩
    have b1 := (i64_bounds wcl).2
    have b2 := (i64_bounds wnum).2
    have hbd := fun w => rqbody_any r w wt b1 b2 (by omega)
    have hrb := fun w => rqrbody_any r w wt b1 b2 (by omega)
    unfold RetText0 at hbd hrb
    obtain ⟨B, hB⟩ : ∃ B, B = reqBody r := ⟨_, rfl⟩
    rw [← hB] at hbd hrb
    have hg := fun w p h => rqgood_any w p seedR 72 n k r wt h (by omega) (by omega) (by decide)
    have hrg := fun w => rqrgood_any w seedR 72 n k r wt (by omega) (by omega) (by decide)
    have hgz := fun w => rqgood_none w n k r wt
    obtain ⟨G, hG⟩ : ∃ G, G = r.good seedR.data.toList 72 n k := ⟨_, rfl⟩
    rw [← hG] at hg hrg
    rw [← hc] at b1
    rw [← hm] at b2
    have hbu := fun w => rqbucket_any w c m b b1 b2
    have hru := fun w => rqrbucket_any w c m b b1 b2
    obtain ⟨q0, q1⟩ := reqBucket_in c m b
    obtain ⟨N, hN⟩ : ∃ N, N = reqBucket c m b := ⟨_, rfl⟩
    rw [← hN] at hbu hru q0 q1
    have hinfK := Lib.hid (keys_info #[.string seedR, .int .i64 (72 : Nat)] rfl)
    have h' : (d.size : Int) ≤ 2000 := by rw [hd]; omega
    unfold RetKeys at hk
    clear hB hG hN wt wcl wnum wd hbig b1 b2 ha hb
    replace hn := Lib.hid hn
    replace hkk := Lib.hid hkk
    replace hc := Lib.hid hc
    replace hm := Lib.hid hm
    replace hd := Lib.hid hd
    replace hbd := Lib.hid hbd
    replace hrb := Lib.hid hrb
    replace hg := Lib.hid hg
    replace hrg := Lib.hid hrg
    replace hgz := Lib.hid hgz
    replace hbu := Lib.hid hbu
    replace hru := Lib.hid hru
    go_enter Try.func7, Try.ntmps7
    go_upto_region 1 with (first | (refine box_row rfl _ _ rfl a.cells.toArray rfl hinfA.out ?_; intro w0 hbx hs0; have hbxl := blk_lt hbx; obtain ⟨c0, c1, -, -, -⟩ := ask_cells hbx; rw [← hn.out] at c0; rw [← hkk.out] at c1; clear hbx; replace c0 := Lib.hid c0; replace c1 := Lib.hid c1; replace hs0 := Lib.hid hs0) | (refine box_row rfl _ _ rfl r.cells.toArray rfl hinf.out ?_; intro w1 hbr hs1; have e2 := req_data hbr; rw [← hd.out] at e2; replace hbr := Lib.hid hbr; replace hs1 := Lib.hid hs1))
    have s0 := Lib.hid (hs0.out.trans hs1.out)
    have sx := hs1
    have sr := Lib.hid (Same.refl (w := w1))
    clear hs0 hs1
    go_wp2_with fail
    refine (hk.out _).mono ?_
    rintro e w2 ⟨p, rfl, hka, hs⟩
    replace s0 := Lib.hid (s0.out.trans hs)
    replace sx := Lib.hid (sx.out.trans hs)
    replace sr := Lib.hid (sr.out.trans hs)
    clear hs
    clear e2
    replace hka := Lib.hid hka
    have sk := Lib.hid (Same.refl (w := w2))
    go_upto_region 4 with (first | (refine alloc_new rfl 38 rfl #[.string ByteArray.empty, .int .i64 0] (by kernel_rfl) ?_; intro wN_ hN_ sN_; have lN_ := blk_lt hN_; replace hN_ := Lib.hid hN_; replace sN_ := Lib.hid sN_) | (refine store_row rfl _ _ _ rfl w2.heap.size _ rfl rfl _ _ hN_.out hinfK.out rfl (by simp [Value.oneCell']) ?_; intro w3 hbk kN_))
    have mN_ : Same w2 w3 := sN_.out.keep kN_ (fun x hx hv => by omega)
    clear kN_ sN_ hN_ lN_
    replace s0 := Lib.hid (s0.out.trans mN_)
    replace sx := Lib.hid (sx.out.trans mN_)
    replace sr := Lib.hid (sr.out.trans mN_)
    replace sk := Lib.hid (sk.out.trans mN_)
    clear mN_
    replace hbk := Lib.hid hbk
    have shbk := Lib.hid (Same.refl (w := w3))
    go_simp
    have e0 := req_client (sr.out.at hbr.out)
    have e1 := req_num (sr.out.at hbr.out)
    rw [← hc.out] at e0
    rw [← hm.out] at e1
    go_wp2_with fail
    refine (hbu.out _).mono ?_
    rintro e w4 ⟨rfl, hs⟩
    replace s0 := Lib.hid (s0.out.trans hs)
    replace sx := Lib.hid (sx.out.trans hs)
    replace sr := Lib.hid (sr.out.trans hs)
    replace sk := Lib.hid (sk.out.trans hs)
    replace shbk := Lib.hid (shbk.out.trans hs)
    clear hs
    clear e0 e1
    have c0 := Lib.hid (sx.out.cell c0.out)
    have c1 := Lib.hid (sx.out.cell c1.out)
    have e0 := req_client (sr.out.at hbr.out)
    have e1 := req_num (sr.out.at hbr.out)
    rw [← hc.out] at e0
    rw [← hm.out] at e1
    replace e0 := Lib.hid e0
    replace e1 := Lib.hid e1
    have hka4 := Lib.hid (hka.out.same sk.out)
    clear hka sk
    go_upto_region 5 with fail
    by_cases hb1 : b < 1
    · -- case A
      clear q1
      try clear q1
      refine wp_region_tails (by kernel_rfl) [(25, 0), (26, 1), (27, 2), (28, 3), (29, 4), (30, 5), (31, 6), (32, 7), (33, 8), (34, 9), (35, 10), (36, 11), (37, 12), (38, 13), (39, 14), (40, 15), (41, 16), (42, 17), (43, 18), (44, 19), (45, 20), (46, 21), (47, 22), (48, 23), (49, 24), (50, 25), (51, 26), (52, 27), (53, 28), (54, 29), (55, 30), (56, 31), (57, 32), (58, 33), (59, 34), (60, 35), (61, 36), (62, 37), (63, 38), (64, 39), (65, 40), (66, 41), (67, 42), (68, 43), (69, 44), (70, 45), (71, 46), (72, 47), (73, 48), (74, 49), (75, 50), (76, 51), (77, 52), (78, 53), (79, 54), (80, 55), (81, 56)] Same (Same _) [isV (.agg r.cells.toArray), isV (str B), isV (.agg r.cells.toArray), isV (str B), isV (.bool true), isV (.bool true), isV (.pointer (some p)), isV (.pointer (some ⟨w.heap.size, 0, none⟩)), isV (.int .i64 n), isV (.pointer (some ⟨w.heap.size, 1, none⟩)), isV (.int .i64 k), isV (.agg r.cells.toArray), isV (.int .i64 (G : Int)), isV (rkeys seedR (72 : Nat)), isV (.pointer (some ⟨w.heap.size, 0, none⟩)), isV (.int .i64 n), isV (.pointer (some ⟨w.heap.size, 1, none⟩)), isV (.int .i64 k), isV (.agg r.cells.toArray), isV (.int .i64 (G : Int)), isV (.bool true), isV (.bool true), isV (.bool true), isV (.pointer (some ⟨w.heap.size, 0, none⟩)), isV (.int .i64 n), isV (.pointer (some ⟨w.heap.size, 1, none⟩)), isV (.int .i64 k), isV (.agg r.cells.toArray), isV (.int .i64 1), isV (.bool true), isV (.bool true), isV (.bool true), isV (.int .i64 N), isV (.pointer (some ⟨w0.heap.size, 0, none⟩)), isV (.int .i64 c), isV (.pointer (some ⟨w0.heap.size, 1, none⟩)), isV (.int .i64 m), isV (.int .i64 b), isV (.int .i64 N), isV (.bool true), isV (.bool true), isV (.bool true), isV (.int .i64 N), isV (.bool true), isV (.bool true), isV (.bool true), isV (.int .i64 b), isV (.bool true), isV (.bool true), isV undef, isV undef, isV undef, isV (.bool true), isV (.bool true), isV (.bool true), isV (.bool true), isV (.bool true)] Same.refl.drew (fun _ _ h k => h.trans k) (by simp [isV_stable, isB_stable, isAny_stable]) (by decide) (l := [_, _, _, _, _, _, _, _, _, _, _, _, _, _, _, _, _, _, _, _, _, _, _, _, _, _, _, _, _, _, _, _, _, _, _, _, _, _, _, _, _, _, _, _, _, _, _, _, _, _, _, _, _, _, _, _, _]) rfl (by decide) (by kernel_rfl) ?_ ?_
      · refine ⟨?_, ?_, ?_, ?_, ?_, ?_, ?_, ?_, ?_, ?_, ?_, ?_, ?_, ?_, ?_, ?_, ?_, ?_, ?_, ?_, ?_, ?_, ?_, ?_, ?_, ?_, ?_, ?_, ?_, ?_, ?_, ?_, ?_, ?_, ?_, ?_, ?_, ?_, ?_, ?_, ?_, ?_, ?_, ?_, ?_, ?_, ?_, ?_, ?_, ?_, ?_, ?_, ?_, ?_, ?_, ?_, ?_, trivial⟩
        all_goals (intro u wx hI hp; simp only [mkAct, List.foldl_cons, List.foldl_nil, List.setIfInBounds_toArray, List.set_cons_succ, List.set_cons_zero])
        · -- operation 0
          go_wp2_with (refine load_row rfl _ _ rfl w0.heap.size rfl _ _ _ _ (hI.at (sr.out.at hbr.out)) Try.underlying44 rfl hinf.out ?_)
          refine stq_v rfl Same.refl ?_
          first | (simp only [mkAct, List.foldl_cons, List.foldl_nil, List.setIfInBounds_toArray, List.set_cons_succ, List.set_cons_zero, upd, reduceIte, Nat.reduceEqDiff, Nat.reduceAdd, str]; done) | (simp [mkAct, upd, str, *]; done)
        · -- operation 1
          obtain ⟨f0, -⟩ := hp
          replace f0 : u 0 = (.agg r.cells.toArray) := f0
          try simp only [f0, str]
          go_wp2_with fail
          refine (hbd.out _).mono ?_
          rintro e w1 ⟨rfl, hs'⟩
          go_wp2
          refine stq_v rfl hs' ?_
          first | (simp only [mkAct, List.foldl_cons, List.foldl_nil, List.setIfInBounds_toArray, List.set_cons_succ, List.set_cons_zero, upd, reduceIte, Nat.reduceEqDiff, Nat.reduceAdd, f0, str]; done) | (simp [mkAct, upd, f0, str, *]; done)
        · -- operation 2
          go_wp2_with (refine load_row rfl _ _ rfl w0.heap.size rfl _ _ _ _ (hI.at (sr.out.at hbr.out)) Try.underlying44 rfl hinf.out ?_)
          refine stq_v rfl Same.refl ?_
          first | (simp only [mkAct, List.foldl_cons, List.foldl_nil, List.setIfInBounds_toArray, List.set_cons_succ, List.set_cons_zero, upd, reduceIte, Nat.reduceEqDiff, Nat.reduceAdd, str]; done) | (simp [mkAct, upd, str, *]; done)
        · -- operation 3
          obtain ⟨f2, -, -⟩ := hp
          replace f2 : u 2 = (.agg r.cells.toArray) := f2
          try simp only [f2, str]
          go_wp2_with fail
          refine (hrb.out _).mono ?_
          rintro e w1 ⟨rfl, hs'⟩
          go_wp2
          refine stq_v rfl hs' ?_
          first | (simp only [mkAct, List.foldl_cons, List.foldl_nil, List.setIfInBounds_toArray, List.set_cons_succ, List.set_cons_zero, upd, reduceIte, Nat.reduceEqDiff, Nat.reduceAdd, f2, str]; done) | (simp [mkAct, upd, f2, str, *]; done)
        · -- operation 4
          obtain ⟨f1, f3, -⟩ := hp
          replace f1 : u 1 = (str B) := f1
          replace f3 : u 3 = (str B) := f3
          try simp only [f1, f3, str]
          go_wp2
          refine stq_v rfl Same.refl ?_
          first | (simp only [mkAct, List.foldl_cons, List.foldl_nil, List.setIfInBounds_toArray, List.set_cons_succ, List.set_cons_zero, upd, reduceIte, Nat.reduceEqDiff, Nat.reduceAdd, f1, f3, str]; done) | (simp [mkAct, upd, f1, f3, str, *]; done)
        · -- operation 5
          obtain ⟨f4, -, -⟩ := hp
          replace f4 : u 4 = (.bool true) := f4
          try simp only [f4, str]
          go_wp2
          refine stq_v rfl Same.refl ?_
          first | (simp only [mkAct, List.foldl_cons, List.foldl_nil, List.setIfInBounds_toArray, List.set_cons_succ, List.set_cons_zero, upd, reduceIte, Nat.reduceEqDiff, Nat.reduceAdd, f4, str]; done) | (simp [mkAct, upd, f4, str, *]; done)
        · -- operation 6
          obtain ⟨f5, -⟩ := hp
          replace f5 : u 5 = (.bool true) := f5
          try simp only [f5, str]
          go_wp2
          refine stq_v rfl Same.refl ?_
          first | (simp only [mkAct, List.foldl_cons, List.foldl_nil, List.setIfInBounds_toArray, List.set_cons_succ, List.set_cons_zero, upd, reduceIte, Nat.reduceEqDiff, Nat.reduceAdd, f5, str]; done) | (simp [mkAct, upd, f5, str, *]; done)
        · -- operation 7
          obtain ⟨f5, -⟩ := hp
          replace f5 : u 5 = (.bool true) := f5
          try simp only [f5, str]
          go_wp2
          refine stq_v rfl Same.refl ?_
          first | (simp only [mkAct, List.foldl_cons, List.foldl_nil, List.setIfInBounds_toArray, List.set_cons_succ, List.set_cons_zero, upd, reduceIte, Nat.reduceEqDiff, Nat.reduceAdd, f5, str]; done) | (simp [mkAct, upd, f5, str, *]; done)
        · -- operation 8
          obtain ⟨f7, f5, -⟩ := hp
          replace f7 : u 7 = (.pointer (some ⟨w.heap.size, 0, none⟩)) := f7
          replace f5 : u 5 = (.bool true) := f5
          try simp only [f7, f5, str]
          have cx := hI.cell (c0.out)
          go_wp2
          refine stq_v rfl Same.refl ?_
          first | (simp only [mkAct, List.foldl_cons, List.foldl_nil, List.setIfInBounds_toArray, List.set_cons_succ, List.set_cons_zero, upd, reduceIte, Nat.reduceEqDiff, Nat.reduceAdd, f7, f5, str]; done) | (simp [mkAct, upd, f7, f5, str, *]; done)
        · -- operation 9
          obtain ⟨f5, -⟩ := hp
          replace f5 : u 5 = (.bool true) := f5
          try simp only [f5, str]
          go_wp2
          refine stq_v rfl Same.refl ?_
          first | (simp only [mkAct, List.foldl_cons, List.foldl_nil, List.setIfInBounds_toArray, List.set_cons_succ, List.set_cons_zero, upd, reduceIte, Nat.reduceEqDiff, Nat.reduceAdd, f5, str]; done) | (simp [mkAct, upd, f5, str, *]; done)
        · -- operation 10
          obtain ⟨f9, f5, -⟩ := hp
          replace f9 : u 9 = (.pointer (some ⟨w.heap.size, 1, none⟩)) := f9
          replace f5 : u 5 = (.bool true) := f5
          try simp only [f9, f5, str]
          have cx := hI.cell (c1.out)
          go_wp2
          refine stq_v rfl Same.refl ?_
          first | (simp only [mkAct, List.foldl_cons, List.foldl_nil, List.setIfInBounds_toArray, List.set_cons_succ, List.set_cons_zero, upd, reduceIte, Nat.reduceEqDiff, Nat.reduceAdd, f9, f5, str]; done) | (simp [mkAct, upd, f9, f5, str, *]; done)
        · -- operation 11
          obtain ⟨f5, -⟩ := hp
          replace f5 : u 5 = (.bool true) := f5
          try simp only [f5, str]
          go_wp2_with (refine load_row rfl _ _ rfl w0.heap.size rfl _ _ _ _ (hI.at (sr.out.at hbr.out)) Try.underlying44 rfl hinf.out ?_)
          refine stq_v rfl Same.refl ?_
          first | (simp only [mkAct, List.foldl_cons, List.foldl_nil, List.setIfInBounds_toArray, List.set_cons_succ, List.set_cons_zero, upd, reduceIte, Nat.reduceEqDiff, Nat.reduceAdd, f5, str]; done) | (simp [mkAct, upd, f5, str, *]; done)
        · -- operation 12
          obtain ⟨f6, f8, f10, f11, -, f5, -⟩ := hp
          replace f6 : u 6 = (.pointer (some p)) := f6
          replace f8 : u 8 = (.int .i64 n) := f8
          replace f10 : u 10 = (.int .i64 k) := f10
          replace f11 : u 11 = (.agg r.cells.toArray) := f11
          replace f5 : u 5 = (.bool true) := f5
          try simp only [f6, f8, f10, f11, f5, str]
          go_wp2_with fail
          refine (hg.out _ _ (hka4.out.same hI)).mono ?_
          rintro e w1 ⟨rfl, hs'⟩
          go_wp2
          refine stq_v rfl hs' ?_
          first | (simp only [mkAct, List.foldl_cons, List.foldl_nil, List.setIfInBounds_toArray, List.set_cons_succ, List.set_cons_zero, upd, reduceIte, Nat.reduceEqDiff, Nat.reduceAdd, f6, f8, f10, f11, f5, str]; done) | (simp [mkAct, upd, f6, f8, f10, f11, f5, str, *]; done)
        · -- operation 13
          obtain ⟨f5, -⟩ := hp
          replace f5 : u 5 = (.bool true) := f5
          try simp only [f5, str]
          go_wp2_with (refine load_row rfl _ _ rfl w2.heap.size rfl _ _ _ _ (hI.at (shbk.out.at hbk.out)) Try.underlying38 rfl hinfK.out ?_)
          refine stq_v rfl Same.refl ?_
          first | (simp only [mkAct, List.foldl_cons, List.foldl_nil, List.setIfInBounds_toArray, List.set_cons_succ, List.set_cons_zero, upd, reduceIte, Nat.reduceEqDiff, Nat.reduceAdd, f5, str]; done) | (simp [mkAct, upd, f5, str, *]; done)
        · -- operation 14
          obtain ⟨f5, -⟩ := hp
          replace f5 : u 5 = (.bool true) := f5
          try simp only [f5, str]
          go_wp2
          refine stq_v rfl Same.refl ?_
          first | (simp only [mkAct, List.foldl_cons, List.foldl_nil, List.setIfInBounds_toArray, List.set_cons_succ, List.set_cons_zero, upd, reduceIte, Nat.reduceEqDiff, Nat.reduceAdd, f5, str]; done) | (simp [mkAct, upd, f5, str, *]; done)
        · -- operation 15
          obtain ⟨f14, f5, -⟩ := hp
          replace f14 : u 14 = (.pointer (some ⟨w.heap.size, 0, none⟩)) := f14
          replace f5 : u 5 = (.bool true) := f5
          try simp only [f14, f5, str]
          have cx := hI.cell (c0.out)
          go_wp2
          refine stq_v rfl Same.refl ?_
          first | (simp only [mkAct, List.foldl_cons, List.foldl_nil, List.setIfInBounds_toArray, List.set_cons_succ, List.set_cons_zero, upd, reduceIte, Nat.reduceEqDiff, Nat.reduceAdd, f14, f5, str]; done) | (simp [mkAct, upd, f14, f5, str, *]; done)
        · -- operation 16
          obtain ⟨f5, -⟩ := hp
          replace f5 : u 5 = (.bool true) := f5
          try simp only [f5, str]
          go_wp2
          refine stq_v rfl Same.refl ?_
          first | (simp only [mkAct, List.foldl_cons, List.foldl_nil, List.setIfInBounds_toArray, List.set_cons_succ, List.set_cons_zero, upd, reduceIte, Nat.reduceEqDiff, Nat.reduceAdd, f5, str]; done) | (simp [mkAct, upd, f5, str, *]; done)
        · -- operation 17
          obtain ⟨f16, f5, -⟩ := hp
          replace f16 : u 16 = (.pointer (some ⟨w.heap.size, 1, none⟩)) := f16
          replace f5 : u 5 = (.bool true) := f5
          try simp only [f16, f5, str]
          have cx := hI.cell (c1.out)
          go_wp2
          refine stq_v rfl Same.refl ?_
          first | (simp only [mkAct, List.foldl_cons, List.foldl_nil, List.setIfInBounds_toArray, List.set_cons_succ, List.set_cons_zero, upd, reduceIte, Nat.reduceEqDiff, Nat.reduceAdd, f16, f5, str]; done) | (simp [mkAct, upd, f16, f5, str, *]; done)
        · -- operation 18
          obtain ⟨f5, -⟩ := hp
          replace f5 : u 5 = (.bool true) := f5
          try simp only [f5, str]
          go_wp2_with (refine load_row rfl _ _ rfl w0.heap.size rfl _ _ _ _ (hI.at (sr.out.at hbr.out)) Try.underlying44 rfl hinf.out ?_)
          refine stq_v rfl Same.refl ?_
          first | (simp only [mkAct, List.foldl_cons, List.foldl_nil, List.setIfInBounds_toArray, List.set_cons_succ, List.set_cons_zero, upd, reduceIte, Nat.reduceEqDiff, Nat.reduceAdd, f5, str]; done) | (simp [mkAct, upd, f5, str, *]; done)
        · -- operation 19
          obtain ⟨f13, f15, f17, f18, -, f5, -⟩ := hp
          replace f13 : u 13 = (rkeys seedR (72 : Nat)) := f13
          replace f15 : u 15 = (.int .i64 n) := f15
          replace f17 : u 17 = (.int .i64 k) := f17
          replace f18 : u 18 = (.agg r.cells.toArray) := f18
          replace f5 : u 5 = (.bool true) := f5
          try simp only [f13, f15, f17, f18, f5, str]
          go_wp2_with fail
          refine (hrg.out _).mono ?_
          rintro e w1 ⟨rfl, hs'⟩
          go_wp2
          refine stq_v rfl hs' ?_
          first | (simp only [mkAct, List.foldl_cons, List.foldl_nil, List.setIfInBounds_toArray, List.set_cons_succ, List.set_cons_zero, upd, reduceIte, Nat.reduceEqDiff, Nat.reduceAdd, f13, f15, f17, f18, f5, str]; done) | (simp [mkAct, upd, f13, f15, f17, f18, f5, str, *]; done)
        · -- operation 20
          obtain ⟨f12, f19, f5, -⟩ := hp
          replace f12 : u 12 = (.int .i64 (G : Int)) := f12
          replace f19 : u 19 = (.int .i64 (G : Int)) := f19
          replace f5 : u 5 = (.bool true) := f5
          try simp only [f12, f19, f5, str]
          go_wp2
          refine stq_v rfl Same.refl ?_
          first | (simp only [mkAct, List.foldl_cons, List.foldl_nil, List.setIfInBounds_toArray, List.set_cons_succ, List.set_cons_zero, upd, reduceIte, Nat.reduceEqDiff, Nat.reduceAdd, f12, f19, f5, str]; done) | (simp [mkAct, upd, f12, f19, f5, str, *]; done)
        · -- operation 21
          obtain ⟨f5, f20, -⟩ := hp
          replace f5 : u 5 = (.bool true) := f5
          replace f20 : u 20 = (.bool true) := f20
          try simp only [f5, f20, str]
          go_wp2
          refine stq_v rfl Same.refl ?_
          first | (simp only [mkAct, List.foldl_cons, List.foldl_nil, List.setIfInBounds_toArray, List.set_cons_succ, List.set_cons_zero, upd, reduceIte, Nat.reduceEqDiff, Nat.reduceAdd, f5, f20, str]; done) | (simp [mkAct, upd, f5, f20, str, *]; done)
        · -- operation 22
          obtain ⟨f21, -, -⟩ := hp
          replace f21 : u 21 = (.bool true) := f21
          try simp only [f21, str]
          go_wp2
          refine stq_v rfl Same.refl ?_
          first | (simp only [mkAct, List.foldl_cons, List.foldl_nil, List.setIfInBounds_toArray, List.set_cons_succ, List.set_cons_zero, upd, reduceIte, Nat.reduceEqDiff, Nat.reduceAdd, f21, str]; done) | (simp [mkAct, upd, f21, str, *]; done)
        · -- operation 23
          obtain ⟨f22, -⟩ := hp
          replace f22 : u 22 = (.bool true) := f22
          try simp only [f22, str]
          go_wp2
          refine stq_v rfl Same.refl ?_
          first | (simp only [mkAct, List.foldl_cons, List.foldl_nil, List.setIfInBounds_toArray, List.set_cons_succ, List.set_cons_zero, upd, reduceIte, Nat.reduceEqDiff, Nat.reduceAdd, f22, str]; done) | (simp [mkAct, upd, f22, str, *]; done)
        · -- operation 24
          obtain ⟨f23, f22, -⟩ := hp
          replace f23 : u 23 = (.pointer (some ⟨w.heap.size, 0, none⟩)) := f23
          replace f22 : u 22 = (.bool true) := f22
          try simp only [f23, f22, str]
          have cx := hI.cell (c0.out)
          go_wp2
          refine stq_v rfl Same.refl ?_
          first | (simp only [mkAct, List.foldl_cons, List.foldl_nil, List.setIfInBounds_toArray, List.set_cons_succ, List.set_cons_zero, upd, reduceIte, Nat.reduceEqDiff, Nat.reduceAdd, f23, f22, str]; done) | (simp [mkAct, upd, f23, f22, str, *]; done)
        · -- operation 25
          obtain ⟨f22, -⟩ := hp
          replace f22 : u 22 = (.bool true) := f22
          try simp only [f22, str]
          go_wp2
          refine stq_v rfl Same.refl ?_
          first | (simp only [mkAct, List.foldl_cons, List.foldl_nil, List.setIfInBounds_toArray, List.set_cons_succ, List.set_cons_zero, upd, reduceIte, Nat.reduceEqDiff, Nat.reduceAdd, f22, str]; done) | (simp [mkAct, upd, f22, str, *]; done)
        · -- operation 26
          obtain ⟨f25, f22, -⟩ := hp
          replace f25 : u 25 = (.pointer (some ⟨w.heap.size, 1, none⟩)) := f25
          replace f22 : u 22 = (.bool true) := f22
          try simp only [f25, f22, str]
          have cx := hI.cell (c1.out)
          go_wp2
          refine stq_v rfl Same.refl ?_
          first | (simp only [mkAct, List.foldl_cons, List.foldl_nil, List.setIfInBounds_toArray, List.set_cons_succ, List.set_cons_zero, upd, reduceIte, Nat.reduceEqDiff, Nat.reduceAdd, f25, f22, str]; done) | (simp [mkAct, upd, f25, f22, str, *]; done)
        · -- operation 27
          obtain ⟨f22, -⟩ := hp
          replace f22 : u 22 = (.bool true) := f22
          try simp only [f22, str]
          go_wp2_with (refine load_row rfl _ _ rfl w0.heap.size rfl _ _ _ _ (hI.at (sr.out.at hbr.out)) Try.underlying44 rfl hinf.out ?_)
          refine stq_v rfl Same.refl ?_
          first | (simp only [mkAct, List.foldl_cons, List.foldl_nil, List.setIfInBounds_toArray, List.set_cons_succ, List.set_cons_zero, upd, reduceIte, Nat.reduceEqDiff, Nat.reduceAdd, f22, str]; done) | (simp [mkAct, upd, f22, str, *]; done)
        · -- operation 28
          obtain ⟨f24, f26, f27, -, f22, -⟩ := hp
          replace f24 : u 24 = (.int .i64 n) := f24
          replace f26 : u 26 = (.int .i64 k) := f26
          replace f27 : u 27 = (.agg r.cells.toArray) := f27
          replace f22 : u 22 = (.bool true) := f22
          try simp only [f24, f26, f27, f22, str]
          go_wp2_with fail
          refine (hgz.out _).mono ?_
          rintro e w1 ⟨rfl, hs'⟩
          go_wp2
          refine stq_v rfl hs' ?_
          first | (simp only [mkAct, List.foldl_cons, List.foldl_nil, List.setIfInBounds_toArray, List.set_cons_succ, List.set_cons_zero, upd, reduceIte, Nat.reduceEqDiff, Nat.reduceAdd, f24, f26, f27, f22, str]; done) | (simp [mkAct, upd, f24, f26, f27, f22, str, *]; done)
        · -- operation 29
          obtain ⟨f28, f22, -⟩ := hp
          replace f28 : u 28 = (.int .i64 1) := f28
          replace f22 : u 22 = (.bool true) := f22
          try simp only [f28, f22, str]
          go_wp2
          refine stq_v rfl Same.refl ?_
          first | (simp only [mkAct, List.foldl_cons, List.foldl_nil, List.setIfInBounds_toArray, List.set_cons_succ, List.set_cons_zero, upd, reduceIte, Nat.reduceEqDiff, Nat.reduceAdd, f28, f22, str]; done) | (simp [mkAct, upd, f28, f22, str, *]; done)
        · -- operation 30
          obtain ⟨f22, f29, -⟩ := hp
          replace f22 : u 22 = (.bool true) := f22
          replace f29 : u 29 = (.bool true) := f29
          try simp only [f22, f29, str]
          go_wp2
          refine stq_v rfl Same.refl ?_
          first | (simp only [mkAct, List.foldl_cons, List.foldl_nil, List.setIfInBounds_toArray, List.set_cons_succ, List.set_cons_zero, upd, reduceIte, Nat.reduceEqDiff, Nat.reduceAdd, f22, f29, str]; done) | (simp [mkAct, upd, f22, f29, str, *]; done)
        · -- operation 31
          obtain ⟨f30, -, -⟩ := hp
          replace f30 : u 30 = (.bool true) := f30
          try simp only [f30, str]
          go_wp2
          refine stq_v rfl Same.refl ?_
          first | (simp only [mkAct, List.foldl_cons, List.foldl_nil, List.setIfInBounds_toArray, List.set_cons_succ, List.set_cons_zero, upd, reduceIte, Nat.reduceEqDiff, Nat.reduceAdd, f30, str]; done) | (simp [mkAct, upd, f30, str, *]; done)
        · -- operation 32
          obtain ⟨f31, -⟩ := hp
          replace f31 : u 31 = (.bool true) := f31
          try simp only [f31, str]
          go_wp2
          refine stq_v rfl Same.refl ?_
          first | (simp only [mkAct, List.foldl_cons, List.foldl_nil, List.setIfInBounds_toArray, List.set_cons_succ, List.set_cons_zero, upd, reduceIte, Nat.reduceEqDiff, Nat.reduceAdd, f31, str]; done) | (simp [mkAct, upd, f31, str, *]; done)
        · -- operation 33
          obtain ⟨f31, -⟩ := hp
          replace f31 : u 31 = (.bool true) := f31
          try simp only [f31, str]
          go_wp2
          refine stq_v rfl Same.refl ?_
          first | (simp only [mkAct, List.foldl_cons, List.foldl_nil, List.setIfInBounds_toArray, List.set_cons_succ, List.set_cons_zero, upd, reduceIte, Nat.reduceEqDiff, Nat.reduceAdd, f31, str]; done) | (simp [mkAct, upd, f31, str, *]; done)
        · -- operation 34
          obtain ⟨f33, f31, -⟩ := hp
          replace f33 : u 33 = (.pointer (some ⟨w0.heap.size, 0, none⟩)) := f33
          replace f31 : u 31 = (.bool true) := f31
          try simp only [f33, f31, str]
          have cx := hI.cell (e0.out)
          go_wp2
          refine stq_v rfl Same.refl ?_
          first | (simp only [mkAct, List.foldl_cons, List.foldl_nil, List.setIfInBounds_toArray, List.set_cons_succ, List.set_cons_zero, upd, reduceIte, Nat.reduceEqDiff, Nat.reduceAdd, f33, f31, str]; done) | (simp [mkAct, upd, f33, f31, str, *]; done)
        · -- operation 35
          obtain ⟨f31, -⟩ := hp
          replace f31 : u 31 = (.bool true) := f31
          try simp only [f31, str]
          go_wp2
          refine stq_v rfl Same.refl ?_
          first | (simp only [mkAct, List.foldl_cons, List.foldl_nil, List.setIfInBounds_toArray, List.set_cons_succ, List.set_cons_zero, upd, reduceIte, Nat.reduceEqDiff, Nat.reduceAdd, f31, str]; done) | (simp [mkAct, upd, f31, str, *]; done)
        · -- operation 36
          obtain ⟨f35, f31, -⟩ := hp
          replace f35 : u 35 = (.pointer (some ⟨w0.heap.size, 1, none⟩)) := f35
          replace f31 : u 31 = (.bool true) := f31
          try simp only [f35, f31, str]
          have cx := hI.cell (e1.out)
          go_wp2
          refine stq_v rfl Same.refl ?_
          first | (simp only [mkAct, List.foldl_cons, List.foldl_nil, List.setIfInBounds_toArray, List.set_cons_succ, List.set_cons_zero, upd, reduceIte, Nat.reduceEqDiff, Nat.reduceAdd, f35, f31, str]; done) | (simp [mkAct, upd, f35, f31, str, *]; done)
        · -- operation 37
          obtain ⟨f31, -⟩ := hp
          replace f31 : u 31 = (.bool true) := f31
          try simp only [f31, str]
          go_wp2
          refine stq_v rfl Same.refl ?_
          first | (simp only [mkAct, List.foldl_cons, List.foldl_nil, List.setIfInBounds_toArray, List.set_cons_succ, List.set_cons_zero, upd, reduceIte, Nat.reduceEqDiff, Nat.reduceAdd, f31, str]; done) | (simp [mkAct, upd, f31, str, *]; done)
        · -- operation 38
          obtain ⟨f34, f36, f37, -, f31, -⟩ := hp
          replace f34 : u 34 = (.int .i64 c) := f34
          replace f36 : u 36 = (.int .i64 m) := f36
          replace f37 : u 37 = (.int .i64 b) := f37
          replace f31 : u 31 = (.bool true) := f31
          try simp only [f34, f36, f37, f31, str]
          go_wp2_with fail
          refine (hru.out _).mono ?_
          rintro e w1 ⟨rfl, hs'⟩
          go_wp2
          refine stq_v rfl hs' ?_
          first | (simp only [mkAct, List.foldl_cons, List.foldl_nil, List.setIfInBounds_toArray, List.set_cons_succ, List.set_cons_zero, upd, reduceIte, Nat.reduceEqDiff, Nat.reduceAdd, f34, f36, f37, f31, str]; done) | (simp [mkAct, upd, f34, f36, f37, f31, str, *]; done)
        · -- operation 39
          obtain ⟨f32, f38, f31, -⟩ := hp
          replace f32 : u 32 = (.int .i64 N) := f32
          replace f38 : u 38 = (.int .i64 N) := f38
          replace f31 : u 31 = (.bool true) := f31
          try simp only [f32, f38, f31, str]
          go_wp2
          refine stq_v rfl Same.refl ?_
          first | (simp only [mkAct, List.foldl_cons, List.foldl_nil, List.setIfInBounds_toArray, List.set_cons_succ, List.set_cons_zero, upd, reduceIte, Nat.reduceEqDiff, Nat.reduceAdd, f32, f38, f31, str]; done) | (simp [mkAct, upd, f32, f38, f31, str, *]; done)
        · -- operation 40
          obtain ⟨f31, f39, -⟩ := hp
          replace f31 : u 31 = (.bool true) := f31
          replace f39 : u 39 = (.bool true) := f39
          try simp only [f31, f39, str]
          go_wp2
          refine stq_v rfl Same.refl ?_
          first | (simp only [mkAct, List.foldl_cons, List.foldl_nil, List.setIfInBounds_toArray, List.set_cons_succ, List.set_cons_zero, upd, reduceIte, Nat.reduceEqDiff, Nat.reduceAdd, f31, f39, str]; done) | (simp [mkAct, upd, f31, f39, str, *]; done)
        · -- operation 41
          obtain ⟨f40, -, -⟩ := hp
          replace f40 : u 40 = (.bool true) := f40
          try simp only [f40, str]
          go_wp2
          refine stq_v rfl Same.refl ?_
          first | (simp only [mkAct, List.foldl_cons, List.foldl_nil, List.setIfInBounds_toArray, List.set_cons_succ, List.set_cons_zero, upd, reduceIte, Nat.reduceEqDiff, Nat.reduceAdd, f40, str]; done) | (simp [mkAct, upd, f40, str, *]; done)
        · -- operation 42
          obtain ⟨f41, -⟩ := hp
          replace f41 : u 41 = (.bool true) := f41
          try simp only [f41, str]
          go_wp2
          refine stq_v rfl Same.refl ?_
          first | (simp only [mkAct, List.foldl_cons, List.foldl_nil, List.setIfInBounds_toArray, List.set_cons_succ, List.set_cons_zero, upd, reduceIte, Nat.reduceEqDiff, Nat.reduceAdd, f41, str]; done) | (simp [mkAct, upd, f41, str, *]; done)
        · -- operation 43
          obtain ⟨f42, f41, -⟩ := hp
          replace f42 : u 42 = (.int .i64 N) := f42
          replace f41 : u 41 = (.bool true) := f41
          try simp only [f42, f41, str]
          go_wp2
          refine stq_v rfl Same.refl ?_
          first | (simp only [mkAct, List.foldl_cons, List.foldl_nil, List.setIfInBounds_toArray, List.set_cons_succ, List.set_cons_zero, upd, reduceIte, Nat.reduceEqDiff, Nat.reduceAdd, f42, f41, str]; done) | (simp [mkAct, upd, f42, f41, str, *]; done)
        · -- operation 44
          obtain ⟨f41, f43, -⟩ := hp
          replace f41 : u 41 = (.bool true) := f41
          replace f43 : u 43 = (.bool true) := f43
          try simp only [f41, f43, str]
          go_wp2
          refine stq_v rfl Same.refl ?_
          first | (simp only [mkAct, List.foldl_cons, List.foldl_nil, List.setIfInBounds_toArray, List.set_cons_succ, List.set_cons_zero, upd, reduceIte, Nat.reduceEqDiff, Nat.reduceAdd, f41, f43, str]; done) | (simp [mkAct, upd, f41, f43, str, *]; done)
        · -- operation 45
          obtain ⟨f44, -, -⟩ := hp
          replace f44 : u 44 = (.bool true) := f44
          try simp only [f44, str]
          go_wp2
          refine stq_v rfl Same.refl ?_
          first | (simp only [mkAct, List.foldl_cons, List.foldl_nil, List.setIfInBounds_toArray, List.set_cons_succ, List.set_cons_zero, upd, reduceIte, Nat.reduceEqDiff, Nat.reduceAdd, f44, str]; done) | (simp [mkAct, upd, f44, str, *]; done)
        · -- operation 46
          obtain ⟨f45, -⟩ := hp
          replace f45 : u 45 = (.bool true) := f45
          try simp only [f45, str]
          go_wp2
          refine stq_v rfl Same.refl ?_
          first | (simp only [mkAct, List.foldl_cons, List.foldl_nil, List.setIfInBounds_toArray, List.set_cons_succ, List.set_cons_zero, upd, reduceIte, Nat.reduceEqDiff, Nat.reduceAdd, f45, str]; done) | (simp [mkAct, upd, f45, str, *]; done)
        · -- operation 47
          obtain ⟨f46, f45, -⟩ := hp
          replace f46 : u 46 = (.int .i64 b) := f46
          replace f45 : u 45 = (.bool true) := f45
          try simp only [f46, f45, str]
          go_wp2
          refine stq_v rfl Same.refl ?_
          first | (simp only [mkAct, List.foldl_cons, List.foldl_nil, List.setIfInBounds_toArray, List.set_cons_succ, List.set_cons_zero, upd, reduceIte, Nat.reduceEqDiff, Nat.reduceAdd, f46, f45, str]; done) | (simp [mkAct, upd, f46, f45, str, *]; done)
        · -- operation 48
          obtain ⟨f47, -, f45, -⟩ := hp
          replace f47 : u 47 = (.bool true) := f47
          replace f45 : u 45 = (.bool true) := f45
          try simp only [f47, f45, str]
          go_wp2
          refine stq_v rfl Same.refl ?_
          first | (simp only [mkAct, List.foldl_cons, List.foldl_nil, List.setIfInBounds_toArray, List.set_cons_succ, List.set_cons_zero, upd, reduceIte, Nat.reduceEqDiff, Nat.reduceAdd, f47, f45, str]; done) | (simp [mkAct, upd, f47, f45, str, *]; done)
        · -- operation 49
          obtain ⟨f48, -⟩ := hp
          replace f48 : u 48 = (.bool true) := f48
          try simp only [f48, str]
          go_wp2
          refine stq_v rfl Same.refl ?_
          first | (simp only [mkAct, List.foldl_cons, List.foldl_nil, List.setIfInBounds_toArray, List.set_cons_succ, List.set_cons_zero, upd, reduceIte, Nat.reduceEqDiff, Nat.reduceAdd, f48, str]; done) | (simp [mkAct, upd, f48, str, *]; done)
        · -- operation 50
          obtain ⟨f48, -⟩ := hp
          replace f48 : u 48 = (.bool true) := f48
          try simp only [f48, str]
          go_wp2
          refine stq_v rfl Same.refl ?_
          first | (simp only [mkAct, List.foldl_cons, List.foldl_nil, List.setIfInBounds_toArray, List.set_cons_succ, List.set_cons_zero, upd, reduceIte, Nat.reduceEqDiff, Nat.reduceAdd, f48, str]; done) | (simp [mkAct, upd, f48, str, *]; done)
        · -- operation 51
          obtain ⟨f49, f50, f48, -⟩ := hp
          replace f49 : u 49 = undef := f49
          replace f50 : u 50 = undef := f50
          replace f48 : u 48 = (.bool true) := f48
          try simp only [f49, f50, f48, str]
          go_wp2
          refine stq_v rfl Same.refl ?_
          first | (simp only [mkAct, List.foldl_cons, List.foldl_nil, List.setIfInBounds_toArray, List.set_cons_succ, List.set_cons_zero, upd, reduceIte, Nat.reduceEqDiff, Nat.reduceAdd, f49, f50, f48, str]; done) | (simp [mkAct, upd, f49, f50, f48, str, *]; done)
        · -- operation 52
          obtain ⟨f48, f51, f45, -⟩ := hp
          replace f48 : u 48 = (.bool true) := f48
          replace f51 : u 51 = undef := f51
          replace f45 : u 45 = (.bool true) := f45
          try simp only [f48, f51, f45, str]
          go_wp2
          refine stq_v rfl Same.refl ?_
          first | (simp only [mkAct, List.foldl_cons, List.foldl_nil, List.setIfInBounds_toArray, List.set_cons_succ, List.set_cons_zero, upd, reduceIte, Nat.reduceEqDiff, Nat.reduceAdd, f48, f51, f45, str]; done) | (simp [mkAct, upd, f48, f51, f45, str, *]; done)
        · -- operation 53
          obtain ⟨f45, f52, -⟩ := hp
          replace f45 : u 45 = (.bool true) := f45
          replace f52 : u 52 = (.bool true) := f52
          try simp only [f45, f52, str]
          go_wp2
          refine stq_v rfl Same.refl ?_
          first | (simp only [mkAct, List.foldl_cons, List.foldl_nil, List.setIfInBounds_toArray, List.set_cons_succ, List.set_cons_zero, upd, reduceIte, Nat.reduceEqDiff, Nat.reduceAdd, f45, f52, str]; done) | (simp [mkAct, upd, f45, f52, str, *]; done)
        · -- operation 54
          obtain ⟨f53, -, -⟩ := hp
          replace f53 : u 53 = (.bool true) := f53
          try simp only [f53, str]
          go_wp2
          refine stq_v rfl Same.refl ?_
          first | (simp only [mkAct, List.foldl_cons, List.foldl_nil, List.setIfInBounds_toArray, List.set_cons_succ, List.set_cons_zero, upd, reduceIte, Nat.reduceEqDiff, Nat.reduceAdd, f53, str]; done) | (simp [mkAct, upd, f53, str, *]; done)
        · -- operation 55
          obtain ⟨-, f54, -⟩ := hp
          replace f54 : u 54 = (.bool true) := f54
          try simp only [f54, str]
          go_wp2_with fail
          refine (hl.out _).mono ?_
          rintro e w1 ⟨rfl, hs'⟩
          go_wp2
          refine stq_v rfl hs' ?_
          first | (simp only [mkAct, List.foldl_cons, List.foldl_nil, List.setIfInBounds_toArray, List.set_cons_succ, List.set_cons_zero, upd, reduceIte, Nat.reduceEqDiff, Nat.reduceAdd, f54, str]; done) | (simp [mkAct, upd, f54, str, *]; done)
        · -- operation 56
          obtain ⟨f54, f55, -⟩ := hp
          replace f54 : u 54 = (.bool true) := f54
          replace f55 : u 55 = (.bool true) := f55
          try simp only [f54, f55, str]
          go_wp2
          refine stq_v rfl Same.refl ?_
          first | (simp only [mkAct, List.foldl_cons, List.foldl_nil, List.setIfInBounds_toArray, List.set_cons_succ, List.set_cons_zero, upd, reduceIte, Nat.reduceEqDiff, Nat.reduceAdd, f54, f55, str]; done) | (simp [mkAct, upd, f54, f55, str, *]; done)
      · intro u wx hI hR
        obtain ⟨r0, r1, r2, r3, r4, r5, r6, r7, r8, r9, r10, r11, r12, r13, r14, r15, r16, r17, r18, r19, r20, r21, r22, r23, r24, r25, r26, r27, r28, r29, r30, r31, r32, r33, r34, r35, r36, r37, r38, r39, r40, r41, r42, r43, r44, r45, r46, r47, r48, r49, r50, r51, r52, r53, r54, r55, r56, -⟩ := hR
        replace r0 : u 0 = (.agg r.cells.toArray) := r0
        replace r1 : u 1 = (str B) := r1
        replace r2 : u 2 = (.agg r.cells.toArray) := r2
        replace r3 : u 3 = (str B) := r3
        replace r4 : u 4 = (.bool true) := r4
        replace r5 : u 5 = (.bool true) := r5
        replace r6 : u 6 = (.pointer (some p)) := r6
        replace r7 : u 7 = (.pointer (some ⟨w.heap.size, 0, none⟩)) := r7
        replace r8 : u 8 = (.int .i64 n) := r8
        replace r9 : u 9 = (.pointer (some ⟨w.heap.size, 1, none⟩)) := r9
        replace r10 : u 10 = (.int .i64 k) := r10
        replace r11 : u 11 = (.agg r.cells.toArray) := r11
        replace r12 : u 12 = (.int .i64 (G : Int)) := r12
        replace r13 : u 13 = (rkeys seedR (72 : Nat)) := r13
        replace r14 : u 14 = (.pointer (some ⟨w.heap.size, 0, none⟩)) := r14
        replace r15 : u 15 = (.int .i64 n) := r15
        replace r16 : u 16 = (.pointer (some ⟨w.heap.size, 1, none⟩)) := r16
        replace r17 : u 17 = (.int .i64 k) := r17
        replace r18 : u 18 = (.agg r.cells.toArray) := r18
        replace r19 : u 19 = (.int .i64 (G : Int)) := r19
        replace r20 : u 20 = (.bool true) := r20
        replace r21 : u 21 = (.bool true) := r21
        replace r22 : u 22 = (.bool true) := r22
        replace r23 : u 23 = (.pointer (some ⟨w.heap.size, 0, none⟩)) := r23
        replace r24 : u 24 = (.int .i64 n) := r24
        replace r25 : u 25 = (.pointer (some ⟨w.heap.size, 1, none⟩)) := r25
        replace r26 : u 26 = (.int .i64 k) := r26
        replace r27 : u 27 = (.agg r.cells.toArray) := r27
        replace r28 : u 28 = (.int .i64 1) := r28
        replace r29 : u 29 = (.bool true) := r29
        replace r30 : u 30 = (.bool true) := r30
        replace r31 : u 31 = (.bool true) := r31
        replace r32 : u 32 = (.int .i64 N) := r32
        replace r33 : u 33 = (.pointer (some ⟨w0.heap.size, 0, none⟩)) := r33
        replace r34 : u 34 = (.int .i64 c) := r34
        replace r35 : u 35 = (.pointer (some ⟨w0.heap.size, 1, none⟩)) := r35
        replace r36 : u 36 = (.int .i64 m) := r36
        replace r37 : u 37 = (.int .i64 b) := r37
        replace r38 : u 38 = (.int .i64 N) := r38
        replace r39 : u 39 = (.bool true) := r39
        replace r40 : u 40 = (.bool true) := r40
        replace r41 : u 41 = (.bool true) := r41
        replace r42 : u 42 = (.int .i64 N) := r42
        replace r43 : u 43 = (.bool true) := r43
        replace r44 : u 44 = (.bool true) := r44
        replace r45 : u 45 = (.bool true) := r45
        replace r46 : u 46 = (.int .i64 b) := r46
        replace r47 : u 47 = (.bool true) := r47
        replace r48 : u 48 = (.bool true) := r48
        replace r49 : u 49 = undef := r49
        replace r50 : u 50 = undef := r50
        replace r51 : u 51 = undef := r51
        replace r52 : u 52 = (.bool true) := r52
        replace r53 : u 53 = (.bool true) := r53
        replace r54 : u 54 = (.bool true) := r54
        replace r55 : u 55 = (.bool true) := r55
        replace r56 : u 56 = (.bool true) := r56
        simp only [mkAct, List.foldl_cons, List.foldl_nil, List.setIfInBounds_toArray, List.set_cons_succ, List.set_cons_zero]
        try simp only [str, r0, r1, r2, r3, r4, r5, r6, r7, r8, r9, r10, r11, r12, r13, r14, r15, r16, r17, r18, r19, r20, r21, r22, r23, r24, r25, r26, r27, r28, r29, r30, r31, r32, r33, r34, r35, r36, r37, r38, r39, r40, r41, r42, r43, r44, r45, r46, r47, r48, r49, r50, r51, r52, r53, r54, r55, r56]
        go_wp2
        go_ret
        exact ⟨rfl, s0.out.trans hI⟩
    · -- case B
      have q2 := q1 (by omega)
      try clear q1
      refine wp_region_tails (by kernel_rfl) [(25, 0), (26, 1), (27, 2), (28, 3), (29, 4), (30, 5), (31, 6), (32, 7), (33, 8), (34, 9), (35, 10), (36, 11), (37, 12), (38, 13), (39, 14), (40, 15), (41, 16), (42, 17), (43, 18), (44, 19), (45, 20), (46, 21), (47, 22), (48, 23), (49, 24), (50, 25), (51, 26), (52, 27), (53, 28), (54, 29), (55, 30), (56, 31), (57, 32), (58, 33), (59, 34), (60, 35), (61, 36), (62, 37), (63, 38), (64, 39), (65, 40), (66, 41), (67, 42), (68, 43), (69, 44), (70, 45), (71, 46), (72, 47), (73, 48), (74, 49), (75, 50), (76, 51), (77, 52), (78, 53), (79, 54), (80, 55), (81, 56)] Same (Same _) [isV (.agg r.cells.toArray), isV (str B), isV (.agg r.cells.toArray), isV (str B), isV (.bool true), isV (.bool true), isV (.pointer (some p)), isV (.pointer (some ⟨w.heap.size, 0, none⟩)), isV (.int .i64 n), isV (.pointer (some ⟨w.heap.size, 1, none⟩)), isV (.int .i64 k), isV (.agg r.cells.toArray), isV (.int .i64 (G : Int)), isV (rkeys seedR (72 : Nat)), isV (.pointer (some ⟨w.heap.size, 0, none⟩)), isV (.int .i64 n), isV (.pointer (some ⟨w.heap.size, 1, none⟩)), isV (.int .i64 k), isV (.agg r.cells.toArray), isV (.int .i64 (G : Int)), isV (.bool true), isV (.bool true), isV (.bool true), isV (.pointer (some ⟨w.heap.size, 0, none⟩)), isV (.int .i64 n), isV (.pointer (some ⟨w.heap.size, 1, none⟩)), isV (.int .i64 k), isV (.agg r.cells.toArray), isV (.int .i64 1), isV (.bool true), isV (.bool true), isV (.bool true), isV (.int .i64 N), isV (.pointer (some ⟨w0.heap.size, 0, none⟩)), isV (.int .i64 c), isV (.pointer (some ⟨w0.heap.size, 1, none⟩)), isV (.int .i64 m), isV (.int .i64 b), isV (.int .i64 N), isV (.bool true), isV (.bool true), isV (.bool true), isV (.int .i64 N), isV (.bool true), isV (.bool true), isV (.bool true), isV (.int .i64 b), isV (.bool false), isV (.bool false), isV (.int .i64 N), isV (.int .i64 b), isV (.bool true), isV (.bool true), isV (.bool true), isV (.bool true), isV (.bool true), isV (.bool true)] Same.refl.drew (fun _ _ h k => h.trans k) (by simp [isV_stable, isB_stable, isAny_stable]) (by decide) (l := [_, _, _, _, _, _, _, _, _, _, _, _, _, _, _, _, _, _, _, _, _, _, _, _, _, _, _, _, _, _, _, _, _, _, _, _, _, _, _, _, _, _, _, _, _, _, _, _, _, _, _, _, _, _, _, _, _]) rfl (by decide) (by kernel_rfl) ?_ ?_
      · refine ⟨?_, ?_, ?_, ?_, ?_, ?_, ?_, ?_, ?_, ?_, ?_, ?_, ?_, ?_, ?_, ?_, ?_, ?_, ?_, ?_, ?_, ?_, ?_, ?_, ?_, ?_, ?_, ?_, ?_, ?_, ?_, ?_, ?_, ?_, ?_, ?_, ?_, ?_, ?_, ?_, ?_, ?_, ?_, ?_, ?_, ?_, ?_, ?_, ?_, ?_, ?_, ?_, ?_, ?_, ?_, ?_, ?_, trivial⟩
        all_goals (intro u wx hI hp; simp only [mkAct, List.foldl_cons, List.foldl_nil, List.setIfInBounds_toArray, List.set_cons_succ, List.set_cons_zero])
        · -- operation 0
          go_wp2_with (refine load_row rfl _ _ rfl w0.heap.size rfl _ _ _ _ (hI.at (sr.out.at hbr.out)) Try.underlying44 rfl hinf.out ?_)
          refine stq_v rfl Same.refl ?_
          first | (simp only [mkAct, List.foldl_cons, List.foldl_nil, List.setIfInBounds_toArray, List.set_cons_succ, List.set_cons_zero, upd, reduceIte, Nat.reduceEqDiff, Nat.reduceAdd, str]; done) | (simp [mkAct, upd, str, *]; done)
        · -- operation 1
          obtain ⟨f0, -⟩ := hp
          replace f0 : u 0 = (.agg r.cells.toArray) := f0
          try simp only [f0, str]
          go_wp2_with fail
          refine (hbd.out _).mono ?_
          rintro e w1 ⟨rfl, hs'⟩
          go_wp2
          refine stq_v rfl hs' ?_
          first | (simp only [mkAct, List.foldl_cons, List.foldl_nil, List.setIfInBounds_toArray, List.set_cons_succ, List.set_cons_zero, upd, reduceIte, Nat.reduceEqDiff, Nat.reduceAdd, f0, str]; done) | (simp [mkAct, upd, f0, str, *]; done)
        · -- operation 2
          go_wp2_with (refine load_row rfl _ _ rfl w0.heap.size rfl _ _ _ _ (hI.at (sr.out.at hbr.out)) Try.underlying44 rfl hinf.out ?_)
          refine stq_v rfl Same.refl ?_
          first | (simp only [mkAct, List.foldl_cons, List.foldl_nil, List.setIfInBounds_toArray, List.set_cons_succ, List.set_cons_zero, upd, reduceIte, Nat.reduceEqDiff, Nat.reduceAdd, str]; done) | (simp [mkAct, upd, str, *]; done)
        · -- operation 3
          obtain ⟨f2, -, -⟩ := hp
          replace f2 : u 2 = (.agg r.cells.toArray) := f2
          try simp only [f2, str]
          go_wp2_with fail
          refine (hrb.out _).mono ?_
          rintro e w1 ⟨rfl, hs'⟩
          go_wp2
          refine stq_v rfl hs' ?_
          first | (simp only [mkAct, List.foldl_cons, List.foldl_nil, List.setIfInBounds_toArray, List.set_cons_succ, List.set_cons_zero, upd, reduceIte, Nat.reduceEqDiff, Nat.reduceAdd, f2, str]; done) | (simp [mkAct, upd, f2, str, *]; done)
        · -- operation 4
          obtain ⟨f1, f3, -⟩ := hp
          replace f1 : u 1 = (str B) := f1
          replace f3 : u 3 = (str B) := f3
          try simp only [f1, f3, str]
          go_wp2
          refine stq_v rfl Same.refl ?_
          first | (simp only [mkAct, List.foldl_cons, List.foldl_nil, List.setIfInBounds_toArray, List.set_cons_succ, List.set_cons_zero, upd, reduceIte, Nat.reduceEqDiff, Nat.reduceAdd, f1, f3, str]; done) | (simp [mkAct, upd, f1, f3, str, *]; done)
        · -- operation 5
          obtain ⟨f4, -, -⟩ := hp
          replace f4 : u 4 = (.bool true) := f4
          try simp only [f4, str]
          go_wp2
          refine stq_v rfl Same.refl ?_
          first | (simp only [mkAct, List.foldl_cons, List.foldl_nil, List.setIfInBounds_toArray, List.set_cons_succ, List.set_cons_zero, upd, reduceIte, Nat.reduceEqDiff, Nat.reduceAdd, f4, str]; done) | (simp [mkAct, upd, f4, str, *]; done)
        · -- operation 6
          obtain ⟨f5, -⟩ := hp
          replace f5 : u 5 = (.bool true) := f5
          try simp only [f5, str]
          go_wp2
          refine stq_v rfl Same.refl ?_
          first | (simp only [mkAct, List.foldl_cons, List.foldl_nil, List.setIfInBounds_toArray, List.set_cons_succ, List.set_cons_zero, upd, reduceIte, Nat.reduceEqDiff, Nat.reduceAdd, f5, str]; done) | (simp [mkAct, upd, f5, str, *]; done)
        · -- operation 7
          obtain ⟨f5, -⟩ := hp
          replace f5 : u 5 = (.bool true) := f5
          try simp only [f5, str]
          go_wp2
          refine stq_v rfl Same.refl ?_
          first | (simp only [mkAct, List.foldl_cons, List.foldl_nil, List.setIfInBounds_toArray, List.set_cons_succ, List.set_cons_zero, upd, reduceIte, Nat.reduceEqDiff, Nat.reduceAdd, f5, str]; done) | (simp [mkAct, upd, f5, str, *]; done)
        · -- operation 8
          obtain ⟨f7, f5, -⟩ := hp
          replace f7 : u 7 = (.pointer (some ⟨w.heap.size, 0, none⟩)) := f7
          replace f5 : u 5 = (.bool true) := f5
          try simp only [f7, f5, str]
          have cx := hI.cell (c0.out)
          go_wp2
          refine stq_v rfl Same.refl ?_
          first | (simp only [mkAct, List.foldl_cons, List.foldl_nil, List.setIfInBounds_toArray, List.set_cons_succ, List.set_cons_zero, upd, reduceIte, Nat.reduceEqDiff, Nat.reduceAdd, f7, f5, str]; done) | (simp [mkAct, upd, f7, f5, str, *]; done)
        · -- operation 9
          obtain ⟨f5, -⟩ := hp
          replace f5 : u 5 = (.bool true) := f5
          try simp only [f5, str]
          go_wp2
          refine stq_v rfl Same.refl ?_
          first | (simp only [mkAct, List.foldl_cons, List.foldl_nil, List.setIfInBounds_toArray, List.set_cons_succ, List.set_cons_zero, upd, reduceIte, Nat.reduceEqDiff, Nat.reduceAdd, f5, str]; done) | (simp [mkAct, upd, f5, str, *]; done)
        · -- operation 10
          obtain ⟨f9, f5, -⟩ := hp
          replace f9 : u 9 = (.pointer (some ⟨w.heap.size, 1, none⟩)) := f9
          replace f5 : u 5 = (.bool true) := f5
          try simp only [f9, f5, str]
          have cx := hI.cell (c1.out)
          go_wp2
          refine stq_v rfl Same.refl ?_
          first | (simp only [mkAct, List.foldl_cons, List.foldl_nil, List.setIfInBounds_toArray, List.set_cons_succ, List.set_cons_zero, upd, reduceIte, Nat.reduceEqDiff, Nat.reduceAdd, f9, f5, str]; done) | (simp [mkAct, upd, f9, f5, str, *]; done)
        · -- operation 11
          obtain ⟨f5, -⟩ := hp
          replace f5 : u 5 = (.bool true) := f5
          try simp only [f5, str]
          go_wp2_with (refine load_row rfl _ _ rfl w0.heap.size rfl _ _ _ _ (hI.at (sr.out.at hbr.out)) Try.underlying44 rfl hinf.out ?_)
          refine stq_v rfl Same.refl ?_
          first | (simp only [mkAct, List.foldl_cons, List.foldl_nil, List.setIfInBounds_toArray, List.set_cons_succ, List.set_cons_zero, upd, reduceIte, Nat.reduceEqDiff, Nat.reduceAdd, f5, str]; done) | (simp [mkAct, upd, f5, str, *]; done)
        · -- operation 12
          obtain ⟨f6, f8, f10, f11, -, f5, -⟩ := hp
          replace f6 : u 6 = (.pointer (some p)) := f6
          replace f8 : u 8 = (.int .i64 n) := f8
          replace f10 : u 10 = (.int .i64 k) := f10
          replace f11 : u 11 = (.agg r.cells.toArray) := f11
          replace f5 : u 5 = (.bool true) := f5
          try simp only [f6, f8, f10, f11, f5, str]
          go_wp2_with fail
          refine (hg.out _ _ (hka4.out.same hI)).mono ?_
          rintro e w1 ⟨rfl, hs'⟩
          go_wp2
          refine stq_v rfl hs' ?_
          first | (simp only [mkAct, List.foldl_cons, List.foldl_nil, List.setIfInBounds_toArray, List.set_cons_succ, List.set_cons_zero, upd, reduceIte, Nat.reduceEqDiff, Nat.reduceAdd, f6, f8, f10, f11, f5, str]; done) | (simp [mkAct, upd, f6, f8, f10, f11, f5, str, *]; done)
        · -- operation 13
          obtain ⟨f5, -⟩ := hp
          replace f5 : u 5 = (.bool true) := f5
          try simp only [f5, str]
          go_wp2_with (refine load_row rfl _ _ rfl w2.heap.size rfl _ _ _ _ (hI.at (shbk.out.at hbk.out)) Try.underlying38 rfl hinfK.out ?_)
          refine stq_v rfl Same.refl ?_
          first | (simp only [mkAct, List.foldl_cons, List.foldl_nil, List.setIfInBounds_toArray, List.set_cons_succ, List.set_cons_zero, upd, reduceIte, Nat.reduceEqDiff, Nat.reduceAdd, f5, str]; done) | (simp [mkAct, upd, f5, str, *]; done)
        · -- operation 14
          obtain ⟨f5, -⟩ := hp
          replace f5 : u 5 = (.bool true) := f5
          try simp only [f5, str]
          go_wp2
          refine stq_v rfl Same.refl ?_
          first | (simp only [mkAct, List.foldl_cons, List.foldl_nil, List.setIfInBounds_toArray, List.set_cons_succ, List.set_cons_zero, upd, reduceIte, Nat.reduceEqDiff, Nat.reduceAdd, f5, str]; done) | (simp [mkAct, upd, f5, str, *]; done)
        · -- operation 15
          obtain ⟨f14, f5, -⟩ := hp
          replace f14 : u 14 = (.pointer (some ⟨w.heap.size, 0, none⟩)) := f14
          replace f5 : u 5 = (.bool true) := f5
          try simp only [f14, f5, str]
          have cx := hI.cell (c0.out)
          go_wp2
          refine stq_v rfl Same.refl ?_
          first | (simp only [mkAct, List.foldl_cons, List.foldl_nil, List.setIfInBounds_toArray, List.set_cons_succ, List.set_cons_zero, upd, reduceIte, Nat.reduceEqDiff, Nat.reduceAdd, f14, f5, str]; done) | (simp [mkAct, upd, f14, f5, str, *]; done)
        · -- operation 16
          obtain ⟨f5, -⟩ := hp
          replace f5 : u 5 = (.bool true) := f5
          try simp only [f5, str]
          go_wp2
          refine stq_v rfl Same.refl ?_
          first | (simp only [mkAct, List.foldl_cons, List.foldl_nil, List.setIfInBounds_toArray, List.set_cons_succ, List.set_cons_zero, upd, reduceIte, Nat.reduceEqDiff, Nat.reduceAdd, f5, str]; done) | (simp [mkAct, upd, f5, str, *]; done)
        · -- operation 17
          obtain ⟨f16, f5, -⟩ := hp
          replace f16 : u 16 = (.pointer (some ⟨w.heap.size, 1, none⟩)) := f16
          replace f5 : u 5 = (.bool true) := f5
          try simp only [f16, f5, str]
          have cx := hI.cell (c1.out)
          go_wp2
          refine stq_v rfl Same.refl ?_
          first | (simp only [mkAct, List.foldl_cons, List.foldl_nil, List.setIfInBounds_toArray, List.set_cons_succ, List.set_cons_zero, upd, reduceIte, Nat.reduceEqDiff, Nat.reduceAdd, f16, f5, str]; done) | (simp [mkAct, upd, f16, f5, str, *]; done)
        · -- operation 18
          obtain ⟨f5, -⟩ := hp
          replace f5 : u 5 = (.bool true) := f5
          try simp only [f5, str]
          go_wp2_with (refine load_row rfl _ _ rfl w0.heap.size rfl _ _ _ _ (hI.at (sr.out.at hbr.out)) Try.underlying44 rfl hinf.out ?_)
          refine stq_v rfl Same.refl ?_
          first | (simp only [mkAct, List.foldl_cons, List.foldl_nil, List.setIfInBounds_toArray, List.set_cons_succ, List.set_cons_zero, upd, reduceIte, Nat.reduceEqDiff, Nat.reduceAdd, f5, str]; done) | (simp [mkAct, upd, f5, str, *]; done)
        · -- operation 19
          obtain ⟨f13, f15, f17, f18, -, f5, -⟩ := hp
          replace f13 : u 13 = (rkeys seedR (72 : Nat)) := f13
          replace f15 : u 15 = (.int .i64 n) := f15
          replace f17 : u 17 = (.int .i64 k) := f17
          replace f18 : u 18 = (.agg r.cells.toArray) := f18
          replace f5 : u 5 = (.bool true) := f5
          try simp only [f13, f15, f17, f18, f5, str]
          go_wp2_with fail
          refine (hrg.out _).mono ?_
          rintro e w1 ⟨rfl, hs'⟩
          go_wp2
          refine stq_v rfl hs' ?_
          first | (simp only [mkAct, List.foldl_cons, List.foldl_nil, List.setIfInBounds_toArray, List.set_cons_succ, List.set_cons_zero, upd, reduceIte, Nat.reduceEqDiff, Nat.reduceAdd, f13, f15, f17, f18, f5, str]; done) | (simp [mkAct, upd, f13, f15, f17, f18, f5, str, *]; done)
        · -- operation 20
          obtain ⟨f12, f19, f5, -⟩ := hp
          replace f12 : u 12 = (.int .i64 (G : Int)) := f12
          replace f19 : u 19 = (.int .i64 (G : Int)) := f19
          replace f5 : u 5 = (.bool true) := f5
          try simp only [f12, f19, f5, str]
          go_wp2
          refine stq_v rfl Same.refl ?_
          first | (simp only [mkAct, List.foldl_cons, List.foldl_nil, List.setIfInBounds_toArray, List.set_cons_succ, List.set_cons_zero, upd, reduceIte, Nat.reduceEqDiff, Nat.reduceAdd, f12, f19, f5, str]; done) | (simp [mkAct, upd, f12, f19, f5, str, *]; done)
        · -- operation 21
          obtain ⟨f5, f20, -⟩ := hp
          replace f5 : u 5 = (.bool true) := f5
          replace f20 : u 20 = (.bool true) := f20
          try simp only [f5, f20, str]
          go_wp2
          refine stq_v rfl Same.refl ?_
          first | (simp only [mkAct, List.foldl_cons, List.foldl_nil, List.setIfInBounds_toArray, List.set_cons_succ, List.set_cons_zero, upd, reduceIte, Nat.reduceEqDiff, Nat.reduceAdd, f5, f20, str]; done) | (simp [mkAct, upd, f5, f20, str, *]; done)
        · -- operation 22
          obtain ⟨f21, -, -⟩ := hp
          replace f21 : u 21 = (.bool true) := f21
          try simp only [f21, str]
          go_wp2
          refine stq_v rfl Same.refl ?_
          first | (simp only [mkAct, List.foldl_cons, List.foldl_nil, List.setIfInBounds_toArray, List.set_cons_succ, List.set_cons_zero, upd, reduceIte, Nat.reduceEqDiff, Nat.reduceAdd, f21, str]; done) | (simp [mkAct, upd, f21, str, *]; done)
        · -- operation 23
          obtain ⟨f22, -⟩ := hp
          replace f22 : u 22 = (.bool true) := f22
          try simp only [f22, str]
          go_wp2
          refine stq_v rfl Same.refl ?_
          first | (simp only [mkAct, List.foldl_cons, List.foldl_nil, List.setIfInBounds_toArray, List.set_cons_succ, List.set_cons_zero, upd, reduceIte, Nat.reduceEqDiff, Nat.reduceAdd, f22, str]; done) | (simp [mkAct, upd, f22, str, *]; done)
        · -- operation 24
          obtain ⟨f23, f22, -⟩ := hp
          replace f23 : u 23 = (.pointer (some ⟨w.heap.size, 0, none⟩)) := f23
          replace f22 : u 22 = (.bool true) := f22
          try simp only [f23, f22, str]
          have cx := hI.cell (c0.out)
          go_wp2
          refine stq_v rfl Same.refl ?_
          first | (simp only [mkAct, List.foldl_cons, List.foldl_nil, List.setIfInBounds_toArray, List.set_cons_succ, List.set_cons_zero, upd, reduceIte, Nat.reduceEqDiff, Nat.reduceAdd, f23, f22, str]; done) | (simp [mkAct, upd, f23, f22, str, *]; done)
        · -- operation 25
          obtain ⟨f22, -⟩ := hp
          replace f22 : u 22 = (.bool true) := f22
          try simp only [f22, str]
          go_wp2
          refine stq_v rfl Same.refl ?_
          first | (simp only [mkAct, List.foldl_cons, List.foldl_nil, List.setIfInBounds_toArray, List.set_cons_succ, List.set_cons_zero, upd, reduceIte, Nat.reduceEqDiff, Nat.reduceAdd, f22, str]; done) | (simp [mkAct, upd, f22, str, *]; done)
        · -- operation 26
          obtain ⟨f25, f22, -⟩ := hp
          replace f25 : u 25 = (.pointer (some ⟨w.heap.size, 1, none⟩)) := f25
          replace f22 : u 22 = (.bool true) := f22
          try simp only [f25, f22, str]
          have cx := hI.cell (c1.out)
          go_wp2
          refine stq_v rfl Same.refl ?_
          first | (simp only [mkAct, List.foldl_cons, List.foldl_nil, List.setIfInBounds_toArray, List.set_cons_succ, List.set_cons_zero, upd, reduceIte, Nat.reduceEqDiff, Nat.reduceAdd, f25, f22, str]; done) | (simp [mkAct, upd, f25, f22, str, *]; done)
        · -- operation 27
          obtain ⟨f22, -⟩ := hp
          replace f22 : u 22 = (.bool true) := f22
          try simp only [f22, str]
          go_wp2_with (refine load_row rfl _ _ rfl w0.heap.size rfl _ _ _ _ (hI.at (sr.out.at hbr.out)) Try.underlying44 rfl hinf.out ?_)
          refine stq_v rfl Same.refl ?_
          first | (simp only [mkAct, List.foldl_cons, List.foldl_nil, List.setIfInBounds_toArray, List.set_cons_succ, List.set_cons_zero, upd, reduceIte, Nat.reduceEqDiff, Nat.reduceAdd, f22, str]; done) | (simp [mkAct, upd, f22, str, *]; done)
        · -- operation 28
          obtain ⟨f24, f26, f27, -, f22, -⟩ := hp
          replace f24 : u 24 = (.int .i64 n) := f24
          replace f26 : u 26 = (.int .i64 k) := f26
          replace f27 : u 27 = (.agg r.cells.toArray) := f27
          replace f22 : u 22 = (.bool true) := f22
          try simp only [f24, f26, f27, f22, str]
          go_wp2_with fail
          refine (hgz.out _).mono ?_
          rintro e w1 ⟨rfl, hs'⟩
          go_wp2
          refine stq_v rfl hs' ?_
          first | (simp only [mkAct, List.foldl_cons, List.foldl_nil, List.setIfInBounds_toArray, List.set_cons_succ, List.set_cons_zero, upd, reduceIte, Nat.reduceEqDiff, Nat.reduceAdd, f24, f26, f27, f22, str]; done) | (simp [mkAct, upd, f24, f26, f27, f22, str, *]; done)
        · -- operation 29
          obtain ⟨f28, f22, -⟩ := hp
          replace f28 : u 28 = (.int .i64 1) := f28
          replace f22 : u 22 = (.bool true) := f22
          try simp only [f28, f22, str]
          go_wp2
          refine stq_v rfl Same.refl ?_
          first | (simp only [mkAct, List.foldl_cons, List.foldl_nil, List.setIfInBounds_toArray, List.set_cons_succ, List.set_cons_zero, upd, reduceIte, Nat.reduceEqDiff, Nat.reduceAdd, f28, f22, str]; done) | (simp [mkAct, upd, f28, f22, str, *]; done)
        · -- operation 30
          obtain ⟨f22, f29, -⟩ := hp
          replace f22 : u 22 = (.bool true) := f22
          replace f29 : u 29 = (.bool true) := f29
          try simp only [f22, f29, str]
          go_wp2
          refine stq_v rfl Same.refl ?_
          first | (simp only [mkAct, List.foldl_cons, List.foldl_nil, List.setIfInBounds_toArray, List.set_cons_succ, List.set_cons_zero, upd, reduceIte, Nat.reduceEqDiff, Nat.reduceAdd, f22, f29, str]; done) | (simp [mkAct, upd, f22, f29, str, *]; done)
        · -- operation 31
          obtain ⟨f30, -, -⟩ := hp
          replace f30 : u 30 = (.bool true) := f30
          try simp only [f30, str]
          go_wp2
          refine stq_v rfl Same.refl ?_
          first | (simp only [mkAct, List.foldl_cons, List.foldl_nil, List.setIfInBounds_toArray, List.set_cons_succ, List.set_cons_zero, upd, reduceIte, Nat.reduceEqDiff, Nat.reduceAdd, f30, str]; done) | (simp [mkAct, upd, f30, str, *]; done)
        · -- operation 32
          obtain ⟨f31, -⟩ := hp
          replace f31 : u 31 = (.bool true) := f31
          try simp only [f31, str]
          go_wp2
          refine stq_v rfl Same.refl ?_
          first | (simp only [mkAct, List.foldl_cons, List.foldl_nil, List.setIfInBounds_toArray, List.set_cons_succ, List.set_cons_zero, upd, reduceIte, Nat.reduceEqDiff, Nat.reduceAdd, f31, str]; done) | (simp [mkAct, upd, f31, str, *]; done)
        · -- operation 33
          obtain ⟨f31, -⟩ := hp
          replace f31 : u 31 = (.bool true) := f31
          try simp only [f31, str]
          go_wp2
          refine stq_v rfl Same.refl ?_
          first | (simp only [mkAct, List.foldl_cons, List.foldl_nil, List.setIfInBounds_toArray, List.set_cons_succ, List.set_cons_zero, upd, reduceIte, Nat.reduceEqDiff, Nat.reduceAdd, f31, str]; done) | (simp [mkAct, upd, f31, str, *]; done)
        · -- operation 34
          obtain ⟨f33, f31, -⟩ := hp
          replace f33 : u 33 = (.pointer (some ⟨w0.heap.size, 0, none⟩)) := f33
          replace f31 : u 31 = (.bool true) := f31
          try simp only [f33, f31, str]
          have cx := hI.cell (e0.out)
          go_wp2
          refine stq_v rfl Same.refl ?_
          first | (simp only [mkAct, List.foldl_cons, List.foldl_nil, List.setIfInBounds_toArray, List.set_cons_succ, List.set_cons_zero, upd, reduceIte, Nat.reduceEqDiff, Nat.reduceAdd, f33, f31, str]; done) | (simp [mkAct, upd, f33, f31, str, *]; done)
        · -- operation 35
          obtain ⟨f31, -⟩ := hp
          replace f31 : u 31 = (.bool true) := f31
          try simp only [f31, str]
          go_wp2
          refine stq_v rfl Same.refl ?_
          first | (simp only [mkAct, List.foldl_cons, List.foldl_nil, List.setIfInBounds_toArray, List.set_cons_succ, List.set_cons_zero, upd, reduceIte, Nat.reduceEqDiff, Nat.reduceAdd, f31, str]; done) | (simp [mkAct, upd, f31, str, *]; done)
        · -- operation 36
          obtain ⟨f35, f31, -⟩ := hp
          replace f35 : u 35 = (.pointer (some ⟨w0.heap.size, 1, none⟩)) := f35
          replace f31 : u 31 = (.bool true) := f31
          try simp only [f35, f31, str]
          have cx := hI.cell (e1.out)
          go_wp2
          refine stq_v rfl Same.refl ?_
          first | (simp only [mkAct, List.foldl_cons, List.foldl_nil, List.setIfInBounds_toArray, List.set_cons_succ, List.set_cons_zero, upd, reduceIte, Nat.reduceEqDiff, Nat.reduceAdd, f35, f31, str]; done) | (simp [mkAct, upd, f35, f31, str, *]; done)
        · -- operation 37
          obtain ⟨f31, -⟩ := hp
          replace f31 : u 31 = (.bool true) := f31
          try simp only [f31, str]
          go_wp2
          refine stq_v rfl Same.refl ?_
          first | (simp only [mkAct, List.foldl_cons, List.foldl_nil, List.setIfInBounds_toArray, List.set_cons_succ, List.set_cons_zero, upd, reduceIte, Nat.reduceEqDiff, Nat.reduceAdd, f31, str]; done) | (simp [mkAct, upd, f31, str, *]; done)
        · -- operation 38
          obtain ⟨f34, f36, f37, -, f31, -⟩ := hp
          replace f34 : u 34 = (.int .i64 c) := f34
          replace f36 : u 36 = (.int .i64 m) := f36
          replace f37 : u 37 = (.int .i64 b) := f37
          replace f31 : u 31 = (.bool true) := f31
          try simp only [f34, f36, f37, f31, str]
          go_wp2_with fail
          refine (hru.out _).mono ?_
          rintro e w1 ⟨rfl, hs'⟩
          go_wp2
          refine stq_v rfl hs' ?_
          first | (simp only [mkAct, List.foldl_cons, List.foldl_nil, List.setIfInBounds_toArray, List.set_cons_succ, List.set_cons_zero, upd, reduceIte, Nat.reduceEqDiff, Nat.reduceAdd, f34, f36, f37, f31, str]; done) | (simp [mkAct, upd, f34, f36, f37, f31, str, *]; done)
        · -- operation 39
          obtain ⟨f32, f38, f31, -⟩ := hp
          replace f32 : u 32 = (.int .i64 N) := f32
          replace f38 : u 38 = (.int .i64 N) := f38
          replace f31 : u 31 = (.bool true) := f31
          try simp only [f32, f38, f31, str]
          go_wp2
          refine stq_v rfl Same.refl ?_
          first | (simp only [mkAct, List.foldl_cons, List.foldl_nil, List.setIfInBounds_toArray, List.set_cons_succ, List.set_cons_zero, upd, reduceIte, Nat.reduceEqDiff, Nat.reduceAdd, f32, f38, f31, str]; done) | (simp [mkAct, upd, f32, f38, f31, str, *]; done)
        · -- operation 40
          obtain ⟨f31, f39, -⟩ := hp
          replace f31 : u 31 = (.bool true) := f31
          replace f39 : u 39 = (.bool true) := f39
          try simp only [f31, f39, str]
          go_wp2
          refine stq_v rfl Same.refl ?_
          first | (simp only [mkAct, List.foldl_cons, List.foldl_nil, List.setIfInBounds_toArray, List.set_cons_succ, List.set_cons_zero, upd, reduceIte, Nat.reduceEqDiff, Nat.reduceAdd, f31, f39, str]; done) | (simp [mkAct, upd, f31, f39, str, *]; done)
        · -- operation 41
          obtain ⟨f40, -, -⟩ := hp
          replace f40 : u 40 = (.bool true) := f40
          try simp only [f40, str]
          go_wp2
          refine stq_v rfl Same.refl ?_
          first | (simp only [mkAct, List.foldl_cons, List.foldl_nil, List.setIfInBounds_toArray, List.set_cons_succ, List.set_cons_zero, upd, reduceIte, Nat.reduceEqDiff, Nat.reduceAdd, f40, str]; done) | (simp [mkAct, upd, f40, str, *]; done)
        · -- operation 42
          obtain ⟨f41, -⟩ := hp
          replace f41 : u 41 = (.bool true) := f41
          try simp only [f41, str]
          go_wp2
          refine stq_v rfl Same.refl ?_
          first | (simp only [mkAct, List.foldl_cons, List.foldl_nil, List.setIfInBounds_toArray, List.set_cons_succ, List.set_cons_zero, upd, reduceIte, Nat.reduceEqDiff, Nat.reduceAdd, f41, str]; done) | (simp [mkAct, upd, f41, str, *]; done)
        · -- operation 43
          obtain ⟨f42, f41, -⟩ := hp
          replace f42 : u 42 = (.int .i64 N) := f42
          replace f41 : u 41 = (.bool true) := f41
          try simp only [f42, f41, str]
          go_wp2
          refine stq_v rfl Same.refl ?_
          first | (simp only [mkAct, List.foldl_cons, List.foldl_nil, List.setIfInBounds_toArray, List.set_cons_succ, List.set_cons_zero, upd, reduceIte, Nat.reduceEqDiff, Nat.reduceAdd, f42, f41, str]; done) | (simp [mkAct, upd, f42, f41, str, *]; done)
        · -- operation 44
          obtain ⟨f41, f43, -⟩ := hp
          replace f41 : u 41 = (.bool true) := f41
          replace f43 : u 43 = (.bool true) := f43
          try simp only [f41, f43, str]
          go_wp2
          refine stq_v rfl Same.refl ?_
          first | (simp only [mkAct, List.foldl_cons, List.foldl_nil, List.setIfInBounds_toArray, List.set_cons_succ, List.set_cons_zero, upd, reduceIte, Nat.reduceEqDiff, Nat.reduceAdd, f41, f43, str]; done) | (simp [mkAct, upd, f41, f43, str, *]; done)
        · -- operation 45
          obtain ⟨f44, -, -⟩ := hp
          replace f44 : u 44 = (.bool true) := f44
          try simp only [f44, str]
          go_wp2
          refine stq_v rfl Same.refl ?_
          first | (simp only [mkAct, List.foldl_cons, List.foldl_nil, List.setIfInBounds_toArray, List.set_cons_succ, List.set_cons_zero, upd, reduceIte, Nat.reduceEqDiff, Nat.reduceAdd, f44, str]; done) | (simp [mkAct, upd, f44, str, *]; done)
        · -- operation 46
          obtain ⟨f45, -⟩ := hp
          replace f45 : u 45 = (.bool true) := f45
          try simp only [f45, str]
          go_wp2
          refine stq_v rfl Same.refl ?_
          first | (simp only [mkAct, List.foldl_cons, List.foldl_nil, List.setIfInBounds_toArray, List.set_cons_succ, List.set_cons_zero, upd, reduceIte, Nat.reduceEqDiff, Nat.reduceAdd, f45, str]; done) | (simp [mkAct, upd, f45, str, *]; done)
        · -- operation 47
          obtain ⟨f46, f45, -⟩ := hp
          replace f46 : u 46 = (.int .i64 b) := f46
          replace f45 : u 45 = (.bool true) := f45
          try simp only [f46, f45, str]
          go_wp2
          refine stq_v rfl Same.refl ?_
          first | (simp only [mkAct, List.foldl_cons, List.foldl_nil, List.setIfInBounds_toArray, List.set_cons_succ, List.set_cons_zero, upd, reduceIte, Nat.reduceEqDiff, Nat.reduceAdd, f46, f45, str]; done) | (simp [mkAct, upd, f46, f45, str, *]; done)
        · -- operation 48
          obtain ⟨f47, -, f45, -⟩ := hp
          replace f47 : u 47 = (.bool false) := f47
          replace f45 : u 45 = (.bool true) := f45
          try simp only [f47, f45, str]
          go_wp2
          refine stq_v rfl Same.refl ?_
          first | (simp only [mkAct, List.foldl_cons, List.foldl_nil, List.setIfInBounds_toArray, List.set_cons_succ, List.set_cons_zero, upd, reduceIte, Nat.reduceEqDiff, Nat.reduceAdd, f47, f45, str]; done) | (simp [mkAct, upd, f47, f45, str, *]; done)
        · -- operation 49
          obtain ⟨f48, -⟩ := hp
          replace f48 : u 48 = (.bool false) := f48
          try simp only [f48, str]
          go_wp2
          refine stq_v rfl Same.refl ?_
          first | (simp only [mkAct, List.foldl_cons, List.foldl_nil, List.setIfInBounds_toArray, List.set_cons_succ, List.set_cons_zero, upd, reduceIte, Nat.reduceEqDiff, Nat.reduceAdd, f48, str]; done) | (simp [mkAct, upd, f48, str, *]; done)
        · -- operation 50
          obtain ⟨f48, -⟩ := hp
          replace f48 : u 48 = (.bool false) := f48
          try simp only [f48, str]
          go_wp2
          refine stq_v rfl Same.refl ?_
          first | (simp only [mkAct, List.foldl_cons, List.foldl_nil, List.setIfInBounds_toArray, List.set_cons_succ, List.set_cons_zero, upd, reduceIte, Nat.reduceEqDiff, Nat.reduceAdd, f48, str]; done) | (simp [mkAct, upd, f48, str, *]; done)
        · -- operation 51
          obtain ⟨f49, f50, f48, -⟩ := hp
          replace f49 : u 49 = (.int .i64 N) := f49
          replace f50 : u 50 = (.int .i64 b) := f50
          replace f48 : u 48 = (.bool false) := f48
          try simp only [f49, f50, f48, str]
          go_wp2
          refine stq_v rfl Same.refl ?_
          first | (simp only [mkAct, List.foldl_cons, List.foldl_nil, List.setIfInBounds_toArray, List.set_cons_succ, List.set_cons_zero, upd, reduceIte, Nat.reduceEqDiff, Nat.reduceAdd, f49, f50, f48, str]; done) | (simp [mkAct, upd, f49, f50, f48, str, *]; done)
        · -- operation 52
          obtain ⟨f48, f51, f45, -⟩ := hp
          replace f48 : u 48 = (.bool false) := f48
          replace f51 : u 51 = (.bool true) := f51
          replace f45 : u 45 = (.bool true) := f45
          try simp only [f48, f51, f45, str]
          go_wp2
          refine stq_v rfl Same.refl ?_
          first | (simp only [mkAct, List.foldl_cons, List.foldl_nil, List.setIfInBounds_toArray, List.set_cons_succ, List.set_cons_zero, upd, reduceIte, Nat.reduceEqDiff, Nat.reduceAdd, f48, f51, f45, str]; done) | (simp [mkAct, upd, f48, f51, f45, str, *]; done)
        · -- operation 53
          obtain ⟨f45, f52, -⟩ := hp
          replace f45 : u 45 = (.bool true) := f45
          replace f52 : u 52 = (.bool true) := f52
          try simp only [f45, f52, str]
          go_wp2
          refine stq_v rfl Same.refl ?_
          first | (simp only [mkAct, List.foldl_cons, List.foldl_nil, List.setIfInBounds_toArray, List.set_cons_succ, List.set_cons_zero, upd, reduceIte, Nat.reduceEqDiff, Nat.reduceAdd, f45, f52, str]; done) | (simp [mkAct, upd, f45, f52, str, *]; done)
        · -- operation 54
          obtain ⟨f53, -, -⟩ := hp
          replace f53 : u 53 = (.bool true) := f53
          try simp only [f53, str]
          go_wp2
          refine stq_v rfl Same.refl ?_
          first | (simp only [mkAct, List.foldl_cons, List.foldl_nil, List.setIfInBounds_toArray, List.set_cons_succ, List.set_cons_zero, upd, reduceIte, Nat.reduceEqDiff, Nat.reduceAdd, f53, str]; done) | (simp [mkAct, upd, f53, str, *]; done)
        · -- operation 55
          obtain ⟨-, f54, -⟩ := hp
          replace f54 : u 54 = (.bool true) := f54
          try simp only [f54, str]
          go_wp2_with fail
          refine (hl.out _).mono ?_
          rintro e w1 ⟨rfl, hs'⟩
          go_wp2
          refine stq_v rfl hs' ?_
          first | (simp only [mkAct, List.foldl_cons, List.foldl_nil, List.setIfInBounds_toArray, List.set_cons_succ, List.set_cons_zero, upd, reduceIte, Nat.reduceEqDiff, Nat.reduceAdd, f54, str]; done) | (simp [mkAct, upd, f54, str, *]; done)
        · -- operation 56
          obtain ⟨f54, f55, -⟩ := hp
          replace f54 : u 54 = (.bool true) := f54
          replace f55 : u 55 = (.bool true) := f55
          try simp only [f54, f55, str]
          go_wp2
          refine stq_v rfl Same.refl ?_
          first | (simp only [mkAct, List.foldl_cons, List.foldl_nil, List.setIfInBounds_toArray, List.set_cons_succ, List.set_cons_zero, upd, reduceIte, Nat.reduceEqDiff, Nat.reduceAdd, f54, f55, str]; done) | (simp [mkAct, upd, f54, f55, str, *]; done)
      · intro u wx hI hR
        obtain ⟨r0, r1, r2, r3, r4, r5, r6, r7, r8, r9, r10, r11, r12, r13, r14, r15, r16, r17, r18, r19, r20, r21, r22, r23, r24, r25, r26, r27, r28, r29, r30, r31, r32, r33, r34, r35, r36, r37, r38, r39, r40, r41, r42, r43, r44, r45, r46, r47, r48, r49, r50, r51, r52, r53, r54, r55, r56, -⟩ := hR
        replace r0 : u 0 = (.agg r.cells.toArray) := r0
        replace r1 : u 1 = (str B) := r1
        replace r2 : u 2 = (.agg r.cells.toArray) := r2
        replace r3 : u 3 = (str B) := r3
        replace r4 : u 4 = (.bool true) := r4
        replace r5 : u 5 = (.bool true) := r5
        replace r6 : u 6 = (.pointer (some p)) := r6
        replace r7 : u 7 = (.pointer (some ⟨w.heap.size, 0, none⟩)) := r7
        replace r8 : u 8 = (.int .i64 n) := r8
        replace r9 : u 9 = (.pointer (some ⟨w.heap.size, 1, none⟩)) := r9
        replace r10 : u 10 = (.int .i64 k) := r10
        replace r11 : u 11 = (.agg r.cells.toArray) := r11
        replace r12 : u 12 = (.int .i64 (G : Int)) := r12
        replace r13 : u 13 = (rkeys seedR (72 : Nat)) := r13
        replace r14 : u 14 = (.pointer (some ⟨w.heap.size, 0, none⟩)) := r14
        replace r15 : u 15 = (.int .i64 n) := r15
        replace r16 : u 16 = (.pointer (some ⟨w.heap.size, 1, none⟩)) := r16
        replace r17 : u 17 = (.int .i64 k) := r17
        replace r18 : u 18 = (.agg r.cells.toArray) := r18
        replace r19 : u 19 = (.int .i64 (G : Int)) := r19
        replace r20 : u 20 = (.bool true) := r20
        replace r21 : u 21 = (.bool true) := r21
        replace r22 : u 22 = (.bool true) := r22
        replace r23 : u 23 = (.pointer (some ⟨w.heap.size, 0, none⟩)) := r23
        replace r24 : u 24 = (.int .i64 n) := r24
        replace r25 : u 25 = (.pointer (some ⟨w.heap.size, 1, none⟩)) := r25
        replace r26 : u 26 = (.int .i64 k) := r26
        replace r27 : u 27 = (.agg r.cells.toArray) := r27
        replace r28 : u 28 = (.int .i64 1) := r28
        replace r29 : u 29 = (.bool true) := r29
        replace r30 : u 30 = (.bool true) := r30
        replace r31 : u 31 = (.bool true) := r31
        replace r32 : u 32 = (.int .i64 N) := r32
        replace r33 : u 33 = (.pointer (some ⟨w0.heap.size, 0, none⟩)) := r33
        replace r34 : u 34 = (.int .i64 c) := r34
        replace r35 : u 35 = (.pointer (some ⟨w0.heap.size, 1, none⟩)) := r35
        replace r36 : u 36 = (.int .i64 m) := r36
        replace r37 : u 37 = (.int .i64 b) := r37
        replace r38 : u 38 = (.int .i64 N) := r38
        replace r39 : u 39 = (.bool true) := r39
        replace r40 : u 40 = (.bool true) := r40
        replace r41 : u 41 = (.bool true) := r41
        replace r42 : u 42 = (.int .i64 N) := r42
        replace r43 : u 43 = (.bool true) := r43
        replace r44 : u 44 = (.bool true) := r44
        replace r45 : u 45 = (.bool true) := r45
        replace r46 : u 46 = (.int .i64 b) := r46
        replace r47 : u 47 = (.bool false) := r47
        replace r48 : u 48 = (.bool false) := r48
        replace r49 : u 49 = (.int .i64 N) := r49
        replace r50 : u 50 = (.int .i64 b) := r50
        replace r51 : u 51 = (.bool true) := r51
        replace r52 : u 52 = (.bool true) := r52
        replace r53 : u 53 = (.bool true) := r53
        replace r54 : u 54 = (.bool true) := r54
        replace r55 : u 55 = (.bool true) := r55
        replace r56 : u 56 = (.bool true) := r56
        simp only [mkAct, List.foldl_cons, List.foldl_nil, List.setIfInBounds_toArray, List.set_cons_succ, List.set_cons_zero]
        try simp only [str, r0, r1, r2, r3, r4, r5, r6, r7, r8, r9, r10, r11, r12, r13, r14, r15, r16, r17, r18, r19, r20, r21, r22, r23, r24, r25, r26, r27, r28, r29, r30, r31, r32, r33, r34, r35, r36, r37, r38, r39, r40, r41, r42, r43, r44, r45, r46, r47, r48, r49, r50, r51, r52, r53, r54, r55, r56]
        go_wp2
        go_ret
        exact ⟨rfl, s0.out.trans hI⟩
end Go.Proofs.Ythgpmgodpedjdaa
