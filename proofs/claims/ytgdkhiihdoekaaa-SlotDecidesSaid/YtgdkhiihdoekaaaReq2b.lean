/-
  Requests, the document's: which are good; their bucket, by both.
-/
import Derived.Test.YtgdkhiihdoekaaaReq2
namespace Go.Proofs.Ytgdkhiihdoekaaa
open Go Go.RowKit
set_option linter.unusedSimpArgs false
set_option linter.unusedVariables false

set_option maxRecDepth 100000 in
set_option maxHeartbeats 3200000 in
theorem rqrgood_any (w : World) (seed : ByteArray) (N : Nat) (nodes clients : Int) (r : Req) (ht : r.tag.length = 16) (hN : N ≠ 0) (hN2 : N ≤ 4096) (hs : seed.size ≤ 1000000) :
    Calls Try.prog 94 #[rkeys seed N, .int .i64 nodes, .int .i64 clients, .agg r.cells.toArray] w fun e w' => e = .returned (.int .i64 (r.good seed.data.toList N nodes clients : Nat)) ∧ Same w w' := by
  have hinf := Lib.hid (req_info ht)
  have hinfT := Lib.hid (tag_infoL ht)
  have hinfK := Lib.hid (keys_info #[.string seed, .int .i64 (N : Nat)] rfl)
  have hmay := fun w => rqform_any r clients w ht
  obtain ⟨c, hc⟩ : ∃ c, c = r.client := ⟨_, rfl⟩
  cases hm : r.may clients
  · rw [Req.good_no hm]
    rw [hm] at hmay
    clear hm
    replace hmay := Lib.hid hmay
    go_enter Try.func94, Try.ntmps94
    go_upto_region 1 with (first | (refine box_row rfl _ _ rfl #[.string seed, .int .i64 (N : Nat)] rfl hinfK.out ?_; intro w0 hbk hs0; have hbkl := blk_lt hbk; replace hbk := Lib.hid hbk; replace hs0 := Lib.hid hs0) | (refine box_row rfl _ _ rfl r.cells.toArray rfl hinf.out ?_; intro w1 hbx hs1; replace hbx := Lib.hid hbx; replace hs1 := Lib.hid hs1))
    have hbk1 := Lib.hid (hs1.out.at hbk.out)
    have hw1 := Lib.hid (hs0.out.trans hs1.out)
    clear hs0 hs1 hbk
    go_wp2_with (refine load_row rfl _ _ rfl w0.heap.size rfl _ _ _ _ hbx.out Try.underlying78 rfl hinf.out ?_)
    refine (hmay.out _).mono ?_
    rintro e w2 ⟨rfl, hs2⟩
    go_wp2
    go_ret
    exact ⟨rfl, hw1.out.trans hs2⟩
  · obtain ⟨m1, m2, m3, m4, m5⟩ := Req.may_iff.1 hm
    have hbad := fun h => Req.good_bad (seed := seed.data.toList) (N := N) (nodes := nodes) hm h
    have hok := fun h => Req.good_ok (seed := seed.data.toList) (N := N) (nodes := nodes) hm h
    obtain ⟨G, hG⟩ : ∃ G, G = r.good seed.data.toList N nodes clients := ⟨_, rfl⟩
    rw [← hG] at hbad hok ⊢
    rw [hm] at hmay
    rw [← hc] at hbad hok m1 m2
    clear hm hG
    have key : ∀ hh : nodes < 0 ∧ G = 61 ∨ 0 ≤ nodes ∧ 64 < nodes ∧ G = 61 ∨ 0 ≤ nodes ∧ nodes ≤ 64 ∧ 4096 < c ∧ G = 61 ∨ 0 ≤ nodes ∧ nodes ≤ 64 ∧ c ≤ 4096 ∧ (∀ K, K = Sha.check seed.data.toList N (nodes + c) (reqBody r) r.tag → G = if K then 0 else 61),
        Calls Try.prog 94 #[rkeys seed N, .int .i64 nodes, .int .i64 clients, .agg r.cells.toArray] w fun e w' => e = .returned (.int .i64 (G : Nat)) ∧ Same w w' := by
      intro hh
      clear hbad hok
      rcases hh with ⟨h1, hg⟩ | ⟨h1, h2, hg⟩ | ⟨h1, h2, h3, hg⟩ | ⟨h1, h2, h3, hg⟩
      · -- case A
        subst hg
        clear m1 m2 m3 m4 m5
        try clear hs
        replace hc := Lib.hid hc
        replace hmay := Lib.hid hmay
        go_enter Try.func94, Try.ntmps94
        go_upto_region 1 with (first | (refine box_row rfl _ _ rfl #[.string seed, .int .i64 (N : Nat)] rfl hinfK.out ?_; intro w0 hbk hs0; have hbkl := blk_lt hbk; replace hbk := Lib.hid hbk; replace hs0 := Lib.hid hs0) | (refine box_row rfl _ _ rfl r.cells.toArray rfl hinf.out ?_; intro w1 hbx hs1; replace hbx := Lib.hid hbx; replace hs1 := Lib.hid hs1))
        have hbk1 := Lib.hid (hs1.out.at hbk.out)
        have hw1 := Lib.hid (hs0.out.trans hs1.out)
        clear hs0 hs1 hbk
        go_wp2_with (refine load_row rfl _ _ rfl w0.heap.size rfl _ _ _ _ hbx.out Try.underlying78 rfl hinf.out ?_)
        refine (hmay.out _).mono ?_
        rintro e w2 ⟨rfl, hs2⟩
        have c02 := req_client (hs2.at hbx.out)
        rw [← hc.out] at c02
        replace c02 := Lib.hid c02
        have hw2 := Lib.hid (hw1.out.trans hs2)
        clear hs2 hw1
        go_upto_region 3 with fail
        go_cut [36] (fun v wx => v = .bool true ∧ Same w2 wx)
        case first =>
          refine wp_region_facts (by kernel_rfl) [(13, 0), (14, 1), (15, 2), (16, 3), (17, 4), (18, 5), (19, 6), (20, 7), (21, 8), (22, 9), (23, 10), (24, 11), (25, 12), (26, 13), (27, 14), (28, 15), (29, 16), (30, 17), (31, 18), (32, 19), (33, 20), (34, 21), (35, 22), (36, 23)] Same (Same _) [isV (.int .i64 nodes), isV (.bool true), isV (.bool true), isV undef, isV undef, isV (.bool true), isV (.bool true), isV undef, isV undef, isV undef, isV (.bool true), isV (.bool true), isV undef, isV undef, isV undef, isV undef, isV undef, isV undef, isV undef, isV undef, isV undef, isV undef, isV undef, isV (.bool true)] Same.refl.drew (fun _ _ h k => h.trans k) (by simp [isV_stable, isB_stable, isAny_stable]) (by decide) (by decide) ?_ ?_
          · refine ⟨?_, ?_, ?_, ?_, ?_, ?_, ?_, ?_, ?_, ?_, ?_, ?_, ?_, ?_, ?_, ?_, ?_, ?_, ?_, ?_, ?_, ?_, ?_, ?_, trivial⟩
            all_goals (intro u wx hI hp; simp only [mkAct, List.foldl_cons, List.foldl_nil, List.setIfInBounds_toArray, List.set_cons_succ, List.set_cons_zero])
            · -- operation 0
              go_wp2
              refine stq_v rfl Same.refl ?_
              first | (simp only [mkAct, List.foldl_cons, List.foldl_nil, List.setIfInBounds_toArray, List.set_cons_succ, List.set_cons_zero, upd, reduceIte, Nat.reduceEqDiff, Nat.reduceAdd, str]; done) | (simp [mkAct, upd, str, *]; done)
            · -- operation 1
              obtain ⟨f0, -⟩ := hp
              replace f0 : u 0 = (.int .i64 nodes) := f0
              try simp only [f0, str]
              go_wp2
              refine stq_v rfl Same.refl ?_
              first | (simp only [mkAct, List.foldl_cons, List.foldl_nil, List.setIfInBounds_toArray, List.set_cons_succ, List.set_cons_zero, upd, reduceIte, Nat.reduceEqDiff, Nat.reduceAdd, f0, str]; done) | (simp [mkAct, upd, f0, str, *]; done)
            · -- operation 2
              obtain ⟨f1, -⟩ := hp
              replace f1 : u 1 = (.bool true) := f1
              try simp only [f1, str]
              go_wp2
              refine stq_v rfl Same.refl ?_
              first | (simp only [mkAct, List.foldl_cons, List.foldl_nil, List.setIfInBounds_toArray, List.set_cons_succ, List.set_cons_zero, upd, reduceIte, Nat.reduceEqDiff, Nat.reduceAdd, f1, str]; done) | (simp [mkAct, upd, f1, str, *]; done)
            · -- operation 3
              obtain ⟨f2, -⟩ := hp
              replace f2 : u 2 = (.bool true) := f2
              try simp only [f2, str]
              go_wp2
              refine stq_v rfl Same.refl ?_
              first | (simp only [mkAct, List.foldl_cons, List.foldl_nil, List.setIfInBounds_toArray, List.set_cons_succ, List.set_cons_zero, upd, reduceIte, Nat.reduceEqDiff, Nat.reduceAdd, f2, str]; done) | (simp [mkAct, upd, f2, str, *]; done)
            · -- operation 4
              obtain ⟨f3, f2, -⟩ := hp
              replace f3 : u 3 = undef := f3
              replace f2 : u 2 = (.bool true) := f2
              try simp only [f3, f2, str]
              go_wp2
              refine stq_v rfl Same.refl ?_
              first | (simp only [mkAct, List.foldl_cons, List.foldl_nil, List.setIfInBounds_toArray, List.set_cons_succ, List.set_cons_zero, upd, reduceIte, Nat.reduceEqDiff, Nat.reduceAdd, f3, f2, str]; done) | (simp [mkAct, upd, f3, f2, str, *]; done)
            · -- operation 5
              obtain ⟨f2, f4, -⟩ := hp
              replace f2 : u 2 = (.bool true) := f2
              replace f4 : u 4 = undef := f4
              try simp only [f2, f4, str]
              go_wp2
              refine stq_v rfl Same.refl ?_
              first | (simp only [mkAct, List.foldl_cons, List.foldl_nil, List.setIfInBounds_toArray, List.set_cons_succ, List.set_cons_zero, upd, reduceIte, Nat.reduceEqDiff, Nat.reduceAdd, f2, f4, str]; done) | (simp [mkAct, upd, f2, f4, str, *]; done)
            · -- operation 6
              obtain ⟨f5, -, -⟩ := hp
              replace f5 : u 5 = (.bool true) := f5
              try simp only [f5, str]
              go_wp2
              refine stq_v rfl Same.refl ?_
              first | (simp only [mkAct, List.foldl_cons, List.foldl_nil, List.setIfInBounds_toArray, List.set_cons_succ, List.set_cons_zero, upd, reduceIte, Nat.reduceEqDiff, Nat.reduceAdd, f5, str]; done) | (simp [mkAct, upd, f5, str, *]; done)
            · -- operation 7
              obtain ⟨f6, -⟩ := hp
              replace f6 : u 6 = (.bool true) := f6
              try simp only [f6, str]
              go_wp2
              refine stq_v rfl Same.refl ?_
              first | (simp only [mkAct, List.foldl_cons, List.foldl_nil, List.setIfInBounds_toArray, List.set_cons_succ, List.set_cons_zero, upd, reduceIte, Nat.reduceEqDiff, Nat.reduceAdd, f6, str]; done) | (simp [mkAct, upd, f6, str, *]; done)
            · -- operation 8
              obtain ⟨f7, f6, -⟩ := hp
              replace f7 : u 7 = undef := f7
              replace f6 : u 6 = (.bool true) := f6
              try simp only [f7, f6, str]
              go_wp2
              refine stq_v rfl Same.refl ?_
              first | (simp only [mkAct, List.foldl_cons, List.foldl_nil, List.setIfInBounds_toArray, List.set_cons_succ, List.set_cons_zero, upd, reduceIte, Nat.reduceEqDiff, Nat.reduceAdd, f7, f6, str]; done) | (simp [mkAct, upd, f7, f6, str, *]; done)
            · -- operation 9
              obtain ⟨f8, f6, -⟩ := hp
              replace f8 : u 8 = undef := f8
              replace f6 : u 6 = (.bool true) := f6
              try simp only [f8, f6, str]
              go_wp2
              refine stq_v rfl Same.refl ?_
              first | (simp only [mkAct, List.foldl_cons, List.foldl_nil, List.setIfInBounds_toArray, List.set_cons_succ, List.set_cons_zero, upd, reduceIte, Nat.reduceEqDiff, Nat.reduceAdd, f8, f6, str]; done) | (simp [mkAct, upd, f8, f6, str, *]; done)
            · -- operation 10
              obtain ⟨f6, f9, -⟩ := hp
              replace f6 : u 6 = (.bool true) := f6
              replace f9 : u 9 = undef := f9
              try simp only [f6, f9, str]
              go_wp2
              refine stq_v rfl Same.refl ?_
              first | (simp only [mkAct, List.foldl_cons, List.foldl_nil, List.setIfInBounds_toArray, List.set_cons_succ, List.set_cons_zero, upd, reduceIte, Nat.reduceEqDiff, Nat.reduceAdd, f6, f9, str]; done) | (simp [mkAct, upd, f6, f9, str, *]; done)
            · -- operation 11
              obtain ⟨f10, -, -⟩ := hp
              replace f10 : u 10 = (.bool true) := f10
              try simp only [f10, str]
              go_wp2
              refine stq_v rfl Same.refl ?_
              first | (simp only [mkAct, List.foldl_cons, List.foldl_nil, List.setIfInBounds_toArray, List.set_cons_succ, List.set_cons_zero, upd, reduceIte, Nat.reduceEqDiff, Nat.reduceAdd, f10, str]; done) | (simp [mkAct, upd, f10, str, *]; done)
            · -- operation 12
              obtain ⟨f11, -⟩ := hp
              replace f11 : u 11 = (.bool true) := f11
              try simp only [f11, str]
              go_wp2
              refine stq_v rfl Same.refl ?_
              first | (simp only [mkAct, List.foldl_cons, List.foldl_nil, List.setIfInBounds_toArray, List.set_cons_succ, List.set_cons_zero, upd, reduceIte, Nat.reduceEqDiff, Nat.reduceAdd, f11, str]; done) | (simp [mkAct, upd, f11, str, *]; done)
            · -- operation 13
              obtain ⟨f11, -⟩ := hp
              replace f11 : u 11 = (.bool true) := f11
              try simp only [f11, str]
              go_wp2
              refine stq_v rfl Same.refl ?_
              first | (simp only [mkAct, List.foldl_cons, List.foldl_nil, List.setIfInBounds_toArray, List.set_cons_succ, List.set_cons_zero, upd, reduceIte, Nat.reduceEqDiff, Nat.reduceAdd, f11, str]; done) | (simp [mkAct, upd, f11, str, *]; done)
            · -- operation 14
              obtain ⟨f11, -⟩ := hp
              replace f11 : u 11 = (.bool true) := f11
              try simp only [f11, str]
              go_wp2
              refine stq_v rfl Same.refl ?_
              first | (simp only [mkAct, List.foldl_cons, List.foldl_nil, List.setIfInBounds_toArray, List.set_cons_succ, List.set_cons_zero, upd, reduceIte, Nat.reduceEqDiff, Nat.reduceAdd, f11, str]; done) | (simp [mkAct, upd, f11, str, *]; done)
            · -- operation 15
              obtain ⟨f14, f11, -⟩ := hp
              replace f14 : u 14 = undef := f14
              replace f11 : u 11 = (.bool true) := f11
              try simp only [f14, f11, str]
              go_wp2
              refine stq_v rfl Same.refl ?_
              first | (simp only [mkAct, List.foldl_cons, List.foldl_nil, List.setIfInBounds_toArray, List.set_cons_succ, List.set_cons_zero, upd, reduceIte, Nat.reduceEqDiff, Nat.reduceAdd, f14, f11, str]; done) | (simp [mkAct, upd, f14, f11, str, *]; done)
            · -- operation 16
              obtain ⟨f13, f15, f11, -⟩ := hp
              replace f13 : u 13 = undef := f13
              replace f15 : u 15 = undef := f15
              replace f11 : u 11 = (.bool true) := f11
              try simp only [f13, f15, f11, str]
              go_wp2
              refine stq_v rfl Same.refl ?_
              first | (simp only [mkAct, List.foldl_cons, List.foldl_nil, List.setIfInBounds_toArray, List.set_cons_succ, List.set_cons_zero, upd, reduceIte, Nat.reduceEqDiff, Nat.reduceAdd, f13, f15, f11, str]; done) | (simp [mkAct, upd, f13, f15, f11, str, *]; done)
            · -- operation 17
              obtain ⟨f11, -⟩ := hp
              replace f11 : u 11 = (.bool true) := f11
              try simp only [f11, str]
              go_wp2
              refine stq_v rfl Same.refl ?_
              first | (simp only [mkAct, List.foldl_cons, List.foldl_nil, List.setIfInBounds_toArray, List.set_cons_succ, List.set_cons_zero, upd, reduceIte, Nat.reduceEqDiff, Nat.reduceAdd, f11, str]; done) | (simp [mkAct, upd, f11, str, *]; done)
            · -- operation 18
              obtain ⟨f17, -, f11, -⟩ := hp
              replace f17 : u 17 = undef := f17
              replace f11 : u 11 = (.bool true) := f11
              try simp only [f17, f11, str]
              go_wp2
              refine stq_v rfl Same.refl ?_
              first | (simp only [mkAct, List.foldl_cons, List.foldl_nil, List.setIfInBounds_toArray, List.set_cons_succ, List.set_cons_zero, upd, reduceIte, Nat.reduceEqDiff, Nat.reduceAdd, f17, f11, str]; done) | (simp [mkAct, upd, f17, f11, str, *]; done)
            · -- operation 19
              obtain ⟨f11, -⟩ := hp
              replace f11 : u 11 = (.bool true) := f11
              try simp only [f11, str]
              go_wp2
              refine stq_v rfl Same.refl ?_
              first | (simp only [mkAct, List.foldl_cons, List.foldl_nil, List.setIfInBounds_toArray, List.set_cons_succ, List.set_cons_zero, upd, reduceIte, Nat.reduceEqDiff, Nat.reduceAdd, f11, str]; done) | (simp [mkAct, upd, f11, str, *]; done)
            · -- operation 20
              obtain ⟨f19, f11, -⟩ := hp
              replace f19 : u 19 = undef := f19
              replace f11 : u 11 = (.bool true) := f11
              try simp only [f19, f11, str]
              go_wp2
              refine stq_v rfl Same.refl ?_
              first | (simp only [mkAct, List.foldl_cons, List.foldl_nil, List.setIfInBounds_toArray, List.set_cons_succ, List.set_cons_zero, upd, reduceIte, Nat.reduceEqDiff, Nat.reduceAdd, f19, f11, str]; done) | (simp [mkAct, upd, f19, f11, str, *]; done)
            · -- operation 21
              obtain ⟨f12, f16, f18, f20, -, f11, -⟩ := hp
              replace f12 : u 12 = undef := f12
              replace f16 : u 16 = undef := f16
              replace f18 : u 18 = undef := f18
              replace f20 : u 20 = undef := f20
              replace f11 : u 11 = (.bool true) := f11
              try simp only [f12, f16, f18, f20, f11, str]
              go_wp2
              refine stq_v rfl Same.refl ?_
              first | (simp only [mkAct, List.foldl_cons, List.foldl_nil, List.setIfInBounds_toArray, List.set_cons_succ, List.set_cons_zero, upd, reduceIte, Nat.reduceEqDiff, Nat.reduceAdd, f12, f16, f18, f20, f11, str]; done) | (simp [mkAct, upd, f12, f16, f18, f20, f11, str, *]; done)
            · -- operation 22
              obtain ⟨f21, f11, -⟩ := hp
              replace f21 : u 21 = undef := f21
              replace f11 : u 11 = (.bool true) := f11
              try simp only [f21, f11, str]
              go_wp2
              refine stq_v rfl Same.refl ?_
              first | (simp only [mkAct, List.foldl_cons, List.foldl_nil, List.setIfInBounds_toArray, List.set_cons_succ, List.set_cons_zero, upd, reduceIte, Nat.reduceEqDiff, Nat.reduceAdd, f21, f11, str]; done) | (simp [mkAct, upd, f21, f11, str, *]; done)
            · -- operation 23
              obtain ⟨f11, f22, -⟩ := hp
              replace f11 : u 11 = (.bool true) := f11
              replace f22 : u 22 = undef := f22
              try simp only [f11, f22, str]
              go_wp2
              refine stq_v rfl Same.refl ?_
              first | (simp only [mkAct, List.foldl_cons, List.foldl_nil, List.setIfInBounds_toArray, List.set_cons_succ, List.set_cons_zero, upd, reduceIte, Nat.reduceEqDiff, Nat.reduceAdd, f11, f22, str]; done) | (simp [mkAct, upd, f11, f22, str, *]; done)
          · intro u wx hI hR
            obtain ⟨r0, r1, r2, r3, r4, r5, r6, r7, r8, r9, r10, r11, r12, r13, r14, r15, r16, r17, r18, r19, r20, r21, r22, r23, -⟩ := hR
            replace r0 : u 0 = (.int .i64 nodes) := r0
            replace r1 : u 1 = (.bool true) := r1
            replace r2 : u 2 = (.bool true) := r2
            replace r3 : u 3 = undef := r3
            replace r4 : u 4 = undef := r4
            replace r5 : u 5 = (.bool true) := r5
            replace r6 : u 6 = (.bool true) := r6
            replace r7 : u 7 = undef := r7
            replace r8 : u 8 = undef := r8
            replace r9 : u 9 = undef := r9
            replace r10 : u 10 = (.bool true) := r10
            replace r11 : u 11 = (.bool true) := r11
            replace r12 : u 12 = undef := r12
            replace r13 : u 13 = undef := r13
            replace r14 : u 14 = undef := r14
            replace r15 : u 15 = undef := r15
            replace r16 : u 16 = undef := r16
            replace r17 : u 17 = undef := r17
            replace r18 : u 18 = undef := r18
            replace r19 : u 19 = undef := r19
            replace r20 : u 20 = undef := r20
            replace r21 : u 21 = undef := r21
            replace r22 : u 22 = undef := r22
            replace r23 : u 23 = (.bool true) := r23
            simp only [mkAct, List.foldl_cons, List.foldl_nil, List.setIfInBounds_toArray, List.set_cons_succ, List.set_cons_zero]
            try simp only [str, r0, r1, r2, r3, r4, r5, r6, r7, r8, r9, r10, r11, r12, r13, r14, r15, r16, r17, r18, r19, r20, r21, r22, r23]
            go_wp2
            go_meet
            exact ⟨rfl, hI⟩
        case rest =>
          obtain ⟨rfl, hs3⟩ := hcut
          go_wp2
          go_ret
          exact ⟨rfl, hw2.out.trans hs3⟩
      · -- case B
        subst hg
        clear m1 m2 m3 m4 m5
        try clear hs
        replace hc := Lib.hid hc
        replace hmay := Lib.hid hmay
        go_enter Try.func94, Try.ntmps94
        go_upto_region 1 with (first | (refine box_row rfl _ _ rfl #[.string seed, .int .i64 (N : Nat)] rfl hinfK.out ?_; intro w0 hbk hs0; have hbkl := blk_lt hbk; replace hbk := Lib.hid hbk; replace hs0 := Lib.hid hs0) | (refine box_row rfl _ _ rfl r.cells.toArray rfl hinf.out ?_; intro w1 hbx hs1; replace hbx := Lib.hid hbx; replace hs1 := Lib.hid hs1))
        have hbk1 := Lib.hid (hs1.out.at hbk.out)
        have hw1 := Lib.hid (hs0.out.trans hs1.out)
        clear hs0 hs1 hbk
        go_wp2_with (refine load_row rfl _ _ rfl w0.heap.size rfl _ _ _ _ hbx.out Try.underlying78 rfl hinf.out ?_)
        refine (hmay.out _).mono ?_
        rintro e w2 ⟨rfl, hs2⟩
        have c02 := req_client (hs2.at hbx.out)
        rw [← hc.out] at c02
        replace c02 := Lib.hid c02
        have hw2 := Lib.hid (hw1.out.trans hs2)
        clear hs2 hw1
        go_upto_region 3 with fail
        go_cut [36] (fun v wx => v = .bool true ∧ Same w2 wx)
        case first =>
          refine wp_region_facts (by kernel_rfl) [(13, 0), (14, 1), (15, 2), (16, 3), (17, 4), (18, 5), (19, 6), (20, 7), (21, 8), (22, 9), (23, 10), (24, 11), (25, 12), (26, 13), (27, 14), (28, 15), (29, 16), (30, 17), (31, 18), (32, 19), (33, 20), (34, 21), (35, 22), (36, 23)] Same (Same _) [isV (.int .i64 nodes), isV (.bool false), isV (.bool false), isV (.int .i64 nodes), isV (.bool true), isV (.bool true), isV (.bool true), isV undef, isV undef, isV undef, isV (.bool true), isV (.bool true), isV undef, isV undef, isV undef, isV undef, isV undef, isV undef, isV undef, isV undef, isV undef, isV undef, isV undef, isV (.bool true)] Same.refl.drew (fun _ _ h k => h.trans k) (by simp [isV_stable, isB_stable, isAny_stable]) (by decide) (by decide) ?_ ?_
          · refine ⟨?_, ?_, ?_, ?_, ?_, ?_, ?_, ?_, ?_, ?_, ?_, ?_, ?_, ?_, ?_, ?_, ?_, ?_, ?_, ?_, ?_, ?_, ?_, ?_, trivial⟩
            all_goals (intro u wx hI hp; simp only [mkAct, List.foldl_cons, List.foldl_nil, List.setIfInBounds_toArray, List.set_cons_succ, List.set_cons_zero])
            · -- operation 0
              go_wp2
              refine stq_v rfl Same.refl ?_
              first | (simp only [mkAct, List.foldl_cons, List.foldl_nil, List.setIfInBounds_toArray, List.set_cons_succ, List.set_cons_zero, upd, reduceIte, Nat.reduceEqDiff, Nat.reduceAdd, str]; done) | (simp [mkAct, upd, str, *]; done)
            · -- operation 1
              obtain ⟨f0, -⟩ := hp
              replace f0 : u 0 = (.int .i64 nodes) := f0
              try simp only [f0, str]
              go_wp2
              refine stq_v rfl Same.refl ?_
              first | (simp only [mkAct, List.foldl_cons, List.foldl_nil, List.setIfInBounds_toArray, List.set_cons_succ, List.set_cons_zero, upd, reduceIte, Nat.reduceEqDiff, Nat.reduceAdd, f0, str]; done) | (simp [mkAct, upd, f0, str, *]; done)
            · -- operation 2
              obtain ⟨f1, -⟩ := hp
              replace f1 : u 1 = (.bool false) := f1
              try simp only [f1, str]
              go_wp2
              refine stq_v rfl Same.refl ?_
              first | (simp only [mkAct, List.foldl_cons, List.foldl_nil, List.setIfInBounds_toArray, List.set_cons_succ, List.set_cons_zero, upd, reduceIte, Nat.reduceEqDiff, Nat.reduceAdd, f1, str]; done) | (simp [mkAct, upd, f1, str, *]; done)
            · -- operation 3
              obtain ⟨f2, -⟩ := hp
              replace f2 : u 2 = (.bool false) := f2
              try simp only [f2, str]
              go_wp2
              refine stq_v rfl Same.refl ?_
              first | (simp only [mkAct, List.foldl_cons, List.foldl_nil, List.setIfInBounds_toArray, List.set_cons_succ, List.set_cons_zero, upd, reduceIte, Nat.reduceEqDiff, Nat.reduceAdd, f2, str]; done) | (simp [mkAct, upd, f2, str, *]; done)
            · -- operation 4
              obtain ⟨f3, f2, -⟩ := hp
              replace f3 : u 3 = (.int .i64 nodes) := f3
              replace f2 : u 2 = (.bool false) := f2
              try simp only [f3, f2, str]
              go_wp2
              refine stq_v rfl Same.refl ?_
              first | (simp only [mkAct, List.foldl_cons, List.foldl_nil, List.setIfInBounds_toArray, List.set_cons_succ, List.set_cons_zero, upd, reduceIte, Nat.reduceEqDiff, Nat.reduceAdd, f3, f2, str]; done) | (simp [mkAct, upd, f3, f2, str, *]; done)
            · -- operation 5
              obtain ⟨f2, f4, -⟩ := hp
              replace f2 : u 2 = (.bool false) := f2
              replace f4 : u 4 = (.bool true) := f4
              try simp only [f2, f4, str]
              go_wp2
              refine stq_v rfl Same.refl ?_
              first | (simp only [mkAct, List.foldl_cons, List.foldl_nil, List.setIfInBounds_toArray, List.set_cons_succ, List.set_cons_zero, upd, reduceIte, Nat.reduceEqDiff, Nat.reduceAdd, f2, f4, str]; done) | (simp [mkAct, upd, f2, f4, str, *]; done)
            · -- operation 6
              obtain ⟨f5, -, -⟩ := hp
              replace f5 : u 5 = (.bool true) := f5
              try simp only [f5, str]
              go_wp2
              refine stq_v rfl Same.refl ?_
              first | (simp only [mkAct, List.foldl_cons, List.foldl_nil, List.setIfInBounds_toArray, List.set_cons_succ, List.set_cons_zero, upd, reduceIte, Nat.reduceEqDiff, Nat.reduceAdd, f5, str]; done) | (simp [mkAct, upd, f5, str, *]; done)
            · -- operation 7
              obtain ⟨f6, -⟩ := hp
              replace f6 : u 6 = (.bool true) := f6
              try simp only [f6, str]
              go_wp2
              refine stq_v rfl Same.refl ?_
              first | (simp only [mkAct, List.foldl_cons, List.foldl_nil, List.setIfInBounds_toArray, List.set_cons_succ, List.set_cons_zero, upd, reduceIte, Nat.reduceEqDiff, Nat.reduceAdd, f6, str]; done) | (simp [mkAct, upd, f6, str, *]; done)
            · -- operation 8
              obtain ⟨f7, f6, -⟩ := hp
              replace f7 : u 7 = undef := f7
              replace f6 : u 6 = (.bool true) := f6
              try simp only [f7, f6, str]
              go_wp2
              refine stq_v rfl Same.refl ?_
              first | (simp only [mkAct, List.foldl_cons, List.foldl_nil, List.setIfInBounds_toArray, List.set_cons_succ, List.set_cons_zero, upd, reduceIte, Nat.reduceEqDiff, Nat.reduceAdd, f7, f6, str]; done) | (simp [mkAct, upd, f7, f6, str, *]; done)
            · -- operation 9
              obtain ⟨f8, f6, -⟩ := hp
              replace f8 : u 8 = undef := f8
              replace f6 : u 6 = (.bool true) := f6
              try simp only [f8, f6, str]
              go_wp2
              refine stq_v rfl Same.refl ?_
              first | (simp only [mkAct, List.foldl_cons, List.foldl_nil, List.setIfInBounds_toArray, List.set_cons_succ, List.set_cons_zero, upd, reduceIte, Nat.reduceEqDiff, Nat.reduceAdd, f8, f6, str]; done) | (simp [mkAct, upd, f8, f6, str, *]; done)
            · -- operation 10
              obtain ⟨f6, f9, -⟩ := hp
              replace f6 : u 6 = (.bool true) := f6
              replace f9 : u 9 = undef := f9
              try simp only [f6, f9, str]
              go_wp2
              refine stq_v rfl Same.refl ?_
              first | (simp only [mkAct, List.foldl_cons, List.foldl_nil, List.setIfInBounds_toArray, List.set_cons_succ, List.set_cons_zero, upd, reduceIte, Nat.reduceEqDiff, Nat.reduceAdd, f6, f9, str]; done) | (simp [mkAct, upd, f6, f9, str, *]; done)
            · -- operation 11
              obtain ⟨f10, -, -⟩ := hp
              replace f10 : u 10 = (.bool true) := f10
              try simp only [f10, str]
              go_wp2
              refine stq_v rfl Same.refl ?_
              first | (simp only [mkAct, List.foldl_cons, List.foldl_nil, List.setIfInBounds_toArray, List.set_cons_succ, List.set_cons_zero, upd, reduceIte, Nat.reduceEqDiff, Nat.reduceAdd, f10, str]; done) | (simp [mkAct, upd, f10, str, *]; done)
            · -- operation 12
              obtain ⟨f11, -⟩ := hp
              replace f11 : u 11 = (.bool true) := f11
              try simp only [f11, str]
              go_wp2
              refine stq_v rfl Same.refl ?_
              first | (simp only [mkAct, List.foldl_cons, List.foldl_nil, List.setIfInBounds_toArray, List.set_cons_succ, List.set_cons_zero, upd, reduceIte, Nat.reduceEqDiff, Nat.reduceAdd, f11, str]; done) | (simp [mkAct, upd, f11, str, *]; done)
            · -- operation 13
              obtain ⟨f11, -⟩ := hp
              replace f11 : u 11 = (.bool true) := f11
              try simp only [f11, str]
              go_wp2
              refine stq_v rfl Same.refl ?_
              first | (simp only [mkAct, List.foldl_cons, List.foldl_nil, List.setIfInBounds_toArray, List.set_cons_succ, List.set_cons_zero, upd, reduceIte, Nat.reduceEqDiff, Nat.reduceAdd, f11, str]; done) | (simp [mkAct, upd, f11, str, *]; done)
            · -- operation 14
              obtain ⟨f11, -⟩ := hp
              replace f11 : u 11 = (.bool true) := f11
              try simp only [f11, str]
              go_wp2
              refine stq_v rfl Same.refl ?_
              first | (simp only [mkAct, List.foldl_cons, List.foldl_nil, List.setIfInBounds_toArray, List.set_cons_succ, List.set_cons_zero, upd, reduceIte, Nat.reduceEqDiff, Nat.reduceAdd, f11, str]; done) | (simp [mkAct, upd, f11, str, *]; done)
            · -- operation 15
              obtain ⟨f14, f11, -⟩ := hp
              replace f14 : u 14 = undef := f14
              replace f11 : u 11 = (.bool true) := f11
              try simp only [f14, f11, str]
              go_wp2
              refine stq_v rfl Same.refl ?_
              first | (simp only [mkAct, List.foldl_cons, List.foldl_nil, List.setIfInBounds_toArray, List.set_cons_succ, List.set_cons_zero, upd, reduceIte, Nat.reduceEqDiff, Nat.reduceAdd, f14, f11, str]; done) | (simp [mkAct, upd, f14, f11, str, *]; done)
            · -- operation 16
              obtain ⟨f13, f15, f11, -⟩ := hp
              replace f13 : u 13 = undef := f13
              replace f15 : u 15 = undef := f15
              replace f11 : u 11 = (.bool true) := f11
              try simp only [f13, f15, f11, str]
              go_wp2
              refine stq_v rfl Same.refl ?_
              first | (simp only [mkAct, List.foldl_cons, List.foldl_nil, List.setIfInBounds_toArray, List.set_cons_succ, List.set_cons_zero, upd, reduceIte, Nat.reduceEqDiff, Nat.reduceAdd, f13, f15, f11, str]; done) | (simp [mkAct, upd, f13, f15, f11, str, *]; done)
            · -- operation 17
              obtain ⟨f11, -⟩ := hp
              replace f11 : u 11 = (.bool true) := f11
              try simp only [f11, str]
              go_wp2
              refine stq_v rfl Same.refl ?_
              first | (simp only [mkAct, List.foldl_cons, List.foldl_nil, List.setIfInBounds_toArray, List.set_cons_succ, List.set_cons_zero, upd, reduceIte, Nat.reduceEqDiff, Nat.reduceAdd, f11, str]; done) | (simp [mkAct, upd, f11, str, *]; done)
            · -- operation 18
              obtain ⟨f17, -, f11, -⟩ := hp
              replace f17 : u 17 = undef := f17
              replace f11 : u 11 = (.bool true) := f11
              try simp only [f17, f11, str]
              go_wp2
              refine stq_v rfl Same.refl ?_
              first | (simp only [mkAct, List.foldl_cons, List.foldl_nil, List.setIfInBounds_toArray, List.set_cons_succ, List.set_cons_zero, upd, reduceIte, Nat.reduceEqDiff, Nat.reduceAdd, f17, f11, str]; done) | (simp [mkAct, upd, f17, f11, str, *]; done)
            · -- operation 19
              obtain ⟨f11, -⟩ := hp
              replace f11 : u 11 = (.bool true) := f11
              try simp only [f11, str]
              go_wp2
              refine stq_v rfl Same.refl ?_
              first | (simp only [mkAct, List.foldl_cons, List.foldl_nil, List.setIfInBounds_toArray, List.set_cons_succ, List.set_cons_zero, upd, reduceIte, Nat.reduceEqDiff, Nat.reduceAdd, f11, str]; done) | (simp [mkAct, upd, f11, str, *]; done)
            · -- operation 20
              obtain ⟨f19, f11, -⟩ := hp
              replace f19 : u 19 = undef := f19
              replace f11 : u 11 = (.bool true) := f11
              try simp only [f19, f11, str]
              go_wp2
              refine stq_v rfl Same.refl ?_
              first | (simp only [mkAct, List.foldl_cons, List.foldl_nil, List.setIfInBounds_toArray, List.set_cons_succ, List.set_cons_zero, upd, reduceIte, Nat.reduceEqDiff, Nat.reduceAdd, f19, f11, str]; done) | (simp [mkAct, upd, f19, f11, str, *]; done)
            · -- operation 21
              obtain ⟨f12, f16, f18, f20, -, f11, -⟩ := hp
              replace f12 : u 12 = undef := f12
              replace f16 : u 16 = undef := f16
              replace f18 : u 18 = undef := f18
              replace f20 : u 20 = undef := f20
              replace f11 : u 11 = (.bool true) := f11
              try simp only [f12, f16, f18, f20, f11, str]
              go_wp2
              refine stq_v rfl Same.refl ?_
              first | (simp only [mkAct, List.foldl_cons, List.foldl_nil, List.setIfInBounds_toArray, List.set_cons_succ, List.set_cons_zero, upd, reduceIte, Nat.reduceEqDiff, Nat.reduceAdd, f12, f16, f18, f20, f11, str]; done) | (simp [mkAct, upd, f12, f16, f18, f20, f11, str, *]; done)
            · -- operation 22
              obtain ⟨f21, f11, -⟩ := hp
              replace f21 : u 21 = undef := f21
              replace f11 : u 11 = (.bool true) := f11
              try simp only [f21, f11, str]
              go_wp2
              refine stq_v rfl Same.refl ?_
              first | (simp only [mkAct, List.foldl_cons, List.foldl_nil, List.setIfInBounds_toArray, List.set_cons_succ, List.set_cons_zero, upd, reduceIte, Nat.reduceEqDiff, Nat.reduceAdd, f21, f11, str]; done) | (simp [mkAct, upd, f21, f11, str, *]; done)
            · -- operation 23
              obtain ⟨f11, f22, -⟩ := hp
              replace f11 : u 11 = (.bool true) := f11
              replace f22 : u 22 = undef := f22
              try simp only [f11, f22, str]
              go_wp2
              refine stq_v rfl Same.refl ?_
              first | (simp only [mkAct, List.foldl_cons, List.foldl_nil, List.setIfInBounds_toArray, List.set_cons_succ, List.set_cons_zero, upd, reduceIte, Nat.reduceEqDiff, Nat.reduceAdd, f11, f22, str]; done) | (simp [mkAct, upd, f11, f22, str, *]; done)
          · intro u wx hI hR
            obtain ⟨r0, r1, r2, r3, r4, r5, r6, r7, r8, r9, r10, r11, r12, r13, r14, r15, r16, r17, r18, r19, r20, r21, r22, r23, -⟩ := hR
            replace r0 : u 0 = (.int .i64 nodes) := r0
            replace r1 : u 1 = (.bool false) := r1
            replace r2 : u 2 = (.bool false) := r2
            replace r3 : u 3 = (.int .i64 nodes) := r3
            replace r4 : u 4 = (.bool true) := r4
            replace r5 : u 5 = (.bool true) := r5
            replace r6 : u 6 = (.bool true) := r6
            replace r7 : u 7 = undef := r7
            replace r8 : u 8 = undef := r8
            replace r9 : u 9 = undef := r9
            replace r10 : u 10 = (.bool true) := r10
            replace r11 : u 11 = (.bool true) := r11
            replace r12 : u 12 = undef := r12
            replace r13 : u 13 = undef := r13
            replace r14 : u 14 = undef := r14
            replace r15 : u 15 = undef := r15
            replace r16 : u 16 = undef := r16
            replace r17 : u 17 = undef := r17
            replace r18 : u 18 = undef := r18
            replace r19 : u 19 = undef := r19
            replace r20 : u 20 = undef := r20
            replace r21 : u 21 = undef := r21
            replace r22 : u 22 = undef := r22
            replace r23 : u 23 = (.bool true) := r23
            simp only [mkAct, List.foldl_cons, List.foldl_nil, List.setIfInBounds_toArray, List.set_cons_succ, List.set_cons_zero]
            try simp only [str, r0, r1, r2, r3, r4, r5, r6, r7, r8, r9, r10, r11, r12, r13, r14, r15, r16, r17, r18, r19, r20, r21, r22, r23]
            go_wp2
            go_meet
            exact ⟨rfl, hI⟩
        case rest =>
          obtain ⟨rfl, hs3⟩ := hcut
          go_wp2
          go_ret
          exact ⟨rfl, hw2.out.trans hs3⟩
      · -- case C
        subst hg
        clear m1 m2 m3 m4 m5
        try clear hs
        replace hc := Lib.hid hc
        replace hmay := Lib.hid hmay
        go_enter Try.func94, Try.ntmps94
        go_upto_region 1 with (first | (refine box_row rfl _ _ rfl #[.string seed, .int .i64 (N : Nat)] rfl hinfK.out ?_; intro w0 hbk hs0; have hbkl := blk_lt hbk; replace hbk := Lib.hid hbk; replace hs0 := Lib.hid hs0) | (refine box_row rfl _ _ rfl r.cells.toArray rfl hinf.out ?_; intro w1 hbx hs1; replace hbx := Lib.hid hbx; replace hs1 := Lib.hid hs1))
        have hbk1 := Lib.hid (hs1.out.at hbk.out)
        have hw1 := Lib.hid (hs0.out.trans hs1.out)
        clear hs0 hs1 hbk
        go_wp2_with (refine load_row rfl _ _ rfl w0.heap.size rfl _ _ _ _ hbx.out Try.underlying78 rfl hinf.out ?_)
        refine (hmay.out _).mono ?_
        rintro e w2 ⟨rfl, hs2⟩
        have c02 := req_client (hs2.at hbx.out)
        rw [← hc.out] at c02
        replace c02 := Lib.hid c02
        have hw2 := Lib.hid (hw1.out.trans hs2)
        clear hs2 hw1
        go_upto_region 3 with fail
        go_cut [36] (fun v wx => v = .bool true ∧ Same w2 wx)
        case first =>
          refine wp_region_facts (by kernel_rfl) [(13, 0), (14, 1), (15, 2), (16, 3), (17, 4), (18, 5), (19, 6), (20, 7), (21, 8), (22, 9), (23, 10), (24, 11), (25, 12), (26, 13), (27, 14), (28, 15), (29, 16), (30, 17), (31, 18), (32, 19), (33, 20), (34, 21), (35, 22), (36, 23)] Same (Same _) [isV (.int .i64 nodes), isV (.bool false), isV (.bool false), isV (.int .i64 nodes), isV (.bool false), isV (.bool false), isV (.bool false), isV (.pointer (some ⟨w0.heap.size, 0, none⟩)), isV (.int .i64 c), isV (.bool true), isV (.bool true), isV (.bool true), isV undef, isV undef, isV undef, isV undef, isV undef, isV undef, isV undef, isV undef, isV undef, isV undef, isV undef, isV (.bool true)] Same.refl.drew (fun _ _ h k => h.trans k) (by simp [isV_stable, isB_stable, isAny_stable]) (by decide) (by decide) ?_ ?_
          · refine ⟨?_, ?_, ?_, ?_, ?_, ?_, ?_, ?_, ?_, ?_, ?_, ?_, ?_, ?_, ?_, ?_, ?_, ?_, ?_, ?_, ?_, ?_, ?_, ?_, trivial⟩
            all_goals (intro u wx hI hp; simp only [mkAct, List.foldl_cons, List.foldl_nil, List.setIfInBounds_toArray, List.set_cons_succ, List.set_cons_zero])
            · -- operation 0
              go_wp2
              refine stq_v rfl Same.refl ?_
              first | (simp only [mkAct, List.foldl_cons, List.foldl_nil, List.setIfInBounds_toArray, List.set_cons_succ, List.set_cons_zero, upd, reduceIte, Nat.reduceEqDiff, Nat.reduceAdd, str]; done) | (simp [mkAct, upd, str, *]; done)
            · -- operation 1
              obtain ⟨f0, -⟩ := hp
              replace f0 : u 0 = (.int .i64 nodes) := f0
              try simp only [f0, str]
              go_wp2
              refine stq_v rfl Same.refl ?_
              first | (simp only [mkAct, List.foldl_cons, List.foldl_nil, List.setIfInBounds_toArray, List.set_cons_succ, List.set_cons_zero, upd, reduceIte, Nat.reduceEqDiff, Nat.reduceAdd, f0, str]; done) | (simp [mkAct, upd, f0, str, *]; done)
            · -- operation 2
              obtain ⟨f1, -⟩ := hp
              replace f1 : u 1 = (.bool false) := f1
              try simp only [f1, str]
              go_wp2
              refine stq_v rfl Same.refl ?_
              first | (simp only [mkAct, List.foldl_cons, List.foldl_nil, List.setIfInBounds_toArray, List.set_cons_succ, List.set_cons_zero, upd, reduceIte, Nat.reduceEqDiff, Nat.reduceAdd, f1, str]; done) | (simp [mkAct, upd, f1, str, *]; done)
            · -- operation 3
              obtain ⟨f2, -⟩ := hp
              replace f2 : u 2 = (.bool false) := f2
              try simp only [f2, str]
              go_wp2
              refine stq_v rfl Same.refl ?_
              first | (simp only [mkAct, List.foldl_cons, List.foldl_nil, List.setIfInBounds_toArray, List.set_cons_succ, List.set_cons_zero, upd, reduceIte, Nat.reduceEqDiff, Nat.reduceAdd, f2, str]; done) | (simp [mkAct, upd, f2, str, *]; done)
            · -- operation 4
              obtain ⟨f3, f2, -⟩ := hp
              replace f3 : u 3 = (.int .i64 nodes) := f3
              replace f2 : u 2 = (.bool false) := f2
              try simp only [f3, f2, str]
              go_wp2
              refine stq_v rfl Same.refl ?_
              first | (simp only [mkAct, List.foldl_cons, List.foldl_nil, List.setIfInBounds_toArray, List.set_cons_succ, List.set_cons_zero, upd, reduceIte, Nat.reduceEqDiff, Nat.reduceAdd, f3, f2, str]; done) | (simp [mkAct, upd, f3, f2, str, *]; done)
            · -- operation 5
              obtain ⟨f2, f4, -⟩ := hp
              replace f2 : u 2 = (.bool false) := f2
              replace f4 : u 4 = (.bool false) := f4
              try simp only [f2, f4, str]
              go_wp2
              refine stq_v rfl Same.refl ?_
              first | (simp only [mkAct, List.foldl_cons, List.foldl_nil, List.setIfInBounds_toArray, List.set_cons_succ, List.set_cons_zero, upd, reduceIte, Nat.reduceEqDiff, Nat.reduceAdd, f2, f4, str]; done) | (simp [mkAct, upd, f2, f4, str, *]; done)
            · -- operation 6
              obtain ⟨f5, -, -⟩ := hp
              replace f5 : u 5 = (.bool false) := f5
              try simp only [f5, str]
              go_wp2
              refine stq_v rfl Same.refl ?_
              first | (simp only [mkAct, List.foldl_cons, List.foldl_nil, List.setIfInBounds_toArray, List.set_cons_succ, List.set_cons_zero, upd, reduceIte, Nat.reduceEqDiff, Nat.reduceAdd, f5, str]; done) | (simp [mkAct, upd, f5, str, *]; done)
            · -- operation 7
              obtain ⟨f6, -⟩ := hp
              replace f6 : u 6 = (.bool false) := f6
              try simp only [f6, str]
              go_wp2
              refine stq_v rfl Same.refl ?_
              first | (simp only [mkAct, List.foldl_cons, List.foldl_nil, List.setIfInBounds_toArray, List.set_cons_succ, List.set_cons_zero, upd, reduceIte, Nat.reduceEqDiff, Nat.reduceAdd, f6, str]; done) | (simp [mkAct, upd, f6, str, *]; done)
            · -- operation 8
              obtain ⟨f7, f6, -⟩ := hp
              replace f7 : u 7 = (.pointer (some ⟨w0.heap.size, 0, none⟩)) := f7
              replace f6 : u 6 = (.bool false) := f6
              try simp only [f7, f6, str]
              have cx := hI.cell (c02.out)
              go_wp2
              refine stq_v rfl Same.refl ?_
              first | (simp only [mkAct, List.foldl_cons, List.foldl_nil, List.setIfInBounds_toArray, List.set_cons_succ, List.set_cons_zero, upd, reduceIte, Nat.reduceEqDiff, Nat.reduceAdd, f7, f6, str]; done) | (simp [mkAct, upd, f7, f6, str, *]; done)
            · -- operation 9
              obtain ⟨f8, f6, -⟩ := hp
              replace f8 : u 8 = (.int .i64 c) := f8
              replace f6 : u 6 = (.bool false) := f6
              try simp only [f8, f6, str]
              go_wp2
              refine stq_v rfl Same.refl ?_
              first | (simp only [mkAct, List.foldl_cons, List.foldl_nil, List.setIfInBounds_toArray, List.set_cons_succ, List.set_cons_zero, upd, reduceIte, Nat.reduceEqDiff, Nat.reduceAdd, f8, f6, str]; done) | (simp [mkAct, upd, f8, f6, str, *]; done)
            · -- operation 10
              obtain ⟨f6, f9, -⟩ := hp
              replace f6 : u 6 = (.bool false) := f6
              replace f9 : u 9 = (.bool true) := f9
              try simp only [f6, f9, str]
              go_wp2
              refine stq_v rfl Same.refl ?_
              first | (simp only [mkAct, List.foldl_cons, List.foldl_nil, List.setIfInBounds_toArray, List.set_cons_succ, List.set_cons_zero, upd, reduceIte, Nat.reduceEqDiff, Nat.reduceAdd, f6, f9, str]; done) | (simp [mkAct, upd, f6, f9, str, *]; done)
            · -- operation 11
              obtain ⟨f10, -, -⟩ := hp
              replace f10 : u 10 = (.bool true) := f10
              try simp only [f10, str]
              go_wp2
              refine stq_v rfl Same.refl ?_
              first | (simp only [mkAct, List.foldl_cons, List.foldl_nil, List.setIfInBounds_toArray, List.set_cons_succ, List.set_cons_zero, upd, reduceIte, Nat.reduceEqDiff, Nat.reduceAdd, f10, str]; done) | (simp [mkAct, upd, f10, str, *]; done)
            · -- operation 12
              obtain ⟨f11, -⟩ := hp
              replace f11 : u 11 = (.bool true) := f11
              try simp only [f11, str]
              go_wp2
              refine stq_v rfl Same.refl ?_
              first | (simp only [mkAct, List.foldl_cons, List.foldl_nil, List.setIfInBounds_toArray, List.set_cons_succ, List.set_cons_zero, upd, reduceIte, Nat.reduceEqDiff, Nat.reduceAdd, f11, str]; done) | (simp [mkAct, upd, f11, str, *]; done)
            · -- operation 13
              obtain ⟨f11, -⟩ := hp
              replace f11 : u 11 = (.bool true) := f11
              try simp only [f11, str]
              go_wp2
              refine stq_v rfl Same.refl ?_
              first | (simp only [mkAct, List.foldl_cons, List.foldl_nil, List.setIfInBounds_toArray, List.set_cons_succ, List.set_cons_zero, upd, reduceIte, Nat.reduceEqDiff, Nat.reduceAdd, f11, str]; done) | (simp [mkAct, upd, f11, str, *]; done)
            · -- operation 14
              obtain ⟨f11, -⟩ := hp
              replace f11 : u 11 = (.bool true) := f11
              try simp only [f11, str]
              go_wp2
              refine stq_v rfl Same.refl ?_
              first | (simp only [mkAct, List.foldl_cons, List.foldl_nil, List.setIfInBounds_toArray, List.set_cons_succ, List.set_cons_zero, upd, reduceIte, Nat.reduceEqDiff, Nat.reduceAdd, f11, str]; done) | (simp [mkAct, upd, f11, str, *]; done)
            · -- operation 15
              obtain ⟨f14, f11, -⟩ := hp
              replace f14 : u 14 = undef := f14
              replace f11 : u 11 = (.bool true) := f11
              try simp only [f14, f11, str]
              go_wp2
              refine stq_v rfl Same.refl ?_
              first | (simp only [mkAct, List.foldl_cons, List.foldl_nil, List.setIfInBounds_toArray, List.set_cons_succ, List.set_cons_zero, upd, reduceIte, Nat.reduceEqDiff, Nat.reduceAdd, f14, f11, str]; done) | (simp [mkAct, upd, f14, f11, str, *]; done)
            · -- operation 16
              obtain ⟨f13, f15, f11, -⟩ := hp
              replace f13 : u 13 = undef := f13
              replace f15 : u 15 = undef := f15
              replace f11 : u 11 = (.bool true) := f11
              try simp only [f13, f15, f11, str]
              go_wp2
              refine stq_v rfl Same.refl ?_
              first | (simp only [mkAct, List.foldl_cons, List.foldl_nil, List.setIfInBounds_toArray, List.set_cons_succ, List.set_cons_zero, upd, reduceIte, Nat.reduceEqDiff, Nat.reduceAdd, f13, f15, f11, str]; done) | (simp [mkAct, upd, f13, f15, f11, str, *]; done)
            · -- operation 17
              obtain ⟨f11, -⟩ := hp
              replace f11 : u 11 = (.bool true) := f11
              try simp only [f11, str]
              go_wp2
              refine stq_v rfl Same.refl ?_
              first | (simp only [mkAct, List.foldl_cons, List.foldl_nil, List.setIfInBounds_toArray, List.set_cons_succ, List.set_cons_zero, upd, reduceIte, Nat.reduceEqDiff, Nat.reduceAdd, f11, str]; done) | (simp [mkAct, upd, f11, str, *]; done)
            · -- operation 18
              obtain ⟨f17, -, f11, -⟩ := hp
              replace f17 : u 17 = undef := f17
              replace f11 : u 11 = (.bool true) := f11
              try simp only [f17, f11, str]
              go_wp2
              refine stq_v rfl Same.refl ?_
              first | (simp only [mkAct, List.foldl_cons, List.foldl_nil, List.setIfInBounds_toArray, List.set_cons_succ, List.set_cons_zero, upd, reduceIte, Nat.reduceEqDiff, Nat.reduceAdd, f17, f11, str]; done) | (simp [mkAct, upd, f17, f11, str, *]; done)
            · -- operation 19
              obtain ⟨f11, -⟩ := hp
              replace f11 : u 11 = (.bool true) := f11
              try simp only [f11, str]
              go_wp2
              refine stq_v rfl Same.refl ?_
              first | (simp only [mkAct, List.foldl_cons, List.foldl_nil, List.setIfInBounds_toArray, List.set_cons_succ, List.set_cons_zero, upd, reduceIte, Nat.reduceEqDiff, Nat.reduceAdd, f11, str]; done) | (simp [mkAct, upd, f11, str, *]; done)
            · -- operation 20
              obtain ⟨f19, f11, -⟩ := hp
              replace f19 : u 19 = undef := f19
              replace f11 : u 11 = (.bool true) := f11
              try simp only [f19, f11, str]
              go_wp2
              refine stq_v rfl Same.refl ?_
              first | (simp only [mkAct, List.foldl_cons, List.foldl_nil, List.setIfInBounds_toArray, List.set_cons_succ, List.set_cons_zero, upd, reduceIte, Nat.reduceEqDiff, Nat.reduceAdd, f19, f11, str]; done) | (simp [mkAct, upd, f19, f11, str, *]; done)
            · -- operation 21
              obtain ⟨f12, f16, f18, f20, -, f11, -⟩ := hp
              replace f12 : u 12 = undef := f12
              replace f16 : u 16 = undef := f16
              replace f18 : u 18 = undef := f18
              replace f20 : u 20 = undef := f20
              replace f11 : u 11 = (.bool true) := f11
              try simp only [f12, f16, f18, f20, f11, str]
              go_wp2
              refine stq_v rfl Same.refl ?_
              first | (simp only [mkAct, List.foldl_cons, List.foldl_nil, List.setIfInBounds_toArray, List.set_cons_succ, List.set_cons_zero, upd, reduceIte, Nat.reduceEqDiff, Nat.reduceAdd, f12, f16, f18, f20, f11, str]; done) | (simp [mkAct, upd, f12, f16, f18, f20, f11, str, *]; done)
            · -- operation 22
              obtain ⟨f21, f11, -⟩ := hp
              replace f21 : u 21 = undef := f21
              replace f11 : u 11 = (.bool true) := f11
              try simp only [f21, f11, str]
              go_wp2
              refine stq_v rfl Same.refl ?_
              first | (simp only [mkAct, List.foldl_cons, List.foldl_nil, List.setIfInBounds_toArray, List.set_cons_succ, List.set_cons_zero, upd, reduceIte, Nat.reduceEqDiff, Nat.reduceAdd, f21, f11, str]; done) | (simp [mkAct, upd, f21, f11, str, *]; done)
            · -- operation 23
              obtain ⟨f11, f22, -⟩ := hp
              replace f11 : u 11 = (.bool true) := f11
              replace f22 : u 22 = undef := f22
              try simp only [f11, f22, str]
              go_wp2
              refine stq_v rfl Same.refl ?_
              first | (simp only [mkAct, List.foldl_cons, List.foldl_nil, List.setIfInBounds_toArray, List.set_cons_succ, List.set_cons_zero, upd, reduceIte, Nat.reduceEqDiff, Nat.reduceAdd, f11, f22, str]; done) | (simp [mkAct, upd, f11, f22, str, *]; done)
          · intro u wx hI hR
            obtain ⟨r0, r1, r2, r3, r4, r5, r6, r7, r8, r9, r10, r11, r12, r13, r14, r15, r16, r17, r18, r19, r20, r21, r22, r23, -⟩ := hR
            replace r0 : u 0 = (.int .i64 nodes) := r0
            replace r1 : u 1 = (.bool false) := r1
            replace r2 : u 2 = (.bool false) := r2
            replace r3 : u 3 = (.int .i64 nodes) := r3
            replace r4 : u 4 = (.bool false) := r4
            replace r5 : u 5 = (.bool false) := r5
            replace r6 : u 6 = (.bool false) := r6
            replace r7 : u 7 = (.pointer (some ⟨w0.heap.size, 0, none⟩)) := r7
            replace r8 : u 8 = (.int .i64 c) := r8
            replace r9 : u 9 = (.bool true) := r9
            replace r10 : u 10 = (.bool true) := r10
            replace r11 : u 11 = (.bool true) := r11
            replace r12 : u 12 = undef := r12
            replace r13 : u 13 = undef := r13
            replace r14 : u 14 = undef := r14
            replace r15 : u 15 = undef := r15
            replace r16 : u 16 = undef := r16
            replace r17 : u 17 = undef := r17
            replace r18 : u 18 = undef := r18
            replace r19 : u 19 = undef := r19
            replace r20 : u 20 = undef := r20
            replace r21 : u 21 = undef := r21
            replace r22 : u 22 = undef := r22
            replace r23 : u 23 = (.bool true) := r23
            simp only [mkAct, List.foldl_cons, List.foldl_nil, List.setIfInBounds_toArray, List.set_cons_succ, List.set_cons_zero]
            try simp only [str, r0, r1, r2, r3, r4, r5, r6, r7, r8, r9, r10, r11, r12, r13, r14, r15, r16, r17, r18, r19, r20, r21, r22, r23]
            go_wp2
            go_meet
            exact ⟨rfl, hI⟩
        case rest =>
          obtain ⟨rfl, hs3⟩ := hcut
          go_wp2
          go_ret
          exact ⟨rfl, hw2.out.trans hs3⟩
      · have hck := fun w => rcheck_any w seed N (nodes + c) ⟨(reqBody r).toArray⟩ r.tag ht hs (by have := reqBody_le r (by omega) (by omega) (by omega); show (reqBody r).toArray.size ≤ _; rw [List.size_toArray]; omega) (by omega)
        have hbd := fun w => rqrbody_any r w ht (by omega) (by omega) (by omega)
        replace hg := hg _ rfl
        rw [show ((⟨(reqBody r).toArray⟩ : ByteArray).data.toList) = reqBody r from rfl] at hck
        simp only [← Sha.rcheck_eq _ _ _ _ _ hN] at hck
        obtain ⟨K, hK⟩ : ∃ K, K = Sha.check seed.data.toList N (nodes + c) (reqBody r) r.tag := ⟨_, rfl⟩
        rw [← hK] at hck hg
        obtain ⟨B, hB⟩ : ∃ B, B = reqBody r := ⟨_, rfl⟩
        rw [← hB] at hck hbd
        unfold RetText0 at hbd
        have hg2 : G = if K = true then 0 else 61 := hg
        have hwr : IntKind.i64.wrap (nodes + c) = nodes + c := IntWalk.i64_in _ ⟨by omega, by omega⟩
        clear hK hB hs hg m3 m4 m5
        replace hc := Lib.hid hc
        replace hmay := Lib.hid hmay
        replace hck := Lib.hid hck
        replace hbd := Lib.hid hbd
        replace hwr := Lib.hid hwr
        replace hg2 := Lib.hid hg2
        go_enter Try.func94, Try.ntmps94
        go_upto_region 1 with (first | (refine box_row rfl _ _ rfl #[.string seed, .int .i64 (N : Nat)] rfl hinfK.out ?_; intro w0 hbk hs0; have hbkl := blk_lt hbk; replace hbk := Lib.hid hbk; replace hs0 := Lib.hid hs0) | (refine box_row rfl _ _ rfl r.cells.toArray rfl hinf.out ?_; intro w1 hbx hs1; replace hbx := Lib.hid hbx; replace hs1 := Lib.hid hs1))
        have hbk1 := Lib.hid (hs1.out.at hbk.out)
        have hw1 := Lib.hid (hs0.out.trans hs1.out)
        clear hs0 hs1 hbk
        go_wp2_with (refine load_row rfl _ _ rfl w0.heap.size rfl _ _ _ _ hbx.out Try.underlying78 rfl hinf.out ?_)
        refine (hmay.out _).mono ?_
        rintro e w2 ⟨rfl, hs2⟩
        have hbx2 := Lib.hid (hs2.at hbx.out)
        have hbk2 := Lib.hid (hs2.at hbk1.out)
        have c02 := req_client hbx2.out
        rw [← hc.out] at c02
        have hrt := Lib.hid (req_tag hbx2.out)
        have hw2 := Lib.hid (hw1.out.trans hs2)
        clear hs2 hw1 hbx hbk1
        replace c02 := Lib.hid c02
        go_upto_region 3 with fail
        go_cut [36] (fun v wx => v = .bool (!K) ∧ Same w2 wx)
        case first =>
          refine wp_region_facts (by kernel_rfl) [(13, 0), (14, 1), (15, 2), (16, 3), (17, 4), (18, 5), (19, 6), (20, 7), (21, 8), (22, 9), (23, 10), (24, 11), (25, 12), (26, 13), (27, 14), (28, 15), (29, 16), (30, 17), (31, 18), (32, 19), (33, 20), (34, 21), (35, 22), (36, 23)] Same (Same _) [isV (.int .i64 nodes), isV (.bool false), isV (.bool false), isV (.int .i64 nodes), isV (.bool false), isV (.bool false), isV (.bool false), isV (.pointer (some ⟨w0.heap.size, 0, none⟩)), isV (.int .i64 c), isV (.bool false), isV (.bool false), isV (.bool false), isV (rkeys seed N), isV (.int .i64 nodes), isV (.pointer (some ⟨w0.heap.size, 0, none⟩)), isV (.int .i64 c), isV (.int .i64 (nodes + c)), isV (.agg r.cells.toArray), isV (str B), isV (.pointer (some ⟨w0.heap.size, 3, none⟩)), isV (.agg (bv r.tag).toArray), isV (.bool K), isV (.bool (!K)), isV (.bool (!K))] Same.refl.drew (fun _ _ h k => h.trans k) (by simp [isV_stable, isB_stable, isAny_stable]) (by decide) (by decide) ?_ ?_
          · refine ⟨?_, ?_, ?_, ?_, ?_, ?_, ?_, ?_, ?_, ?_, ?_, ?_, ?_, ?_, ?_, ?_, ?_, ?_, ?_, ?_, ?_, ?_, ?_, ?_, trivial⟩
            all_goals (intro u wx hI hp; simp only [mkAct, List.foldl_cons, List.foldl_nil, List.setIfInBounds_toArray, List.set_cons_succ, List.set_cons_zero])
            · -- operation 0
              go_wp2
              refine stq_v rfl Same.refl ?_
              first | (simp only [mkAct, List.foldl_cons, List.foldl_nil, List.setIfInBounds_toArray, List.set_cons_succ, List.set_cons_zero, upd, reduceIte, Nat.reduceEqDiff, Nat.reduceAdd, str]; done) | (simp [mkAct, upd, str, *]; done)
            · -- operation 1
              obtain ⟨f0, -⟩ := hp
              replace f0 : u 0 = (.int .i64 nodes) := f0
              try simp only [f0, str]
              go_wp2
              refine stq_v rfl Same.refl ?_
              first | (simp only [mkAct, List.foldl_cons, List.foldl_nil, List.setIfInBounds_toArray, List.set_cons_succ, List.set_cons_zero, upd, reduceIte, Nat.reduceEqDiff, Nat.reduceAdd, f0, str]; done) | (simp [mkAct, upd, f0, str, *]; done)
            · -- operation 2
              obtain ⟨f1, -⟩ := hp
              replace f1 : u 1 = (.bool false) := f1
              try simp only [f1, str]
              go_wp2
              refine stq_v rfl Same.refl ?_
              first | (simp only [mkAct, List.foldl_cons, List.foldl_nil, List.setIfInBounds_toArray, List.set_cons_succ, List.set_cons_zero, upd, reduceIte, Nat.reduceEqDiff, Nat.reduceAdd, f1, str]; done) | (simp [mkAct, upd, f1, str, *]; done)
            · -- operation 3
              obtain ⟨f2, -⟩ := hp
              replace f2 : u 2 = (.bool false) := f2
              try simp only [f2, str]
              go_wp2
              refine stq_v rfl Same.refl ?_
              first | (simp only [mkAct, List.foldl_cons, List.foldl_nil, List.setIfInBounds_toArray, List.set_cons_succ, List.set_cons_zero, upd, reduceIte, Nat.reduceEqDiff, Nat.reduceAdd, f2, str]; done) | (simp [mkAct, upd, f2, str, *]; done)
            · -- operation 4
              obtain ⟨f3, f2, -⟩ := hp
              replace f3 : u 3 = (.int .i64 nodes) := f3
              replace f2 : u 2 = (.bool false) := f2
              try simp only [f3, f2, str]
              go_wp2
              refine stq_v rfl Same.refl ?_
              first | (simp only [mkAct, List.foldl_cons, List.foldl_nil, List.setIfInBounds_toArray, List.set_cons_succ, List.set_cons_zero, upd, reduceIte, Nat.reduceEqDiff, Nat.reduceAdd, f3, f2, str]; done) | (simp [mkAct, upd, f3, f2, str, *]; done)
            · -- operation 5
              obtain ⟨f2, f4, -⟩ := hp
              replace f2 : u 2 = (.bool false) := f2
              replace f4 : u 4 = (.bool false) := f4
              try simp only [f2, f4, str]
              go_wp2
              refine stq_v rfl Same.refl ?_
              first | (simp only [mkAct, List.foldl_cons, List.foldl_nil, List.setIfInBounds_toArray, List.set_cons_succ, List.set_cons_zero, upd, reduceIte, Nat.reduceEqDiff, Nat.reduceAdd, f2, f4, str]; done) | (simp [mkAct, upd, f2, f4, str, *]; done)
            · -- operation 6
              obtain ⟨f5, -, -⟩ := hp
              replace f5 : u 5 = (.bool false) := f5
              try simp only [f5, str]
              go_wp2
              refine stq_v rfl Same.refl ?_
              first | (simp only [mkAct, List.foldl_cons, List.foldl_nil, List.setIfInBounds_toArray, List.set_cons_succ, List.set_cons_zero, upd, reduceIte, Nat.reduceEqDiff, Nat.reduceAdd, f5, str]; done) | (simp [mkAct, upd, f5, str, *]; done)
            · -- operation 7
              obtain ⟨f6, -⟩ := hp
              replace f6 : u 6 = (.bool false) := f6
              try simp only [f6, str]
              go_wp2
              refine stq_v rfl Same.refl ?_
              first | (simp only [mkAct, List.foldl_cons, List.foldl_nil, List.setIfInBounds_toArray, List.set_cons_succ, List.set_cons_zero, upd, reduceIte, Nat.reduceEqDiff, Nat.reduceAdd, f6, str]; done) | (simp [mkAct, upd, f6, str, *]; done)
            · -- operation 8
              obtain ⟨f7, f6, -⟩ := hp
              replace f7 : u 7 = (.pointer (some ⟨w0.heap.size, 0, none⟩)) := f7
              replace f6 : u 6 = (.bool false) := f6
              try simp only [f7, f6, str]
              have cx := hI.cell (c02.out)
              go_wp2
              refine stq_v rfl Same.refl ?_
              first | (simp only [mkAct, List.foldl_cons, List.foldl_nil, List.setIfInBounds_toArray, List.set_cons_succ, List.set_cons_zero, upd, reduceIte, Nat.reduceEqDiff, Nat.reduceAdd, f7, f6, str]; done) | (simp [mkAct, upd, f7, f6, str, *]; done)
            · -- operation 9
              obtain ⟨f8, f6, -⟩ := hp
              replace f8 : u 8 = (.int .i64 c) := f8
              replace f6 : u 6 = (.bool false) := f6
              try simp only [f8, f6, str]
              go_wp2
              refine stq_v rfl Same.refl ?_
              first | (simp only [mkAct, List.foldl_cons, List.foldl_nil, List.setIfInBounds_toArray, List.set_cons_succ, List.set_cons_zero, upd, reduceIte, Nat.reduceEqDiff, Nat.reduceAdd, f8, f6, str]; done) | (simp [mkAct, upd, f8, f6, str, *]; done)
            · -- operation 10
              obtain ⟨f6, f9, -⟩ := hp
              replace f6 : u 6 = (.bool false) := f6
              replace f9 : u 9 = (.bool false) := f9
              try simp only [f6, f9, str]
              go_wp2
              refine stq_v rfl Same.refl ?_
              first | (simp only [mkAct, List.foldl_cons, List.foldl_nil, List.setIfInBounds_toArray, List.set_cons_succ, List.set_cons_zero, upd, reduceIte, Nat.reduceEqDiff, Nat.reduceAdd, f6, f9, str]; done) | (simp [mkAct, upd, f6, f9, str, *]; done)
            · -- operation 11
              obtain ⟨f10, -, -⟩ := hp
              replace f10 : u 10 = (.bool false) := f10
              try simp only [f10, str]
              go_wp2
              refine stq_v rfl Same.refl ?_
              first | (simp only [mkAct, List.foldl_cons, List.foldl_nil, List.setIfInBounds_toArray, List.set_cons_succ, List.set_cons_zero, upd, reduceIte, Nat.reduceEqDiff, Nat.reduceAdd, f10, str]; done) | (simp [mkAct, upd, f10, str, *]; done)
            · -- operation 12
              obtain ⟨f11, -⟩ := hp
              replace f11 : u 11 = (.bool false) := f11
              try simp only [f11, str]
              go_wp2_with (refine load_row rfl _ _ rfl w.heap.size rfl _ _ _ _ (hI.at hbk2.out) Try.underlying71 rfl hinfK.out ?_)
              refine stq_v rfl Same.refl ?_
              first | (simp only [mkAct, List.foldl_cons, List.foldl_nil, List.setIfInBounds_toArray, List.set_cons_succ, List.set_cons_zero, upd, reduceIte, Nat.reduceEqDiff, Nat.reduceAdd, f11, str]; done) | (simp [mkAct, upd, f11, str, *]; done)
            · -- operation 13
              obtain ⟨f11, -⟩ := hp
              replace f11 : u 11 = (.bool false) := f11
              try simp only [f11, str]
              go_wp2
              refine stq_v rfl Same.refl ?_
              first | (simp only [mkAct, List.foldl_cons, List.foldl_nil, List.setIfInBounds_toArray, List.set_cons_succ, List.set_cons_zero, upd, reduceIte, Nat.reduceEqDiff, Nat.reduceAdd, f11, str]; done) | (simp [mkAct, upd, f11, str, *]; done)
            · -- operation 14
              obtain ⟨f11, -⟩ := hp
              replace f11 : u 11 = (.bool false) := f11
              try simp only [f11, str]
              go_wp2
              refine stq_v rfl Same.refl ?_
              first | (simp only [mkAct, List.foldl_cons, List.foldl_nil, List.setIfInBounds_toArray, List.set_cons_succ, List.set_cons_zero, upd, reduceIte, Nat.reduceEqDiff, Nat.reduceAdd, f11, str]; done) | (simp [mkAct, upd, f11, str, *]; done)
            · -- operation 15
              obtain ⟨f14, f11, -⟩ := hp
              replace f14 : u 14 = (.pointer (some ⟨w0.heap.size, 0, none⟩)) := f14
              replace f11 : u 11 = (.bool false) := f11
              try simp only [f14, f11, str]
              have cx := hI.cell (c02.out)
              go_wp2
              refine stq_v rfl Same.refl ?_
              first | (simp only [mkAct, List.foldl_cons, List.foldl_nil, List.setIfInBounds_toArray, List.set_cons_succ, List.set_cons_zero, upd, reduceIte, Nat.reduceEqDiff, Nat.reduceAdd, f14, f11, str]; done) | (simp [mkAct, upd, f14, f11, str, *]; done)
            · -- operation 16
              obtain ⟨f13, f15, f11, -⟩ := hp
              replace f13 : u 13 = (.int .i64 nodes) := f13
              replace f15 : u 15 = (.int .i64 c) := f15
              replace f11 : u 11 = (.bool false) := f11
              try simp only [f13, f15, f11, str]
              have hwr := hwr.out
              go_wp2
              refine stq_v rfl Same.refl ?_
              first | (simp only [mkAct, List.foldl_cons, List.foldl_nil, List.setIfInBounds_toArray, List.set_cons_succ, List.set_cons_zero, upd, reduceIte, Nat.reduceEqDiff, Nat.reduceAdd, f13, f15, f11, str]; done) | (simp [mkAct, upd, f13, f15, f11, str, *]; done)
            · -- operation 17
              obtain ⟨f11, -⟩ := hp
              replace f11 : u 11 = (.bool false) := f11
              try simp only [f11, str]
              go_wp2_with (refine load_row rfl _ _ rfl w0.heap.size rfl _ _ _ _ (hI.at hbx2.out) Try.underlying78 rfl hinf.out ?_)
              refine stq_v rfl Same.refl ?_
              first | (simp only [mkAct, List.foldl_cons, List.foldl_nil, List.setIfInBounds_toArray, List.set_cons_succ, List.set_cons_zero, upd, reduceIte, Nat.reduceEqDiff, Nat.reduceAdd, f11, str]; done) | (simp [mkAct, upd, f11, str, *]; done)
            · -- operation 18
              obtain ⟨f17, -, f11, -⟩ := hp
              replace f17 : u 17 = (.agg r.cells.toArray) := f17
              replace f11 : u 11 = (.bool false) := f11
              try simp only [f17, f11, str]
              go_wp2_with fail
              refine (hbd.out _).mono ?_
              rintro e w1 ⟨rfl, hs'⟩
              go_wp2
              refine stq_v rfl hs' ?_
              first | (simp only [mkAct, List.foldl_cons, List.foldl_nil, List.setIfInBounds_toArray, List.set_cons_succ, List.set_cons_zero, upd, reduceIte, Nat.reduceEqDiff, Nat.reduceAdd, f17, f11, str]; done) | (simp [mkAct, upd, f17, f11, str, *]; done)
            · -- operation 19
              obtain ⟨f11, -⟩ := hp
              replace f11 : u 11 = (.bool false) := f11
              try simp only [f11, str]
              go_wp2
              refine stq_v rfl Same.refl ?_
              first | (simp only [mkAct, List.foldl_cons, List.foldl_nil, List.setIfInBounds_toArray, List.set_cons_succ, List.set_cons_zero, upd, reduceIte, Nat.reduceEqDiff, Nat.reduceAdd, f11, str]; done) | (simp [mkAct, upd, f11, str, *]; done)
            · -- operation 20
              obtain ⟨f19, f11, -⟩ := hp
              replace f19 : u 19 = (.pointer (some ⟨w0.heap.size, 3, none⟩)) := f19
              replace f11 : u 11 = (.bool false) := f11
              try simp only [f19, f11, str]
              go_wp2_with (refine load_mid rfl _ _ rfl w0.heap.size 3 rfl (bv r.tag) _ (hI.range hrt.out) Try.underlying76 rfl hinfT.out ?_)
              refine stq_v rfl Same.refl ?_
              first | (simp only [mkAct, List.foldl_cons, List.foldl_nil, List.setIfInBounds_toArray, List.set_cons_succ, List.set_cons_zero, upd, reduceIte, Nat.reduceEqDiff, Nat.reduceAdd, f19, f11, str]; done) | (simp [mkAct, upd, f19, f11, str, *]; done)
            · -- operation 21
              obtain ⟨f12, f16, f18, f20, -, f11, -⟩ := hp
              replace f12 : u 12 = (rkeys seed N) := f12
              replace f16 : u 16 = (.int .i64 (nodes + c)) := f16
              replace f18 : u 18 = (str B) := f18
              replace f20 : u 20 = (.agg (bv r.tag).toArray) := f20
              replace f11 : u 11 = (.bool false) := f11
              try simp only [f12, f16, f18, f20, f11, str]
              go_wp2_with fail
              refine (hck.out _).mono ?_
              rintro e w1 ⟨rfl, hs'⟩
              go_wp2
              refine stq_v rfl hs' ?_
              first | (simp only [mkAct, List.foldl_cons, List.foldl_nil, List.setIfInBounds_toArray, List.set_cons_succ, List.set_cons_zero, upd, reduceIte, Nat.reduceEqDiff, Nat.reduceAdd, f12, f16, f18, f20, f11, str]; done) | (simp [mkAct, upd, f12, f16, f18, f20, f11, str, *]; done)
            · -- operation 22
              obtain ⟨f21, f11, -⟩ := hp
              replace f21 : u 21 = (.bool K) := f21
              replace f11 : u 11 = (.bool false) := f11
              try simp only [f21, f11, str]
              go_wp2
              refine stq_v rfl Same.refl ?_
              first | (simp only [mkAct, List.foldl_cons, List.foldl_nil, List.setIfInBounds_toArray, List.set_cons_succ, List.set_cons_zero, upd, reduceIte, Nat.reduceEqDiff, Nat.reduceAdd, f21, f11, str]; done) | (simp [mkAct, upd, f21, f11, str, *]; done)
            · -- operation 23
              obtain ⟨f11, f22, -⟩ := hp
              replace f11 : u 11 = (.bool false) := f11
              replace f22 : u 22 = (.bool (!K)) := f22
              try simp only [f11, f22, str]
              go_wp2
              refine stq_v rfl Same.refl ?_
              first | (simp only [mkAct, List.foldl_cons, List.foldl_nil, List.setIfInBounds_toArray, List.set_cons_succ, List.set_cons_zero, upd, reduceIte, Nat.reduceEqDiff, Nat.reduceAdd, f11, f22, str]; done) | (simp [mkAct, upd, f11, f22, str, *]; done)
          · intro u wx hI hR
            obtain ⟨r0, r1, r2, r3, r4, r5, r6, r7, r8, r9, r10, r11, r12, r13, r14, r15, r16, r17, r18, r19, r20, r21, r22, r23, -⟩ := hR
            replace r0 : u 0 = (.int .i64 nodes) := r0
            replace r1 : u 1 = (.bool false) := r1
            replace r2 : u 2 = (.bool false) := r2
            replace r3 : u 3 = (.int .i64 nodes) := r3
            replace r4 : u 4 = (.bool false) := r4
            replace r5 : u 5 = (.bool false) := r5
            replace r6 : u 6 = (.bool false) := r6
            replace r7 : u 7 = (.pointer (some ⟨w0.heap.size, 0, none⟩)) := r7
            replace r8 : u 8 = (.int .i64 c) := r8
            replace r9 : u 9 = (.bool false) := r9
            replace r10 : u 10 = (.bool false) := r10
            replace r11 : u 11 = (.bool false) := r11
            replace r12 : u 12 = (rkeys seed N) := r12
            replace r13 : u 13 = (.int .i64 nodes) := r13
            replace r14 : u 14 = (.pointer (some ⟨w0.heap.size, 0, none⟩)) := r14
            replace r15 : u 15 = (.int .i64 c) := r15
            replace r16 : u 16 = (.int .i64 (nodes + c)) := r16
            replace r17 : u 17 = (.agg r.cells.toArray) := r17
            replace r18 : u 18 = (str B) := r18
            replace r19 : u 19 = (.pointer (some ⟨w0.heap.size, 3, none⟩)) := r19
            replace r20 : u 20 = (.agg (bv r.tag).toArray) := r20
            replace r21 : u 21 = (.bool K) := r21
            replace r22 : u 22 = (.bool (!K)) := r22
            replace r23 : u 23 = (.bool (!K)) := r23
            simp only [mkAct, List.foldl_cons, List.foldl_nil, List.setIfInBounds_toArray, List.set_cons_succ, List.set_cons_zero]
            try simp only [str, r0, r1, r2, r3, r4, r5, r6, r7, r8, r9, r10, r11, r12, r13, r14, r15, r16, r17, r18, r19, r20, r21, r22, r23]
            go_wp2
            go_meet
            exact ⟨rfl, hI⟩
        case rest =>
          obtain ⟨rfl, hs3⟩ := hcut
          cases K
          · go_wp2
            go_ret
            exact ⟨by rw [hg2.out]; rfl, hw2.out.trans hs3⟩
          · go_wp2
            go_ret
            exact ⟨by rw [hg2.out]; rfl, hw2.out.trans hs3⟩
    refine key ?_
    by_cases h1 : nodes < 0
    · exact .inl ⟨h1, hbad (.inl h1)⟩
    · by_cases h2 : 64 < nodes
      · exact .inr (.inl ⟨by omega, h2, hbad (.inr (.inl h2))⟩)
      · by_cases h4 : 4096 < c
        · exact .inr (.inr (.inl ⟨by omega, by omega, h4, hbad (.inr (.inr (.inl (by omega))))⟩))
        · refine .inr (.inr (.inr ⟨by omega, by omega, by omega, ?_⟩))
          intro K hK
          cases K
          · exact hbad (.inr (.inr (.inr hK.symm)))
          · refine hok ?_
            rintro (h | h | h | h)
            · exact h1 h
            · exact h2 h
            · rw [Sha.check_far _ _ _ _ _ (show (N : Int) ≤ nodes + c by omega)] at hK; cases hK
            · rw [h] at hK; cases hK
def reqBucket (client num buckets : Int) : Int := if client < 0 ∨ num < 0 then 0 else shareOf (Sha.sum (Num.putI client ++ Num.putI num)) buckets
set_option maxRecDepth 100000 in
set_option maxHeartbeats 800000 in
theorem rqbucket_any (w : World) (client num buckets : Int) (h1 : client ≤ 9223372036854775807) (h2 : num ≤ 9223372036854775807) :
    Calls Try.prog 118 #[.int .i64 client, .int .i64 num, .int .i64 buckets] w fun e w' => e = .returned (.int .i64 (reqBucket client num buckets)) ∧ Same w w' := by
  unfold reqBucket
  by_cases hn : client < 0 ∨ num < 0
  · rw [if_pos hn]
    have key : ∀ hh : client < 0 ∨ 0 ≤ client ∧ num < 0, Calls Try.prog 118 #[.int .i64 client, .int .i64 num, .int .i64 buckets] w fun e w' => e = .returned (.int .i64 0) ∧ Same w w' := by
      intro hh
      clear hn
      rcases hh with h1 | ⟨h1, h2⟩
      all_goals
        go_enter Try.func118, Try.ntmps118
        go_wp2
        go_ret
        exact ⟨rfl, Same.refl⟩
    exact key (by omega)
  · rw [if_neg hn]
    have hp1 := fun w => put_any none 0 0 [] client w (Sl.none w 1) (by omega) (by omega)
    have hp2 := fun w => put_any none 0 0 [] num w (Sl.none w 1) (by omega) (by omega)
    simp only [List.nil_append] at hp1 hp2
    have l1 := Num.putI_le client h1
    have l2 := Num.putI_le num h2
    obtain ⟨A, hA⟩ : ∃ A, A = Num.putI client := ⟨_, rfl⟩
    obtain ⟨B, hB⟩ : ∃ B, B = Num.putI num := ⟨_, rfl⟩
    rw [← hA] at hp1 l1 ⊢
    rw [← hB] at hp2 l2 ⊢
    have hsum := fun w po pn pc vs h1 h2 => sum_any po pn pc vs [A, B] w h1 h2 (by simp; omega)
    rw [show [A, B].flatten = A ++ B from by simp] at hsum
    have hSl := Sha.sum_length (A ++ B)
    obtain ⟨S, hS⟩ : ∃ S, S = Sha.sum (A ++ B) := ⟨_, rfl⟩
    rw [← hS] at hsum hSl ⊢
    have hsh := fun w => share_any S hSl buckets w
    obtain ⟨R, hR⟩ : ∃ R, R = shareOf S buckets := ⟨_, rfl⟩
    rw [← hR] at hsh ⊢
    have n1 : 0 ≤ client := by omega
    have n2 : 0 ≤ num := by omega
    clear hA hB hS hR hn hSl
    replace hp1 := Lib.hid hp1
    replace hp2 := Lib.hid hp2
    replace hsum := Lib.hid hsum
    replace hsh := Lib.hid hsh
    go_enter Try.func118, Try.ntmps118
    go_wp2_with fail
    refine (hp1.out _).mono ?_
    rintro e w1 ⟨a1, c1, rfl, hsl1, hs1⟩
    go_wp2_with fail
    refine (hp2.out _).mono ?_
    rintro e w2 ⟨a2, c2, rfl, hsl2, hs2⟩
    have hbx := sl_box (w := w2) (e := 143) [.slice a1 A.length c1, .slice a2 B.length c2] 2 rfl (by unfold maxLen; omega)
    have hpx := (Sls.cons (hsl1.same hs2) (Sls.cons hsl2 (Sls.nil w2))).box (e := 143)
    have hsm := Lib.hid (hsum.out _ _ _ _ _ hbx hpx)
    have hw2 := Lib.hid (hs1.trans hs2)
    clear hbx hpx hs1 hs2 hsl1 hsl2
    go_wp2_with fail
    refine hsm.out.mono ?_
    rintro e w3 ⟨rfl, hs3⟩
    have hw3 := Lib.hid (hw2.out.trans ((Same.refl.alloc _).trans hs3))
    clear hw2 hs3 hsm
    go_wp2_with fail
    refine (hsh.out _).mono ?_
    rintro e w4 ⟨rfl, hs4⟩
    go_wp2
    go_ret
    exact ⟨rfl, hw3.out.trans hs4⟩
set_option maxRecDepth 100000 in
set_option maxHeartbeats 800000 in
theorem rqrbucket_any (w : World) (client num buckets : Int) (h1 : client ≤ 9223372036854775807) (h2 : num ≤ 9223372036854775807) :
    Calls Try.prog 132 #[.int .i64 client, .int .i64 num, .int .i64 buckets] w fun e w' => e = .returned (.int .i64 (reqBucket client num buckets)) ∧ Same w w' := by
  unfold reqBucket
  by_cases hn : client < 0 ∨ num < 0
  · rw [if_pos hn]
    have key : ∀ hh : client < 0 ∨ 0 ≤ client ∧ num < 0, Calls Try.prog 132 #[.int .i64 client, .int .i64 num, .int .i64 buckets] w fun e w' => e = .returned (.int .i64 0) ∧ Same w w' := by
      intro hh
      clear hn
      rcases hh with h1 | ⟨h1, h2⟩
      all_goals
        go_enter Try.func132, Try.ntmps132
        go_wp2
        go_ret
        exact ⟨rfl, Same.refl⟩
    exact key (by omega)
  · rw [if_neg hn]
    have hp1 := fun w => rput_any none 0 0 [] client w (Sl.none w 1) (by omega) (by omega)
    simp only [List.nil_append] at hp1
    have l1 := Num.putI_le client h1
    have l2 := Num.putI_le num h2
    obtain ⟨A, hA⟩ : ∃ A, A = Num.putI client := ⟨_, rfl⟩
    rw [← hA] at hp1 l1 ⊢
    have hp2 := fun ao cap w h => rput_any ao A.length cap A num w h (by omega) (by omega)
    obtain ⟨C, hC⟩ : ∃ C, C = A ++ Num.putI num := ⟨_, rfl⟩
    have hCl : C.length ≤ 18 := by rw [hC]; simp; omega
    rw [← hC] at hp2 ⊢
    have hsum := fun ao cap w h => rsum_any ao C.length cap C w h (by omega)
    have hSl := Sha.sum_length C
    obtain ⟨S, hS⟩ : ∃ S, S = Sha.sum C := ⟨_, rfl⟩
    rw [← hS] at hsum hSl ⊢
    have hsh := fun w => rshare_any S hSl buckets w
    obtain ⟨R, hR⟩ : ∃ R, R = shareOf S buckets := ⟨_, rfl⟩
    rw [← hR] at hsh ⊢
    have n1 : 0 ≤ client := by omega
    have n2 : 0 ≤ num := by omega
    clear hA hC hS hR hn hSl
    replace hp1 := Lib.hid hp1
    replace hp2 := Lib.hid hp2
    replace hsum := Lib.hid hsum
    replace hsh := Lib.hid hsh
    go_enter Try.func132, Try.ntmps132
    go_wp2_with fail
    refine (hp1.out _).mono ?_
    rintro e w1 ⟨v1, rfl, ho1, hs1⟩
    obtain ⟨a1, c1, rfl, hsl1⟩ := ho1.sl
    clear ho1
    replace hsl1 := Lib.hid hsl1
    replace hs1 := Lib.hid hs1
    go_wp2_with fail
    refine (hp2.out _ _ _ hsl1.out).mono ?_
    rintro e w2 ⟨v2, rfl, ho2, hs2⟩
    obtain ⟨a2, c2, rfl, hsl2⟩ := ho2.sl
    have hw2 := Lib.hid (hs1.out.trans hs2)
    clear ho2 hs2
    replace hsl2 := Lib.hid hsl2
    go_wp2_with fail
    refine (hsum.out _ _ _ hsl2.out).mono ?_
    rintro e w3 ⟨rfl, hs3⟩
    have hw3 := Lib.hid (hw2.out.trans hs3)
    clear hw2 hs3
    go_wp2_with fail
    refine (hsh.out _).mono ?_
    rintro e w4 ⟨rfl, hs4⟩
    go_wp2
    go_ret
    exact ⟨rfl, hw3.out.trans hs4⟩
end Go.Proofs.Ytgdkhiihdoekaaa
