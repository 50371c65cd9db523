/-
  Requests: which are good, their bucket.
-/
import Derived.Test.YtgdkhiihdoekaaaReq1
import Derived.Test.YtgdkhiihdoekaaaDig1
namespace Go.Proofs.Ytgdkhiihdoekaaa
open Go Go.RowKit
set_option linter.unusedSimpArgs false
set_option linter.unusedVariables false

/-- The error's number. -/
def Req.good (seed : List UInt8) (N : Nat) (nodes clients : Int) (r : Req) : Nat :=
  if r.may clients = false then 60 else if nodes < 0 ∨ 64 < nodes ∨ (N : Int) ≤ r.client ∨ Sha.check seed N (nodes + r.client) (reqBody r) r.tag = false then 61 else 0
def Req.pgood (seed : List UInt8) (N : Nat) (nodes clients : Int) (r : Req) : Nat := if N = 0 then 1 else r.good seed N nodes clients
theorem Sha.check_far (seed : List UInt8) (n : Nat) (id : Int) (body t : List UInt8) (h : (n : Int) ≤ id) : Sha.check seed n id body t = false := by
  unfold Sha.check Sha.sign
  by_cases h0 : n = 0
  · rw [if_pos h0]; rfl
  · rw [if_neg h0, if_pos (.inr h)]; rfl
theorem Req.good_no {seed : List UInt8} {N : Nat} {nodes clients : Int} {r : Req} (h : r.may clients = false) : r.good seed N nodes clients = 60 := by rw [Req.good, if_pos h]
theorem Req.good_bad {seed : List UInt8} {N : Nat} {nodes clients : Int} {r : Req} (h : r.may clients = true) (h2 : nodes < 0 ∨ 64 < nodes ∨ (N : Int) ≤ r.client ∨ Sha.check seed N (nodes + r.client) (reqBody r) r.tag = false) : r.good seed N nodes clients = 61 := by rw [Req.good, if_neg (by simp [h]), if_pos h2]
theorem Req.good_ok {seed : List UInt8} {N : Nat} {nodes clients : Int} {r : Req} (h : r.may clients = true) (h2 : ¬ (nodes < 0 ∨ 64 < nodes ∨ (N : Int) ≤ r.client ∨ Sha.check seed N (nodes + r.client) (reqBody r) r.tag = false)) : r.good seed N nodes clients = 0 := by rw [Req.good, if_neg (by simp [h]), if_neg h2]
set_option maxRecDepth 100000 in
set_option maxHeartbeats 400000 in
theorem rqgood_none (w : World) (nodes clients : Int) (r : Req) (ht : r.tag.length = 16) :
    Calls Try.prog 38 #[.pointer none, .int .i64 nodes, .int .i64 clients, .agg r.cells.toArray] w fun e w' => e = .returned (.int .i64 1) ∧ Same w w' := by
  have hinf := Lib.hid (req_info ht)
  have hlen := fun w => klen_any w none ByteArray.empty 0 (.inl ⟨rfl, rfl⟩)
  replace hlen := Lib.hid hlen
  go_enter Try.func38, Try.ntmps38
  go_upto_region 1 with (refine box_row rfl _ _ rfl _ rfl hinf.out ?_; intro w0 hbx hs0; clear hbx; replace hs0 := Lib.hid hs0)
  go_wp2_with fail
  refine (hlen.out _).mono ?_
  rintro e w2 ⟨rfl, rfl⟩
  go_wp2
  go_ret
  exact ⟨rfl, hs0.out⟩
set_option maxRecDepth 100000 in
set_option maxHeartbeats 3200000 in
theorem rqsgood_any (w : World) (p : Option Addr) (seed : ByteArray) (N : Nat) (nodes clients : Int) (r : Req) (ht : r.tag.length = 16) (h : KeysAt w p seed N) (hN : N ≠ 0) (hN2 : N ≤ 1000000) (hs : seed.size ≤ 1000000) :
    Calls Try.prog 38 #[.pointer p, .int .i64 nodes, .int .i64 clients, .agg r.cells.toArray] w fun e w' => e = .returned (.int .i64 (r.good seed.data.toList N nodes clients : Nat)) ∧ Same w w' := by
  have hinf := Lib.hid (req_info ht)
  have hinfT := Lib.hid (tag_infoL ht)
  have hlen := Lib.hid (fun w h => klen_any w p seed N h)
  have hmay := fun w => rqmay_any r clients w ht
  have hz : ((N : Int) == 0) = false := by simp; omega
  obtain ⟨c, hc⟩ : ∃ c, c = r.client := ⟨_, rfl⟩
  cases hm : r.may clients
  · rw [Req.good_no hm]
    rw [hm] at hmay
    clear hm
    replace h := Lib.hid h
    replace hmay := Lib.hid hmay
    go_enter Try.func38, Try.ntmps38
    go_upto_region 1 with (refine box_row rfl _ _ rfl _ rfl hinf.out ?_; intro w0 hbx hs0; replace hbx := Lib.hid hbx; replace hs0 := Lib.hid hs0)
    go_wp2_with fail
    refine (hlen.out _ (h.out.same hs0.out)).mono ?_
    rintro e w2 ⟨rfl, rfl⟩
    go_wp2_with (refine load_row rfl _ _ rfl w.heap.size rfl _ _ _ _ hbx.out Try.underlying78 rfl hinf.out ?_)
    refine (hmay.out _).mono ?_
    rintro e w2 ⟨rfl, hs2⟩
    go_wp2
    go_ret
    exact ⟨rfl, hs0.out.trans hs2⟩
  · obtain ⟨m1, m2, m3, m4, m5⟩ := Req.may_iff.1 hm
    have hbad := fun h => Req.good_bad (seed := seed.data.toList) (N := N) (nodes := nodes) hm h
    have hok := fun h => Req.good_ok (seed := seed.data.toList) (N := N) (nodes := nodes) hm h
    obtain ⟨G, hG⟩ : ∃ G, G = r.good seed.data.toList N nodes clients := ⟨_, rfl⟩
    rw [← hG] at hbad hok ⊢
    rw [hm] at hmay
    rw [← hc] at hbad hok m1 m2
    clear hm hG
    have key : ∀ hh : nodes < 0 ∧ G = 61 ∨ 0 ≤ nodes ∧ 64 < nodes ∧ G = 61 ∨ 0 ≤ nodes ∧ nodes ≤ 64 ∧ (N : Int) ≤ c ∧ G = 61 ∨ 0 ≤ nodes ∧ nodes ≤ 64 ∧ c < (N : Int) ∧ (∀ K, K = Sha.check seed.data.toList N (nodes + c) (reqBody r) r.tag → G = if K then 0 else 61),
        Calls Try.prog 38 #[.pointer p, .int .i64 nodes, .int .i64 clients, .agg r.cells.toArray] w fun e w' => e = .returned (.int .i64 (G : Nat)) ∧ Same w w' := by
      intro hh
      clear hbad hok
      rcases hh with ⟨h1, hg⟩ | ⟨h1, h2, hg⟩ | ⟨h1, h2, h3, hg⟩ | ⟨h1, h2, h3, hg⟩
      · -- case A
        subst hg
        clear m1 m2 m3 m4 m5
        try clear hs
        replace hc := Lib.hid hc
        replace h := Lib.hid h
        replace hmay := Lib.hid hmay
        go_enter Try.func38, Try.ntmps38
        go_upto_region 1 with (refine box_row rfl _ _ rfl _ rfl hinf.out ?_; intro w0 hbx hs0; have hbxl := blk_lt hbx; have c0 := req_client hbx; rw [← hc.out] at c0; replace c0 := Lib.hid c0; replace hbx := Lib.hid hbx; replace hs0 := Lib.hid hs0)
        go_wp2_with fail
        refine (hlen.out _ (h.out.same hs0.out)).mono ?_
        rintro e w2 ⟨rfl, rfl⟩
        go_wp2_with (refine load_row rfl _ _ rfl w.heap.size rfl _ _ _ _ hbx.out Try.underlying78 rfl hinf.out ?_)
        refine (hmay.out _).mono ?_
        rintro e w2 ⟨rfl, hs2⟩
        have hk2 := Lib.hid (h.out.same (hs0.out.trans hs2))
        have c02 := Lib.hid (hs2.cell c0.out)
        have hw2 := Lib.hid (hs0.out.trans hs2)
        clear hs2 hs0 h c0
        go_upto_region 5 with fail
        go_cut [18] (fun v wx => v = .bool true ∧ Same w2 wx)
        case first =>
          refine wp_region_tails (by kernel_rfl) [(19, 0), (20, 1), (21, 2), (22, 3), (23, 4), (24, 5), (25, 6), (26, 7), (27, 8), (28, 9), (29, 10), (30, 11), (31, 12), (32, 13), (33, 14), (34, 15), (35, 16), (36, 17), (37, 18), (38, 19), (39, 20), (40, 21), (41, 22), (42, 23), (43, 24), (44, 25)] Same (Same _) [isV (.int .i64 nodes), isV (.bool true), isV (.bool true), isV undef, isV undef, isV (.bool true), isV (.bool true), isV undef, isV undef, isV undef, isV undef, isV undef, isV (.bool true), isV (.bool true), isV undef, isV undef, isV undef, isV undef, isV undef, isV undef, isV undef, isV undef, isV undef, isV undef, isV undef, isV (.bool true)] Same.refl.drew (fun _ _ h k => h.trans k) (by simp [isV_stable, isB_stable, isAny_stable]) (by decide) (l := [_, _, _, _, _, _, _, _, _, _, _, _, _, _, _, _, _, _, _, _, _, _, _, _, _, _]) rfl (by decide) (by kernel_rfl) ?_ ?_
          · refine ⟨?_, ?_, ?_, ?_, ?_, ?_, ?_, ?_, ?_, ?_, ?_, ?_, ?_, ?_, ?_, ?_, ?_, ?_, ?_, ?_, ?_, ?_, ?_, ?_, ?_, ?_, trivial⟩
            all_goals (intro u wx hI hp; simp only [mkAct, List.foldl_cons, List.foldl_nil, List.setIfInBounds_toArray, List.set_cons_succ, List.set_cons_zero])
            · -- operation 0
              go_wp2
              refine stq_v rfl Same.refl ?_
              first | (simp only [mkAct, List.foldl_cons, List.foldl_nil, List.setIfInBounds_toArray, List.set_cons_succ, List.set_cons_zero, upd, reduceIte, Nat.reduceEqDiff, Nat.reduceAdd, str]; done) | (simp [mkAct, upd, str, *]; done)
            · -- operation 1
              obtain ⟨f0, -⟩ := hp
              replace f0 : u 0 = (.int .i64 nodes) := f0
              try simp only [f0, str]
              go_wp2
              refine stq_v rfl Same.refl ?_
              first | (simp only [mkAct, List.foldl_cons, List.foldl_nil, List.setIfInBounds_toArray, List.set_cons_succ, List.set_cons_zero, upd, reduceIte, Nat.reduceEqDiff, Nat.reduceAdd, f0, str]; done) | (simp [mkAct, upd, f0, str, *]; done)
            · -- operation 2
              obtain ⟨f1, -⟩ := hp
              replace f1 : u 1 = (.bool true) := f1
              try simp only [f1, str]
              go_wp2
              refine stq_v rfl Same.refl ?_
              first | (simp only [mkAct, List.foldl_cons, List.foldl_nil, List.setIfInBounds_toArray, List.set_cons_succ, List.set_cons_zero, upd, reduceIte, Nat.reduceEqDiff, Nat.reduceAdd, f1, str]; done) | (simp [mkAct, upd, f1, str, *]; done)
            · -- operation 3
              obtain ⟨f2, -⟩ := hp
              replace f2 : u 2 = (.bool true) := f2
              try simp only [f2, str]
              go_wp2
              refine stq_v rfl Same.refl ?_
              first | (simp only [mkAct, List.foldl_cons, List.foldl_nil, List.setIfInBounds_toArray, List.set_cons_succ, List.set_cons_zero, upd, reduceIte, Nat.reduceEqDiff, Nat.reduceAdd, f2, str]; done) | (simp [mkAct, upd, f2, str, *]; done)
            · -- operation 4
              obtain ⟨f3, f2, -⟩ := hp
              replace f3 : u 3 = undef := f3
              replace f2 : u 2 = (.bool true) := f2
              try simp only [f3, f2, str]
              go_wp2
              refine stq_v rfl Same.refl ?_
              first | (simp only [mkAct, List.foldl_cons, List.foldl_nil, List.setIfInBounds_toArray, List.set_cons_succ, List.set_cons_zero, upd, reduceIte, Nat.reduceEqDiff, Nat.reduceAdd, f3, f2, str]; done) | (simp [mkAct, upd, f3, f2, str, *]; done)
            · -- operation 5
              obtain ⟨f2, f4, -⟩ := hp
              replace f2 : u 2 = (.bool true) := f2
              replace f4 : u 4 = undef := f4
              try simp only [f2, f4, str]
              go_wp2
              refine stq_v rfl Same.refl ?_
              first | (simp only [mkAct, List.foldl_cons, List.foldl_nil, List.setIfInBounds_toArray, List.set_cons_succ, List.set_cons_zero, upd, reduceIte, Nat.reduceEqDiff, Nat.reduceAdd, f2, f4, str]; done) | (simp [mkAct, upd, f2, f4, str, *]; done)
            · -- operation 6
              obtain ⟨f5, -, -⟩ := hp
              replace f5 : u 5 = (.bool true) := f5
              try simp only [f5, str]
              go_wp2
              refine stq_v rfl Same.refl ?_
              first | (simp only [mkAct, List.foldl_cons, List.foldl_nil, List.setIfInBounds_toArray, List.set_cons_succ, List.set_cons_zero, upd, reduceIte, Nat.reduceEqDiff, Nat.reduceAdd, f5, str]; done) | (simp [mkAct, upd, f5, str, *]; done)
            · -- operation 7
              obtain ⟨f6, -⟩ := hp
              replace f6 : u 6 = (.bool true) := f6
              try simp only [f6, str]
              go_wp2
              refine stq_v rfl Same.refl ?_
              first | (simp only [mkAct, List.foldl_cons, List.foldl_nil, List.setIfInBounds_toArray, List.set_cons_succ, List.set_cons_zero, upd, reduceIte, Nat.reduceEqDiff, Nat.reduceAdd, f6, str]; done) | (simp [mkAct, upd, f6, str, *]; done)
            · -- operation 8
              obtain ⟨f7, f6, -⟩ := hp
              replace f7 : u 7 = undef := f7
              replace f6 : u 6 = (.bool true) := f6
              try simp only [f7, f6, str]
              go_wp2
              refine stq_v rfl Same.refl ?_
              first | (simp only [mkAct, List.foldl_cons, List.foldl_nil, List.setIfInBounds_toArray, List.set_cons_succ, List.set_cons_zero, upd, reduceIte, Nat.reduceEqDiff, Nat.reduceAdd, f7, f6, str]; done) | (simp [mkAct, upd, f7, f6, str, *]; done)
            · -- operation 9
              obtain ⟨f6, -⟩ := hp
              replace f6 : u 6 = (.bool true) := f6
              try simp only [f6, str]
              go_wp2
              refine stq_v rfl Same.refl ?_
              first | (simp only [mkAct, List.foldl_cons, List.foldl_nil, List.setIfInBounds_toArray, List.set_cons_succ, List.set_cons_zero, upd, reduceIte, Nat.reduceEqDiff, Nat.reduceAdd, f6, str]; done) | (simp [mkAct, upd, f6, str, *]; done)
            · -- operation 10
              obtain ⟨f9, -, f6, -⟩ := hp
              replace f9 : u 9 = undef := f9
              replace f6 : u 6 = (.bool true) := f6
              try simp only [f9, f6, str]
              go_wp2
              refine stq_v rfl Same.refl ?_
              first | (simp only [mkAct, List.foldl_cons, List.foldl_nil, List.setIfInBounds_toArray, List.set_cons_succ, List.set_cons_zero, upd, reduceIte, Nat.reduceEqDiff, Nat.reduceAdd, f9, f6, str]; done) | (simp [mkAct, upd, f9, f6, str, *]; done)
            · -- operation 11
              obtain ⟨f8, f10, f6, -⟩ := hp
              replace f8 : u 8 = undef := f8
              replace f10 : u 10 = undef := f10
              replace f6 : u 6 = (.bool true) := f6
              try simp only [f8, f10, f6, str]
              go_wp2
              refine stq_v rfl Same.refl ?_
              first | (simp only [mkAct, List.foldl_cons, List.foldl_nil, List.setIfInBounds_toArray, List.set_cons_succ, List.set_cons_zero, upd, reduceIte, Nat.reduceEqDiff, Nat.reduceAdd, f8, f10, f6, str]; done) | (simp [mkAct, upd, f8, f10, f6, str, *]; done)
            · -- operation 12
              obtain ⟨f6, f11, -⟩ := hp
              replace f6 : u 6 = (.bool true) := f6
              replace f11 : u 11 = undef := f11
              try simp only [f6, f11, str]
              go_wp2
              refine stq_v rfl Same.refl ?_
              first | (simp only [mkAct, List.foldl_cons, List.foldl_nil, List.setIfInBounds_toArray, List.set_cons_succ, List.set_cons_zero, upd, reduceIte, Nat.reduceEqDiff, Nat.reduceAdd, f6, f11, str]; done) | (simp [mkAct, upd, f6, f11, str, *]; done)
            · -- operation 13
              obtain ⟨f12, -, -⟩ := hp
              replace f12 : u 12 = (.bool true) := f12
              try simp only [f12, str]
              go_wp2
              refine stq_v rfl Same.refl ?_
              first | (simp only [mkAct, List.foldl_cons, List.foldl_nil, List.setIfInBounds_toArray, List.set_cons_succ, List.set_cons_zero, upd, reduceIte, Nat.reduceEqDiff, Nat.reduceAdd, f12, str]; done) | (simp [mkAct, upd, f12, str, *]; done)
            · -- operation 14
              obtain ⟨f13, -⟩ := hp
              replace f13 : u 13 = (.bool true) := f13
              try simp only [f13, str]
              go_wp2
              refine stq_v rfl Same.refl ?_
              first | (simp only [mkAct, List.foldl_cons, List.foldl_nil, List.setIfInBounds_toArray, List.set_cons_succ, List.set_cons_zero, upd, reduceIte, Nat.reduceEqDiff, Nat.reduceAdd, f13, str]; done) | (simp [mkAct, upd, f13, str, *]; done)
            · -- operation 15
              obtain ⟨f13, -⟩ := hp
              replace f13 : u 13 = (.bool true) := f13
              try simp only [f13, str]
              go_wp2
              refine stq_v rfl Same.refl ?_
              first | (simp only [mkAct, List.foldl_cons, List.foldl_nil, List.setIfInBounds_toArray, List.set_cons_succ, List.set_cons_zero, upd, reduceIte, Nat.reduceEqDiff, Nat.reduceAdd, f13, str]; done) | (simp [mkAct, upd, f13, str, *]; done)
            · -- operation 16
              obtain ⟨f13, -⟩ := hp
              replace f13 : u 13 = (.bool true) := f13
              try simp only [f13, str]
              go_wp2
              refine stq_v rfl Same.refl ?_
              first | (simp only [mkAct, List.foldl_cons, List.foldl_nil, List.setIfInBounds_toArray, List.set_cons_succ, List.set_cons_zero, upd, reduceIte, Nat.reduceEqDiff, Nat.reduceAdd, f13, str]; done) | (simp [mkAct, upd, f13, str, *]; done)
            · -- operation 17
              obtain ⟨f16, f13, -⟩ := hp
              replace f16 : u 16 = undef := f16
              replace f13 : u 13 = (.bool true) := f13
              try simp only [f16, f13, str]
              go_wp2
              refine stq_v rfl Same.refl ?_
              first | (simp only [mkAct, List.foldl_cons, List.foldl_nil, List.setIfInBounds_toArray, List.set_cons_succ, List.set_cons_zero, upd, reduceIte, Nat.reduceEqDiff, Nat.reduceAdd, f16, f13, str]; done) | (simp [mkAct, upd, f16, f13, str, *]; done)
            · -- operation 18
              obtain ⟨f15, f17, f13, -⟩ := hp
              replace f15 : u 15 = undef := f15
              replace f17 : u 17 = undef := f17
              replace f13 : u 13 = (.bool true) := f13
              try simp only [f15, f17, f13, str]
              go_wp2
              refine stq_v rfl Same.refl ?_
              first | (simp only [mkAct, List.foldl_cons, List.foldl_nil, List.setIfInBounds_toArray, List.set_cons_succ, List.set_cons_zero, upd, reduceIte, Nat.reduceEqDiff, Nat.reduceAdd, f15, f17, f13, str]; done) | (simp [mkAct, upd, f15, f17, f13, str, *]; done)
            · -- operation 19
              obtain ⟨f13, -⟩ := hp
              replace f13 : u 13 = (.bool true) := f13
              try simp only [f13, str]
              go_wp2
              refine stq_v rfl Same.refl ?_
              first | (simp only [mkAct, List.foldl_cons, List.foldl_nil, List.setIfInBounds_toArray, List.set_cons_succ, List.set_cons_zero, upd, reduceIte, Nat.reduceEqDiff, Nat.reduceAdd, f13, str]; done) | (simp [mkAct, upd, f13, str, *]; done)
            · -- operation 20
              obtain ⟨f19, -, f13, -⟩ := hp
              replace f19 : u 19 = undef := f19
              replace f13 : u 13 = (.bool true) := f13
              try simp only [f19, f13, str]
              go_wp2
              refine stq_v rfl Same.refl ?_
              first | (simp only [mkAct, List.foldl_cons, List.foldl_nil, List.setIfInBounds_toArray, List.set_cons_succ, List.set_cons_zero, upd, reduceIte, Nat.reduceEqDiff, Nat.reduceAdd, f19, f13, str]; done) | (simp [mkAct, upd, f19, f13, str, *]; done)
            · -- operation 21
              obtain ⟨f13, -⟩ := hp
              replace f13 : u 13 = (.bool true) := f13
              try simp only [f13, str]
              go_wp2
              refine stq_v rfl Same.refl ?_
              first | (simp only [mkAct, List.foldl_cons, List.foldl_nil, List.setIfInBounds_toArray, List.set_cons_succ, List.set_cons_zero, upd, reduceIte, Nat.reduceEqDiff, Nat.reduceAdd, f13, str]; done) | (simp [mkAct, upd, f13, str, *]; done)
            · -- operation 22
              obtain ⟨f21, f13, -⟩ := hp
              replace f21 : u 21 = undef := f21
              replace f13 : u 13 = (.bool true) := f13
              try simp only [f21, f13, str]
              go_wp2
              refine stq_v rfl Same.refl ?_
              first | (simp only [mkAct, List.foldl_cons, List.foldl_nil, List.setIfInBounds_toArray, List.set_cons_succ, List.set_cons_zero, upd, reduceIte, Nat.reduceEqDiff, Nat.reduceAdd, f21, f13, str]; done) | (simp [mkAct, upd, f21, f13, str, *]; done)
            · -- operation 23
              obtain ⟨f14, f18, f20, f22, -, f13, -⟩ := hp
              replace f14 : u 14 = undef := f14
              replace f18 : u 18 = undef := f18
              replace f20 : u 20 = undef := f20
              replace f22 : u 22 = undef := f22
              replace f13 : u 13 = (.bool true) := f13
              try simp only [f14, f18, f20, f22, f13, str]
              go_wp2
              refine stq_v rfl Same.refl ?_
              first | (simp only [mkAct, List.foldl_cons, List.foldl_nil, List.setIfInBounds_toArray, List.set_cons_succ, List.set_cons_zero, upd, reduceIte, Nat.reduceEqDiff, Nat.reduceAdd, f14, f18, f20, f22, f13, str]; done) | (simp [mkAct, upd, f14, f18, f20, f22, f13, str, *]; done)
            · -- operation 24
              obtain ⟨f23, f13, -⟩ := hp
              replace f23 : u 23 = undef := f23
              replace f13 : u 13 = (.bool true) := f13
              try simp only [f23, f13, str]
              go_wp2
              refine stq_v rfl Same.refl ?_
              first | (simp only [mkAct, List.foldl_cons, List.foldl_nil, List.setIfInBounds_toArray, List.set_cons_succ, List.set_cons_zero, upd, reduceIte, Nat.reduceEqDiff, Nat.reduceAdd, f23, f13, str]; done) | (simp [mkAct, upd, f23, f13, str, *]; done)
            · -- operation 25
              obtain ⟨f13, f24, -⟩ := hp
              replace f13 : u 13 = (.bool true) := f13
              replace f24 : u 24 = undef := f24
              try simp only [f13, f24, str]
              go_wp2
              refine stq_v rfl Same.refl ?_
              first | (simp only [mkAct, List.foldl_cons, List.foldl_nil, List.setIfInBounds_toArray, List.set_cons_succ, List.set_cons_zero, upd, reduceIte, Nat.reduceEqDiff, Nat.reduceAdd, f13, f24, str]; done) | (simp [mkAct, upd, f13, f24, str, *]; done)
          · intro u wx hI hR
            obtain ⟨r0, r1, r2, r3, r4, r5, r6, r7, r8, r9, r10, r11, r12, r13, r14, r15, r16, r17, r18, r19, r20, r21, r22, r23, r24, r25, -⟩ := hR
            replace r0 : u 0 = (.int .i64 nodes) := r0
            replace r1 : u 1 = (.bool true) := r1
            replace r2 : u 2 = (.bool true) := r2
            replace r3 : u 3 = undef := r3
            replace r4 : u 4 = undef := r4
            replace r5 : u 5 = (.bool true) := r5
            replace r6 : u 6 = (.bool true) := r6
            replace r7 : u 7 = undef := r7
            replace r8 : u 8 = undef := r8
            replace r9 : u 9 = undef := r9
            replace r10 : u 10 = undef := r10
            replace r11 : u 11 = undef := r11
            replace r12 : u 12 = (.bool true) := r12
            replace r13 : u 13 = (.bool true) := r13
            replace r14 : u 14 = undef := r14
            replace r15 : u 15 = undef := r15
            replace r16 : u 16 = undef := r16
            replace r17 : u 17 = undef := r17
            replace r18 : u 18 = undef := r18
            replace r19 : u 19 = undef := r19
            replace r20 : u 20 = undef := r20
            replace r21 : u 21 = undef := r21
            replace r22 : u 22 = undef := r22
            replace r23 : u 23 = undef := r23
            replace r24 : u 24 = undef := r24
            replace r25 : u 25 = (.bool true) := r25
            simp only [mkAct, List.foldl_cons, List.foldl_nil, List.setIfInBounds_toArray, List.set_cons_succ, List.set_cons_zero]
            try simp only [str, r0, r1, r2, r3, r4, r5, r6, r7, r8, r9, r10, r11, r12, r13, r14, r15, r16, r17, r18, r19, r20, r21, r22, r23, r24, r25]
            go_wp2
            go_meet
            exact ⟨rfl, hI⟩
        case rest =>
          obtain ⟨rfl, hs3⟩ := hcut
          go_wp2
          go_ret
          exact ⟨rfl, hw2.out.trans hs3⟩
      · -- case B
        subst hg
        clear m1 m2 m3 m4 m5
        try clear hs
        replace hc := Lib.hid hc
        replace h := Lib.hid h
        replace hmay := Lib.hid hmay
        go_enter Try.func38, Try.ntmps38
        go_upto_region 1 with (refine box_row rfl _ _ rfl _ rfl hinf.out ?_; intro w0 hbx hs0; have hbxl := blk_lt hbx; have c0 := req_client hbx; rw [← hc.out] at c0; replace c0 := Lib.hid c0; replace hbx := Lib.hid hbx; replace hs0 := Lib.hid hs0)
        go_wp2_with fail
        refine (hlen.out _ (h.out.same hs0.out)).mono ?_
        rintro e w2 ⟨rfl, rfl⟩
        go_wp2_with (refine load_row rfl _ _ rfl w.heap.size rfl _ _ _ _ hbx.out Try.underlying78 rfl hinf.out ?_)
        refine (hmay.out _).mono ?_
        rintro e w2 ⟨rfl, hs2⟩
        have hk2 := Lib.hid (h.out.same (hs0.out.trans hs2))
        have c02 := Lib.hid (hs2.cell c0.out)
        have hw2 := Lib.hid (hs0.out.trans hs2)
        clear hs2 hs0 h c0
        go_upto_region 5 with fail
        go_cut [18] (fun v wx => v = .bool true ∧ Same w2 wx)
        case first =>
          refine wp_region_tails (by kernel_rfl) [(19, 0), (20, 1), (21, 2), (22, 3), (23, 4), (24, 5), (25, 6), (26, 7), (27, 8), (28, 9), (29, 10), (30, 11), (31, 12), (32, 13), (33, 14), (34, 15), (35, 16), (36, 17), (37, 18), (38, 19), (39, 20), (40, 21), (41, 22), (42, 23), (43, 24), (44, 25)] Same (Same _) [isV (.int .i64 nodes), isV (.bool false), isV (.bool false), isV (.int .i64 nodes), isV (.bool true), isV (.bool true), isV (.bool true), isV undef, isV undef, isV undef, isV undef, isV undef, isV (.bool true), isV (.bool true), isV undef, isV undef, isV undef, isV undef, isV undef, isV undef, isV undef, isV undef, isV undef, isV undef, isV undef, isV (.bool true)] Same.refl.drew (fun _ _ h k => h.trans k) (by simp [isV_stable, isB_stable, isAny_stable]) (by decide) (l := [_, _, _, _, _, _, _, _, _, _, _, _, _, _, _, _, _, _, _, _, _, _, _, _, _, _]) rfl (by decide) (by kernel_rfl) ?_ ?_
          · refine ⟨?_, ?_, ?_, ?_, ?_, ?_, ?_, ?_, ?_, ?_, ?_, ?_, ?_, ?_, ?_, ?_, ?_, ?_, ?_, ?_, ?_, ?_, ?_, ?_, ?_, ?_, trivial⟩
            all_goals (intro u wx hI hp; simp only [mkAct, List.foldl_cons, List.foldl_nil, List.setIfInBounds_toArray, List.set_cons_succ, List.set_cons_zero])
            · -- operation 0
              go_wp2
              refine stq_v rfl Same.refl ?_
              first | (simp only [mkAct, List.foldl_cons, List.foldl_nil, List.setIfInBounds_toArray, List.set_cons_succ, List.set_cons_zero, upd, reduceIte, Nat.reduceEqDiff, Nat.reduceAdd, str]; done) | (simp [mkAct, upd, str, *]; done)
            · -- operation 1
              obtain ⟨f0, -⟩ := hp
              replace f0 : u 0 = (.int .i64 nodes) := f0
              try simp only [f0, str]
              go_wp2
              refine stq_v rfl Same.refl ?_
              first | (simp only [mkAct, List.foldl_cons, List.foldl_nil, List.setIfInBounds_toArray, List.set_cons_succ, List.set_cons_zero, upd, reduceIte, Nat.reduceEqDiff, Nat.reduceAdd, f0, str]; done) | (simp [mkAct, upd, f0, str, *]; done)
            · -- operation 2
              obtain ⟨f1, -⟩ := hp
              replace f1 : u 1 = (.bool false) := f1
              try simp only [f1, str]
              go_wp2
              refine stq_v rfl Same.refl ?_
              first | (simp only [mkAct, List.foldl_cons, List.foldl_nil, List.setIfInBounds_toArray, List.set_cons_succ, List.set_cons_zero, upd, reduceIte, Nat.reduceEqDiff, Nat.reduceAdd, f1, str]; done) | (simp [mkAct, upd, f1, str, *]; done)
            · -- operation 3
              obtain ⟨f2, -⟩ := hp
              replace f2 : u 2 = (.bool false) := f2
              try simp only [f2, str]
              go_wp2
              refine stq_v rfl Same.refl ?_
              first | (simp only [mkAct, List.foldl_cons, List.foldl_nil, List.setIfInBounds_toArray, List.set_cons_succ, List.set_cons_zero, upd, reduceIte, Nat.reduceEqDiff, Nat.reduceAdd, f2, str]; done) | (simp [mkAct, upd, f2, str, *]; done)
            · -- operation 4
              obtain ⟨f3, f2, -⟩ := hp
              replace f3 : u 3 = (.int .i64 nodes) := f3
              replace f2 : u 2 = (.bool false) := f2
              try simp only [f3, f2, str]
              go_wp2
              refine stq_v rfl Same.refl ?_
              first | (simp only [mkAct, List.foldl_cons, List.foldl_nil, List.setIfInBounds_toArray, List.set_cons_succ, List.set_cons_zero, upd, reduceIte, Nat.reduceEqDiff, Nat.reduceAdd, f3, f2, str]; done) | (simp [mkAct, upd, f3, f2, str, *]; done)
            · -- operation 5
              obtain ⟨f2, f4, -⟩ := hp
              replace f2 : u 2 = (.bool false) := f2
              replace f4 : u 4 = (.bool true) := f4
              try simp only [f2, f4, str]
              go_wp2
              refine stq_v rfl Same.refl ?_
              first | (simp only [mkAct, List.foldl_cons, List.foldl_nil, List.setIfInBounds_toArray, List.set_cons_succ, List.set_cons_zero, upd, reduceIte, Nat.reduceEqDiff, Nat.reduceAdd, f2, f4, str]; done) | (simp [mkAct, upd, f2, f4, str, *]; done)
            · -- operation 6
              obtain ⟨f5, -, -⟩ := hp
              replace f5 : u 5 = (.bool true) := f5
              try simp only [f5, str]
              go_wp2
              refine stq_v rfl Same.refl ?_
              first | (simp only [mkAct, List.foldl_cons, List.foldl_nil, List.setIfInBounds_toArray, List.set_cons_succ, List.set_cons_zero, upd, reduceIte, Nat.reduceEqDiff, Nat.reduceAdd, f5, str]; done) | (simp [mkAct, upd, f5, str, *]; done)
            · -- operation 7
              obtain ⟨f6, -⟩ := hp
              replace f6 : u 6 = (.bool true) := f6
              try simp only [f6, str]
              go_wp2
              refine stq_v rfl Same.refl ?_
              first | (simp only [mkAct, List.foldl_cons, List.foldl_nil, List.setIfInBounds_toArray, List.set_cons_succ, List.set_cons_zero, upd, reduceIte, Nat.reduceEqDiff, Nat.reduceAdd, f6, str]; done) | (simp [mkAct, upd, f6, str, *]; done)
            · -- operation 8
              obtain ⟨f7, f6, -⟩ := hp
              replace f7 : u 7 = undef := f7
              replace f6 : u 6 = (.bool true) := f6
              try simp only [f7, f6, str]
              go_wp2
              refine stq_v rfl Same.refl ?_
              first | (simp only [mkAct, List.foldl_cons, List.foldl_nil, List.setIfInBounds_toArray, List.set_cons_succ, List.set_cons_zero, upd, reduceIte, Nat.reduceEqDiff, Nat.reduceAdd, f7, f6, str]; done) | (simp [mkAct, upd, f7, f6, str, *]; done)
            · -- operation 9
              obtain ⟨f6, -⟩ := hp
              replace f6 : u 6 = (.bool true) := f6
              try simp only [f6, str]
              go_wp2
              refine stq_v rfl Same.refl ?_
              first | (simp only [mkAct, List.foldl_cons, List.foldl_nil, List.setIfInBounds_toArray, List.set_cons_succ, List.set_cons_zero, upd, reduceIte, Nat.reduceEqDiff, Nat.reduceAdd, f6, str]; done) | (simp [mkAct, upd, f6, str, *]; done)
            · -- operation 10
              obtain ⟨f9, -, f6, -⟩ := hp
              replace f9 : u 9 = undef := f9
              replace f6 : u 6 = (.bool true) := f6
              try simp only [f9, f6, str]
              go_wp2
              refine stq_v rfl Same.refl ?_
              first | (simp only [mkAct, List.foldl_cons, List.foldl_nil, List.setIfInBounds_toArray, List.set_cons_succ, List.set_cons_zero, upd, reduceIte, Nat.reduceEqDiff, Nat.reduceAdd, f9, f6, str]; done) | (simp [mkAct, upd, f9, f6, str, *]; done)
            · -- operation 11
              obtain ⟨f8, f10, f6, -⟩ := hp
              replace f8 : u 8 = undef := f8
              replace f10 : u 10 = undef := f10
              replace f6 : u 6 = (.bool true) := f6
              try simp only [f8, f10, f6, str]
              go_wp2
              refine stq_v rfl Same.refl ?_
              first | (simp only [mkAct, List.foldl_cons, List.foldl_nil, List.setIfInBounds_toArray, List.set_cons_succ, List.set_cons_zero, upd, reduceIte, Nat.reduceEqDiff, Nat.reduceAdd, f8, f10, f6, str]; done) | (simp [mkAct, upd, f8, f10, f6, str, *]; done)
            · -- operation 12
              obtain ⟨f6, f11, -⟩ := hp
              replace f6 : u 6 = (.bool true) := f6
              replace f11 : u 11 = undef := f11
              try simp only [f6, f11, str]
              go_wp2
              refine stq_v rfl Same.refl ?_
              first | (simp only [mkAct, List.foldl_cons, List.foldl_nil, List.setIfInBounds_toArray, List.set_cons_succ, List.set_cons_zero, upd, reduceIte, Nat.reduceEqDiff, Nat.reduceAdd, f6, f11, str]; done) | (simp [mkAct, upd, f6, f11, str, *]; done)
            · -- operation 13
              obtain ⟨f12, -, -⟩ := hp
              replace f12 : u 12 = (.bool true) := f12
              try simp only [f12, str]
              go_wp2
              refine stq_v rfl Same.refl ?_
              first | (simp only [mkAct, List.foldl_cons, List.foldl_nil, List.setIfInBounds_toArray, List.set_cons_succ, List.set_cons_zero, upd, reduceIte, Nat.reduceEqDiff, Nat.reduceAdd, f12, str]; done) | (simp [mkAct, upd, f12, str, *]; done)
            · -- operation 14
              obtain ⟨f13, -⟩ := hp
              replace f13 : u 13 = (.bool true) := f13
              try simp only [f13, str]
              go_wp2
              refine stq_v rfl Same.refl ?_
              first | (simp only [mkAct, List.foldl_cons, List.foldl_nil, List.setIfInBounds_toArray, List.set_cons_succ, List.set_cons_zero, upd, reduceIte, Nat.reduceEqDiff, Nat.reduceAdd, f13, str]; done) | (simp [mkAct, upd, f13, str, *]; done)
            · -- operation 15
              obtain ⟨f13, -⟩ := hp
              replace f13 : u 13 = (.bool true) := f13
              try simp only [f13, str]
              go_wp2
              refine stq_v rfl Same.refl ?_
              first | (simp only [mkAct, List.foldl_cons, List.foldl_nil, List.setIfInBounds_toArray, List.set_cons_succ, List.set_cons_zero, upd, reduceIte, Nat.reduceEqDiff, Nat.reduceAdd, f13, str]; done) | (simp [mkAct, upd, f13, str, *]; done)
            · -- operation 16
              obtain ⟨f13, -⟩ := hp
              replace f13 : u 13 = (.bool true) := f13
              try simp only [f13, str]
              go_wp2
              refine stq_v rfl Same.refl ?_
              first | (simp only [mkAct, List.foldl_cons, List.foldl_nil, List.setIfInBounds_toArray, List.set_cons_succ, List.set_cons_zero, upd, reduceIte, Nat.reduceEqDiff, Nat.reduceAdd, f13, str]; done) | (simp [mkAct, upd, f13, str, *]; done)
            · -- operation 17
              obtain ⟨f16, f13, -⟩ := hp
              replace f16 : u 16 = undef := f16
              replace f13 : u 13 = (.bool true) := f13
              try simp only [f16, f13, str]
              go_wp2
              refine stq_v rfl Same.refl ?_
              first | (simp only [mkAct, List.foldl_cons, List.foldl_nil, List.setIfInBounds_toArray, List.set_cons_succ, List.set_cons_zero, upd, reduceIte, Nat.reduceEqDiff, Nat.reduceAdd, f16, f13, str]; done) | (simp [mkAct, upd, f16, f13, str, *]; done)
            · -- operation 18
              obtain ⟨f15, f17, f13, -⟩ := hp
              replace f15 : u 15 = undef := f15
              replace f17 : u 17 = undef := f17
              replace f13 : u 13 = (.bool true) := f13
              try simp only [f15, f17, f13, str]
              go_wp2
              refine stq_v rfl Same.refl ?_
              first | (simp only [mkAct, List.foldl_cons, List.foldl_nil, List.setIfInBounds_toArray, List.set_cons_succ, List.set_cons_zero, upd, reduceIte, Nat.reduceEqDiff, Nat.reduceAdd, f15, f17, f13, str]; done) | (simp [mkAct, upd, f15, f17, f13, str, *]; done)
            · -- operation 19
              obtain ⟨f13, -⟩ := hp
              replace f13 : u 13 = (.bool true) := f13
              try simp only [f13, str]
              go_wp2
              refine stq_v rfl Same.refl ?_
              first | (simp only [mkAct, List.foldl_cons, List.foldl_nil, List.setIfInBounds_toArray, List.set_cons_succ, List.set_cons_zero, upd, reduceIte, Nat.reduceEqDiff, Nat.reduceAdd, f13, str]; done) | (simp [mkAct, upd, f13, str, *]; done)
            · -- operation 20
              obtain ⟨f19, -, f13, -⟩ := hp
              replace f19 : u 19 = undef := f19
              replace f13 : u 13 = (.bool true) := f13
              try simp only [f19, f13, str]
              go_wp2
              refine stq_v rfl Same.refl ?_
              first | (simp only [mkAct, List.foldl_cons, List.foldl_nil, List.setIfInBounds_toArray, List.set_cons_succ, List.set_cons_zero, upd, reduceIte, Nat.reduceEqDiff, Nat.reduceAdd, f19, f13, str]; done) | (simp [mkAct, upd, f19, f13, str, *]; done)
            · -- operation 21
              obtain ⟨f13, -⟩ := hp
              replace f13 : u 13 = (.bool true) := f13
              try simp only [f13, str]
              go_wp2
              refine stq_v rfl Same.refl ?_
              first | (simp only [mkAct, List.foldl_cons, List.foldl_nil, List.setIfInBounds_toArray, List.set_cons_succ, List.set_cons_zero, upd, reduceIte, Nat.reduceEqDiff, Nat.reduceAdd, f13, str]; done) | (simp [mkAct, upd, f13, str, *]; done)
            · -- operation 22
              obtain ⟨f21, f13, -⟩ := hp
              replace f21 : u 21 = undef := f21
              replace f13 : u 13 = (.bool true) := f13
              try simp only [f21, f13, str]
              go_wp2
              refine stq_v rfl Same.refl ?_
              first | (simp only [mkAct, List.foldl_cons, List.foldl_nil, List.setIfInBounds_toArray, List.set_cons_succ, List.set_cons_zero, upd, reduceIte, Nat.reduceEqDiff, Nat.reduceAdd, f21, f13, str]; done) | (simp [mkAct, upd, f21, f13, str, *]; done)
            · -- operation 23
              obtain ⟨f14, f18, f20, f22, -, f13, -⟩ := hp
              replace f14 : u 14 = undef := f14
              replace f18 : u 18 = undef := f18
              replace f20 : u 20 = undef := f20
              replace f22 : u 22 = undef := f22
              replace f13 : u 13 = (.bool true) := f13
              try simp only [f14, f18, f20, f22, f13, str]
              go_wp2
              refine stq_v rfl Same.refl ?_
              first | (simp only [mkAct, List.foldl_cons, List.foldl_nil, List.setIfInBounds_toArray, List.set_cons_succ, List.set_cons_zero, upd, reduceIte, Nat.reduceEqDiff, Nat.reduceAdd, f14, f18, f20, f22, f13, str]; done) | (simp [mkAct, upd, f14, f18, f20, f22, f13, str, *]; done)
            · -- operation 24
              obtain ⟨f23, f13, -⟩ := hp
              replace f23 : u 23 = undef := f23
              replace f13 : u 13 = (.bool true) := f13
              try simp only [f23, f13, str]
              go_wp2
              refine stq_v rfl Same.refl ?_
              first | (simp only [mkAct, List.foldl_cons, List.foldl_nil, List.setIfInBounds_toArray, List.set_cons_succ, List.set_cons_zero, upd, reduceIte, Nat.reduceEqDiff, Nat.reduceAdd, f23, f13, str]; done) | (simp [mkAct, upd, f23, f13, str, *]; done)
            · -- operation 25
              obtain ⟨f13, f24, -⟩ := hp
              replace f13 : u 13 = (.bool true) := f13
              replace f24 : u 24 = undef := f24
              try simp only [f13, f24, str]
              go_wp2
              refine stq_v rfl Same.refl ?_
              first | (simp only [mkAct, List.foldl_cons, List.foldl_nil, List.setIfInBounds_toArray, List.set_cons_succ, List.set_cons_zero, upd, reduceIte, Nat.reduceEqDiff, Nat.reduceAdd, f13, f24, str]; done) | (simp [mkAct, upd, f13, f24, str, *]; done)
          · intro u wx hI hR
            obtain ⟨r0, r1, r2, r3, r4, r5, r6, r7, r8, r9, r10, r11, r12, r13, r14, r15, r16, r17, r18, r19, r20, r21, r22, r23, r24, r25, -⟩ := hR
            replace r0 : u 0 = (.int .i64 nodes) := r0
            replace r1 : u 1 = (.bool false) := r1
            replace r2 : u 2 = (.bool false) := r2
            replace r3 : u 3 = (.int .i64 nodes) := r3
            replace r4 : u 4 = (.bool true) := r4
            replace r5 : u 5 = (.bool true) := r5
            replace r6 : u 6 = (.bool true) := r6
            replace r7 : u 7 = undef := r7
            replace r8 : u 8 = undef := r8
            replace r9 : u 9 = undef := r9
            replace r10 : u 10 = undef := r10
            replace r11 : u 11 = undef := r11
            replace r12 : u 12 = (.bool true) := r12
            replace r13 : u 13 = (.bool true) := r13
            replace r14 : u 14 = undef := r14
            replace r15 : u 15 = undef := r15
            replace r16 : u 16 = undef := r16
            replace r17 : u 17 = undef := r17
            replace r18 : u 18 = undef := r18
            replace r19 : u 19 = undef := r19
            replace r20 : u 20 = undef := r20
            replace r21 : u 21 = undef := r21
            replace r22 : u 22 = undef := r22
            replace r23 : u 23 = undef := r23
            replace r24 : u 24 = undef := r24
            replace r25 : u 25 = (.bool true) := r25
            simp only [mkAct, List.foldl_cons, List.foldl_nil, List.setIfInBounds_toArray, List.set_cons_succ, List.set_cons_zero]
            try simp only [str, r0, r1, r2, r3, r4, r5, r6, r7, r8, r9, r10, r11, r12, r13, r14, r15, r16, r17, r18, r19, r20, r21, r22, r23, r24, r25]
            go_wp2
            go_meet
            exact ⟨rfl, hI⟩
        case rest =>
          obtain ⟨rfl, hs3⟩ := hcut
          go_wp2
          go_ret
          exact ⟨rfl, hw2.out.trans hs3⟩
      · -- case C
        subst hg
        clear m1 m2 m3 m4 m5
        try clear hs
        replace hc := Lib.hid hc
        replace h := Lib.hid h
        replace hmay := Lib.hid hmay
        go_enter Try.func38, Try.ntmps38
        go_upto_region 1 with (refine box_row rfl _ _ rfl _ rfl hinf.out ?_; intro w0 hbx hs0; have hbxl := blk_lt hbx; have c0 := req_client hbx; rw [← hc.out] at c0; replace c0 := Lib.hid c0; replace hbx := Lib.hid hbx; replace hs0 := Lib.hid hs0)
        go_wp2_with fail
        refine (hlen.out _ (h.out.same hs0.out)).mono ?_
        rintro e w2 ⟨rfl, rfl⟩
        go_wp2_with (refine load_row rfl _ _ rfl w.heap.size rfl _ _ _ _ hbx.out Try.underlying78 rfl hinf.out ?_)
        refine (hmay.out _).mono ?_
        rintro e w2 ⟨rfl, hs2⟩
        have hk2 := Lib.hid (h.out.same (hs0.out.trans hs2))
        have c02 := Lib.hid (hs2.cell c0.out)
        have hw2 := Lib.hid (hs0.out.trans hs2)
        clear hs2 hs0 h c0
        go_upto_region 5 with fail
        go_cut [18] (fun v wx => v = .bool true ∧ Same w2 wx)
        case first =>
          refine wp_region_tails (by kernel_rfl) [(19, 0), (20, 1), (21, 2), (22, 3), (23, 4), (24, 5), (25, 6), (26, 7), (27, 8), (28, 9), (29, 10), (30, 11), (31, 12), (32, 13), (33, 14), (34, 15), (35, 16), (36, 17), (37, 18), (38, 19), (39, 20), (40, 21), (41, 22), (42, 23), (43, 24), (44, 25)] Same (Same _) [isV (.int .i64 nodes), isV (.bool false), isV (.bool false), isV (.int .i64 nodes), isV (.bool false), isV (.bool false), isV (.bool false), isV (.pointer (some ⟨w.heap.size, 0, none⟩)), isV (.int .i64 c), isV (.pointer p), isV (.int .i64 (N : Int)), isV (.bool true), isV (.bool true), isV (.bool true), isV undef, isV undef, isV undef, isV undef, isV undef, isV undef, isV undef, isV undef, isV undef, isV undef, isV undef, isV (.bool true)] Same.refl.drew (fun _ _ h k => h.trans k) (by simp [isV_stable, isB_stable, isAny_stable]) (by decide) (l := [_, _, _, _, _, _, _, _, _, _, _, _, _, _, _, _, _, _, _, _, _, _, _, _, _, _]) rfl (by decide) (by kernel_rfl) ?_ ?_
          · refine ⟨?_, ?_, ?_, ?_, ?_, ?_, ?_, ?_, ?_, ?_, ?_, ?_, ?_, ?_, ?_, ?_, ?_, ?_, ?_, ?_, ?_, ?_, ?_, ?_, ?_, ?_, trivial⟩
            all_goals (intro u wx hI hp; simp only [mkAct, List.foldl_cons, List.foldl_nil, List.setIfInBounds_toArray, List.set_cons_succ, List.set_cons_zero])
            · -- operation 0
              go_wp2
              refine stq_v rfl Same.refl ?_
              first | (simp only [mkAct, List.foldl_cons, List.foldl_nil, List.setIfInBounds_toArray, List.set_cons_succ, List.set_cons_zero, upd, reduceIte, Nat.reduceEqDiff, Nat.reduceAdd, str]; done) | (simp [mkAct, upd, str, *]; done)
            · -- operation 1
              obtain ⟨f0, -⟩ := hp
              replace f0 : u 0 = (.int .i64 nodes) := f0
              try simp only [f0, str]
              go_wp2
              refine stq_v rfl Same.refl ?_
              first | (simp only [mkAct, List.foldl_cons, List.foldl_nil, List.setIfInBounds_toArray, List.set_cons_succ, List.set_cons_zero, upd, reduceIte, Nat.reduceEqDiff, Nat.reduceAdd, f0, str]; done) | (simp [mkAct, upd, f0, str, *]; done)
            · -- operation 2
              obtain ⟨f1, -⟩ := hp
              replace f1 : u 1 = (.bool false) := f1
              try simp only [f1, str]
              go_wp2
              refine stq_v rfl Same.refl ?_
              first | (simp only [mkAct, List.foldl_cons, List.foldl_nil, List.setIfInBounds_toArray, List.set_cons_succ, List.set_cons_zero, upd, reduceIte, Nat.reduceEqDiff, Nat.reduceAdd, f1, str]; done) | (simp [mkAct, upd, f1, str, *]; done)
            · -- operation 3
              obtain ⟨f2, -⟩ := hp
              replace f2 : u 2 = (.bool false) := f2
              try simp only [f2, str]
              go_wp2
              refine stq_v rfl Same.refl ?_
              first | (simp only [mkAct, List.foldl_cons, List.foldl_nil, List.setIfInBounds_toArray, List.set_cons_succ, List.set_cons_zero, upd, reduceIte, Nat.reduceEqDiff, Nat.reduceAdd, f2, str]; done) | (simp [mkAct, upd, f2, str, *]; done)
            · -- operation 4
              obtain ⟨f3, f2, -⟩ := hp
              replace f3 : u 3 = (.int .i64 nodes) := f3
              replace f2 : u 2 = (.bool false) := f2
              try simp only [f3, f2, str]
              go_wp2
              refine stq_v rfl Same.refl ?_
              first | (simp only [mkAct, List.foldl_cons, List.foldl_nil, List.setIfInBounds_toArray, List.set_cons_succ, List.set_cons_zero, upd, reduceIte, Nat.reduceEqDiff, Nat.reduceAdd, f3, f2, str]; done) | (simp [mkAct, upd, f3, f2, str, *]; done)
            · -- operation 5
              obtain ⟨f2, f4, -⟩ := hp
              replace f2 : u 2 = (.bool false) := f2
              replace f4 : u 4 = (.bool false) := f4
              try simp only [f2, f4, str]
              go_wp2
              refine stq_v rfl Same.refl ?_
              first | (simp only [mkAct, List.foldl_cons, List.foldl_nil, List.setIfInBounds_toArray, List.set_cons_succ, List.set_cons_zero, upd, reduceIte, Nat.reduceEqDiff, Nat.reduceAdd, f2, f4, str]; done) | (simp [mkAct, upd, f2, f4, str, *]; done)
            · -- operation 6
              obtain ⟨f5, -, -⟩ := hp
              replace f5 : u 5 = (.bool false) := f5
              try simp only [f5, str]
              go_wp2
              refine stq_v rfl Same.refl ?_
              first | (simp only [mkAct, List.foldl_cons, List.foldl_nil, List.setIfInBounds_toArray, List.set_cons_succ, List.set_cons_zero, upd, reduceIte, Nat.reduceEqDiff, Nat.reduceAdd, f5, str]; done) | (simp [mkAct, upd, f5, str, *]; done)
            · -- operation 7
              obtain ⟨f6, -⟩ := hp
              replace f6 : u 6 = (.bool false) := f6
              try simp only [f6, str]
              go_wp2
              refine stq_v rfl Same.refl ?_
              first | (simp only [mkAct, List.foldl_cons, List.foldl_nil, List.setIfInBounds_toArray, List.set_cons_succ, List.set_cons_zero, upd, reduceIte, Nat.reduceEqDiff, Nat.reduceAdd, f6, str]; done) | (simp [mkAct, upd, f6, str, *]; done)
            · -- operation 8
              obtain ⟨f7, f6, -⟩ := hp
              replace f7 : u 7 = (.pointer (some ⟨w.heap.size, 0, none⟩)) := f7
              replace f6 : u 6 = (.bool false) := f6
              try simp only [f7, f6, str]
              have cx := hI.cell (c02.out)
              go_wp2
              refine stq_v rfl Same.refl ?_
              first | (simp only [mkAct, List.foldl_cons, List.foldl_nil, List.setIfInBounds_toArray, List.set_cons_succ, List.set_cons_zero, upd, reduceIte, Nat.reduceEqDiff, Nat.reduceAdd, f7, f6, str]; done) | (simp [mkAct, upd, f7, f6, str, *]; done)
            · -- operation 9
              obtain ⟨f6, -⟩ := hp
              replace f6 : u 6 = (.bool false) := f6
              try simp only [f6, str]
              go_wp2
              refine stq_v rfl Same.refl ?_
              first | (simp only [mkAct, List.foldl_cons, List.foldl_nil, List.setIfInBounds_toArray, List.set_cons_succ, List.set_cons_zero, upd, reduceIte, Nat.reduceEqDiff, Nat.reduceAdd, f6, str]; done) | (simp [mkAct, upd, f6, str, *]; done)
            · -- operation 10
              obtain ⟨f9, -, f6, -⟩ := hp
              replace f9 : u 9 = (.pointer p) := f9
              replace f6 : u 6 = (.bool false) := f6
              try simp only [f9, f6, str]
              go_wp2_with fail
              refine (hlen.out _ (hk2.out.same hI)).mono ?_
              rintro e w1 ⟨rfl, rfl⟩
              go_wp2
              refine stq_v rfl Same.refl ?_
              first | (simp only [mkAct, List.foldl_cons, List.foldl_nil, List.setIfInBounds_toArray, List.set_cons_succ, List.set_cons_zero, upd, reduceIte, Nat.reduceEqDiff, Nat.reduceAdd, f9, f6, str]; done) | (simp [mkAct, upd, f9, f6, str, *]; done)
            · -- operation 11
              obtain ⟨f8, f10, f6, -⟩ := hp
              replace f8 : u 8 = (.int .i64 c) := f8
              replace f10 : u 10 = (.int .i64 (N : Int)) := f10
              replace f6 : u 6 = (.bool false) := f6
              try simp only [f8, f10, f6, str]
              go_wp2
              refine stq_v rfl Same.refl ?_
              first | (simp only [mkAct, List.foldl_cons, List.foldl_nil, List.setIfInBounds_toArray, List.set_cons_succ, List.set_cons_zero, upd, reduceIte, Nat.reduceEqDiff, Nat.reduceAdd, f8, f10, f6, str]; done) | (simp [mkAct, upd, f8, f10, f6, str, *]; done)
            · -- operation 12
              obtain ⟨f6, f11, -⟩ := hp
              replace f6 : u 6 = (.bool false) := f6
              replace f11 : u 11 = (.bool true) := f11
              try simp only [f6, f11, str]
              go_wp2
              refine stq_v rfl Same.refl ?_
              first | (simp only [mkAct, List.foldl_cons, List.foldl_nil, List.setIfInBounds_toArray, List.set_cons_succ, List.set_cons_zero, upd, reduceIte, Nat.reduceEqDiff, Nat.reduceAdd, f6, f11, str]; done) | (simp [mkAct, upd, f6, f11, str, *]; done)
            · -- operation 13
              obtain ⟨f12, -, -⟩ := hp
              replace f12 : u 12 = (.bool true) := f12
              try simp only [f12, str]
              go_wp2
              refine stq_v rfl Same.refl ?_
              first | (simp only [mkAct, List.foldl_cons, List.foldl_nil, List.setIfInBounds_toArray, List.set_cons_succ, List.set_cons_zero, upd, reduceIte, Nat.reduceEqDiff, Nat.reduceAdd, f12, str]; done) | (simp [mkAct, upd, f12, str, *]; done)
            · -- operation 14
              obtain ⟨f13, -⟩ := hp
              replace f13 : u 13 = (.bool true) := f13
              try simp only [f13, str]
              go_wp2
              refine stq_v rfl Same.refl ?_
              first | (simp only [mkAct, List.foldl_cons, List.foldl_nil, List.setIfInBounds_toArray, List.set_cons_succ, List.set_cons_zero, upd, reduceIte, Nat.reduceEqDiff, Nat.reduceAdd, f13, str]; done) | (simp [mkAct, upd, f13, str, *]; done)
            · -- operation 15
              obtain ⟨f13, -⟩ := hp
              replace f13 : u 13 = (.bool true) := f13
              try simp only [f13, str]
              go_wp2
              refine stq_v rfl Same.refl ?_
              first | (simp only [mkAct, List.foldl_cons, List.foldl_nil, List.setIfInBounds_toArray, List.set_cons_succ, List.set_cons_zero, upd, reduceIte, Nat.reduceEqDiff, Nat.reduceAdd, f13, str]; done) | (simp [mkAct, upd, f13, str, *]; done)
            · -- operation 16
              obtain ⟨f13, -⟩ := hp
              replace f13 : u 13 = (.bool true) := f13
              try simp only [f13, str]
              go_wp2
              refine stq_v rfl Same.refl ?_
              first | (simp only [mkAct, List.foldl_cons, List.foldl_nil, List.setIfInBounds_toArray, List.set_cons_succ, List.set_cons_zero, upd, reduceIte, Nat.reduceEqDiff, Nat.reduceAdd, f13, str]; done) | (simp [mkAct, upd, f13, str, *]; done)
            · -- operation 17
              obtain ⟨f16, f13, -⟩ := hp
              replace f16 : u 16 = undef := f16
              replace f13 : u 13 = (.bool true) := f13
              try simp only [f16, f13, str]
              go_wp2
              refine stq_v rfl Same.refl ?_
              first | (simp only [mkAct, List.foldl_cons, List.foldl_nil, List.setIfInBounds_toArray, List.set_cons_succ, List.set_cons_zero, upd, reduceIte, Nat.reduceEqDiff, Nat.reduceAdd, f16, f13, str]; done) | (simp [mkAct, upd, f16, f13, str, *]; done)
            · -- operation 18
              obtain ⟨f15, f17, f13, -⟩ := hp
              replace f15 : u 15 = undef := f15
              replace f17 : u 17 = undef := f17
              replace f13 : u 13 = (.bool true) := f13
              try simp only [f15, f17, f13, str]
              go_wp2
              refine stq_v rfl Same.refl ?_
              first | (simp only [mkAct, List.foldl_cons, List.foldl_nil, List.setIfInBounds_toArray, List.set_cons_succ, List.set_cons_zero, upd, reduceIte, Nat.reduceEqDiff, Nat.reduceAdd, f15, f17, f13, str]; done) | (simp [mkAct, upd, f15, f17, f13, str, *]; done)
            · -- operation 19
              obtain ⟨f13, -⟩ := hp
              replace f13 : u 13 = (.bool true) := f13
              try simp only [f13, str]
              go_wp2
              refine stq_v rfl Same.refl ?_
              first | (simp only [mkAct, List.foldl_cons, List.foldl_nil, List.setIfInBounds_toArray, List.set_cons_succ, List.set_cons_zero, upd, reduceIte, Nat.reduceEqDiff, Nat.reduceAdd, f13, str]; done) | (simp [mkAct, upd, f13, str, *]; done)
            · -- operation 20
              obtain ⟨f19, -, f13, -⟩ := hp
              replace f19 : u 19 = undef := f19
              replace f13 : u 13 = (.bool true) := f13
              try simp only [f19, f13, str]
              go_wp2
              refine stq_v rfl Same.refl ?_
              first | (simp only [mkAct, List.foldl_cons, List.foldl_nil, List.setIfInBounds_toArray, List.set_cons_succ, List.set_cons_zero, upd, reduceIte, Nat.reduceEqDiff, Nat.reduceAdd, f19, f13, str]; done) | (simp [mkAct, upd, f19, f13, str, *]; done)
            · -- operation 21
              obtain ⟨f13, -⟩ := hp
              replace f13 : u 13 = (.bool true) := f13
              try simp only [f13, str]
              go_wp2
              refine stq_v rfl Same.refl ?_
              first | (simp only [mkAct, List.foldl_cons, List.foldl_nil, List.setIfInBounds_toArray, List.set_cons_succ, List.set_cons_zero, upd, reduceIte, Nat.reduceEqDiff, Nat.reduceAdd, f13, str]; done) | (simp [mkAct, upd, f13, str, *]; done)
            · -- operation 22
              obtain ⟨f21, f13, -⟩ := hp
              replace f21 : u 21 = undef := f21
              replace f13 : u 13 = (.bool true) := f13
              try simp only [f21, f13, str]
              go_wp2
              refine stq_v rfl Same.refl ?_
              first | (simp only [mkAct, List.foldl_cons, List.foldl_nil, List.setIfInBounds_toArray, List.set_cons_succ, List.set_cons_zero, upd, reduceIte, Nat.reduceEqDiff, Nat.reduceAdd, f21, f13, str]; done) | (simp [mkAct, upd, f21, f13, str, *]; done)
            · -- operation 23
              obtain ⟨f14, f18, f20, f22, -, f13, -⟩ := hp
              replace f14 : u 14 = undef := f14
              replace f18 : u 18 = undef := f18
              replace f20 : u 20 = undef := f20
              replace f22 : u 22 = undef := f22
              replace f13 : u 13 = (.bool true) := f13
              try simp only [f14, f18, f20, f22, f13, str]
              go_wp2
              refine stq_v rfl Same.refl ?_
              first | (simp only [mkAct, List.foldl_cons, List.foldl_nil, List.setIfInBounds_toArray, List.set_cons_succ, List.set_cons_zero, upd, reduceIte, Nat.reduceEqDiff, Nat.reduceAdd, f14, f18, f20, f22, f13, str]; done) | (simp [mkAct, upd, f14, f18, f20, f22, f13, str, *]; done)
            · -- operation 24
              obtain ⟨f23, f13, -⟩ := hp
              replace f23 : u 23 = undef := f23
              replace f13 : u 13 = (.bool true) := f13
              try simp only [f23, f13, str]
              go_wp2
              refine stq_v rfl Same.refl ?_
              first | (simp only [mkAct, List.foldl_cons, List.foldl_nil, List.setIfInBounds_toArray, List.set_cons_succ, List.set_cons_zero, upd, reduceIte, Nat.reduceEqDiff, Nat.reduceAdd, f23, f13, str]; done) | (simp [mkAct, upd, f23, f13, str, *]; done)
            · -- operation 25
              obtain ⟨f13, f24, -⟩ := hp
              replace f13 : u 13 = (.bool true) := f13
              replace f24 : u 24 = undef := f24
              try simp only [f13, f24, str]
              go_wp2
              refine stq_v rfl Same.refl ?_
              first | (simp only [mkAct, List.foldl_cons, List.foldl_nil, List.setIfInBounds_toArray, List.set_cons_succ, List.set_cons_zero, upd, reduceIte, Nat.reduceEqDiff, Nat.reduceAdd, f13, f24, str]; done) | (simp [mkAct, upd, f13, f24, str, *]; done)
          · intro u wx hI hR
            obtain ⟨r0, r1, r2, r3, r4, r5, r6, r7, r8, r9, r10, r11, r12, r13, r14, r15, r16, r17, r18, r19, r20, r21, r22, r23, r24, r25, -⟩ := hR
            replace r0 : u 0 = (.int .i64 nodes) := r0
            replace r1 : u 1 = (.bool false) := r1
            replace r2 : u 2 = (.bool false) := r2
            replace r3 : u 3 = (.int .i64 nodes) := r3
            replace r4 : u 4 = (.bool false) := r4
            replace r5 : u 5 = (.bool false) := r5
            replace r6 : u 6 = (.bool false) := r6
            replace r7 : u 7 = (.pointer (some ⟨w.heap.size, 0, none⟩)) := r7
            replace r8 : u 8 = (.int .i64 c) := r8
            replace r9 : u 9 = (.pointer p) := r9
            replace r10 : u 10 = (.int .i64 (N : Int)) := r10
            replace r11 : u 11 = (.bool true) := r11
            replace r12 : u 12 = (.bool true) := r12
            replace r13 : u 13 = (.bool true) := r13
            replace r14 : u 14 = undef := r14
            replace r15 : u 15 = undef := r15
            replace r16 : u 16 = undef := r16
            replace r17 : u 17 = undef := r17
            replace r18 : u 18 = undef := r18
            replace r19 : u 19 = undef := r19
            replace r20 : u 20 = undef := r20
            replace r21 : u 21 = undef := r21
            replace r22 : u 22 = undef := r22
            replace r23 : u 23 = undef := r23
            replace r24 : u 24 = undef := r24
            replace r25 : u 25 = (.bool true) := r25
            simp only [mkAct, List.foldl_cons, List.foldl_nil, List.setIfInBounds_toArray, List.set_cons_succ, List.set_cons_zero]
            try simp only [str, r0, r1, r2, r3, r4, r5, r6, r7, r8, r9, r10, r11, r12, r13, r14, r15, r16, r17, r18, r19, r20, r21, r22, r23, r24, r25]
            go_wp2
            go_meet
            exact ⟨rfl, hI⟩
        case rest =>
          obtain ⟨rfl, hs3⟩ := hcut
          go_wp2
          go_ret
          exact ⟨rfl, hw2.out.trans hs3⟩
      · have hck := fun w h => check_any w p seed N (nodes + c) ⟨(reqBody r).toArray⟩ r.tag ht h hs (by have := reqBody_le r (by omega) (by omega) (by omega); show (reqBody r).toArray.size ≤ _; rw [List.size_toArray]; omega) hN2
        have hbd := fun w => rqbody_any r w ht (by omega) (by omega) (by omega)
        replace hg := hg _ rfl
        rw [show ((⟨(reqBody r).toArray⟩ : ByteArray).data.toList) = reqBody r from rfl] at hck
        obtain ⟨K, hK⟩ : ∃ K, K = Sha.check seed.data.toList N (nodes + c) (reqBody r) r.tag := ⟨_, rfl⟩
        rw [← hK] at hck hg
        obtain ⟨B, hB⟩ : ∃ B, B = reqBody r := ⟨_, rfl⟩
        rw [← hB] at hck hbd
        unfold RetText0 at hbd
        have hg2 : G = if K = true then 0 else 61 := hg
        have hwr : IntKind.i64.wrap (nodes + c) = nodes + c := IntWalk.i64_in _ ⟨by omega, by omega⟩
        clear hK hB hs hg m3 m4 m5
        replace hc := Lib.hid hc
        replace h := Lib.hid h
        replace hmay := Lib.hid hmay
        replace hck := Lib.hid hck
        replace hbd := Lib.hid hbd
        replace hwr := Lib.hid hwr
        replace hg2 := Lib.hid hg2
        go_enter Try.func38, Try.ntmps38
        go_upto_region 1 with (refine box_row rfl _ _ rfl _ rfl hinf.out ?_; intro w0 hbx hs0; have hbxl := blk_lt hbx; replace hbx := Lib.hid hbx; replace hs0 := Lib.hid hs0)
        go_wp2_with fail
        refine (hlen.out _ (h.out.same hs0.out)).mono ?_
        rintro e w2 ⟨rfl, rfl⟩
        go_wp2_with (refine load_row rfl _ _ rfl w.heap.size rfl _ _ _ _ hbx.out Try.underlying78 rfl hinf.out ?_)
        refine (hmay.out _).mono ?_
        rintro e w2 ⟨rfl, hs2⟩
        have hk2 := Lib.hid (h.out.same (hs0.out.trans hs2))
        have hbx2 := Lib.hid (hs2.at hbx.out)
        have c02 := req_client hbx2.out
        rw [← hc.out] at c02
        have hrt := Lib.hid (req_tag hbx2.out)
        have hw2 := Lib.hid (hs0.out.trans hs2)
        clear hs2 hs0 h hbx
        replace c02 := Lib.hid c02
        go_upto_region 5 with fail
        go_cut [18] (fun v wx => v = .bool (!K) ∧ Same w2 wx)
        case first =>
          refine wp_region_tails (by kernel_rfl) [(19, 0), (20, 1), (21, 2), (22, 3), (23, 4), (24, 5), (25, 6), (26, 7), (27, 8), (28, 9), (29, 10), (30, 11), (31, 12), (32, 13), (33, 14), (34, 15), (35, 16), (36, 17), (37, 18), (38, 19), (39, 20), (40, 21), (41, 22), (42, 23), (43, 24), (44, 25)] Same (Same _) [isV (.int .i64 nodes), isV (.bool false), isV (.bool false), isV (.int .i64 nodes), isV (.bool false), isV (.bool false), isV (.bool false), isV (.pointer (some ⟨w.heap.size, 0, none⟩)), isV (.int .i64 c), isV (.pointer p), isV (.int .i64 (N : Int)), isV (.bool false), isV (.bool false), isV (.bool false), isV (.pointer p), isV (.int .i64 nodes), isV (.pointer (some ⟨w.heap.size, 0, none⟩)), isV (.int .i64 c), isV (.int .i64 (nodes + c)), isV (.agg r.cells.toArray), isV (str B), isV (.pointer (some ⟨w.heap.size, 3, none⟩)), isV (.agg (bv r.tag).toArray), isV (.bool K), isV (.bool (!K)), isV (.bool (!K))] Same.refl.drew (fun _ _ h k => h.trans k) (by simp [isV_stable, isB_stable, isAny_stable]) (by decide) (l := [_, _, _, _, _, _, _, _, _, _, _, _, _, _, _, _, _, _, _, _, _, _, _, _, _, _]) rfl (by decide) (by kernel_rfl) ?_ ?_
          · refine ⟨?_, ?_, ?_, ?_, ?_, ?_, ?_, ?_, ?_, ?_, ?_, ?_, ?_, ?_, ?_, ?_, ?_, ?_, ?_, ?_, ?_, ?_, ?_, ?_, ?_, ?_, trivial⟩
            all_goals (intro u wx hI hp; simp only [mkAct, List.foldl_cons, List.foldl_nil, List.setIfInBounds_toArray, List.set_cons_succ, List.set_cons_zero])
            · -- operation 0
              go_wp2
              refine stq_v rfl Same.refl ?_
              first | (simp only [mkAct, List.foldl_cons, List.foldl_nil, List.setIfInBounds_toArray, List.set_cons_succ, List.set_cons_zero, upd, reduceIte, Nat.reduceEqDiff, Nat.reduceAdd, str]; done) | (simp [mkAct, upd, str, *]; done)
            · -- operation 1
              obtain ⟨f0, -⟩ := hp
              replace f0 : u 0 = (.int .i64 nodes) := f0
              try simp only [f0, str]
              go_wp2
              refine stq_v rfl Same.refl ?_
              first | (simp only [mkAct, List.foldl_cons, List.foldl_nil, List.setIfInBounds_toArray, List.set_cons_succ, List.set_cons_zero, upd, reduceIte, Nat.reduceEqDiff, Nat.reduceAdd, f0, str]; done) | (simp [mkAct, upd, f0, str, *]; done)
            · -- operation 2
              obtain ⟨f1, -⟩ := hp
              replace f1 : u 1 = (.bool false) := f1
              try simp only [f1, str]
              go_wp2
              refine stq_v rfl Same.refl ?_
              first | (simp only [mkAct, List.foldl_cons, List.foldl_nil, List.setIfInBounds_toArray, List.set_cons_succ, List.set_cons_zero, upd, reduceIte, Nat.reduceEqDiff, Nat.reduceAdd, f1, str]; done) | (simp [mkAct, upd, f1, str, *]; done)
            · -- operation 3
              obtain ⟨f2, -⟩ := hp
              replace f2 : u 2 = (.bool false) := f2
              try simp only [f2, str]
              go_wp2
              refine stq_v rfl Same.refl ?_
              first | (simp only [mkAct, List.foldl_cons, List.foldl_nil, List.setIfInBounds_toArray, List.set_cons_succ, List.set_cons_zero, upd, reduceIte, Nat.reduceEqDiff, Nat.reduceAdd, f2, str]; done) | (simp [mkAct, upd, f2, str, *]; done)
            · -- operation 4
              obtain ⟨f3, f2, -⟩ := hp
              replace f3 : u 3 = (.int .i64 nodes) := f3
              replace f2 : u 2 = (.bool false) := f2
              try simp only [f3, f2, str]
              go_wp2
              refine stq_v rfl Same.refl ?_
              first | (simp only [mkAct, List.foldl_cons, List.foldl_nil, List.setIfInBounds_toArray, List.set_cons_succ, List.set_cons_zero, upd, reduceIte, Nat.reduceEqDiff, Nat.reduceAdd, f3, f2, str]; done) | (simp [mkAct, upd, f3, f2, str, *]; done)
            · -- operation 5
              obtain ⟨f2, f4, -⟩ := hp
              replace f2 : u 2 = (.bool false) := f2
              replace f4 : u 4 = (.bool false) := f4
              try simp only [f2, f4, str]
              go_wp2
              refine stq_v rfl Same.refl ?_
              first | (simp only [mkAct, List.foldl_cons, List.foldl_nil, List.setIfInBounds_toArray, List.set_cons_succ, List.set_cons_zero, upd, reduceIte, Nat.reduceEqDiff, Nat.reduceAdd, f2, f4, str]; done) | (simp [mkAct, upd, f2, f4, str, *]; done)
            · -- operation 6
              obtain ⟨f5, -, -⟩ := hp
              replace f5 : u 5 = (.bool false) := f5
              try simp only [f5, str]
              go_wp2
              refine stq_v rfl Same.refl ?_
              first | (simp only [mkAct, List.foldl_cons, List.foldl_nil, List.setIfInBounds_toArray, List.set_cons_succ, List.set_cons_zero, upd, reduceIte, Nat.reduceEqDiff, Nat.reduceAdd, f5, str]; done) | (simp [mkAct, upd, f5, str, *]; done)
            · -- operation 7
              obtain ⟨f6, -⟩ := hp
              replace f6 : u 6 = (.bool false) := f6
              try simp only [f6, str]
              go_wp2
              refine stq_v rfl Same.refl ?_
              first | (simp only [mkAct, List.foldl_cons, List.foldl_nil, List.setIfInBounds_toArray, List.set_cons_succ, List.set_cons_zero, upd, reduceIte, Nat.reduceEqDiff, Nat.reduceAdd, f6, str]; done) | (simp [mkAct, upd, f6, str, *]; done)
            · -- operation 8
              obtain ⟨f7, f6, -⟩ := hp
              replace f7 : u 7 = (.pointer (some ⟨w.heap.size, 0, none⟩)) := f7
              replace f6 : u 6 = (.bool false) := f6
              try simp only [f7, f6, str]
              have cx := hI.cell (c02.out)
              go_wp2
              refine stq_v rfl Same.refl ?_
              first | (simp only [mkAct, List.foldl_cons, List.foldl_nil, List.setIfInBounds_toArray, List.set_cons_succ, List.set_cons_zero, upd, reduceIte, Nat.reduceEqDiff, Nat.reduceAdd, f7, f6, str]; done) | (simp [mkAct, upd, f7, f6, str, *]; done)
            · -- operation 9
              obtain ⟨f6, -⟩ := hp
              replace f6 : u 6 = (.bool false) := f6
              try simp only [f6, str]
              go_wp2
              refine stq_v rfl Same.refl ?_
              first | (simp only [mkAct, List.foldl_cons, List.foldl_nil, List.setIfInBounds_toArray, List.set_cons_succ, List.set_cons_zero, upd, reduceIte, Nat.reduceEqDiff, Nat.reduceAdd, f6, str]; done) | (simp [mkAct, upd, f6, str, *]; done)
            · -- operation 10
              obtain ⟨f9, -, f6, -⟩ := hp
              replace f9 : u 9 = (.pointer p) := f9
              replace f6 : u 6 = (.bool false) := f6
              try simp only [f9, f6, str]
              go_wp2_with fail
              refine (hlen.out _ (hk2.out.same hI)).mono ?_
              rintro e w1 ⟨rfl, rfl⟩
              go_wp2
              refine stq_v rfl Same.refl ?_
              first | (simp only [mkAct, List.foldl_cons, List.foldl_nil, List.setIfInBounds_toArray, List.set_cons_succ, List.set_cons_zero, upd, reduceIte, Nat.reduceEqDiff, Nat.reduceAdd, f9, f6, str]; done) | (simp [mkAct, upd, f9, f6, str, *]; done)
            · -- operation 11
              obtain ⟨f8, f10, f6, -⟩ := hp
              replace f8 : u 8 = (.int .i64 c) := f8
              replace f10 : u 10 = (.int .i64 (N : Int)) := f10
              replace f6 : u 6 = (.bool false) := f6
              try simp only [f8, f10, f6, str]
              go_wp2
              refine stq_v rfl Same.refl ?_
              first | (simp only [mkAct, List.foldl_cons, List.foldl_nil, List.setIfInBounds_toArray, List.set_cons_succ, List.set_cons_zero, upd, reduceIte, Nat.reduceEqDiff, Nat.reduceAdd, f8, f10, f6, str]; done) | (simp [mkAct, upd, f8, f10, f6, str, *]; done)
            · -- operation 12
              obtain ⟨f6, f11, -⟩ := hp
              replace f6 : u 6 = (.bool false) := f6
              replace f11 : u 11 = (.bool false) := f11
              try simp only [f6, f11, str]
              go_wp2
              refine stq_v rfl Same.refl ?_
              first | (simp only [mkAct, List.foldl_cons, List.foldl_nil, List.setIfInBounds_toArray, List.set_cons_succ, List.set_cons_zero, upd, reduceIte, Nat.reduceEqDiff, Nat.reduceAdd, f6, f11, str]; done) | (simp [mkAct, upd, f6, f11, str, *]; done)
            · -- operation 13
              obtain ⟨f12, -, -⟩ := hp
              replace f12 : u 12 = (.bool false) := f12
              try simp only [f12, str]
              go_wp2
              refine stq_v rfl Same.refl ?_
              first | (simp only [mkAct, List.foldl_cons, List.foldl_nil, List.setIfInBounds_toArray, List.set_cons_succ, List.set_cons_zero, upd, reduceIte, Nat.reduceEqDiff, Nat.reduceAdd, f12, str]; done) | (simp [mkAct, upd, f12, str, *]; done)
            · -- operation 14
              obtain ⟨f13, -⟩ := hp
              replace f13 : u 13 = (.bool false) := f13
              try simp only [f13, str]
              go_wp2
              refine stq_v rfl Same.refl ?_
              first | (simp only [mkAct, List.foldl_cons, List.foldl_nil, List.setIfInBounds_toArray, List.set_cons_succ, List.set_cons_zero, upd, reduceIte, Nat.reduceEqDiff, Nat.reduceAdd, f13, str]; done) | (simp [mkAct, upd, f13, str, *]; done)
            · -- operation 15
              obtain ⟨f13, -⟩ := hp
              replace f13 : u 13 = (.bool false) := f13
              try simp only [f13, str]
              go_wp2
              refine stq_v rfl Same.refl ?_
              first | (simp only [mkAct, List.foldl_cons, List.foldl_nil, List.setIfInBounds_toArray, List.set_cons_succ, List.set_cons_zero, upd, reduceIte, Nat.reduceEqDiff, Nat.reduceAdd, f13, str]; done) | (simp [mkAct, upd, f13, str, *]; done)
            · -- operation 16
              obtain ⟨f13, -⟩ := hp
              replace f13 : u 13 = (.bool false) := f13
              try simp only [f13, str]
              go_wp2
              refine stq_v rfl Same.refl ?_
              first | (simp only [mkAct, List.foldl_cons, List.foldl_nil, List.setIfInBounds_toArray, List.set_cons_succ, List.set_cons_zero, upd, reduceIte, Nat.reduceEqDiff, Nat.reduceAdd, f13, str]; done) | (simp [mkAct, upd, f13, str, *]; done)
            · -- operation 17
              obtain ⟨f16, f13, -⟩ := hp
              replace f16 : u 16 = (.pointer (some ⟨w.heap.size, 0, none⟩)) := f16
              replace f13 : u 13 = (.bool false) := f13
              try simp only [f16, f13, str]
              have cx := hI.cell (c02.out)
              go_wp2
              refine stq_v rfl Same.refl ?_
              first | (simp only [mkAct, List.foldl_cons, List.foldl_nil, List.setIfInBounds_toArray, List.set_cons_succ, List.set_cons_zero, upd, reduceIte, Nat.reduceEqDiff, Nat.reduceAdd, f16, f13, str]; done) | (simp [mkAct, upd, f16, f13, str, *]; done)
            · -- operation 18
              obtain ⟨f15, f17, f13, -⟩ := hp
              replace f15 : u 15 = (.int .i64 nodes) := f15
              replace f17 : u 17 = (.int .i64 c) := f17
              replace f13 : u 13 = (.bool false) := f13
              try simp only [f15, f17, f13, str]
              have hwr := hwr.out
              go_wp2
              refine stq_v rfl Same.refl ?_
              first | (simp only [mkAct, List.foldl_cons, List.foldl_nil, List.setIfInBounds_toArray, List.set_cons_succ, List.set_cons_zero, upd, reduceIte, Nat.reduceEqDiff, Nat.reduceAdd, f15, f17, f13, str]; done) | (simp [mkAct, upd, f15, f17, f13, str, *]; done)
            · -- operation 19
              obtain ⟨f13, -⟩ := hp
              replace f13 : u 13 = (.bool false) := f13
              try simp only [f13, str]
              go_wp2_with (refine load_row rfl _ _ rfl w.heap.size rfl _ _ _ _ (hI.at hbx2.out) Try.underlying78 rfl hinf.out ?_)
              refine stq_v rfl Same.refl ?_
              first | (simp only [mkAct, List.foldl_cons, List.foldl_nil, List.setIfInBounds_toArray, List.set_cons_succ, List.set_cons_zero, upd, reduceIte, Nat.reduceEqDiff, Nat.reduceAdd, f13, str]; done) | (simp [mkAct, upd, f13, str, *]; done)
            · -- operation 20
              obtain ⟨f19, -, f13, -⟩ := hp
              replace f19 : u 19 = (.agg r.cells.toArray) := f19
              replace f13 : u 13 = (.bool false) := f13
              try simp only [f19, f13, str]
              go_wp2_with fail
              refine (hbd.out _).mono ?_
              rintro e w1 ⟨rfl, hs'⟩
              go_wp2
              refine stq_v rfl hs' ?_
              first | (simp only [mkAct, List.foldl_cons, List.foldl_nil, List.setIfInBounds_toArray, List.set_cons_succ, List.set_cons_zero, upd, reduceIte, Nat.reduceEqDiff, Nat.reduceAdd, f19, f13, str]; done) | (simp [mkAct, upd, f19, f13, str, *]; done)
            · -- operation 21
              obtain ⟨f13, -⟩ := hp
              replace f13 : u 13 = (.bool false) := f13
              try simp only [f13, str]
              go_wp2
              refine stq_v rfl Same.refl ?_
              first | (simp only [mkAct, List.foldl_cons, List.foldl_nil, List.setIfInBounds_toArray, List.set_cons_succ, List.set_cons_zero, upd, reduceIte, Nat.reduceEqDiff, Nat.reduceAdd, f13, str]; done) | (simp [mkAct, upd, f13, str, *]; done)
            · -- operation 22
              obtain ⟨f21, f13, -⟩ := hp
              replace f21 : u 21 = (.pointer (some ⟨w.heap.size, 3, none⟩)) := f21
              replace f13 : u 13 = (.bool false) := f13
              try simp only [f21, f13, str]
              go_wp2_with (refine load_mid rfl _ _ rfl w.heap.size 3 rfl (bv r.tag) _ (hI.range hrt.out) Try.underlying76 rfl hinfT.out ?_)
              refine stq_v rfl Same.refl ?_
              first | (simp only [mkAct, List.foldl_cons, List.foldl_nil, List.setIfInBounds_toArray, List.set_cons_succ, List.set_cons_zero, upd, reduceIte, Nat.reduceEqDiff, Nat.reduceAdd, f21, f13, str]; done) | (simp [mkAct, upd, f21, f13, str, *]; done)
            · -- operation 23
              obtain ⟨f14, f18, f20, f22, -, f13, -⟩ := hp
              replace f14 : u 14 = (.pointer p) := f14
              replace f18 : u 18 = (.int .i64 (nodes + c)) := f18
              replace f20 : u 20 = (str B) := f20
              replace f22 : u 22 = (.agg (bv r.tag).toArray) := f22
              replace f13 : u 13 = (.bool false) := f13
              try simp only [f14, f18, f20, f22, f13, str]
              go_wp2_with fail
              refine (hck.out _ (hk2.out.same hI)).mono ?_
              rintro e w1 ⟨rfl, hs'⟩
              go_wp2
              refine stq_v rfl hs' ?_
              first | (simp only [mkAct, List.foldl_cons, List.foldl_nil, List.setIfInBounds_toArray, List.set_cons_succ, List.set_cons_zero, upd, reduceIte, Nat.reduceEqDiff, Nat.reduceAdd, f14, f18, f20, f22, f13, str]; done) | (simp [mkAct, upd, f14, f18, f20, f22, f13, str, *]; done)
            · -- operation 24
              obtain ⟨f23, f13, -⟩ := hp
              replace f23 : u 23 = (.bool K) := f23
              replace f13 : u 13 = (.bool false) := f13
              try simp only [f23, f13, str]
              go_wp2
              refine stq_v rfl Same.refl ?_
              first | (simp only [mkAct, List.foldl_cons, List.foldl_nil, List.setIfInBounds_toArray, List.set_cons_succ, List.set_cons_zero, upd, reduceIte, Nat.reduceEqDiff, Nat.reduceAdd, f23, f13, str]; done) | (simp [mkAct, upd, f23, f13, str, *]; done)
            · -- operation 25
              obtain ⟨f13, f24, -⟩ := hp
              replace f13 : u 13 = (.bool false) := f13
              replace f24 : u 24 = (.bool (!K)) := f24
              try simp only [f13, f24, str]
              go_wp2
              refine stq_v rfl Same.refl ?_
              first | (simp only [mkAct, List.foldl_cons, List.foldl_nil, List.setIfInBounds_toArray, List.set_cons_succ, List.set_cons_zero, upd, reduceIte, Nat.reduceEqDiff, Nat.reduceAdd, f13, f24, str]; done) | (simp [mkAct, upd, f13, f24, str, *]; done)
          · intro u wx hI hR
            obtain ⟨r0, r1, r2, r3, r4, r5, r6, r7, r8, r9, r10, r11, r12, r13, r14, r15, r16, r17, r18, r19, r20, r21, r22, r23, r24, r25, -⟩ := hR
            replace r0 : u 0 = (.int .i64 nodes) := r0
            replace r1 : u 1 = (.bool false) := r1
            replace r2 : u 2 = (.bool false) := r2
            replace r3 : u 3 = (.int .i64 nodes) := r3
            replace r4 : u 4 = (.bool false) := r4
            replace r5 : u 5 = (.bool false) := r5
            replace r6 : u 6 = (.bool false) := r6
            replace r7 : u 7 = (.pointer (some ⟨w.heap.size, 0, none⟩)) := r7
            replace r8 : u 8 = (.int .i64 c) := r8
            replace r9 : u 9 = (.pointer p) := r9
            replace r10 : u 10 = (.int .i64 (N : Int)) := r10
            replace r11 : u 11 = (.bool false) := r11
            replace r12 : u 12 = (.bool false) := r12
            replace r13 : u 13 = (.bool false) := r13
            replace r14 : u 14 = (.pointer p) := r14
            replace r15 : u 15 = (.int .i64 nodes) := r15
            replace r16 : u 16 = (.pointer (some ⟨w.heap.size, 0, none⟩)) := r16
            replace r17 : u 17 = (.int .i64 c) := r17
            replace r18 : u 18 = (.int .i64 (nodes + c)) := r18
            replace r19 : u 19 = (.agg r.cells.toArray) := r19
            replace r20 : u 20 = (str B) := r20
            replace r21 : u 21 = (.pointer (some ⟨w.heap.size, 3, none⟩)) := r21
            replace r22 : u 22 = (.agg (bv r.tag).toArray) := r22
            replace r23 : u 23 = (.bool K) := r23
            replace r24 : u 24 = (.bool (!K)) := r24
            replace r25 : u 25 = (.bool (!K)) := r25
            simp only [mkAct, List.foldl_cons, List.foldl_nil, List.setIfInBounds_toArray, List.set_cons_succ, List.set_cons_zero]
            try simp only [str, r0, r1, r2, r3, r4, r5, r6, r7, r8, r9, r10, r11, r12, r13, r14, r15, r16, r17, r18, r19, r20, r21, r22, r23, r24, r25]
            go_wp2
            go_meet
            exact ⟨rfl, hI⟩
        case rest =>
          obtain ⟨rfl, hs3⟩ := hcut
          cases K
          · go_wp2
            go_ret
            exact ⟨by rw [hg2.out]; rfl, hw2.out.trans hs3⟩
          · go_wp2
            go_ret
            exact ⟨by rw [hg2.out]; rfl, hw2.out.trans hs3⟩
    refine key ?_
    by_cases h1 : nodes < 0
    · exact .inl ⟨h1, hbad (.inl h1)⟩
    · by_cases h2 : 64 < nodes
      · exact .inr (.inl ⟨by omega, h2, hbad (.inr (.inl h2))⟩)
      · by_cases h3 : (N : Int) ≤ c
        · exact .inr (.inr (.inl ⟨by omega, by omega, h3, hbad (.inr (.inr (.inl h3)))⟩))
        · refine .inr (.inr (.inr ⟨by omega, by omega, by omega, ?_⟩))
          intro K hK
          cases K
          · exact hbad (.inr (.inr (.inr hK.symm)))
          · refine hok ?_
            rintro (h | h | h | h)
            · exact h1 h
            · exact h2 h
            · exact h3 h
            · rw [h] at hK; cases hK
end Go.Proofs.Ytgdkhiihdoekaaa
