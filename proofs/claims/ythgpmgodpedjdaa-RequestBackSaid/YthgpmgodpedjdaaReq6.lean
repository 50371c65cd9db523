/-
  Requests: what was made is good; the chapter's example.
-/
import Derived.Test.YthgpmgodpedjdaaReq5
namespace Go.Proofs.Ythgpmgodpedjdaa
open Go Go.RowKit
set_option linter.unusedSimpArgs false
set_option linter.unusedVariables false

theorem Sha.sign_in {seed : List UInt8} {N : Nat} {id : Int} (body : List UInt8) (h0 : 0 ≤ id) (h1 : id < N) : Sha.sign seed N id body = (Sha.tagOf seed id body, 0) := by
  rw [Sha.sign, if_neg (by omega), if_neg (by omega)]
theorem Sha.check_in {seed : List UInt8} {N : Nat} {id : Int} (body t : List UInt8) (h0 : 0 ≤ id) (h1 : id < N) : Sha.check seed N id body t = (Sha.tagOf seed id body == t) := by
  rw [Sha.check, Sha.sign_in body h0 h1]
  simp
theorem Req.make_ok {seed : List UInt8} {N : Nat} {nodes client num : Int} {data : ByteArray} (hm : (req0 client num data).may 8 = true) (h0 : 0 ≤ nodes) (h1 : nodes ≤ 64) (hN : nodes + client < N) :
    Req.make seed N nodes client num data = (reqT client num data (Sha.tagOf seed (nodes + client) (reqBody (req0 client num data))), 0) := by
  have hc : 0 ≤ client := (Req.may_iff.1 hm).1
  rw [Req.make, if_neg (by simp [hm]), if_neg (by omega), Sha.sign_in _ (by omega) hN]
  simp
theorem Req.good_of {seed : List UInt8} {N : Nat} {nodes clients : Int} {r : Req} (hm : r.may clients = true) (h0 : 0 ≤ nodes) (h1 : nodes ≤ 64) (hN : nodes + r.client < N) :
    r.good seed N nodes clients = if Sha.tagOf seed (nodes + r.client) (reqBody r) = r.tag then 0 else 61 := by
  have hc : 0 ≤ r.client := (Req.may_iff.1 hm).1
  have hk := Sha.check_in (seed := seed) (reqBody r) r.tag (show 0 ≤ nodes + r.client by omega) hN
  by_cases h : Sha.tagOf seed (nodes + r.client) (reqBody r) = r.tag
  · rw [if_pos h]
    refine Req.good_ok hm ?_
    rintro (h2 | h2 | h2 | h2)
    · omega
    · omega
    · omega
    · rw [hk, h] at h2
      simp at h2
  · rw [if_neg h]
    refine Req.good_bad hm (.inr (.inr (.inr ?_)))
    rw [hk]
    simpa using h
theorem req_may {c n : Int} {d : ByteArray} {t : List UInt8} {clients : Int} (h1 : 0 ≤ c) (h2 : c < clients) (h3 : 1 ≤ n) (h4 : n ≤ 1099511627776) (h5 : d.size ≤ 64) : (reqT c n d t).may clients = true := Req.may_iff.2 ⟨h1, h2, h3, h4, h5⟩
abbrev strX : ByteArray := ⟨#[120]⟩
set_option maxRecDepth 100000 in
set_option maxHeartbeats 1600000 in
theorem lives6 (w : World) : Calls Try.prog 25 #[] w fun e w' => e = .returned (.bool true) ∧ Same w w' := by
  have hk := fun w => keys6_any w
  obtain ⟨T, hT⟩ : ∃ T, T = Sha.tagOf seedR.data.toList 6 (reqBody (req0 2 7 strX)) := ⟨_, rfl⟩
  have hTl : T.length = 16 := by rw [hT]; exact Sha.tagOf_length _ _ _
  have hm8 : (req0 2 7 strX).may 8 = true := Req.may_iff.2 ⟨by decide, by decide, by decide, by decide, by decide⟩
  have hM : Req.make seedR.data.toList 72 4 2 7 strX = (reqT 2 7 strX T, 0) := by rw [Req.make_ok hm8 (by omega) (by omega) (by omega), hT]; rfl
  have hmk := fun w p h => rqmake_any w p seedR 72 4 2 7 strX h (by omega) (by omega) (by decide) (by omega)
  simp only [hM] at hmk
  unfold RetReq at hmk
  have hm3 : (reqT 2 7 strX T).may 3 = true := req_may (by omega) (by omega) (by omega) (by omega) (by decide)
  have hm2 : (reqT 2 7 strX T).may 2 = false := by
    rw [Bool.eq_false_iff]
    intro h
    have := (Req.may_iff.1 h).2.1
    simp [reqT] at this
  have hbE : reqBody (reqT 2 7 strX T) = reqBody (req0 2 7 strX) := rfl
  have hg3 := fun w p h => rqgood_any w p seedR 72 4 3 (reqT 2 7 strX T) hTl h (by omega) (by omega) (by decide)
  have hg2 := fun w p h => rqgood_any w p seedR 72 4 2 (reqT 2 7 strX T) hTl h (by omega) (by omega) (by decide)
  rw [Req.good_of hm3 (by omega) (by omega) (by simp [reqT]), hbE, show (4 : Int) + (reqT 2 7 strX T).client = 6 from rfl, ← hT, if_pos (by rfl)] at hg3
  rw [Req.good_no hm2] at hg2
  have hbd := fun w => rqbody_any (reqT 2 7 strX T) w hTl (by simp [reqT]) (by simp [reqT]) (by simp [reqT, strX, ByteArray.size])
  unfold RetText0 at hbd
  rw [hbE] at hbd
  have hck := fun w p h => check_any w p seedR 72 6 ⟨(reqBody (req0 2 7 strX)).toArray⟩ T hTl h (by decide) (by have := reqBody_le (req0 2 7 strX) (by simp [req0]) (by simp [req0]) (by simp [req0, strX, ByteArray.size]); show (reqBody (req0 2 7 strX)).toArray.size ≤ _; rw [List.size_toArray]; simp [req0, strX, ByteArray.size] at this ⊢; omega) (by omega)
  rw [show ((⟨(reqBody (req0 2 7 strX)).toArray⟩ : ByteArray).data.toList) = reqBody (req0 2 7 strX) from rfl, Sha.check_in _ _ (by omega) (by omega), ← hT, show (T == T) = true from by simp] at hck
  obtain ⟨B, hB⟩ : ∃ B, B = reqBody (req0 2 7 strX) := ⟨_, rfl⟩
  rw [← hB] at hbd hck
  have hinfR := Lib.hid (req_info (r := reqT 2 7 strX T) hTl)
  have hinfG := Lib.hid (tag_infoL hTl)
  have hinfK := Lib.hid (keys_info #[.string seedR, .int .i64 (72 : Nat)] rfl)
  unfold RetKeys at hk
  have hRc : (reqT 2 7 strX T).tag.length = 16 := hTl
  obtain ⟨R, hR⟩ : ∃ R, R = reqT 2 7 strX T := ⟨_, rfl⟩
  have hRt : R.tag = T := by rw [hR]; rfl
  rw [← hR] at hmk hg3 hg2 hbd hinfR hRc
  clear hT hM hm8 hm3 hm2 hbE hB hR
  replace hk := Lib.hid hk
  replace hTl := Lib.hid hTl
  replace hmk := Lib.hid hmk
  replace hg3 := Lib.hid hg3
  replace hg2 := Lib.hid hg2
  replace hbd := Lib.hid hbd
  replace hck := Lib.hid hck
  replace hRt := Lib.hid hRt
  replace hRc := Lib.hid hRc
  go_enter Try.func25, Try.ntmps25
  go_wp2_with fail
  refine (hk.out _).mono ?_
  rintro e w1 ⟨p, rfl, hka, hs1⟩
  replace hka := Lib.hid hka
  have s0 := Lib.hid hs1
  have sk := Lib.hid (Same.refl (w := w1))
  clear hs1
  go_upto_region 2 with (first | (refine alloc_new rfl 38 rfl #[.string ByteArray.empty, .int .i64 0] (by kernel_rfl) ?_; intro wN_ hN_ sN_; have lN_ := blk_lt hN_; replace hN_ := Lib.hid hN_; replace sN_ := Lib.hid sN_) | (refine store_row rfl _ _ _ rfl w1.heap.size _ rfl rfl _ _ hN_.out hinfK.out rfl (by simp [Value.oneCell']) ?_; intro w2 hbk kN_))
  have mN_ : Same w1 w2 := sN_.out.keep kN_ (fun x hx hv => by omega)
  clear kN_ sN_ hN_ lN_
  replace s0 := Lib.hid (s0.out.trans mN_)
  replace sk := Lib.hid (sk.out.trans mN_)
  clear mN_
  replace hbk := Lib.hid hbk
  have shbk := Lib.hid (Same.refl (w := w2))
  go_simp
  have hka2 := Lib.hid (hka.out.same sk.out)
  go_wp2_with fail
  refine (hmk.out _ _ hka2.out).mono ?_
  rintro e w3 ⟨rfl, hs⟩
  replace s0 := Lib.hid (s0.out.trans hs)
  replace sk := Lib.hid (sk.out.trans hs)
  replace shbk := Lib.hid (shbk.out.trans hs)
  clear hs hka2
  go_upto_region 3 with (first | (refine alloc_new rfl 44 rfl zeroReq.cells.toArray (by kernel_rfl) ?_; intro wN_ hN_ sN_; have lN_ := blk_lt hN_; replace hN_ := Lib.hid hN_; replace sN_ := Lib.hid sN_) | (refine store_row rfl _ _ _ rfl w3.heap.size _ rfl rfl _ _ hN_.out hinfR.out (req_sizes (r := zeroReq) rfl hRc.out) (req_one _) ?_; intro w4 hbr kN_))
  have mN_ : Same w3 w4 := sN_.out.keep kN_ (fun x hx hv => by omega)
  clear kN_ sN_ hN_ lN_
  replace s0 := Lib.hid (s0.out.trans mN_)
  replace sk := Lib.hid (sk.out.trans mN_)
  replace shbk := Lib.hid (shbk.out.trans mN_)
  clear mN_
  replace hbr := Lib.hid hbr
  have shbr := Lib.hid (Same.refl (w := w4))
  go_simp
  have hka4 := Lib.hid (hka.out.same sk.out)
  have hrt := req_tag hbr.out
  rw [hRt.out] at hrt
  replace hrt := Lib.hid hrt
  refine wp_region_tails (by kernel_rfl) [(14, 0), (15, 1), (16, 2), (17, 3), (18, 4), (19, 5), (20, 6), (21, 7), (22, 8), (23, 9), (24, 10), (25, 11), (26, 12), (27, 13), (28, 14), (29, 15), (30, 16), (31, 17), (32, 18), (33, 19), (34, 20), (35, 21)] Same (Same _) [isV (.int .i64 0), isV (.bool true), isV (.bool true), isV (.pointer (some p)), isV (.agg R.cells.toArray), isV (str B), isV (.pointer (some ⟨w3.heap.size, 3, none⟩)), isV (.agg (bv T).toArray), isV (.bool true), isV (.bool true), isV (.bool true), isV (.pointer (some p)), isV (.agg R.cells.toArray), isV (.int .i64 0), isV (.bool true), isV (.bool true), isV (.bool true), isV (.pointer (some p)), isV (.agg R.cells.toArray), isV (.int .i64 60), isV (.bool true), isV (.bool true)] Same.refl.drew (fun _ _ h k => h.trans k) (by simp [isV_stable, isB_stable, isAny_stable]) (by decide) (l := [_, _, _, _, _, _, _, _, _, _, _, _, _, _, _, _, _, _, _, _, _, _]) rfl (by decide) (by kernel_rfl) ?_ ?_
  · refine ⟨?_, ?_, ?_, ?_, ?_, ?_, ?_, ?_, ?_, ?_, ?_, ?_, ?_, ?_, ?_, ?_, ?_, ?_, ?_, ?_, ?_, ?_, trivial⟩
    all_goals (intro u wx hI hp; simp only [mkAct, List.foldl_cons, List.foldl_nil, List.setIfInBounds_toArray, List.set_cons_succ, List.set_cons_zero])
    · -- operation 0
      go_wp2
      refine stq_v rfl Same.refl ?_
      first | (simp only [mkAct, List.foldl_cons, List.foldl_nil, List.setIfInBounds_toArray, List.set_cons_succ, List.set_cons_zero, upd, reduceIte, Nat.reduceEqDiff, Nat.reduceAdd, str]; done) | (simp [mkAct, upd, str, *]; done)
    · -- operation 1
      obtain ⟨f0, -⟩ := hp
      replace f0 : u 0 = (.int .i64 0) := f0
      try simp only [f0, str]
      go_wp2
      refine stq_v rfl Same.refl ?_
      first | (simp only [mkAct, List.foldl_cons, List.foldl_nil, List.setIfInBounds_toArray, List.set_cons_succ, List.set_cons_zero, upd, reduceIte, Nat.reduceEqDiff, Nat.reduceAdd, f0, str]; done) | (simp [mkAct, upd, f0, str, *]; done)
    · -- operation 2
      obtain ⟨f1, -⟩ := hp
      replace f1 : u 1 = (.bool true) := f1
      try simp only [f1, str]
      go_wp2
      refine stq_v rfl Same.refl ?_
      first | (simp only [mkAct, List.foldl_cons, List.foldl_nil, List.setIfInBounds_toArray, List.set_cons_succ, List.set_cons_zero, upd, reduceIte, Nat.reduceEqDiff, Nat.reduceAdd, f1, str]; done) | (simp [mkAct, upd, f1, str, *]; done)
    · -- operation 3
      obtain ⟨f2, -⟩ := hp
      replace f2 : u 2 = (.bool true) := f2
      try simp only [f2, str]
      go_wp2
      refine stq_v rfl Same.refl ?_
      first | (simp only [mkAct, List.foldl_cons, List.foldl_nil, List.setIfInBounds_toArray, List.set_cons_succ, List.set_cons_zero, upd, reduceIte, Nat.reduceEqDiff, Nat.reduceAdd, f2, str]; done) | (simp [mkAct, upd, f2, str, *]; done)
    · -- operation 4
      obtain ⟨f2, -⟩ := hp
      replace f2 : u 2 = (.bool true) := f2
      try simp only [f2, str]
      go_wp2_with (refine load_row rfl _ _ rfl w3.heap.size rfl _ _ _ _ (hI.at (shbr.out.at hbr.out)) Try.underlying44 rfl hinfR.out ?_)
      refine stq_v rfl Same.refl ?_
      first | (simp only [mkAct, List.foldl_cons, List.foldl_nil, List.setIfInBounds_toArray, List.set_cons_succ, List.set_cons_zero, upd, reduceIte, Nat.reduceEqDiff, Nat.reduceAdd, f2, str]; done) | (simp [mkAct, upd, f2, str, *]; done)
    · -- operation 5
      obtain ⟨f4, -, f2, -⟩ := hp
      replace f4 : u 4 = (.agg R.cells.toArray) := f4
      replace f2 : u 2 = (.bool true) := f2
      try simp only [f4, f2, str]
      go_wp2_with fail
      refine (hbd.out _).mono ?_
      rintro e w1 ⟨rfl, hs'⟩
      go_wp2
      refine stq_v rfl hs' ?_
      first | (simp only [mkAct, List.foldl_cons, List.foldl_nil, List.setIfInBounds_toArray, List.set_cons_succ, List.set_cons_zero, upd, reduceIte, Nat.reduceEqDiff, Nat.reduceAdd, f4, f2, str]; done) | (simp [mkAct, upd, f4, f2, str, *]; done)
    · -- operation 6
      obtain ⟨f2, -⟩ := hp
      replace f2 : u 2 = (.bool true) := f2
      try simp only [f2, str]
      go_wp2
      refine stq_v rfl Same.refl ?_
      first | (simp only [mkAct, List.foldl_cons, List.foldl_nil, List.setIfInBounds_toArray, List.set_cons_succ, List.set_cons_zero, upd, reduceIte, Nat.reduceEqDiff, Nat.reduceAdd, f2, str]; done) | (simp [mkAct, upd, f2, str, *]; done)
    · -- operation 7
      obtain ⟨f6, f2, -⟩ := hp
      replace f6 : u 6 = (.pointer (some ⟨w3.heap.size, 3, none⟩)) := f6
      replace f2 : u 2 = (.bool true) := f2
      try simp only [f6, f2, str]
      go_wp2_with (refine load_mid rfl _ _ rfl w3.heap.size 3 rfl (bv T) _ (hI.range hrt.out) Try.underlying42 rfl hinfG.out ?_)
      refine stq_v rfl Same.refl ?_
      first | (simp only [mkAct, List.foldl_cons, List.foldl_nil, List.setIfInBounds_toArray, List.set_cons_succ, List.set_cons_zero, upd, reduceIte, Nat.reduceEqDiff, Nat.reduceAdd, f6, f2, str]; done) | (simp [mkAct, upd, f6, f2, str, *]; done)
    · -- operation 8
      obtain ⟨f3, f5, f7, -, f2, -⟩ := hp
      replace f3 : u 3 = (.pointer (some p)) := f3
      replace f5 : u 5 = (str B) := f5
      replace f7 : u 7 = (.agg (bv T).toArray) := f7
      replace f2 : u 2 = (.bool true) := f2
      try simp only [f3, f5, f7, f2, str]
      go_wp2_with fail
      refine (hck.out _ _ (hka4.out.same hI)).mono ?_
      rintro e w1 ⟨rfl, hs'⟩
      go_wp2
      refine stq_v rfl hs' ?_
      first | (simp only [mkAct, List.foldl_cons, List.foldl_nil, List.setIfInBounds_toArray, List.set_cons_succ, List.set_cons_zero, upd, reduceIte, Nat.reduceEqDiff, Nat.reduceAdd, f3, f5, f7, f2, str]; done) | (simp [mkAct, upd, f3, f5, f7, f2, str, *]; done)
    · -- operation 9
      obtain ⟨f2, f8, -⟩ := hp
      replace f2 : u 2 = (.bool true) := f2
      replace f8 : u 8 = (.bool true) := f8
      try simp only [f2, f8, str]
      go_wp2
      refine stq_v rfl Same.refl ?_
      first | (simp only [mkAct, List.foldl_cons, List.foldl_nil, List.setIfInBounds_toArray, List.set_cons_succ, List.set_cons_zero, upd, reduceIte, Nat.reduceEqDiff, Nat.reduceAdd, f2, f8, str]; done) | (simp [mkAct, upd, f2, f8, str, *]; done)
    · -- operation 10
      obtain ⟨f9, -, -⟩ := hp
      replace f9 : u 9 = (.bool true) := f9
      try simp only [f9, str]
      go_wp2
      refine stq_v rfl Same.refl ?_
      first | (simp only [mkAct, List.foldl_cons, List.foldl_nil, List.setIfInBounds_toArray, List.set_cons_succ, List.set_cons_zero, upd, reduceIte, Nat.reduceEqDiff, Nat.reduceAdd, f9, str]; done) | (simp [mkAct, upd, f9, str, *]; done)
    · -- operation 11
      obtain ⟨f10, -⟩ := hp
      replace f10 : u 10 = (.bool true) := f10
      try simp only [f10, str]
      go_wp2
      refine stq_v rfl Same.refl ?_
      first | (simp only [mkAct, List.foldl_cons, List.foldl_nil, List.setIfInBounds_toArray, List.set_cons_succ, List.set_cons_zero, upd, reduceIte, Nat.reduceEqDiff, Nat.reduceAdd, f10, str]; done) | (simp [mkAct, upd, f10, str, *]; done)
    · -- operation 12
      obtain ⟨f10, -⟩ := hp
      replace f10 : u 10 = (.bool true) := f10
      try simp only [f10, str]
      go_wp2_with (refine load_row rfl _ _ rfl w3.heap.size rfl _ _ _ _ (hI.at (shbr.out.at hbr.out)) Try.underlying44 rfl hinfR.out ?_)
      refine stq_v rfl Same.refl ?_
      first | (simp only [mkAct, List.foldl_cons, List.foldl_nil, List.setIfInBounds_toArray, List.set_cons_succ, List.set_cons_zero, upd, reduceIte, Nat.reduceEqDiff, Nat.reduceAdd, f10, str]; done) | (simp [mkAct, upd, f10, str, *]; done)
    · -- operation 13
      obtain ⟨f11, f12, -, f10, -⟩ := hp
      replace f11 : u 11 = (.pointer (some p)) := f11
      replace f12 : u 12 = (.agg R.cells.toArray) := f12
      replace f10 : u 10 = (.bool true) := f10
      try simp only [f11, f12, f10, str]
      go_wp2_with fail
      refine (hg3.out _ _ (hka4.out.same hI)).mono ?_
      rintro e w1 ⟨rfl, hs'⟩
      go_wp2
      refine stq_v rfl hs' ?_
      first | (simp only [mkAct, List.foldl_cons, List.foldl_nil, List.setIfInBounds_toArray, List.set_cons_succ, List.set_cons_zero, upd, reduceIte, Nat.reduceEqDiff, Nat.reduceAdd, f11, f12, f10, str]; done) | (simp [mkAct, upd, f11, f12, f10, str, *]; done)
    · -- operation 14
      obtain ⟨f13, f10, -⟩ := hp
      replace f13 : u 13 = (.int .i64 0) := f13
      replace f10 : u 10 = (.bool true) := f10
      try simp only [f13, f10, str]
      go_wp2
      refine stq_v rfl Same.refl ?_
      first | (simp only [mkAct, List.foldl_cons, List.foldl_nil, List.setIfInBounds_toArray, List.set_cons_succ, List.set_cons_zero, upd, reduceIte, Nat.reduceEqDiff, Nat.reduceAdd, f13, f10, str]; done) | (simp [mkAct, upd, f13, f10, str, *]; done)
    · -- operation 15
      obtain ⟨f10, f14, -⟩ := hp
      replace f10 : u 10 = (.bool true) := f10
      replace f14 : u 14 = (.bool true) := f14
      try simp only [f10, f14, str]
      go_wp2
      refine stq_v rfl Same.refl ?_
      first | (simp only [mkAct, List.foldl_cons, List.foldl_nil, List.setIfInBounds_toArray, List.set_cons_succ, List.set_cons_zero, upd, reduceIte, Nat.reduceEqDiff, Nat.reduceAdd, f10, f14, str]; done) | (simp [mkAct, upd, f10, f14, str, *]; done)
    · -- operation 16
      obtain ⟨f15, -, -⟩ := hp
      replace f15 : u 15 = (.bool true) := f15
      try simp only [f15, str]
      go_wp2
      refine stq_v rfl Same.refl ?_
      first | (simp only [mkAct, List.foldl_cons, List.foldl_nil, List.setIfInBounds_toArray, List.set_cons_succ, List.set_cons_zero, upd, reduceIte, Nat.reduceEqDiff, Nat.reduceAdd, f15, str]; done) | (simp [mkAct, upd, f15, str, *]; done)
    · -- operation 17
      obtain ⟨f16, -⟩ := hp
      replace f16 : u 16 = (.bool true) := f16
      try simp only [f16, str]
      go_wp2
      refine stq_v rfl Same.refl ?_
      first | (simp only [mkAct, List.foldl_cons, List.foldl_nil, List.setIfInBounds_toArray, List.set_cons_succ, List.set_cons_zero, upd, reduceIte, Nat.reduceEqDiff, Nat.reduceAdd, f16, str]; done) | (simp [mkAct, upd, f16, str, *]; done)
    · -- operation 18
      obtain ⟨f16, -⟩ := hp
      replace f16 : u 16 = (.bool true) := f16
      try simp only [f16, str]
      go_wp2_with (refine load_row rfl _ _ rfl w3.heap.size rfl _ _ _ _ (hI.at (shbr.out.at hbr.out)) Try.underlying44 rfl hinfR.out ?_)
      refine stq_v rfl Same.refl ?_
      first | (simp only [mkAct, List.foldl_cons, List.foldl_nil, List.setIfInBounds_toArray, List.set_cons_succ, List.set_cons_zero, upd, reduceIte, Nat.reduceEqDiff, Nat.reduceAdd, f16, str]; done) | (simp [mkAct, upd, f16, str, *]; done)
    · -- operation 19
      obtain ⟨f17, f18, -, f16, -⟩ := hp
      replace f17 : u 17 = (.pointer (some p)) := f17
      replace f18 : u 18 = (.agg R.cells.toArray) := f18
      replace f16 : u 16 = (.bool true) := f16
      try simp only [f17, f18, f16, str]
      go_wp2_with fail
      refine (hg2.out _ _ (hka4.out.same hI)).mono ?_
      rintro e w1 ⟨rfl, hs'⟩
      go_wp2
      refine stq_v rfl hs' ?_
      first | (simp only [mkAct, List.foldl_cons, List.foldl_nil, List.setIfInBounds_toArray, List.set_cons_succ, List.set_cons_zero, upd, reduceIte, Nat.reduceEqDiff, Nat.reduceAdd, f17, f18, f16, str]; done) | (simp [mkAct, upd, f17, f18, f16, str, *]; done)
    · -- operation 20
      obtain ⟨f19, f16, -⟩ := hp
      replace f19 : u 19 = (.int .i64 60) := f19
      replace f16 : u 16 = (.bool true) := f16
      try simp only [f19, f16, str]
      go_wp2
      refine stq_v rfl Same.refl ?_
      first | (simp only [mkAct, List.foldl_cons, List.foldl_nil, List.setIfInBounds_toArray, List.set_cons_succ, List.set_cons_zero, upd, reduceIte, Nat.reduceEqDiff, Nat.reduceAdd, f19, f16, str]; done) | (simp [mkAct, upd, f19, f16, str, *]; done)
    · -- operation 21
      obtain ⟨f16, f20, -⟩ := hp
      replace f16 : u 16 = (.bool true) := f16
      replace f20 : u 20 = (.bool true) := f20
      try simp only [f16, f20, str]
      go_wp2
      refine stq_v rfl Same.refl ?_
      first | (simp only [mkAct, List.foldl_cons, List.foldl_nil, List.setIfInBounds_toArray, List.set_cons_succ, List.set_cons_zero, upd, reduceIte, Nat.reduceEqDiff, Nat.reduceAdd, f16, f20, str]; done) | (simp [mkAct, upd, f16, f20, str, *]; done)
  · intro u wx hI hR
    obtain ⟨r0, r1, r2, r3, r4, r5, r6, r7, r8, r9, r10, r11, r12, r13, r14, r15, r16, r17, r18, r19, r20, r21, -⟩ := hR
    replace r0 : u 0 = (.int .i64 0) := r0
    replace r1 : u 1 = (.bool true) := r1
    replace r2 : u 2 = (.bool true) := r2
    replace r3 : u 3 = (.pointer (some p)) := r3
    replace r4 : u 4 = (.agg R.cells.toArray) := r4
    replace r5 : u 5 = (str B) := r5
    replace r6 : u 6 = (.pointer (some ⟨w3.heap.size, 3, none⟩)) := r6
    replace r7 : u 7 = (.agg (bv T).toArray) := r7
    replace r8 : u 8 = (.bool true) := r8
    replace r9 : u 9 = (.bool true) := r9
    replace r10 : u 10 = (.bool true) := r10
    replace r11 : u 11 = (.pointer (some p)) := r11
    replace r12 : u 12 = (.agg R.cells.toArray) := r12
    replace r13 : u 13 = (.int .i64 0) := r13
    replace r14 : u 14 = (.bool true) := r14
    replace r15 : u 15 = (.bool true) := r15
    replace r16 : u 16 = (.bool true) := r16
    replace r17 : u 17 = (.pointer (some p)) := r17
    replace r18 : u 18 = (.agg R.cells.toArray) := r18
    replace r19 : u 19 = (.int .i64 60) := r19
    replace r20 : u 20 = (.bool true) := r20
    replace r21 : u 21 = (.bool true) := r21
    simp only [mkAct, List.foldl_cons, List.foldl_nil, List.setIfInBounds_toArray, List.set_cons_succ, List.set_cons_zero]
    try simp only [str, r0, r1, r2, r3, r4, r5, r6, r7, r8, r9, r10, r11, r12, r13, r14, r15, r16, r17, r18, r19, r20, r21]
    go_wp2
    go_ret
    exact ⟨rfl, s0.out.trans hI⟩
end Go.Proofs.Ythgpmgodpedjdaa
