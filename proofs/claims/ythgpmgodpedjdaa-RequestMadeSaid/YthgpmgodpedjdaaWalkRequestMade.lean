/-
  The walk of the law RequestMade: what was made is good; with another number, other data, of another client it is forged, as long as the macs are unlike.
-/
-- @law rep ask, int, str
import Derived.Test.YthgpmgodpedjdaaReq6
import Derived.Test.YthgpmgodpedjdaaReqO
import Derived.Deep.DeepCutAuto
import Derived.Test.YthgpmgodpedjdaaMutL
import Derived.Deep.QuietTactic
import Derived.BigQuiet
namespace Go.Proofs.Ythgpmgodpedjdaa
open Go Go.RowKit
set_option linter.unusedSimpArgs false
set_option linter.unusedVariables false

theorem wrap_u64' (c : Int) : ∃ m : Nat, IntKind.u64.wrap c = (m : Int) ∧ m < 18446744073709551616 := by
  refine ⟨(c % 18446744073709551616).toNat, ?_, ?_⟩
  · rw [show IntKind.u64.wrap c = c % 18446744073709551616 from by simp [IntKind.wrap, IntKind.signed, IntKind.bits]]
    omega
  · omega
theorem wrap_rem (c k : Int) (hk : 0 < k) (hk2 : k ≤ 1000) : ∃ m : Nat, wrap64 ((IntKind.u64.wrap c).tmod k) = (m : Int) ∧ (m : Int) < k := by
  obtain ⟨a, ha, hb⟩ := wrap_u64' c
  refine ⟨((a : Int) % k).toNat, ?_, ?_⟩
  · rw [ha, Int.tmod_eq_emod_of_nonneg (by omega)]
    have h1 := Int.emod_nonneg (a : Int) (show k ≠ 0 by omega)
    have h2 := Int.emod_lt_of_pos (a : Int) hk
    unfold wrap64
    omega
  · have h1 := Int.emod_nonneg (a : Int) (show k ≠ 0 by omega)
    have h2 := Int.emod_lt_of_pos (a : Int) hk
    omega
theorem reqT_num (c n m : Int) (d : ByteArray) (t : List UInt8) : (reqT c n d t).cells.toArray.setIfInBounds 1 (.int .i64 m) = (reqT c m d t).cells.toArray := by simp [Req.cells, reqT]
theorem reqT_data (c n : Int) (d s : ByteArray) (t : List UInt8) : (reqT c n d t).cells.toArray.setIfInBounds 2 (.string s) = (reqT c n s t).cells.toArray := by simp [Req.cells, reqT]
set_option maxRecDepth 100000 in
set_option maxHeartbeats 6400000 in
theorem made_badm (w : World) (a : AskV) (ha : a.wf) (num : Int) (hnum : (Lit.int .i64 num).wf = true) (data : ByteArray) (hd64 : a.data.size ≤ 64) (hs64 : data.size ≤ 64) (hmr : a.num < 1 ∨ 1099511627776 < a.num) :
    Calls Try.prog 6 #[.agg a.cells.toArray, .int .i64 num, .string data] w fun e w' => e = .returned (.bool true) ∧ Same w w' := by
  have hl := Lib.hid lives6
  have hk := Lib.hid keys6_any
  unfold RetKeys at hk
  have hinfA := Lib.hid (ask_info a)
  obtain ⟨wn, wc, wcl, wnum, wd⟩ := ha
  obtain ⟨n, hn⟩ : ∃ n, n = a.nodes := ⟨_, rfl⟩
  obtain ⟨c, hc⟩ : ∃ c, c = a.client := ⟨_, rfl⟩
  obtain ⟨m, hm⟩ : ∃ m, m = a.num := ⟨_, rfl⟩
  obtain ⟨d, hd⟩ : ∃ d, d = a.data := ⟨_, rfl⟩
  rw [← hm] at wnum
  rw [← hd] at hd64
  obtain ⟨N, hN, hN2⟩ := wrap_rem n 65 (by omega) (by omega)
  obtain ⟨C, hC, hC2⟩ := wrap_rem c 8 (by omega) (by omega)
  have hinfK := Lib.hid (keys_info #[.string seedR, .int .i64 (72 : Nat)] rfl)
  have hinfZ := Lib.hid (req_info zeroReq_tag)
  have m9 := (i64_bounds wnum).2
  have m8 := (i64_bounds hnum).2
  have hM := fun w p h => rqmake_any w p seedR 72 N C m d h (by omega) (by omega) (by decide) m9
  have q1 : (d.size : Int) ≤ 64 := by omega
  have q2 : (data.size : Int) ≤ 64 := by omega
  clear wn wc wcl wnum wd hnum
  rw [← hm] at hmr
  have hmay : (req0 C m d).may 8 = false := by
    rw [Bool.eq_false_iff]
    intro h
    have := Req.may_iff.1 h
    simp only [req0] at this
    omega
  have hX : Req.make seedR.data.toList 72 N C m d = (zeroReq, 60) := by rw [Req.make, if_pos hmay]
  simp only [hX] at hM
  unfold RetReq at hM
  have key : ∀ hh : m < 1 ∨ 1 ≤ m ∧ 1099511627776 < m, Calls Try.prog 6 #[.agg a.cells.toArray, .int .i64 num, .string data] w fun e w' => e = .returned (.bool true) ∧ Same w w' := by
    intro hh
    clear hmr hmay hX m9 m8 hd64 hs64
    replace hM := Lib.hid hM
    replace hn := Lib.hid hn
    replace hc := Lib.hid hc
    replace hm := Lib.hid hm
    replace hd := Lib.hid hd
    replace hN := Lib.hid hN
    replace hC := Lib.hid hC
    rcases hh with h1 | ⟨h1, h2⟩
    all_goals
      go_enter Try.func6, Try.ntmps6
      go_upto_region 1 with (refine box_row rfl _ _ rfl _ rfl hinfA.out ?_; intro w0 hbx hs0; obtain ⟨c0, -, c2, c3, c4⟩ := ask_cells hbx; rw [← hn.out] at c0; rw [← hc.out] at c2; rw [← hm.out] at c3; rw [← hd.out] at c4; clear hbx)
      have s0 := Lib.hid hs0
      have sx := Lib.hid (Same.refl (w := w0))
      have e4 := c4
      clear hs0
      replace c0 := Lib.hid c0
      replace c2 := Lib.hid c2
      replace c3 := Lib.hid c3
      replace c4 := Lib.hid c4
      go_wp2_with fail
      refine (hk.out _).mono ?_
      rintro e w1 ⟨p, rfl, hka, hs⟩
      replace s0 := Lib.hid (s0.out.trans hs)
      replace sx := Lib.hid (sx.out.trans hs)
      clear hs
      clear e4
      replace hka := Lib.hid hka
      have sk := Lib.hid (Same.refl (w := w1))
      go_upto_region 4 with (first | (refine alloc_new rfl 38 rfl #[.string ByteArray.empty, .int .i64 0] (by kernel_rfl) ?_; intro wN_ hN_ sN_; have lN_ := blk_lt hN_; replace hN_ := Lib.hid hN_; replace sN_ := Lib.hid sN_) | (refine store_row rfl _ _ _ rfl w1.heap.size _ rfl rfl _ _ hN_.out hinfK.out rfl (by simp [Value.oneCell']) ?_; intro w2 hbk kN_))
      have mN_ : Same w1 w2 := sN_.out.keep kN_ (fun x hx hv => by omega)
      clear kN_ sN_ hN_ lN_
      replace s0 := Lib.hid (s0.out.trans mN_)
      replace sx := Lib.hid (sx.out.trans mN_)
      replace sk := Lib.hid (sk.out.trans mN_)
      clear mN_
      replace hbk := Lib.hid hbk
      have shbk := Lib.hid (Same.refl (w := w2))
      go_simp
      have d0 := sx.out.cell c0.out
      have d2 := sx.out.cell c2.out
      go_quiet (fail)
      rw [hN.out, hC.out]
      clear d0 d2
      obtain ⟨w3, hdr⟩ : ∃ x, x = w2.drewN nq := ⟨_, rfl⟩
      rw [← hdr]
      have hs : Same w2 w3 := by rw [hdr]; exact Same.refl.drewN _
      clear hdr
      replace s0 := Lib.hid (s0.out.trans hs)
      replace sx := Lib.hid (sx.out.trans hs)
      replace sk := Lib.hid (sk.out.trans hs)
      replace shbk := Lib.hid (shbk.out.trans hs)
      clear hs
      have hka3 := Lib.hid (hka.out.same sk.out)
      have d3 := sx.out.cell c3.out
      have d4 := sx.out.cell c4.out
      go_wp2_with fail
      refine (hM.out _ _ hka3.out).mono ?_
      rintro e w4 ⟨rfl, hs⟩
      replace s0 := Lib.hid (s0.out.trans hs)
      replace sx := Lib.hid (sx.out.trans hs)
      replace sk := Lib.hid (sk.out.trans hs)
      replace shbk := Lib.hid (shbk.out.trans hs)
      clear hs
      clear d3 d4 hka3
      go_upto_region 6 with (first | (refine alloc_new rfl 44 rfl zeroReq.cells.toArray (by kernel_rfl) ?_; intro wN_ hN_ sN_; have lN_ := blk_lt hN_; replace hN_ := Lib.hid hN_; replace sN_ := Lib.hid sN_) | (refine store_row rfl _ _ _ rfl w4.heap.size _ rfl rfl _ _ hN_.out hinfZ.out rfl (req_one _) ?_; intro w5 hbz kN_))
      have mN_ : Same w4 w5 := sN_.out.keep kN_ (fun x hx hv => by omega)
      clear kN_ sN_ hN_ lN_
      replace s0 := Lib.hid (s0.out.trans mN_)
      replace sx := Lib.hid (sx.out.trans mN_)
      replace sk := Lib.hid (sk.out.trans mN_)
      replace shbk := Lib.hid (shbk.out.trans mN_)
      clear mN_
      replace hbz := Lib.hid hbz
      have shbz := Lib.hid (Same.refl (w := w5))
      go_simp
      have d3 := sx.out.cell c3.out
      go_wp2_with fail
      refine (hl.out _).mono ?_
      rintro e w6 ⟨rfl, hs⟩
      replace s0 := Lib.hid (s0.out.trans hs)
      replace sx := Lib.hid (sx.out.trans hs)
      replace sk := Lib.hid (sk.out.trans hs)
      replace shbk := Lib.hid (shbk.out.trans hs)
      replace shbz := Lib.hid (shbz.out.trans hs)
      clear hs
      go_wp2
      go_ret
      exact ⟨rfl, s0.out⟩
  exact key (by omega)
set_option maxRecDepth 100000 in
set_option maxHeartbeats 6400000 in
theorem made_badn (w : World) (a : AskV) (ha : a.wf) (num : Int) (hnum : (Lit.int .i64 num).wf = true) (data : ByteArray) (hd64 : a.data.size ≤ 64) (hs64 : data.size ≤ 64) (hmr : ¬ (a.num < 1 ∨ 1099511627776 < a.num)) (hnr : num < 1 ∨ 1099511627776 < num) :
    Calls Try.prog 6 #[.agg a.cells.toArray, .int .i64 num, .string data] w fun e w' => e = .returned (.bool true) ∧ Same w w' := by
  have hl := Lib.hid lives6
  have hk := Lib.hid keys6_any
  unfold RetKeys at hk
  have hinfA := Lib.hid (ask_info a)
  obtain ⟨wn, wc, wcl, wnum, wd⟩ := ha
  obtain ⟨n, hn⟩ : ∃ n, n = a.nodes := ⟨_, rfl⟩
  obtain ⟨c, hc⟩ : ∃ c, c = a.client := ⟨_, rfl⟩
  obtain ⟨m, hm⟩ : ∃ m, m = a.num := ⟨_, rfl⟩
  obtain ⟨d, hd⟩ : ∃ d, d = a.data := ⟨_, rfl⟩
  rw [← hm] at wnum
  rw [← hd] at hd64
  obtain ⟨N, hN, hN2⟩ := wrap_rem n 65 (by omega) (by omega)
  obtain ⟨C, hC, hC2⟩ := wrap_rem c 8 (by omega) (by omega)
  have hinfK := Lib.hid (keys_info #[.string seedR, .int .i64 (72 : Nat)] rfl)
  have hinfZ := Lib.hid (req_info zeroReq_tag)
  have m9 := (i64_bounds wnum).2
  have m8 := (i64_bounds hnum).2
  have hM := fun w p h => rqmake_any w p seedR 72 N C m d h (by omega) (by omega) (by decide) m9
  have q1 : (d.size : Int) ≤ 64 := by omega
  have q2 : (data.size : Int) ≤ 64 := by omega
  clear wn wc wcl wnum wd hnum
  rw [← hm] at hmr
  have m1 : 1 ≤ m := by omega
  have m2 : m ≤ 1099511627776 := by omega
  have hmay : (req0 C m d).may 8 = true := Req.may_iff.2 ⟨by simp [req0], by simp only [req0]; omega, m1, m2, hd64⟩
  have hX : Req.make seedR.data.toList 72 N C m d = (reqT C m d (Sha.tagOf seedR.data.toList (N + C) (reqBody (req0 C m d))), 0) := Req.make_ok hmay (by omega) (by omega) (by omega)
  have hTl := Sha.tagOf_length seedR.data.toList (N + C) (reqBody (req0 C m d))
  obtain ⟨T, hT⟩ : ∃ T, T = Sha.tagOf seedR.data.toList (N + C) (reqBody (req0 C m d)) := ⟨_, rfl⟩
  rw [← hT] at hX hTl
  simp only [hX] at hM
  unfold RetReq at hM
  have hmayX : (reqT C m d T).may (C + 1) = true := req_may (by omega) (by omega) m1 m2 hd64
  have hg1 := fun w p h => rqgood_any w p seedR 72 N (C + 1) (reqT C m d T) hTl h (by omega) (by omega) (by decide)
  rw [Req.good_of hmayX (by omega) (by omega) (by simp only [reqT]; omega), show reqBody (reqT C m d T) = reqBody (req0 C m d) from rfl, show (reqT C m d T).client = (C : Int) from rfl, ← hT, if_pos (by rfl)] at hg1
  have hinfX := Lib.hid (req_info (r := reqT C m d T) hTl)
  have hinfY := Lib.hid (req_info (r := reqT C num data T) hTl)
  have hg2 := fun w p h => rqgood_any w p seedR 72 N 8 (reqT C num data T) hTl h (by omega) (by omega) (by decide)
  have hwC : IntKind.i64.wrap ((C : Int) + 1) = C + 1 := IntWalk.i64_in _ ⟨by omega, by omega⟩
  have d1 : decide (m < 1) = false := decide_eq_false (by omega)
  have hs1 := reqT_num C m num d T
  have hs2 := reqT_data C num d data T
  have hXsz : (reqT C m d T).cells.toArray.size = 19 := by rw [List.size_toArray, Req.cells_length hTl]
  obtain ⟨XC, hXC⟩ : ∃ c, c = (reqT C m d T).cells.toArray := ⟨_, rfl⟩
  obtain ⟨XM, hXM⟩ : ∃ c, c = (reqT C num d T).cells.toArray := ⟨_, rfl⟩
  have x1 : XC[1]? = some (.int .i64 m) := by rw [hXC]; rfl
  have x2 : XM[2]? = some (.string d) := by rw [hXM]; rfl
  clear hX hmay hmayX hmr
  replace hT := Lib.hid hT
  replace hTl := Lib.hid hTl
  replace hM := Lib.hid hM
  replace hg1 := Lib.hid hg1
  replace hn := Lib.hid hn
  replace hc := Lib.hid hc
  replace hm := Lib.hid hm
  replace hd := Lib.hid hd
  replace hN := Lib.hid hN
  replace hC := Lib.hid hC
  replace hs1 := Lib.hid hs1
  replace hs2 := Lib.hid hs2
  replace hXsz := Lib.hid hXsz
  clear x1 x2 hXM hXC
  go_enter Try.func6, Try.ntmps6
  go_upto_region 1 with (refine box_row rfl _ _ rfl _ rfl hinfA.out ?_; intro w0 hbx hs0; obtain ⟨c0, -, c2, c3, c4⟩ := ask_cells hbx; rw [← hn.out] at c0; rw [← hc.out] at c2; rw [← hm.out] at c3; rw [← hd.out] at c4; clear hbx)
  have s0 := Lib.hid hs0
  have sx := Lib.hid (Same.refl (w := w0))
  have e4 := c4
  clear hs0
  replace c0 := Lib.hid c0
  replace c2 := Lib.hid c2
  replace c3 := Lib.hid c3
  replace c4 := Lib.hid c4
  go_wp2_with fail
  refine (hk.out _).mono ?_
  rintro e w1 ⟨p, rfl, hka, hs⟩
  replace s0 := Lib.hid (s0.out.trans hs)
  replace sx := Lib.hid (sx.out.trans hs)
  clear hs
  clear e4
  replace hka := Lib.hid hka
  have sk := Lib.hid (Same.refl (w := w1))
  go_upto_region 4 with (first | (refine alloc_new rfl 38 rfl #[.string ByteArray.empty, .int .i64 0] (by kernel_rfl) ?_; intro wN_ hN_ sN_; have lN_ := blk_lt hN_; replace hN_ := Lib.hid hN_; replace sN_ := Lib.hid sN_) | (refine store_row rfl _ _ _ rfl w1.heap.size _ rfl rfl _ _ hN_.out hinfK.out rfl (by simp [Value.oneCell']) ?_; intro w2 hbk kN_))
  have mN_ : Same w1 w2 := sN_.out.keep kN_ (fun x hx hv => by omega)
  clear kN_ sN_ hN_ lN_
  replace s0 := Lib.hid (s0.out.trans mN_)
  replace sx := Lib.hid (sx.out.trans mN_)
  replace sk := Lib.hid (sk.out.trans mN_)
  clear mN_
  replace hbk := Lib.hid hbk
  have shbk := Lib.hid (Same.refl (w := w2))
  go_simp
  have d0 := sx.out.cell c0.out
  have d2 := sx.out.cell c2.out
  go_quiet (fail)
  rw [hN.out, hC.out]
  clear d0 d2
  obtain ⟨w3, hdr⟩ : ∃ x, x = w2.drewN nq := ⟨_, rfl⟩
  rw [← hdr]
  have hs : Same w2 w3 := by rw [hdr]; exact Same.refl.drewN _
  clear hdr
  replace s0 := Lib.hid (s0.out.trans hs)
  replace sx := Lib.hid (sx.out.trans hs)
  replace sk := Lib.hid (sk.out.trans hs)
  replace shbk := Lib.hid (shbk.out.trans hs)
  clear hs
  have hka3 := Lib.hid (hka.out.same sk.out)
  have d3 := sx.out.cell c3.out
  have d4 := sx.out.cell c4.out
  go_wp2_with fail
  refine (hM.out _ _ hka3.out).mono ?_
  rintro e w4 ⟨rfl, hs⟩
  replace s0 := Lib.hid (s0.out.trans hs)
  replace sx := Lib.hid (sx.out.trans hs)
  replace sk := Lib.hid (sk.out.trans hs)
  replace shbk := Lib.hid (shbk.out.trans hs)
  clear hs
  clear d3 d4 hka3
  go_upto_region 6 with (first | (refine alloc_new rfl 44 rfl zeroReq.cells.toArray (by kernel_rfl) ?_; intro wN_ hN_ sN_; have lN_ := blk_lt hN_; replace hN_ := Lib.hid hN_; replace sN_ := Lib.hid sN_) | (refine store_row rfl _ _ _ rfl w4.heap.size _ rfl rfl _ _ hN_.out hinfX.out (req_sizes (r := zeroReq) rfl hTl.out) (req_one _) ?_; intro w5 hbr kN_))
  have mN_ : Same w4 w5 := sN_.out.keep kN_ (fun x hx hv => by omega)
  clear kN_ sN_ hN_ lN_
  replace s0 := Lib.hid (s0.out.trans mN_)
  replace sx := Lib.hid (sx.out.trans mN_)
  replace sk := Lib.hid (sk.out.trans mN_)
  replace shbk := Lib.hid (shbk.out.trans mN_)
  clear mN_
  replace hbr := Lib.hid hbr
  have shbr := Lib.hid (Same.refl (w := w5))
  go_simp
  have hka5 := Lib.hid (hka.out.same sk.out)
  go_wp2_with (first | (refine load_row rfl _ _ rfl w4.heap.size rfl _ _ _ _ (shbr.out.at hbr.out) Try.underlying44 rfl hinfX.out ?_))
  refine (hg1.out _ _ hka5.out).mono ?_
  rintro e w6 ⟨rfl, hs⟩
  replace s0 := Lib.hid (s0.out.trans hs)
  replace sx := Lib.hid (sx.out.trans hs)
  replace sk := Lib.hid (sk.out.trans hs)
  replace shbk := Lib.hid (shbk.out.trans hs)
  replace shbr := Lib.hid (shbr.out.trans hs)
  clear hs
  clear hka5
  have z_s0 := s0.out.size
  have z_sx := sx.out.size
  have z_sk := sk.out.size
  have z_shbk := shbk.out.size
  have z_shbr := shbr.out.size
  go_upto_region 11 with (first | (refine alloc_new rfl 44 rfl zeroReq.cells.toArray (by kernel_rfl) ?_; intro wN_ hN_ sN_; have lN_ := blk_lt hN_; replace hN_ := Lib.hid hN_; replace sN_ := Lib.hid sN_) | (refine store_row rfl _ _ _ rfl w6.heap.size _ rfl rfl _ _ hN_.out hinfX.out (req_sizes (r := zeroReq) rfl hTl.out) (req_one _) ?_; intro w7 hby kN_) | (refine load_row rfl _ _ rfl w4.heap.size rfl _ _ _ _ (shbr.out.at hbr.out) Try.underlying44 rfl hinfX.out ?_))
  have mN_ : Same w6 w7 := sN_.out.keep kN_ (fun x hx hv => by omega)
  clear kN_ sN_ hN_ lN_
  replace s0 := Lib.hid (s0.out.trans mN_)
  replace sx := Lib.hid (sx.out.trans mN_)
  replace sk := Lib.hid (sk.out.trans mN_)
  replace shbk := Lib.hid (shbk.out.trans mN_)
  replace shbr := Lib.hid (shbr.out.trans mN_)
  clear mN_
  replace hby := Lib.hid hby
  have shby := Lib.hid (Same.refl (w := w7))
  go_simp
  have cy1 : w7.cell? ⟨w6.heap.size, 1, none⟩ = some (.int .i64 m) := req_num hby.out
  have cy2 : w7.cell? ⟨w6.heap.size, 2, none⟩ = some (.string d) := req_data hby.out
  have fy1 := blk_frozen hby.out 1
  have fy2 := blk_frozen hby.out 2
  go_upto_region 12 with fail
  obtain ⟨w8, hw8⟩ : ∃ x, x = (w7.setCell ⟨w6.heap.size, 1, none⟩ (.int .i64 num)).setCell ⟨w6.heap.size, 2, none⟩ (.string data) := ⟨_, rfl⟩
  rw [← hw8]
  have hby8 : w8.heap[w6.heap.size]? = some (.cells (reqT C num data T).cells.toArray 44 (0, 0)) := by
    rw [hw8]
    have h1 := blk_set (i := 1) (v := .int .i64 num) hby.out
    rw [hs1.out] at h1
    have h2 := blk_set (i := 2) (v := .string data) h1
    rw [hs2.out] at h2
    exact h2
  have hkp : Keep (· = w6.heap.size) w7 w8 := by
    rw [hw8]
    exact (Keep.setCell (p := (· = w6.heap.size)) _ rfl).trans (Keep.setCell (p := (· = w6.heap.size)) _ rfl) (fun _ _ h => h)
  clear hw8 cy1 cy2 fy1 fy2 hby shby
  have hby := Lib.hid hby8
  have shby := Lib.hid (Same.refl (w := w8))
  clear hby8
  replace s0 := Lib.hid (s0.out.keep hkp (fun x hx hv => by omega))
  replace sx := Lib.hid (sx.out.keep hkp (fun x hx hv => by omega))
  replace sk := Lib.hid (sk.out.keep hkp (fun x hx hv => by omega))
  replace shbk := Lib.hid (shbk.out.keep hkp (fun x hx hv => by omega))
  replace shbr := Lib.hid (shbr.out.keep hkp (fun x hx hv => by omega))
  clear hkp
  have hka8 := Lib.hid (hka.out.same sk.out)
  have hmy : (reqT C num data T).may 8 = false := by
    rw [Bool.eq_false_iff]
    intro h
    have := Req.may_iff.1 h
    simp only [reqT] at this
    omega
  simp only [Req.good_no hmy] at hg2
  replace hg2 := Lib.hid hg2
  clear hmy
  rcases (show num < 1 ∨ 1 ≤ num ∧ 1099511627776 < num by omega) with h1 | ⟨h1, h2⟩
  all_goals
    clear hnr
    go_wp2_with (first | (refine load_row rfl _ _ rfl w6.heap.size rfl _ _ _ _ (shby.out.at hby.out) Try.underlying44 rfl hinfY.out ?_))
    refine (hg2.out _ _ hka8.out).mono ?_
    rintro e w9 ⟨rfl, hs⟩
    replace s0 := Lib.hid (s0.out.trans hs)
    clear hs
    go_wp2_with fail
    refine (hl.out _).mono ?_
    rintro e w10 ⟨rfl, hs⟩
    replace s0 := Lib.hid (s0.out.trans hs)
    clear hs
    go_wp2
    go_ret
    exact ⟨rfl, s0.out⟩
set_option maxRecDepth 100000 in
set_option maxHeartbeats 6400000 in
theorem made_ok (w : World) (a : AskV) (ha : a.wf) (num : Int) (hnum : (Lit.int .i64 num).wf = true) (data : ByteArray) (hd64 : a.data.size ≤ 64) (hs64 : data.size ≤ 64) (hmr : ¬ (a.num < 1 ∨ 1099511627776 < a.num)) (hnr : ¬ (num < 1 ∨ 1099511627776 < num)) :
    Calls Try.prog 6 #[.agg a.cells.toArray, .int .i64 num, .string data] w fun e w' => e = .returned (.bool true) ∧ Same w w' := by
  have hl := Lib.hid lives6
  have hk := Lib.hid keys6_any
  unfold RetKeys at hk
  have hinfA := Lib.hid (ask_info a)
  obtain ⟨wn, wc, wcl, wnum, wd⟩ := ha
  obtain ⟨n, hn⟩ : ∃ n, n = a.nodes := ⟨_, rfl⟩
  obtain ⟨c, hc⟩ : ∃ c, c = a.client := ⟨_, rfl⟩
  obtain ⟨m, hm⟩ : ∃ m, m = a.num := ⟨_, rfl⟩
  obtain ⟨d, hd⟩ : ∃ d, d = a.data := ⟨_, rfl⟩
  rw [← hm] at wnum
  rw [← hd] at hd64
  obtain ⟨N, hN, hN2⟩ := wrap_rem n 65 (by omega) (by omega)
  obtain ⟨C, hC, hC2⟩ := wrap_rem c 8 (by omega) (by omega)
  have hinfK := Lib.hid (keys_info #[.string seedR, .int .i64 (72 : Nat)] rfl)
  have hinfZ := Lib.hid (req_info zeroReq_tag)
  have m9 := (i64_bounds wnum).2
  have m8 := (i64_bounds hnum).2
  have hM := fun w p h => rqmake_any w p seedR 72 N C m d h (by omega) (by omega) (by decide) m9
  have q1 : (d.size : Int) ≤ 64 := by omega
  have q2 : (data.size : Int) ≤ 64 := by omega
  clear wn wc wcl wnum wd hnum
  rw [← hm] at hmr
  have m1 : 1 ≤ m := by omega
  have m2 : m ≤ 1099511627776 := by omega
  have hmay : (req0 C m d).may 8 = true := Req.may_iff.2 ⟨by simp [req0], by simp only [req0]; omega, m1, m2, hd64⟩
  have hX : Req.make seedR.data.toList 72 N C m d = (reqT C m d (Sha.tagOf seedR.data.toList (N + C) (reqBody (req0 C m d))), 0) := Req.make_ok hmay (by omega) (by omega) (by omega)
  have hTl := Sha.tagOf_length seedR.data.toList (N + C) (reqBody (req0 C m d))
  obtain ⟨T, hT⟩ : ∃ T, T = Sha.tagOf seedR.data.toList (N + C) (reqBody (req0 C m d)) := ⟨_, rfl⟩
  rw [← hT] at hX hTl
  simp only [hX] at hM
  unfold RetReq at hM
  have hmayX : (reqT C m d T).may (C + 1) = true := req_may (by omega) (by omega) m1 m2 hd64
  have hg1 := fun w p h => rqgood_any w p seedR 72 N (C + 1) (reqT C m d T) hTl h (by omega) (by omega) (by decide)
  rw [Req.good_of hmayX (by omega) (by omega) (by simp only [reqT]; omega), show reqBody (reqT C m d T) = reqBody (req0 C m d) from rfl, show (reqT C m d T).client = (C : Int) from rfl, ← hT, if_pos (by rfl)] at hg1
  have hinfX := Lib.hid (req_info (r := reqT C m d T) hTl)
  have hinfY := Lib.hid (req_info (r := reqT C num data T) hTl)
  have hg2 := fun w p h => rqgood_any w p seedR 72 N 8 (reqT C num data T) hTl h (by omega) (by omega) (by decide)
  have hwC : IntKind.i64.wrap ((C : Int) + 1) = C + 1 := IntWalk.i64_in _ ⟨by omega, by omega⟩
  have d1 : decide (m < 1) = false := decide_eq_false (by omega)
  have hs1 := reqT_num C m num d T
  have hs2 := reqT_data C num d data T
  have hXsz : (reqT C m d T).cells.toArray.size = 19 := by rw [List.size_toArray, Req.cells_length hTl]
  obtain ⟨XC, hXC⟩ : ∃ c, c = (reqT C m d T).cells.toArray := ⟨_, rfl⟩
  obtain ⟨XM, hXM⟩ : ∃ c, c = (reqT C num d T).cells.toArray := ⟨_, rfl⟩
  have x1 : XC[1]? = some (.int .i64 m) := by rw [hXC]; rfl
  have x2 : XM[2]? = some (.string d) := by rw [hXM]; rfl
  clear hX hmay hmayX hmr
  replace hT := Lib.hid hT
  replace hTl := Lib.hid hTl
  replace hM := Lib.hid hM
  replace hg1 := Lib.hid hg1
  replace hn := Lib.hid hn
  replace hc := Lib.hid hc
  replace hm := Lib.hid hm
  replace hd := Lib.hid hd
  replace hN := Lib.hid hN
  replace hC := Lib.hid hC
  replace hs1 := Lib.hid hs1
  replace hs2 := Lib.hid hs2
  replace hXsz := Lib.hid hXsz
  clear x1 x2 hXM hXC
  go_enter Try.func6, Try.ntmps6
  go_upto_region 1 with (refine box_row rfl _ _ rfl _ rfl hinfA.out ?_; intro w0 hbx hs0; obtain ⟨c0, -, c2, c3, c4⟩ := ask_cells hbx; rw [← hn.out] at c0; rw [← hc.out] at c2; rw [← hm.out] at c3; rw [← hd.out] at c4; clear hbx)
  have s0 := Lib.hid hs0
  have sx := Lib.hid (Same.refl (w := w0))
  have e4 := c4
  clear hs0
  replace c0 := Lib.hid c0
  replace c2 := Lib.hid c2
  replace c3 := Lib.hid c3
  replace c4 := Lib.hid c4
  go_wp2_with fail
  refine (hk.out _).mono ?_
  rintro e w1 ⟨p, rfl, hka, hs⟩
  replace s0 := Lib.hid (s0.out.trans hs)
  replace sx := Lib.hid (sx.out.trans hs)
  clear hs
  clear e4
  replace hka := Lib.hid hka
  have sk := Lib.hid (Same.refl (w := w1))
  go_upto_region 4 with (first | (refine alloc_new rfl 38 rfl #[.string ByteArray.empty, .int .i64 0] (by kernel_rfl) ?_; intro wN_ hN_ sN_; have lN_ := blk_lt hN_; replace hN_ := Lib.hid hN_; replace sN_ := Lib.hid sN_) | (refine store_row rfl _ _ _ rfl w1.heap.size _ rfl rfl _ _ hN_.out hinfK.out rfl (by simp [Value.oneCell']) ?_; intro w2 hbk kN_))
  have mN_ : Same w1 w2 := sN_.out.keep kN_ (fun x hx hv => by omega)
  clear kN_ sN_ hN_ lN_
  replace s0 := Lib.hid (s0.out.trans mN_)
  replace sx := Lib.hid (sx.out.trans mN_)
  replace sk := Lib.hid (sk.out.trans mN_)
  clear mN_
  replace hbk := Lib.hid hbk
  have shbk := Lib.hid (Same.refl (w := w2))
  go_simp
  have d0 := sx.out.cell c0.out
  have d2 := sx.out.cell c2.out
  go_quiet (fail)
  rw [hN.out, hC.out]
  clear d0 d2
  obtain ⟨w3, hdr⟩ : ∃ x, x = w2.drewN nq := ⟨_, rfl⟩
  rw [← hdr]
  have hs : Same w2 w3 := by rw [hdr]; exact Same.refl.drewN _
  clear hdr
  replace s0 := Lib.hid (s0.out.trans hs)
  replace sx := Lib.hid (sx.out.trans hs)
  replace sk := Lib.hid (sk.out.trans hs)
  replace shbk := Lib.hid (shbk.out.trans hs)
  clear hs
  have hka3 := Lib.hid (hka.out.same sk.out)
  have d3 := sx.out.cell c3.out
  have d4 := sx.out.cell c4.out
  go_wp2_with fail
  refine (hM.out _ _ hka3.out).mono ?_
  rintro e w4 ⟨rfl, hs⟩
  replace s0 := Lib.hid (s0.out.trans hs)
  replace sx := Lib.hid (sx.out.trans hs)
  replace sk := Lib.hid (sk.out.trans hs)
  replace shbk := Lib.hid (shbk.out.trans hs)
  clear hs
  clear d3 d4 hka3
  go_upto_region 6 with (first | (refine alloc_new rfl 44 rfl zeroReq.cells.toArray (by kernel_rfl) ?_; intro wN_ hN_ sN_; have lN_ := blk_lt hN_; replace hN_ := Lib.hid hN_; replace sN_ := Lib.hid sN_) | (refine store_row rfl _ _ _ rfl w4.heap.size _ rfl rfl _ _ hN_.out hinfX.out (req_sizes (r := zeroReq) rfl hTl.out) (req_one _) ?_; intro w5 hbr kN_))
  have mN_ : Same w4 w5 := sN_.out.keep kN_ (fun x hx hv => by omega)
  clear kN_ sN_ hN_ lN_
  replace s0 := Lib.hid (s0.out.trans mN_)
  replace sx := Lib.hid (sx.out.trans mN_)
  replace sk := Lib.hid (sk.out.trans mN_)
  replace shbk := Lib.hid (shbk.out.trans mN_)
  clear mN_
  replace hbr := Lib.hid hbr
  have shbr := Lib.hid (Same.refl (w := w5))
  go_simp
  have hka5 := Lib.hid (hka.out.same sk.out)
  go_wp2_with (first | (refine load_row rfl _ _ rfl w4.heap.size rfl _ _ _ _ (shbr.out.at hbr.out) Try.underlying44 rfl hinfX.out ?_))
  refine (hg1.out _ _ hka5.out).mono ?_
  rintro e w6 ⟨rfl, hs⟩
  replace s0 := Lib.hid (s0.out.trans hs)
  replace sx := Lib.hid (sx.out.trans hs)
  replace sk := Lib.hid (sk.out.trans hs)
  replace shbk := Lib.hid (shbk.out.trans hs)
  replace shbr := Lib.hid (shbr.out.trans hs)
  clear hs
  clear hka5
  have z_s0 := s0.out.size
  have z_sx := sx.out.size
  have z_sk := sk.out.size
  have z_shbk := shbk.out.size
  have z_shbr := shbr.out.size
  go_upto_region 11 with (first | (refine alloc_new rfl 44 rfl zeroReq.cells.toArray (by kernel_rfl) ?_; intro wN_ hN_ sN_; have lN_ := blk_lt hN_; replace hN_ := Lib.hid hN_; replace sN_ := Lib.hid sN_) | (refine store_row rfl _ _ _ rfl w6.heap.size _ rfl rfl _ _ hN_.out hinfX.out (req_sizes (r := zeroReq) rfl hTl.out) (req_one _) ?_; intro w7 hby kN_) | (refine load_row rfl _ _ rfl w4.heap.size rfl _ _ _ _ (shbr.out.at hbr.out) Try.underlying44 rfl hinfX.out ?_))
  have mN_ : Same w6 w7 := sN_.out.keep kN_ (fun x hx hv => by omega)
  clear kN_ sN_ hN_ lN_
  replace s0 := Lib.hid (s0.out.trans mN_)
  replace sx := Lib.hid (sx.out.trans mN_)
  replace sk := Lib.hid (sk.out.trans mN_)
  replace shbk := Lib.hid (shbk.out.trans mN_)
  replace shbr := Lib.hid (shbr.out.trans mN_)
  clear mN_
  replace hby := Lib.hid hby
  have shby := Lib.hid (Same.refl (w := w7))
  go_simp
  have cy1 : w7.cell? ⟨w6.heap.size, 1, none⟩ = some (.int .i64 m) := req_num hby.out
  have cy2 : w7.cell? ⟨w6.heap.size, 2, none⟩ = some (.string d) := req_data hby.out
  have fy1 := blk_frozen hby.out 1
  have fy2 := blk_frozen hby.out 2
  go_upto_region 12 with fail
  obtain ⟨w8, hw8⟩ : ∃ x, x = (w7.setCell ⟨w6.heap.size, 1, none⟩ (.int .i64 num)).setCell ⟨w6.heap.size, 2, none⟩ (.string data) := ⟨_, rfl⟩
  rw [← hw8]
  have hby8 : w8.heap[w6.heap.size]? = some (.cells (reqT C num data T).cells.toArray 44 (0, 0)) := by
    rw [hw8]
    have h1 := blk_set (i := 1) (v := .int .i64 num) hby.out
    rw [hs1.out] at h1
    have h2 := blk_set (i := 2) (v := .string data) h1
    rw [hs2.out] at h2
    exact h2
  have hkp : Keep (· = w6.heap.size) w7 w8 := by
    rw [hw8]
    exact (Keep.setCell (p := (· = w6.heap.size)) _ rfl).trans (Keep.setCell (p := (· = w6.heap.size)) _ rfl) (fun _ _ h => h)
  clear hw8 cy1 cy2 fy1 fy2 hby shby
  have hby := Lib.hid hby8
  have shby := Lib.hid (Same.refl (w := w8))
  clear hby8
  replace s0 := Lib.hid (s0.out.keep hkp (fun x hx hv => by omega))
  replace sx := Lib.hid (sx.out.keep hkp (fun x hx hv => by omega))
  replace sk := Lib.hid (sk.out.keep hkp (fun x hx hv => by omega))
  replace shbk := Lib.hid (shbk.out.keep hkp (fun x hx hv => by omega))
  replace shbr := Lib.hid (shbr.out.keep hkp (fun x hx hv => by omega))
  clear hkp
  have hka8 := Lib.hid (hka.out.same sk.out)
  have hmy : (reqT C num data T).may 8 = true := req_may (by omega) (by omega) (by omega) (by omega) hs64
  simp only [Req.good_of hmy (show (0 : Int) ≤ N by omega) (show (N : Int) ≤ 64 by omega) (show (N : Int) + (reqT C num data T).client < (72 : Nat) by simp only [reqT]; omega)] at hg2
  have hcl : (reqT C num data T).client = (C : Int) := rfl
  have htg : (reqT C num data T).tag = T := rfl
  simp only [hcl, htg] at hg2
  have hbd := fun w => rqrbody_any (reqT C num data T) w hTl.out (by simp only [reqT]; omega) (by simp only [reqT]; omega) (by simp only [reqT]; omega)
  unfold RetText0 at hbd
  have hBl := reqBody_le (reqT C num data T) (by simp only [reqT]; omega) (by simp only [reqT]; omega) (by simp only [reqT]; omega)
  have hBl2 : (reqBody (reqT C num data T)).length ≤ 100 := by simp only [reqT] at hBl; simp only [reqT]; omega
  obtain ⟨B, hB⟩ : ∃ B, B = reqBody (reqT C num data T) := ⟨_, rfl⟩
  rw [← hB] at hBl2
  simp only [← hB] at hg2 hbd
  have hsg := fun w => rsign_any w seedR 72 ((N : Int) + C) ⟨B.toArray⟩ (by decide) (by show B.toArray.size ≤ _; rw [List.size_toArray]; omega) (by omega)
  rw [show ((⟨B.toArray⟩ : ByteArray).data.toList) = B from rfl, ← Sha.rsign_eq _ _ _ _ (by omega), Sha.sign_in B (by omega) (by omega)] at hsg
  have hUl := Sha.tagOf_length seedR.data.toList ((N : Int) + C) B
  obtain ⟨U, hU⟩ : ∃ U, U = Sha.tagOf seedR.data.toList ((N : Int) + C) B := ⟨_, rfl⟩
  rw [← hU] at hsg hUl
  simp only [← hU] at hg2
  unfold RetTag at hsg
  have hinfU := Lib.hid (tag_info hUl)
  have hinfTL := Lib.hid (tag_infoL hTl.out)
  have hne := fun w => tag_neq U T hUl hTl.out w
  have hwNC : IntKind.i64.wrap ((N : Int) + C) = N + C := IntWalk.i64_in _ ⟨by omega, by omega⟩
  have n1 : decide (num < 1) = false := decide_eq_false (by omega)
  have n2 : decide (1099511627776 < num) = false := decide_eq_false (by omega)
  clear hB hU hcl htg hmy hBl hBl2
  replace hg2 := Lib.hid hg2
  replace hbd := Lib.hid hbd
  replace hsg := Lib.hid hsg
  replace hUl := Lib.hid hUl
  replace hne := Lib.hid hne
  go_upto_region 14 with fail
  have hrt := req_tag (shbr.out.at hbr.out)
  replace hrt : w8.rangeAt w4.heap.size 3 (bv T) := hrt
  replace hrt := Lib.hid hrt
  refine wp_region_mutL (by kernel_rfl) [(92, 0), (93, 1), (94, 2), (95, 3), (96, 4), (97, 5), (98, 6), (91, 7), (99, 8), (100, 9), (14, 10)] [(11, (Keep (fun k => w8.heap.size ≤ k)))] [(10, [11]), (11, [11])] [(11, 10)] [0, 1, 2, 3, 4, 5, 6, 7, 8, 9, 11] [[], [], [], [1, 2], [], [4], [0, 3, 5], [6], [7], [7], [], [10, 8]] Same (Same _) [] [isV (rkeys seedR (72 : Nat)), isV (.int .i64 (N : Int)), isV (.int .i64 (C : Int)), isV (.int .i64 ((N : Int) + C)), isV (.agg (reqT C num data T).cells.toArray), isV (str B), isV (.tuple #[.agg (bv U).toArray, .int .i64 0]), isV (.tuple #[.agg (bv U).toArray, .int .i64 0]), isV (.agg (bv U).toArray), isV (.int .i64 0), isCell w8.heap.size (bv noTag) 42, isCell w8.heap.size (bv U) 42] (Same.refl.drew) (by simp) (fun _ _ h k => h.trans k) (by intro g hg; simp only [List.mem_cons, List.not_mem_nil, or_false] at hg; obtain rfl := hg; exact (fun _ _ h k => h.keep k (fun x hx hv => by omega))) (by simp [isV_stable, isB_stable, isAny_stable, isCell_stable]) (by simp) (by simp [killsOf, List.zipIdx_cons, isV_stable, isAny_stable]) (by simp [killsOf, List.zipIdx_cons]) (by decide) (l := [_, _, _, _, _, _, _, _, _, _, _, _]) rfl (by decide) (by kernel_rfl) (by kernel_rfl) (by kernel_rfl) (by decide) (by kernel_rfl) ?_ ?_
  · refine ⟨?_, ?_, ?_, ?_, ?_, ?_, ?_, ?_, ?_, ?_, ?_, ?_, trivial⟩
    all_goals (intro u wx hI hp; simp only [mkAct, List.foldl_cons, List.foldl_nil, List.setIfInBounds_toArray, List.set_cons_succ, List.set_cons_zero])
    · -- operation 0
      go_wp2_with (refine load_row rfl _ _ rfl w1.heap.size rfl _ _ _ _ (hI.at (shbk.out.at hbk.out)) Try.underlying38 rfl hinfK.out ?_)
      refine stl_v (x := (rkeys seedR (72 : Nat))) rfl (by decide) Same.refl ?_
      first | (simp only [mkAct, List.foldl_cons, List.foldl_nil, List.setIfInBounds_toArray, List.set_cons_succ, List.set_cons_zero, upd, reduceIte, Nat.reduceEqDiff, Nat.reduceAdd, str]; done) | (simp [mkAct, upd, str, *]; done)
    · -- operation 1
      go_wp2
      refine stl_v (x := (.int .i64 (N : Int))) rfl (by decide) Same.refl ?_
      first | (simp only [mkAct, List.foldl_cons, List.foldl_nil, List.setIfInBounds_toArray, List.set_cons_succ, List.set_cons_zero, upd, reduceIte, Nat.reduceEqDiff, Nat.reduceAdd, str]; done) | (simp [mkAct, upd, str, *]; done)
    · -- operation 2
      go_wp2
      refine stl_v (x := (.int .i64 (C : Int))) rfl (by decide) Same.refl ?_
      first | (simp only [mkAct, List.foldl_cons, List.foldl_nil, List.setIfInBounds_toArray, List.set_cons_succ, List.set_cons_zero, upd, reduceIte, Nat.reduceEqDiff, Nat.reduceAdd, str]; done) | (simp [mkAct, upd, str, *]; done)
    · -- operation 3
      obtain ⟨f1, f2, -⟩ := hp
      replace f1 : u 1 = (.int .i64 (N : Int)) := f1
      replace f2 : u 2 = (.int .i64 (C : Int)) := f2
      try simp only [f1, f2, str]
      go_wp2
      refine stl_v (x := (.int .i64 ((N : Int) + C))) rfl (by decide) Same.refl ?_
      first | (simp only [mkAct, List.foldl_cons, List.foldl_nil, List.setIfInBounds_toArray, List.set_cons_succ, List.set_cons_zero, upd, reduceIte, Nat.reduceEqDiff, Nat.reduceAdd, f1, f2, str]; done) | (simp [mkAct, upd, f1, f2, str, *]; done)
    · -- operation 4
      go_wp2_with (refine load_row rfl _ _ rfl w6.heap.size rfl _ _ _ _ (hI.at (shby.out.at hby.out)) Try.underlying44 rfl hinfY.out ?_)
      refine stl_v (x := (.agg (reqT C num data T).cells.toArray)) rfl (by decide) Same.refl ?_
      first | (simp only [mkAct, List.foldl_cons, List.foldl_nil, List.setIfInBounds_toArray, List.set_cons_succ, List.set_cons_zero, upd, reduceIte, Nat.reduceEqDiff, Nat.reduceAdd, str]; done) | (simp [mkAct, upd, str, *]; done)
    · -- operation 5
      obtain ⟨f4, -⟩ := hp
      replace f4 : u 4 = (.agg (reqT C num data T).cells.toArray) := f4
      try simp only [f4, str]
      go_wp2_with fail
      refine (hbd.out _).mono ?_
      rintro e w1 ⟨rfl, hs'⟩
      go_wp2
      refine stl_v (x := (str B)) rfl (by decide) hs' ?_
      first | (simp only [mkAct, List.foldl_cons, List.foldl_nil, List.setIfInBounds_toArray, List.set_cons_succ, List.set_cons_zero, upd, reduceIte, Nat.reduceEqDiff, Nat.reduceAdd, f4, str]; done) | (simp [mkAct, upd, f4, str, *]; done)
    · -- operation 6
      obtain ⟨f0, f3, f5, -⟩ := hp
      replace f0 : u 0 = (rkeys seedR (72 : Nat)) := f0
      replace f3 : u 3 = (.int .i64 ((N : Int) + C)) := f3
      replace f5 : u 5 = (str B) := f5
      try simp only [f0, f3, f5, str]
      go_wp2_with fail
      refine (hsg.out _).mono ?_
      rintro e w1 ⟨rfl, hs'⟩
      go_wp2
      refine stl_v (x := (.tuple #[.agg (bv U).toArray, .int .i64 0])) rfl (by decide) hs' ?_
      first | (simp only [mkAct, List.foldl_cons, List.foldl_nil, List.setIfInBounds_toArray, List.set_cons_succ, List.set_cons_zero, upd, reduceIte, Nat.reduceEqDiff, Nat.reduceAdd, f0, f3, f5, str]; done) | (simp [mkAct, upd, f0, f3, f5, str, *]; done)
    · -- operation 7
      obtain ⟨f6, -⟩ := hp
      replace f6 : u 6 = (.tuple #[.agg (bv U).toArray, .int .i64 0]) := f6
      try simp only [f6, str]
      go_wp2
      refine stl_v (x := (.tuple #[.agg (bv U).toArray, .int .i64 0])) rfl (by decide) Same.refl ?_
      first | (simp only [mkAct, List.foldl_cons, List.foldl_nil, List.setIfInBounds_toArray, List.set_cons_succ, List.set_cons_zero, upd, reduceIte, Nat.reduceEqDiff, Nat.reduceAdd, f6, str]; done) | (simp [mkAct, upd, f6, str, *]; done)
    · -- operation 8
      obtain ⟨f7, -⟩ := hp
      replace f7 : u 7 = (.tuple #[.agg (bv U).toArray, .int .i64 0]) := f7
      try simp only [f7, str]
      go_wp2
      refine stl_v (x := (.agg (bv U).toArray)) rfl (by decide) Same.refl ?_
      first | (simp only [mkAct, List.foldl_cons, List.foldl_nil, List.setIfInBounds_toArray, List.set_cons_succ, List.set_cons_zero, upd, reduceIte, Nat.reduceEqDiff, Nat.reduceAdd, f7, str]; done) | (simp [mkAct, upd, f7, str, *]; done)
    · -- operation 9
      obtain ⟨f7, -⟩ := hp
      replace f7 : u 7 = (.tuple #[.agg (bv U).toArray, .int .i64 0]) := f7
      try simp only [f7, str]
      go_wp2
      refine stl_v (x := (.int .i64 0)) rfl (by decide) Same.refl ?_
      first | (simp only [mkAct, List.foldl_cons, List.foldl_nil, List.setIfInBounds_toArray, List.set_cons_succ, List.set_cons_zero, upd, reduceIte, Nat.reduceEqDiff, Nat.reduceAdd, f7, str]; done) | (simp [mkAct, upd, f7, str, *]; done)
    · -- operation 10
      go_wp2_with (refine alloc_new rfl 42 rfl (bv noTag).toArray (by kernel_rfl) ?_; intro wx4 hb4 hs4)
      refine stl_v (x := (.pointer (some ⟨wx.heap.size, 0, none⟩))) ⟨_, rfl, hI.size, hb4⟩ (by decide) hs4 ?_
      first | (simp only [mkAct, List.foldl_cons, List.foldl_nil, List.setIfInBounds_toArray, List.set_cons_succ, List.set_cons_zero, upd, reduceIte, Nat.reduceEqDiff, Nat.reduceAdd, str]; done) | (simp [mkAct, upd, str, *]; done)
    · -- operation 11
      obtain ⟨f10, f8, -⟩ := hp
      replace f8 : u 8 = (.agg (bv U).toArray) := f8
      try simp only [f8, str]
      obtain ⟨g, f10, hg, hbg⟩ := f10
      try simp only [f10]
      replace hbg := Lib.hid hbg
      go_wp2_with (refine store_row rfl _ _ _ rfl g _ rfl rfl _ _ hbg.out hinfU.out (by rw [List.size_toArray, List.size_toArray, bv_length, bv_length, hUl.out]; rfl) (by simpa using bv_cell) ?_; intro wx4 hb4 hk4)
      refine stl_l (x := .pointer (some ⟨g, 0, none⟩)) ⟨g, rfl, hg, hb4⟩ (by intro p hp hpi; simp only [List.mem_cons, List.not_mem_nil, or_false] at hp; subst hp; exact f10.symm) (hk4.mono (fun x _ hx => by subst hx; exact hg)) ?_
      simp [mkAct, upd, f10, f8]
  · intro u wx hI hR hL
    obtain ⟨r0, r1, r2, r3, r4, r5, r6, r7, r8, r9, r11, -⟩ := hR
    replace r0 : u 0 = (rkeys seedR (72 : Nat)) := r0
    replace r1 : u 1 = (.int .i64 (N : Int)) := r1
    replace r2 : u 2 = (.int .i64 (C : Int)) := r2
    replace r3 : u 3 = (.int .i64 ((N : Int) + C)) := r3
    replace r4 : u 4 = (.agg (reqT C num data T).cells.toArray) := r4
    replace r5 : u 5 = (str B) := r5
    replace r6 : u 6 = (.tuple #[.agg (bv U).toArray, .int .i64 0]) := r6
    replace r7 : u 7 = (.tuple #[.agg (bv U).toArray, .int .i64 0]) := r7
    replace r8 : u 8 = (.agg (bv U).toArray) := r8
    replace r9 : u 9 = (.int .i64 0) := r9
    simp only [mkAct, List.foldl_cons, List.foldl_nil, List.setIfInBounds_toArray, List.set_cons_succ, List.set_cons_zero]
    try simp only [str, r0, r1, r2, r3, r4, r5, r6, r7, r8, r9]
    obtain ⟨g, r11, hg, hbg⟩ := r11
    have r10 : u 10 = .pointer (some ⟨g, 0, none⟩) := (hL (11, 10) (by simp)).symm.trans r11
    simp only [r10]
    have hrt := Lib.hid (hI.range hrt.out)
    have hka9 := Lib.hid (hka8.out.same hI)
    replace s0 := Lib.hid (s0.out.trans hI)
    replace shby := Lib.hid (shby.out.trans hI)
    replace hbg := Lib.hid hbg
    clear hI hL r10 r11 hka8
    have hne := hne.out
    have hgd := tag_guard
    go_upto_region 16 with fail
    clear r0 r1 r2 r3 r4 r5 r6 r7 r8 r9
    by_cases hb1 : (U != T) = true
    · have hgf := hg2.out
      rw [if_neg (by simpa using hb1)] at hgf
      replace hgf := Lib.hid hgf
      clear hg2
      go_upto_region 18 with (first | (refine load_row rfl _ _ rfl g rfl _ _ _ _ hbg.out Try.underlying42 rfl hinfU.out ?_) | (refine load_mid rfl _ _ rfl w4.heap.size 3 rfl (bv T) _ hrt.out Try.underlying42 rfl hinfTL.out ?_))
      clear hne hgd hbg hrt hb1
      go_wp2_with (first | (refine load_row rfl _ _ rfl w6.heap.size rfl _ _ _ _ (shby.out.at hby.out) Try.underlying44 rfl hinfY.out ?_))
      refine (hgf.out _ _ hka9.out).mono ?_
      rintro e w9 ⟨rfl, hs⟩
      replace s0 := Lib.hid (s0.out.trans hs)
      replace shby := Lib.hid (shby.out.trans hs)
      clear hs
      go_wp2_with fail
      refine (hl.out _).mono ?_
      rintro e w10 ⟨rfl, hs⟩
      replace s0 := Lib.hid (s0.out.trans hs)
      replace shby := Lib.hid (shby.out.trans hs)
      clear hs
      go_wp2
      go_ret
      exact ⟨rfl, s0.out⟩
    · replace hb1 : (U != T) = false := by simpa using hb1
      have hgf := hg2.out
      rw [if_pos (by simpa using hb1)] at hgf
      replace hgf := Lib.hid hgf
      clear hg2
      go_upto_region 18 with (first | (refine load_row rfl _ _ rfl g rfl _ _ _ _ hbg.out Try.underlying42 rfl hinfU.out ?_) | (refine load_mid rfl _ _ rfl w4.heap.size 3 rfl (bv T) _ hrt.out Try.underlying42 rfl hinfTL.out ?_))
      clear hne hgd hbg hrt hb1
      go_wp2_with (first | (refine load_row rfl _ _ rfl w6.heap.size rfl _ _ _ _ (shby.out.at hby.out) Try.underlying44 rfl hinfY.out ?_))
      refine (hgf.out _ _ hka9.out).mono ?_
      rintro e w9 ⟨rfl, hs⟩
      replace s0 := Lib.hid (s0.out.trans hs)
      replace shby := Lib.hid (shby.out.trans hs)
      clear hs
      go_wp2_with fail
      refine (hl.out _).mono ?_
      rintro e w10 ⟨rfl, hs⟩
      replace s0 := Lib.hid (s0.out.trans hs)
      replace shby := Lib.hid (shby.out.trans hs)
      clear hs
      go_wp2
      go_ret
      exact ⟨rfl, s0.out⟩
set_option maxRecDepth 100000 in
set_option maxHeartbeats 400000 in
theorem made_big (w : World) (a : AskV) (num : Int) (data : ByteArray) (h : 64 < a.data.size ∨ a.data.size ≤ 64 ∧ 64 < data.size) :
    Calls Try.prog 6 #[.agg a.cells.toArray, .int .i64 num, .string data] w fun e w' => e = .returned (.bool true) ∧ Same w w' := by
  have hl := Lib.hid lives6
  have hinfA := Lib.hid (ask_info a)
  obtain ⟨d, hd⟩ : ∃ d, d = a.data := ⟨_, rfl⟩
  rw [← hd] at h
  replace hd := Lib.hid hd
  have h2 : 64 < (d.size : Int) ∨ (d.size : Int) ≤ 64 ∧ 64 < (data.size : Int) := by omega
  clear h
  rcases h2 with h1 | ⟨h1, h2⟩
  all_goals
    go_enter Try.func6, Try.ntmps6
    go_upto_region 1 with (refine box_row rfl _ _ rfl _ rfl hinfA.out ?_; intro w0 hbx hs0; obtain ⟨-, -, -, -, c4⟩ := ask_cells hbx; rw [← hd.out] at c4; clear hbx; replace hs0 := Lib.hid hs0)
    go_wp2_with fail
    refine (hl.out _).mono ?_
    rintro e w2 ⟨rfl, hs2⟩
    go_wp2
    go_ret
    exact ⟨rfl, hs0.out.trans hs2⟩
theorem walk_RequestMade (w : World) (a : AskV) (ha : a.wf) (num : Int) (hnum : (Lit.int .i64 num).wf = true) (data : ByteArray) (hs : data.size ≤ maxLen) :
    Calls Try.prog 6 #[.agg a.cells.toArray, .int .i64 num, .string data] w fun e w' => e = .returned (.bool true) ∧ Same w w' := by
  by_cases h1 : 64 < a.data.size
  · exact made_big w a num data (.inl h1)
  · by_cases h2 : 64 < data.size
    · exact made_big w a num data (.inr ⟨by omega, h2⟩)
    · by_cases h3 : a.num < 1 ∨ 1099511627776 < a.num
      · exact made_badm w a ha num hnum data (by omega) (by omega) h3
      · by_cases h4 : num < 1 ∨ 1099511627776 < num
        · exact made_badn w a ha num hnum data (by omega) (by omega) h3 h4
        · exact made_ok w a ha num hnum data (by omega) (by omega) h3 h4
end Go.Proofs.Ythgpmgodpedjdaa
