/-
  The walk of the law RequestMakes: whatever is asked for, the request is made, or refused, as the document says.
-/
-- @law rep ask
import Derived.Test.YthgpmgodpedjdaaReq6
import Derived.Test.YthgpmgodpedjdaaReqO
namespace Go.Proofs.Ythgpmgodpedjdaa
open Go Go.RowKit
set_option linter.unusedSimpArgs false
set_option linter.unusedVariables false

set_option maxRecDepth 100000 in
set_option maxHeartbeats 3200000 in
theorem walk_RequestMakes (w : World) (a : AskV) (ha : a.wf) :
    Calls Try.prog 5 #[.agg a.cells.toArray] w fun e w' => e = .returned (.bool true) ∧ Same w w' := by
  have hl := Lib.hid lives6
  have hinfA := Lib.hid (ask_info a)
  obtain ⟨wn, wc, wcl, wnum, wd⟩ := ha
  by_cases hbig : 2000 < a.data.size
  · have h' : 2000 < (a.data.size : Int) := by omega
    obtain ⟨d, hd⟩ : ∃ d, d = a.data := ⟨_, rfl⟩
    rw [← hd] at h'
    clear hbig
    replace hd := Lib.hid hd
    go_enter Try.func5, Try.ntmps5
    go_upto_region 1 with (refine box_row rfl _ _ rfl _ rfl hinfA.out ?_; intro w0 hbx hs0; obtain ⟨-, -, -, -, c4⟩ := ask_cells hbx; rw [← hd.out] at c4; clear hbx; replace hs0 := Lib.hid hs0)
    go_wp2_with fail
    refine (hl.out _).mono ?_
    rintro e w2 ⟨rfl, hs2⟩
    go_wp2
    go_ret
    exact ⟨rfl, hs0.out.trans hs2⟩
  · have hk := Lib.hid keys6_any
    obtain ⟨n, hn⟩ : ∃ n, n = a.nodes := ⟨_, rfl⟩
    obtain ⟨c, hc⟩ : ∃ c, c = a.client := ⟨_, rfl⟩
    obtain ⟨m, hm⟩ : ∃ m, m = a.num := ⟨_, rfl⟩
    obtain ⟨d, hd⟩ : ∃ d, d = a.data := ⟨_, rfl⟩
    rw [← hn] at wn
    rw [← hc] at wcl
    rw [← hm] at wnum
    rw [← hd] at wd hbig
    have hm9 := (i64_bounds wnum).2
    have hM := fun w p h => rqmake_any w p seedR 72 n c m d h (by omega) (by omega) (by decide) hm9
    have hN := fun w => rqrmake_any w seedR 72 n c m d (by omega) (by omega) (by decide) hm9
    have hZ := fun w => rqmake_none w n c m d
    have hwf := Req.make_wf (seed := seedR.data.toList) (N := 72) (nodes := n) wcl wnum wd
    obtain ⟨X, hX⟩ : ∃ X, X = Req.make seedR.data.toList 72 n c m d := ⟨_, rfl⟩
    unfold RetReq at hM hN hZ
    rw [← hX] at hM hN hwf
    obtain ⟨R, E⟩ := X
    simp only at hM hN hwf
    have he := fun w => req_eql R R hwf hwf w
    rw [Req.same_self] at he
    have hRt := hwf.1
    have hinfR := Lib.hid (req_info hRt)
    have hinfZ := Lib.hid (req_info zeroReq_tag)
    have hinfK := Lib.hid (keys_info #[.string seedR, .int .i64 (72 : Nat)] rfl)
    have hEE : ((E : Int) == (E : Int)) = true := by simp
    have h' : (d.size : Int) ≤ 2000 := by omega
    clear hX wn wc wcl wnum wd hbig hm9
    replace hn := Lib.hid hn
    replace hc := Lib.hid hc
    replace hm := Lib.hid hm
    replace hd := Lib.hid hd
    replace hM := Lib.hid hM
    replace hN := Lib.hid hN
    replace hZ := Lib.hid hZ
    replace hwf := Lib.hid hwf
    replace he := Lib.hid he
    replace hRt := Lib.hid hRt
    unfold RetKeys at hk
    go_enter Try.func5, Try.ntmps5
    go_upto_region 1 with (refine box_row rfl _ _ rfl _ rfl hinfA.out ?_; intro w0 hbx hs0; obtain ⟨c0, -, c2, c3, c4⟩ := ask_cells hbx; rw [← hn.out] at c0; rw [← hc.out] at c2; rw [← hm.out] at c3; rw [← hd.out] at c4; clear hbx)
    have s0 := Lib.hid hs0
    have sx := Lib.hid (Same.refl (w := w0))
    have e4 := c4
    clear hs0
    replace c0 := Lib.hid c0
    replace c2 := Lib.hid c2
    replace c3 := Lib.hid c3
    replace c4 := Lib.hid c4
    go_wp2_with fail
    refine (hk.out _).mono ?_
    rintro e w1 ⟨p, rfl, hka, hs⟩
    replace s0 := Lib.hid (s0.out.trans hs)
    replace sx := Lib.hid (sx.out.trans hs)
    clear hs
    clear e4
    replace hka := Lib.hid hka
    have sk := Lib.hid (Same.refl (w := w1))
    go_upto_region 4 with (first | (refine alloc_new rfl 38 rfl #[.string ByteArray.empty, .int .i64 0] (by kernel_rfl) ?_; intro wN_ hN_ sN_; have lN_ := blk_lt hN_; replace hN_ := Lib.hid hN_; replace sN_ := Lib.hid sN_) | (refine store_row rfl _ _ _ rfl w1.heap.size _ rfl rfl _ _ hN_.out hinfK.out rfl (by simp [Value.oneCell']) ?_; intro w2 hbk kN_))
    have mN_ : Same w1 w2 := sN_.out.keep kN_ (fun x hx hv => by omega)
    clear kN_ sN_ hN_ lN_
    replace s0 := Lib.hid (s0.out.trans mN_)
    replace sx := Lib.hid (sx.out.trans mN_)
    replace sk := Lib.hid (sk.out.trans mN_)
    clear mN_
    replace hbk := Lib.hid hbk
    have shbk := Lib.hid (Same.refl (w := w2))
    go_simp
    have d0 := sx.out.cell c0.out
    have d2 := sx.out.cell c2.out
    have d3 := sx.out.cell c3.out
    have d4 := sx.out.cell c4.out
    have hka2 := Lib.hid (hka.out.same sk.out)
    go_wp2_with fail
    refine (hM.out _ _ hka2.out).mono ?_
    rintro e w3 ⟨rfl, hs⟩
    replace s0 := Lib.hid (s0.out.trans hs)
    replace sx := Lib.hid (sx.out.trans hs)
    replace sk := Lib.hid (sk.out.trans hs)
    replace shbk := Lib.hid (shbk.out.trans hs)
    clear hs
    clear d0 d2 d3 d4 hka2
    go_upto_region 5 with (first | (refine alloc_new rfl 44 rfl zeroReq.cells.toArray (by kernel_rfl) ?_; intro wN_ hN_ sN_; have lN_ := blk_lt hN_; replace hN_ := Lib.hid hN_; replace sN_ := Lib.hid sN_) | (refine store_row rfl _ _ _ rfl w3.heap.size _ rfl rfl _ _ hN_.out hinfR.out (req_sizes (r := zeroReq) rfl hRt.out) (req_one _) ?_; intro w4 hbr kN_))
    have mN_ : Same w3 w4 := sN_.out.keep kN_ (fun x hx hv => by omega)
    clear kN_ sN_ hN_ lN_
    replace s0 := Lib.hid (s0.out.trans mN_)
    replace sx := Lib.hid (sx.out.trans mN_)
    replace sk := Lib.hid (sk.out.trans mN_)
    replace shbk := Lib.hid (shbk.out.trans mN_)
    clear mN_
    replace hbr := Lib.hid hbr
    have shbr := Lib.hid (Same.refl (w := w4))
    go_simp
    have d0 := sx.out.cell c0.out
    have d2 := sx.out.cell c2.out
    have d3 := sx.out.cell c3.out
    have d4 := sx.out.cell c4.out
    go_wp2_with (first | (refine load_row rfl _ _ rfl w1.heap.size rfl _ _ _ _ (shbk.out.at hbk.out) Try.underlying38 rfl hinfK.out ?_))
    refine (hN.out _).mono ?_
    rintro e w5 ⟨rfl, hs⟩
    replace s0 := Lib.hid (s0.out.trans hs)
    replace sx := Lib.hid (sx.out.trans hs)
    replace sk := Lib.hid (sk.out.trans hs)
    replace shbk := Lib.hid (shbk.out.trans hs)
    replace shbr := Lib.hid (shbr.out.trans hs)
    clear hs
    clear d0 d2 d3 d4
    go_upto_region 6 with (first | (refine alloc_new rfl 44 rfl zeroReq.cells.toArray (by kernel_rfl) ?_; intro wN_ hN_ sN_; have lN_ := blk_lt hN_; replace hN_ := Lib.hid hN_; replace sN_ := Lib.hid sN_) | (refine store_row rfl _ _ _ rfl w5.heap.size _ rfl rfl _ _ hN_.out hinfR.out (req_sizes (r := zeroReq) rfl hRt.out) (req_one _) ?_; intro w6 hbq kN_))
    have mN_ : Same w5 w6 := sN_.out.keep kN_ (fun x hx hv => by omega)
    clear kN_ sN_ hN_ lN_
    replace s0 := Lib.hid (s0.out.trans mN_)
    replace sx := Lib.hid (sx.out.trans mN_)
    replace sk := Lib.hid (sk.out.trans mN_)
    replace shbk := Lib.hid (shbk.out.trans mN_)
    replace shbr := Lib.hid (shbr.out.trans mN_)
    clear mN_
    replace hbq := Lib.hid hbq
    have shbq := Lib.hid (Same.refl (w := w6))
    go_simp
    have d0 := sx.out.cell c0.out
    have d2 := sx.out.cell c2.out
    have d3 := sx.out.cell c3.out
    have d4 := sx.out.cell c4.out
    go_wp2_with fail
    refine (hZ.out _).mono ?_
    rintro e w7 ⟨rfl, hs⟩
    replace s0 := Lib.hid (s0.out.trans hs)
    replace sx := Lib.hid (sx.out.trans hs)
    replace sk := Lib.hid (sk.out.trans hs)
    replace shbk := Lib.hid (shbk.out.trans hs)
    replace shbr := Lib.hid (shbr.out.trans hs)
    replace shbq := Lib.hid (shbq.out.trans hs)
    clear hs
    clear d0 d2 d3 d4
    go_upto_region 7 with (first | (refine alloc_new rfl 44 rfl zeroReq.cells.toArray (by kernel_rfl) ?_; intro wN_ hN_ sN_; have lN_ := blk_lt hN_; replace hN_ := Lib.hid hN_; replace sN_ := Lib.hid sN_) | (refine store_row rfl _ _ _ rfl w7.heap.size _ rfl rfl _ _ hN_.out hinfZ.out rfl (req_one _) ?_; intro w8 hbz kN_))
    have mN_ : Same w7 w8 := sN_.out.keep kN_ (fun x hx hv => by omega)
    clear kN_ sN_ hN_ lN_
    replace s0 := Lib.hid (s0.out.trans mN_)
    replace sx := Lib.hid (sx.out.trans mN_)
    replace sk := Lib.hid (sk.out.trans mN_)
    replace shbk := Lib.hid (shbk.out.trans mN_)
    replace shbr := Lib.hid (shbr.out.trans mN_)
    replace shbq := Lib.hid (shbq.out.trans mN_)
    clear mN_
    replace hbz := Lib.hid hbz
    have shbz := Lib.hid (Same.refl (w := w8))
    go_simp
    have he := he.out
    have hgd := req_guard
    go_wp2_with (first | (refine load_row rfl _ _ rfl w3.heap.size rfl _ _ _ _ (shbr.out.at hbr.out) Try.underlying44 rfl hinfR.out ?_) | (refine load_row rfl _ _ rfl w5.heap.size rfl _ _ _ _ (shbq.out.at hbq.out) Try.underlying44 rfl hinfR.out ?_))
    refine (hl.out _).mono ?_
    rintro e w9 ⟨rfl, hs⟩
    go_wp2
    go_ret
    exact ⟨rfl, s0.out.trans hs⟩
end Go.Proofs.Ythgpmgodpedjdaa
