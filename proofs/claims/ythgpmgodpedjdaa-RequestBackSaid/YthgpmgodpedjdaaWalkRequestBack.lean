/-
  The walk of the law RequestBack: a good request is read as it was put, whatever stands behind it.
-/
-- @law rep req, bytes
import Derived.Test.YthgpmgodpedjdaaReq6
import Derived.Test.YthgpmgodpedjdaaReqO
import Derived.Test.YthgpmgodpedjdaaReqG
import Derived.Deep.DeepCutAuto
namespace Go.Proofs.Ythgpmgodpedjdaa
open Go Go.RowKit
set_option linter.unusedSimpArgs false
set_option linter.unusedVariables false

theorem rNum_put' (n : Nat) (most : Int) (rest : List UInt8) (h : n ≤ 9223372036854775807) (hm : (n : Int) ≤ most) : Num.rNum (Num.putI n ++ rest, 0) most = (n, (rest, 0)) := by
  rw [Num.putI_nat, Num.rNum, if_neg (by simp), Num.numAt_put n rest h]
  simp only [ne_eq, not_true, if_false]
  rw [if_neg (by omega), List.drop_left]
theorem rText_put' (s : List UInt8) (most : Int) (rest : List UInt8) (h : s.length ≤ 9223372036854775807) (hm : (s.length : Int) ≤ most) : Num.rText (Num.putT s ++ rest, 0) most = (s, (rest, 0)) := by
  rw [Num.rText, if_neg (by simp), Num.putT, List.append_assoc, Num.numAt_put s.length (s ++ rest) h]
  simp only [ne_eq, not_true, if_false]
  rw [if_neg (by omega), if_neg (by rw [List.length_append, List.length_append]; omega)]
  have e1 : (Num.putN s.length ++ (s ++ rest)).drop (Num.putN s.length).length = s ++ rest := List.drop_left
  have e2 : (Num.putN s.length ++ (s ++ rest)).drop ((Num.putN s.length).length + s.length) = rest := by rw [← List.append_assoc, ← List.length_append, List.drop_left]
  rw [e1, e2, List.take_left]
theorem reqGet_put (r : Req) (rest : List UInt8) (ht : r.tag.length = 16) (h0 : 0 ≤ r.client) (h1 : r.client ≤ 8) (h2 : 0 ≤ r.num) (h3 : r.num ≤ 1099511627776) (h4 : r.data.size ≤ 64) : reqGet (reqPut r ++ rest, 0) = (r, (rest, 0)) := by
  obtain ⟨c, n, d, t⟩ := r
  simp only at ht h0 h1 h2 h3 h4
  obtain ⟨c, rfl⟩ := Int.eq_ofNat_of_zero_le h0
  obtain ⟨n, rfl⟩ := Int.eq_ofNat_of_zero_le h2
  unfold reqGet reqPut
  simp only
  have hd : d.data.toList.length = d.size := by simp
  rw [List.append_assoc, List.append_assoc, List.append_assoc, rNum_put' c 8 _ (by omega) h1]
  simp only
  rw [rNum_put' n 1099511627776 _ (by omega) h3]
  simp only
  rw [rText_put' d.data.toList 64 _ (by omega) (by omega)]
  simp only
  have hr : Num.rRaw (t ++ rest, 0) 16 = (t, (rest, 0)) := by
    unfold Num.rRaw
    simp only [ne_eq, not_true, if_false]
    rw [if_neg (by omega), if_neg (by rw [List.length_append]; omega)]
    simp [← ht]
  rw [hr]
  simp only
  rw [if_neg (by omega)]
def isGot (rb db : Nat) (r : Req) (s : List UInt8 × Nat) : Value → World → Prop := fun v w => v = .agg r.cells.toArray ∧ Rdr w rb db s
theorem isGot_stable (rb db : Nat) (r : Req) (s : List UInt8 × Nat) : Stable Same (isGot rb db r s) := fun _ _ _ k ⟨h, h1⟩ => ⟨h, h1.same k⟩
set_option maxRecDepth 100000 in
set_option maxHeartbeats 1600000 in
theorem back_no (w : World) (r : Req) (hr : r.wf) (ao : Option Addr) (n c : Nat) (xs : List UInt8) (hsl : Sl w 1 ao n c (bv xs)) (h : 2000 < n ∨ n ≤ 2000 ∧ r.good seedR.data.toList 72 4 8 ≠ 0) :
    Calls Try.prog 14 #[.agg r.cells.toArray, .slice ao n c] w fun e w' => e = .returned (.bool true) ∧ Same w w' := by
  have hl := Lib.hid lives6
  have hinf := Lib.hid (req_info hr.1)
  have hk := Lib.hid keys6_any
  unfold RetKeys at hk
  have hg := fun w p h => rqgood_any w p seedR 72 4 8 r hr.1 h (by omega) (by omega) (by decide)
  have hinfK := Lib.hid (keys_info #[.string seedR, .int .i64 (72 : Nat)] rfl)
  obtain ⟨G, hG⟩ : ∃ G, G = r.good seedR.data.toList 72 4 8 := ⟨_, rfl⟩
  rw [← hG] at hg h
  have h' : 2000 < (n : Int) ∨ (n : Int) ≤ 2000 ∧ ((G : Int) != 0) = true := by
    rcases h with h | ⟨h, h2⟩
    · exact .inl (by omega)
    · exact .inr ⟨by omega, by simp; omega⟩
  clear hG h hr hsl
  replace hg := Lib.hid hg
  rcases h' with h1 | ⟨h1, h2⟩
  · go_enter Try.func14, Try.ntmps14
    go_upto_region 1 with (refine box_row rfl _ _ rfl _ rfl hinf.out ?_; intro w0 hbr hs0; replace hbr := Lib.hid hbr)
    have s0 := Lib.hid hs0
    have sr := Lib.hid (Same.refl (w := w0))
    clear hs0
    go_wp2_with fail
    refine (hk.out _).mono ?_
    rintro e w1 ⟨p, rfl, hka, hs⟩
    replace s0 := Lib.hid (s0.out.trans hs)
    replace sr := Lib.hid (sr.out.trans hs)
    clear hs
    clear hka
    go_upto_region 2 with (first | (refine alloc_new rfl 38 rfl #[.string ByteArray.empty, .int .i64 0] (by kernel_rfl) ?_; intro wN_ hN_ sN_; have lN_ := blk_lt hN_; replace hN_ := Lib.hid hN_; replace sN_ := Lib.hid sN_) | (refine store_row rfl _ _ _ rfl w1.heap.size _ rfl rfl _ _ hN_.out hinfK.out rfl (by simp [Value.oneCell']) ?_; intro w2 hbk kN_))
    have mN_ : Same w1 w2 := sN_.out.keep kN_ (fun x hx hv => by omega)
    clear kN_ sN_ hN_ lN_
    replace s0 := Lib.hid (s0.out.trans mN_)
    replace sr := Lib.hid (sr.out.trans mN_)
    clear mN_
    replace hbk := Lib.hid hbk
    have shbk := Lib.hid (Same.refl (w := w2))
    go_simp
    go_wp2_with fail
    refine (hl.out _).mono ?_
    rintro e w3 ⟨rfl, hs⟩
    replace s0 := Lib.hid (s0.out.trans hs)
    replace sr := Lib.hid (sr.out.trans hs)
    replace shbk := Lib.hid (shbk.out.trans hs)
    clear hs
    go_wp2
    go_ret
    exact ⟨rfl, s0.out⟩
  · have hdn : decide (2000 < (n : Int)) = false := decide_eq_false (by omega)
    go_enter Try.func14, Try.ntmps14
    go_upto_region 1 with (refine box_row rfl _ _ rfl _ rfl hinf.out ?_; intro w0 hbr hs0; replace hbr := Lib.hid hbr)
    have s0 := Lib.hid hs0
    have sr := Lib.hid (Same.refl (w := w0))
    clear hs0
    go_wp2_with fail
    refine (hk.out _).mono ?_
    rintro e w1 ⟨p, rfl, hka, hs⟩
    replace s0 := Lib.hid (s0.out.trans hs)
    replace sr := Lib.hid (sr.out.trans hs)
    clear hs
    replace hka := Lib.hid hka
    have sk := Lib.hid (Same.refl (w := w1))
    go_upto_region 2 with (first | (refine alloc_new rfl 38 rfl #[.string ByteArray.empty, .int .i64 0] (by kernel_rfl) ?_; intro wN_ hN_ sN_; have lN_ := blk_lt hN_; replace hN_ := Lib.hid hN_; replace sN_ := Lib.hid sN_) | (refine store_row rfl _ _ _ rfl w1.heap.size _ rfl rfl _ _ hN_.out hinfK.out rfl (by simp [Value.oneCell']) ?_; intro w2 hbk kN_))
    have mN_ : Same w1 w2 := sN_.out.keep kN_ (fun x hx hv => by omega)
    clear kN_ sN_ hN_ lN_
    replace s0 := Lib.hid (s0.out.trans mN_)
    replace sr := Lib.hid (sr.out.trans mN_)
    replace sk := Lib.hid (sk.out.trans mN_)
    clear mN_
    replace hbk := Lib.hid hbk
    have shbk := Lib.hid (Same.refl (w := w2))
    go_simp
    have hka2 := Lib.hid (hka.out.same sk.out)
    go_wp2_with (first | (refine load_row rfl _ _ rfl w.heap.size rfl _ _ _ _ (sr.out.at hbr.out) Try.underlying44 rfl hinf.out ?_))
    refine (hg.out _ _ hka2.out).mono ?_
    rintro e w3 ⟨rfl, hs⟩
    replace s0 := Lib.hid (s0.out.trans hs)
    replace sr := Lib.hid (sr.out.trans hs)
    replace sk := Lib.hid (sk.out.trans hs)
    replace shbk := Lib.hid (shbk.out.trans hs)
    clear hs
    go_wp2_with fail
    refine (hl.out _).mono ?_
    rintro e w4 ⟨rfl, hs⟩
    replace s0 := Lib.hid (s0.out.trans hs)
    replace sr := Lib.hid (sr.out.trans hs)
    replace sk := Lib.hid (sk.out.trans hs)
    replace shbk := Lib.hid (shbk.out.trans hs)
    clear hs
    go_wp2
    go_ret
    exact ⟨rfl, s0.out⟩
set_option maxRecDepth 100000 in
set_option maxHeartbeats 3200000 in
theorem back_yes (w : World) (r : Req) (hr : r.wf) (ao : Option Addr) (n c : Nat) (xs : List UInt8) (hsl : Sl w 1 ao n c (bv xs)) (h : n ≤ 2000) (hgo : r.good seedR.data.toList 72 4 8 = 0) :
    Calls Try.prog 14 #[.agg r.cells.toArray, .slice ao n c] w fun e w' => e = .returned (.bool true) ∧ Same w w' := by
  have hl := Lib.hid lives6
  have hinf := Lib.hid (req_info hr.1)
  have hk := Lib.hid keys6_any
  unfold RetKeys at hk
  have hg := fun w p h => rqgood_any w p seedR 72 4 8 r hr.1 h (by omega) (by omega) (by decide)
  rw [hgo] at hg
  have hinfK := Lib.hid (keys_info #[.string seedR, .int .i64 (72 : Nat)] rfl)
  have hmay : r.may 8 = true := by
    cases hm : r.may 8
    · rw [Req.good_no hm] at hgo
      cases hgo
    · rfl
  obtain ⟨m1, m2, m3, m4, m5⟩ := Req.may_iff.1 hmay
  have hlen : xs.length = n := by have := hsl.len; rw [bv_length] at this; omega
  have hpt := fun w => rqput_any none 0 0 [] r w (Sl.none w 1) (by omega) hr.1 (by omega) (by omega) (by omega)
  rw [List.nil_append] at hpt
  have hPl := reqPut_le r hr.1 (by omega) (by omega) (by omega)
  have hgp := reqGet_put r xs hr.1 m1 (by omega) (by omega) m4 m5
  have hPl2 : (reqPut r).length ≤ 200 := by omega
  have hmax : (reqPut r ++ xs).length ≤ 3000 := by rw [List.length_append]; omega
  have hget := fun rb db w h => rqget_any rb db (reqPut r ++ xs, 0) w h (by simp only; omega)
  rw [hgp] at hget
  obtain ⟨P, hP⟩ : ∃ P, P = reqPut r := ⟨_, rfl⟩
  rw [← hP] at hpt hPl2 hget hmax
  have he := fun w => req_eql r r hr hr w
  rw [Req.same_self] at he
  have hrd := fun ao cap w h => read_any ao (P.length + n) cap (P ++ xs) w h (by omega)
  have hlf : Num.rLeft (xs, 0) = n := by simp [Num.rLeft, hlen]
  have hdn : decide (2000 < (n : Int)) = false := decide_eq_false (by omega)
  have hnn : ((n : Int) == (n : Int)) = true := by simp
  unfold RetB at hpt
  unfold RetGet at hget
  unfold RetRead at hrd
  clear hP hPl hgp hmay hgo m1 m2 m3 m4 m5 hr hlen
  replace hg := Lib.hid hg
  replace hpt := Lib.hid hpt
  replace hget := Lib.hid hget
  replace he := Lib.hid he
  replace hrd := Lib.hid hrd
  replace hlf := Lib.hid hlf
  replace hsl := Lib.hid hsl
  go_enter Try.func14, Try.ntmps14
  go_upto_region 1 with (refine box_row rfl _ _ rfl _ rfl hinf.out ?_; intro w0 hbr hs0; replace hbr := Lib.hid hbr)
  have s0 := Lib.hid hs0
  have sr := Lib.hid (Same.refl (w := w0))
  clear hs0
  go_wp2_with fail
  refine (hk.out _).mono ?_
  rintro e w1 ⟨p, rfl, hka, hs⟩
  replace s0 := Lib.hid (s0.out.trans hs)
  replace sr := Lib.hid (sr.out.trans hs)
  clear hs
  replace hka := Lib.hid hka
  have sk := Lib.hid (Same.refl (w := w1))
  go_upto_region 2 with (first | (refine alloc_new rfl 38 rfl #[.string ByteArray.empty, .int .i64 0] (by kernel_rfl) ?_; intro wN_ hN_ sN_; have lN_ := blk_lt hN_; replace hN_ := Lib.hid hN_; replace sN_ := Lib.hid sN_) | (refine store_row rfl _ _ _ rfl w1.heap.size _ rfl rfl _ _ hN_.out hinfK.out rfl (by simp [Value.oneCell']) ?_; intro w2 hbk kN_))
  have mN_ : Same w1 w2 := sN_.out.keep kN_ (fun x hx hv => by omega)
  clear kN_ sN_ hN_ lN_
  replace s0 := Lib.hid (s0.out.trans mN_)
  replace sr := Lib.hid (sr.out.trans mN_)
  replace sk := Lib.hid (sk.out.trans mN_)
  clear mN_
  replace hbk := Lib.hid hbk
  have shbk := Lib.hid (Same.refl (w := w2))
  go_simp
  have hka2 := Lib.hid (hka.out.same sk.out)
  go_wp2_with (first | (refine load_row rfl _ _ rfl w.heap.size rfl _ _ _ _ (sr.out.at hbr.out) Try.underlying44 rfl hinf.out ?_))
  refine (hg.out _ _ hka2.out).mono ?_
  rintro e w3 ⟨rfl, hs⟩
  replace s0 := Lib.hid (s0.out.trans hs)
  replace sr := Lib.hid (sr.out.trans hs)
  clear hs
  clear hka2 sk hka hbk shbk
  have z_s0 := s0.out.size
  have z_sr := sr.out.size
  have s3 := Lib.hid (Same.refl (w := w3))
  go_wp2_with (first | (refine load_row rfl _ _ rfl w.heap.size rfl _ _ _ _ (sr.out.at hbr.out) Try.underlying44 rfl hinf.out ?_))
  refine (hpt.out _).mono ?_
  rintro e w4 ⟨v, rfl, ho, hs⟩
  replace s0 := Lib.hid (s0.out.trans hs)
  replace sr := Lib.hid (sr.out.trans hs)
  replace s3 := Lib.hid (s3.out.trans hs)
  clear hs
  have hsl4 := Lib.hid (hsl.out.same s0.out)
  have hz4 := ho.base
  have z34 := s3.out.size
  clear s3
  replace ho := Lib.hid ho
  go_wp2_with (at_builtin; refine append_sl rfl _ _ rfl byT ho.out rfl rfl hsl4.out bv_cell z34 (by omega) (by omega) ?_)
  intro v5 w5 ho5 hk5 hz5
  clear hz5
  rw [← bv_append] at ho5
  have hkm : Keep (fun k => w3.heap.size ≤ k) w4 w5 := hk5.mono (fun x _ hx => ho.out.base x hx)
  replace s0 := Lib.hid (s0.out.keep hkm (fun x hx hv => by omega))
  replace sr := Lib.hid (sr.out.keep hkm (fun x hx hv => by omega))
  clear hkm hk5 hz4 ho
  obtain ⟨ao5, c5, rfl, hsl5⟩ := ho5.sl
  clear ho5
  replace hsl5 := Lib.hid hsl5
  have z05 := sr.out.size
  have zbr := blk_lt hbr.out
  go_wp2_with fail
  refine (hrd.out _ _ _ hsl5.out).mono ?_
  rintro e w6 ⟨rb, db, rfl, hrr, hrb, hdb, hs⟩
  replace s0 := Lib.hid (s0.out.trans hs)
  replace sr := Lib.hid (sr.out.trans hs)
  clear hs
  have z46 := s0.out.size
  replace hrr := Lib.hid hrr
  go_upto_region 5 with fail
  have he := he.out
  have hgd := req_guard
  have hbrb : w.heap.size ≠ rb := by omega
  have hlft := hlf.out
  refine wp_region_mut (by kernel_rfl) [(27, 0), (28, 1), (29, 2), (30, 3), (31, 4), (32, 5), (33, 6), (34, 7), (35, 8), (36, 9), (37, 10), (38, 11), (39, 12), (40, 13), (41, 14), (42, 15), (43, 16), (44, 17), (45, 18)] [(1, (Keep (fun x => x = rb)))] [(1, [1]), (1000, [1])] [0, 1, 2, 3, 4, 5, 6, 7, 8, 9, 10, 11, 12, 13, 14, 15, 16, 17, 18] [[], [0, 1000], [], [1, 2], [3], [4], [5, 4, 1], [6, 4], [4, 7], [8], [9], [10, 9, 1], [9], [12, 9], [11, 13, 9], [9, 14], [15], [16], [16, 17]] Same (Keep (fun x => x = rb) w6) [(fun w => Rdr w rb db (P ++ xs, 0))] [isV (.pointer (some ⟨rb, 0, none⟩)), isGot rb db r (xs, 0), isV (.agg r.cells.toArray), isV (.bool true), isV (.bool true), isV (.pointer (some ⟨rb, 0, none⟩)), isV (.int .i64 0), isV (.bool true), isV (.bool true), isV (.bool true), isV (.pointer (some ⟨rb, 0, none⟩)), isV (.int .i64 (n : Int)), isV (.slice ao n c), isV (.int .i64 (n : Int)), isV (.bool true), isV (.bool true), isV (.bool true), isV (.bool true), isV (.bool true)] (Keep.drew) (by intro g hg; simp only [List.mem_cons, List.not_mem_nil, or_false] at hg; obtain rfl := hg; exact (hrr.out.same Same.refl.drew)) (fun _ _ h k => h.trans (Keep.of_same (p := fun _ => False) k) (fun _ _ h => h.elim)) (by intro g hg; simp only [List.mem_cons, List.not_mem_nil, or_false] at hg; obtain rfl := hg; exact (fun _ _ h k => h.trans k (fun x _ hx => hx))) (by simp [isV_stable, isB_stable, isAny_stable, isGot_stable]) (by intro g hg; simp only [List.mem_cons, List.not_mem_nil, or_false] at hg; obtain rfl := hg; exact (fun _ _ k h => h.same k)) (by simp [killsOf, List.zipIdx_cons, isV_stable, isAny_stable]) (by simp [killsOf, List.zipIdx_cons]) (by decide) (l := [_, _, _, _, _, _, _, _, _, _, _, _, _, _, _, _, _, _, _]) rfl (by decide) (by kernel_rfl) (by kernel_rfl) (by kernel_rfl) (by decide) ?_ ?_
  · refine ⟨?_, ?_, ?_, ?_, ?_, ?_, ?_, ?_, ?_, ?_, ?_, ?_, ?_, ?_, ?_, ?_, ?_, ?_, ?_, trivial⟩
    all_goals (intro u wx hI hp; simp only [mkAct, List.foldl_cons, List.foldl_nil, List.setIfInBounds_toArray, List.set_cons_succ, List.set_cons_zero])
    · -- operation 0
      go_wp2
      refine stg_v (x := (.pointer (some ⟨rb, 0, none⟩))) rfl Same.refl ?_
      first | (simp only [mkAct, List.foldl_cons, List.foldl_nil, List.setIfInBounds_toArray, List.set_cons_succ, List.set_cons_zero, upd, reduceIte, Nat.reduceEqDiff, Nat.reduceAdd, str]; done) | (simp [mkAct, upd, str, *]; done)
    · -- operation 1
      obtain ⟨f0, fG0, -⟩ := hp
      replace f0 : u 0 = (.pointer (some ⟨rb, 0, none⟩)) := f0
      try simp only [f0, str]
      have fG := Lib.hid fG0
      go_wp2_with fail
      refine (hget.out _ _ _ fG.out).mono ?_
      rintro e w8 ⟨rfl, hr8, hk8⟩
      go_wp2
      refine stg_v (x := (.agg r.cells.toArray)) ⟨rfl, hr8⟩ hk8 ?_
      first | (simp only [mkAct, List.foldl_cons, List.foldl_nil, List.setIfInBounds_toArray, List.set_cons_succ, List.set_cons_zero, upd, reduceIte, Nat.reduceEqDiff, Nat.reduceAdd, f0, str]; done) | (simp [mkAct, upd, f0, str, *]; done)
    · -- operation 2
      go_wp2_with (refine load_row rfl _ _ rfl w.heap.size rfl _ _ _ _ ((hI.block _ (blk_lt (sr.out.at hbr.out)) hbrb).trans (sr.out.at hbr.out)) Try.underlying44 rfl hinf.out ?_)
      refine stg_v (x := (.agg r.cells.toArray)) rfl Same.refl ?_
      first | (simp only [mkAct, List.foldl_cons, List.foldl_nil, List.setIfInBounds_toArray, List.set_cons_succ, List.set_cons_zero, upd, reduceIte, Nat.reduceEqDiff, Nat.reduceAdd, str]; done) | (simp [mkAct, upd, str, *]; done)
    · -- operation 3
      obtain ⟨f1, f2, -⟩ := hp
      replace f2 : u 2 = (.agg r.cells.toArray) := f2
      try simp only [f2, str]
      obtain ⟨f1, -⟩ := f1
      try simp only [f1]
      go_wp2
      refine stg_v (x := .bool true) rfl Same.refl ?_
      simp [mkAct, upd, f1, f2]
    · -- operation 4
      obtain ⟨f3, -⟩ := hp
      replace f3 : u 3 = (.bool true) := f3
      try simp only [f3, str]
      go_wp2
      refine stg_v (x := (.bool true)) rfl Same.refl ?_
      first | (simp only [mkAct, List.foldl_cons, List.foldl_nil, List.setIfInBounds_toArray, List.set_cons_succ, List.set_cons_zero, upd, reduceIte, Nat.reduceEqDiff, Nat.reduceAdd, f3, str]; done) | (simp [mkAct, upd, f3, str, *]; done)
    · -- operation 5
      obtain ⟨f4, -⟩ := hp
      replace f4 : u 4 = (.bool true) := f4
      try simp only [f4, str]
      go_wp2
      refine stg_v (x := (.pointer (some ⟨rb, 0, none⟩))) rfl Same.refl ?_
      first | (simp only [mkAct, List.foldl_cons, List.foldl_nil, List.setIfInBounds_toArray, List.set_cons_succ, List.set_cons_zero, upd, reduceIte, Nat.reduceEqDiff, Nat.reduceAdd, f4, str]; done) | (simp [mkAct, upd, f4, str, *]; done)
    · -- operation 6
      obtain ⟨f5, f4, f1, -⟩ := hp
      replace f5 : u 5 = (.pointer (some ⟨rb, 0, none⟩)) := f5
      replace f4 : u 4 = (.bool true) := f4
      try simp only [f5, f4, str]
      obtain ⟨f1, hr1⟩ := f1
      have hr2 := Lib.hid hr1
      clear hr1
      go_wp2_with fail
      refine (err_any _ _ _ _ hr2.out).mono ?_
      rintro e w8 ⟨rfl, rfl⟩
      go_wp2
      refine stg_v (x := (.int .i64 0)) rfl Same.refl ?_
      first | (simp only [mkAct, List.foldl_cons, List.foldl_nil, List.setIfInBounds_toArray, List.set_cons_succ, List.set_cons_zero, upd, reduceIte, Nat.reduceEqDiff, Nat.reduceAdd, f5, f4, str]; done) | (simp [mkAct, upd, f5, f4, str, *]; done)
    · -- operation 7
      obtain ⟨f6, f4, -⟩ := hp
      replace f6 : u 6 = (.int .i64 0) := f6
      replace f4 : u 4 = (.bool true) := f4
      try simp only [f6, f4, str]
      go_wp2
      refine stg_v (x := (.bool true)) rfl Same.refl ?_
      first | (simp only [mkAct, List.foldl_cons, List.foldl_nil, List.setIfInBounds_toArray, List.set_cons_succ, List.set_cons_zero, upd, reduceIte, Nat.reduceEqDiff, Nat.reduceAdd, f6, f4, str]; done) | (simp [mkAct, upd, f6, f4, str, *]; done)
    · -- operation 8
      obtain ⟨f4, f7, -⟩ := hp
      replace f4 : u 4 = (.bool true) := f4
      replace f7 : u 7 = (.bool true) := f7
      try simp only [f4, f7, str]
      go_wp2
      refine stg_v (x := (.bool true)) rfl Same.refl ?_
      first | (simp only [mkAct, List.foldl_cons, List.foldl_nil, List.setIfInBounds_toArray, List.set_cons_succ, List.set_cons_zero, upd, reduceIte, Nat.reduceEqDiff, Nat.reduceAdd, f4, f7, str]; done) | (simp [mkAct, upd, f4, f7, str, *]; done)
    · -- operation 9
      obtain ⟨f8, -⟩ := hp
      replace f8 : u 8 = (.bool true) := f8
      try simp only [f8, str]
      go_wp2
      refine stg_v (x := (.bool true)) rfl Same.refl ?_
      first | (simp only [mkAct, List.foldl_cons, List.foldl_nil, List.setIfInBounds_toArray, List.set_cons_succ, List.set_cons_zero, upd, reduceIte, Nat.reduceEqDiff, Nat.reduceAdd, f8, str]; done) | (simp [mkAct, upd, f8, str, *]; done)
    · -- operation 10
      obtain ⟨f9, -⟩ := hp
      replace f9 : u 9 = (.bool true) := f9
      try simp only [f9, str]
      go_wp2
      refine stg_v (x := (.pointer (some ⟨rb, 0, none⟩))) rfl Same.refl ?_
      first | (simp only [mkAct, List.foldl_cons, List.foldl_nil, List.setIfInBounds_toArray, List.set_cons_succ, List.set_cons_zero, upd, reduceIte, Nat.reduceEqDiff, Nat.reduceAdd, f9, str]; done) | (simp [mkAct, upd, f9, str, *]; done)
    · -- operation 11
      obtain ⟨f10, f9, f1, -⟩ := hp
      replace f10 : u 10 = (.pointer (some ⟨rb, 0, none⟩)) := f10
      replace f9 : u 9 = (.bool true) := f9
      try simp only [f10, f9, str]
      obtain ⟨f1, hr1⟩ := f1
      have hr2 := Lib.hid hr1
      clear hr1
      go_wp2_with fail
      refine (left2_any _ _ _ _ hr2.out).mono ?_
      rintro e w8 ⟨rfl, rfl⟩
      rw [hlf.out]
      go_wp2
      refine stg_v (x := (.int .i64 (n : Int))) rfl Same.refl ?_
      first | (simp only [mkAct, List.foldl_cons, List.foldl_nil, List.setIfInBounds_toArray, List.set_cons_succ, List.set_cons_zero, upd, reduceIte, Nat.reduceEqDiff, Nat.reduceAdd, f10, f9, str]; done) | (simp [mkAct, upd, f10, f9, str, *]; done)
    · -- operation 12
      obtain ⟨f9, -⟩ := hp
      replace f9 : u 9 = (.bool true) := f9
      try simp only [f9, str]
      go_wp2
      refine stg_v (x := (.slice ao n c)) rfl Same.refl ?_
      first | (simp only [mkAct, List.foldl_cons, List.foldl_nil, List.setIfInBounds_toArray, List.set_cons_succ, List.set_cons_zero, upd, reduceIte, Nat.reduceEqDiff, Nat.reduceAdd, f9, str]; done) | (simp [mkAct, upd, f9, str, *]; done)
    · -- operation 13
      obtain ⟨f12, f9, -⟩ := hp
      replace f12 : u 12 = (.slice ao n c) := f12
      replace f9 : u 9 = (.bool true) := f9
      try simp only [f12, f9, str]
      go_wp2
      refine stg_v (x := (.int .i64 (n : Int))) rfl Same.refl ?_
      first | (simp only [mkAct, List.foldl_cons, List.foldl_nil, List.setIfInBounds_toArray, List.set_cons_succ, List.set_cons_zero, upd, reduceIte, Nat.reduceEqDiff, Nat.reduceAdd, f12, f9, str]; done) | (simp [mkAct, upd, f12, f9, str, *]; done)
    · -- operation 14
      obtain ⟨f11, f13, f9, -⟩ := hp
      replace f11 : u 11 = (.int .i64 (n : Int)) := f11
      replace f13 : u 13 = (.int .i64 (n : Int)) := f13
      replace f9 : u 9 = (.bool true) := f9
      try simp only [f11, f13, f9, str]
      go_wp2
      refine stg_v (x := (.bool true)) rfl Same.refl ?_
      first | (simp only [mkAct, List.foldl_cons, List.foldl_nil, List.setIfInBounds_toArray, List.set_cons_succ, List.set_cons_zero, upd, reduceIte, Nat.reduceEqDiff, Nat.reduceAdd, f11, f13, f9, str]; done) | (simp [mkAct, upd, f11, f13, f9, str, *]; done)
    · -- operation 15
      obtain ⟨f9, f14, -⟩ := hp
      replace f9 : u 9 = (.bool true) := f9
      replace f14 : u 14 = (.bool true) := f14
      try simp only [f9, f14, str]
      go_wp2
      refine stg_v (x := (.bool true)) rfl Same.refl ?_
      first | (simp only [mkAct, List.foldl_cons, List.foldl_nil, List.setIfInBounds_toArray, List.set_cons_succ, List.set_cons_zero, upd, reduceIte, Nat.reduceEqDiff, Nat.reduceAdd, f9, f14, str]; done) | (simp [mkAct, upd, f9, f14, str, *]; done)
    · -- operation 16
      obtain ⟨f15, -⟩ := hp
      replace f15 : u 15 = (.bool true) := f15
      try simp only [f15, str]
      go_wp2
      refine stg_v (x := (.bool true)) rfl Same.refl ?_
      first | (simp only [mkAct, List.foldl_cons, List.foldl_nil, List.setIfInBounds_toArray, List.set_cons_succ, List.set_cons_zero, upd, reduceIte, Nat.reduceEqDiff, Nat.reduceAdd, f15, str]; done) | (simp [mkAct, upd, f15, str, *]; done)
    · -- operation 17
      obtain ⟨f16, -⟩ := hp
      replace f16 : u 16 = (.bool true) := f16
      try simp only [f16, str]
      go_wp2_with fail
      refine (hl.out _).mono ?_
      rintro e w1 ⟨rfl, hs'⟩
      go_wp2
      refine stg_v (x := (.bool true)) rfl hs' ?_
      first | (simp only [mkAct, List.foldl_cons, List.foldl_nil, List.setIfInBounds_toArray, List.set_cons_succ, List.set_cons_zero, upd, reduceIte, Nat.reduceEqDiff, Nat.reduceAdd, f16, str]; done) | (simp [mkAct, upd, f16, str, *]; done)
    · -- operation 18
      obtain ⟨f16, f17, -⟩ := hp
      replace f16 : u 16 = (.bool true) := f16
      replace f17 : u 17 = (.bool true) := f17
      try simp only [f16, f17, str]
      go_wp2
      refine stg_v (x := (.bool true)) rfl Same.refl ?_
      first | (simp only [mkAct, List.foldl_cons, List.foldl_nil, List.setIfInBounds_toArray, List.set_cons_succ, List.set_cons_zero, upd, reduceIte, Nat.reduceEqDiff, Nat.reduceAdd, f16, f17, str]; done) | (simp [mkAct, upd, f16, f17, str, *]; done)
  · intro u wx hI hR
    obtain ⟨r0, r1, r2, r3, r4, r5, r6, r7, r8, r9, r10, r11, r12, r13, r14, r15, r16, r17, r18, -⟩ := hR
    replace r0 : u 0 = (.pointer (some ⟨rb, 0, none⟩)) := r0
    replace r2 : u 2 = (.agg r.cells.toArray) := r2
    replace r3 : u 3 = (.bool true) := r3
    replace r4 : u 4 = (.bool true) := r4
    replace r5 : u 5 = (.pointer (some ⟨rb, 0, none⟩)) := r5
    replace r6 : u 6 = (.int .i64 0) := r6
    replace r7 : u 7 = (.bool true) := r7
    replace r8 : u 8 = (.bool true) := r8
    replace r9 : u 9 = (.bool true) := r9
    replace r10 : u 10 = (.pointer (some ⟨rb, 0, none⟩)) := r10
    replace r11 : u 11 = (.int .i64 (n : Int)) := r11
    replace r12 : u 12 = (.slice ao n c) := r12
    replace r13 : u 13 = (.int .i64 (n : Int)) := r13
    replace r14 : u 14 = (.bool true) := r14
    replace r15 : u 15 = (.bool true) := r15
    replace r16 : u 16 = (.bool true) := r16
    replace r17 : u 17 = (.bool true) := r17
    replace r18 : u 18 = (.bool true) := r18
    simp only [mkAct, List.foldl_cons, List.foldl_nil, List.setIfInBounds_toArray, List.set_cons_succ, List.set_cons_zero]
    try simp only [str, r0, r2, r3, r4, r5, r6, r7, r8, r9, r10, r11, r12, r13, r14, r15, r16, r17, r18]
    go_wp2
    go_ret
    exact ⟨rfl, s0.out.keep hI (fun x hx hv => by omega)⟩
theorem walk_RequestBack (w : World) (r : Req) (hr : r.wf) (ao : Option Addr) (n c : Nat) (xs : List UInt8) (hsl : Sl w 1 ao n c (bv xs)) :
    Calls Try.prog 14 #[.agg r.cells.toArray, .slice ao n c] w fun e w' => e = .returned (.bool true) ∧ Same w w' := by
  by_cases h : 2000 < n
  · exact back_no w r hr ao n c xs hsl (.inl h)
  · by_cases h2 : r.good seedR.data.toList 72 4 8 = 0
    · exact back_yes w r hr ao n c xs hsl (by omega) h2
    · exact back_no w r hr ao n c xs hsl (.inr ⟨by omega, h2⟩)
end Go.Proofs.Ythgpmgodpedjdaa
