/-
  Batches: how one is laid behind bytes, by both.
-/
import Derived.Test.YtmacgmmjgdmleaaBat2
namespace Go.Proofs.Ytmacgmmjgdmleaa
open Go Go.RowKit
set_option linter.unusedSimpArgs false
set_option linter.unusedVariables false

theorem i64_bounds' {n : Int} (h : (Lit.int .i64 n).wf = true) : n ≤ 9223372036854775807 := by
  have : -9223372036854775808 ≤ n ∧ n ≤ 9223372036854775807 := by simpa [Lit.wf, IntKind.min, IntKind.max, IntKind.signed, IntKind.bits] using h
  exact this.2
theorem put_own (ao : Option Addr) (len cap : Nat) (xs : List UInt8) (n : Int) (w : World) (hsl : Sl w 1 ao len cap (bv xs)) (hmax : len ≤ 140737488000000) (hn : n ≤ 9223372036854775807) (h0 : 0 ≤ n) :
    Calls Try.prog 112 #[.slice ao len cap, .int .i64 n] w (RetB w (xs ++ Num.putI n)) := by
  obtain ⟨m, rfl⟩ := Int.eq_ofNat_of_zero_le h0
  rw [Num.putI_nat]
  exact put_nat ao len cap xs m w hsl hmax (by omega)
theorem rput_own (ao : Option Addr) (len cap : Nat) (xs : List UInt8) (n : Int) (w : World) (hsl : Sl w 1 ao len cap (bv xs)) (hmax : len ≤ 140737488000000) (hn : n ≤ 9223372036854775807) (h0 : 0 ≤ n) :
    Calls Try.prog 142 #[.slice ao len cap, .int .i64 n] w (RetB w (xs ++ Num.putI n)) := rput_any ao len cap xs n w hsl hmax hn
def reqPuts (l : List Req) : List UInt8 := (l.map reqPut).flatten
def batPut (noop : Bool) (l : List Req) : List UInt8 := if noop then Num.putI 0 else Num.putI ((l.length : Int) + 1) ++ reqPuts l
theorem reqPuts_next {l : List Req} {k : Nat} (h : k < l.length) : reqPuts (l.take (k + 1)) = reqPuts (l.take k) ++ reqPut (reqAt l k) := by
  unfold reqPuts
  have e : l[k] = reqAt l k := by simp [reqAt, List.getD, h]
  rw [List.take_succ_eq_append_getElem h, List.map_append, List.flatten_append, e]
  simp
theorem reqPuts_le {l : List Req} (hw : ∀ r ∈ l, r.wf ∧ r.data.size ≤ 140737488351232) (hs : ∀ r ∈ l, r.data.size ≤ 4000) : ∀ k, k ≤ l.length → (reqPuts (l.take k)).length ≤ k * 4043 := by
  intro k
  induction k with
  | zero => intro _; simp [reqPuts]
  | succ k ih =>
    intro hk
    have h1 := ih (by omega)
    have hm := reqAt_mem (l := l) (i := k) (by omega)
    have hb := i64_bounds' (hw _ hm).1.2.1
    have hb2 := i64_bounds' (hw _ hm).1.2.2.1
    have h2 := reqPut_le (reqAt l k) (hw _ hm).1.1 hb hb2 (by have := hs _ hm; omega)
    have h3 := hs _ hm
    rw [reqPuts_next (by omega), List.length_append]
    omega
set_option maxRecDepth 100000 in
set_option maxHeartbeats 1600000 in
theorem bputB_any (ao : Option Addr) (len cap : Nat) (xs : List UInt8) (b : BatV) (w : World) (hsl : Sl w 1 ao len cap (bv xs)) (hmax : len ≤ 1000000000) (h : b.at w) (hsm : b.small) :
    Calls Try.prog 146 #[.slice ao len cap, .agg b.cells.toArray] w (RetB w (xs ++ batPut b.noop b.reqs)) := by
  have hinf := Lib.hid (bat_info b)
  have hinfZ := Lib.hid (req_info zeroReq_tag)
  have hcap := h.1.cap
  have hmost := h.1.most
  unfold maxLen at hmost
  have hlen : xs.length = len := by have := hsl.len; rw [bv_length] at this; omega
  obtain ⟨n, hn⟩ : ∃ n, n = b.reqs.length := ⟨_, rfl⟩
  rw [← hn] at hcap
  have hn2 : n ≤ 200 := by rw [hn]; exact hsm.1
  unfold batPut
  rw [← hn]
  cases hno : b.noop
  · simp only [Bool.false_eq_true, if_false]
    have hp := fun w h => (put_own ao len cap xs ((n : Int) + 1) w h (by omega) (by omega) (by omega))
    have hpl := Num.putI_le ((n : Int) + 1) (by omega)
    obtain ⟨A, hA⟩ : ∃ A : Nat → List UInt8, A = fun k => xs ++ Num.putI ((n : Int) + 1) ++ reqPuts (b.reqs.take k) := ⟨_, rfl⟩
    have hA0 : xs ++ Num.putI ((n : Int) + 1) = A 0 := by rw [hA]; simp [reqPuts]
    rw [hA0] at hp
    have hAn : xs ++ (Num.putI ((n : Int) + 1) ++ reqPuts b.reqs) = A n := by
      rw [hA, hn]
      simp only
      rw [List.take_of_length_le (Nat.le_refl _), List.append_assoc]
    rw [hAn]
    have hAl : ∀ k, k ≤ n → (A k).length ≤ 2000000000 := by
      intro k hk
      have := reqPuts_le h.2 hsm.2 k (by omega)
      rw [hA]
      simp only [List.length_append]
      omega
    have hst : ∀ k, k < n → ∀ (ao : Option Addr) (c : Nat) (w : World), Sl w 1 ao (A k).length c (bv (A k)) → Calls Try.prog 180 #[.slice ao (A k).length c, .agg (reqAt b.reqs k).cells.toArray] w (RetB w (A (k + 1))) := by
      intro k hk ao c w hs
      have hm := reqAt_mem (l := b.reqs) (i := k) (by omega)
      have hb1 := i64_bounds' (h.2 _ hm).1.2.1
      have hb2 := i64_bounds' (h.2 _ hm).1.2.2.1
      have e : A k ++ reqPut (reqAt b.reqs k) = A (k + 1) := by
        rw [hA]
        simp only
        rw [reqPuts_next (by omega), List.append_assoc _ (reqPuts _) (reqPut _)]
      rw [← e]
      exact rqput_any ao (A k).length c (A k) (reqAt b.reqs k) w hs (by have := hAl k (by omega); omega) (h.2 _ hm).1.1 hb1 hb2 (by have := hsm.2 _ hm; omega)
    have hwr : IntKind.i64.wrap ((n : Int) + 1) = n + 1 := IntWalk.i64_in _ ⟨by omega, by omega⟩
    clear hA hA0 hAn hpl
    replace hsl := Lib.hid hsl
    replace h := Lib.hid h
    replace hn := Lib.hid hn
    replace hp := Lib.hid hp
    replace hst := Lib.hid hst
    replace hAl := Lib.hid hAl
    replace hlen := Lib.hid hlen
    go_enter Try.func146, Try.ntmps146
    go_upto_region 1 with (refine box_row rfl _ _ rfl _ rfl hinf.out ?_; intro w0 hbx hs0; have c0 := bat_noop hbx; have c1 := bat_reqs hbx; rw [← hn.out] at c1; rw [hno] at c0; clear hbx; replace hs0 := Lib.hid hs0)
    have hsl0 := Lib.hid (hsl.out.same hs0.out)
    have c1h := Lib.hid c1
    go_wp2_with fail
    refine (hp.out _ hsl0.out).mono ?_
    rintro e w1 ⟨v1, rfl, ho1, hs1⟩
    have ho1 := ho1.lower hs0.out.size
    obtain ⟨ao1, cp1, rfl, hsl1⟩ := ho1.sl
    replace hsl1 := Lib.hid hsl1
    replace ho1 := Lib.hid ho1
    have c1 := hs1.cell c1h.out
    have hw1 := Lib.hid hs1
    clear hs1
    go_wp2
    go_loopw [0, 20] (fun v i wr => ∃ (k : Nat) (ak : Option Addr) (ck : Nat), k ≤ n ∧ i = .int .i64 k ∧ v = .slice ak (A k).length ck ∧ Own wr w.heap.size 5 1 (.slice ak (A k).length ck) (A k).length (bv (A k)) ∧ Same w1 wr) (fun _ i _ => n - (intOf i).toNat)
    case atStart => exact ⟨0, ao1, cp1, by omega, rfl, rfl, ho1.out, Same.refl⟩
    case round =>
      obtain ⟨k, ak, ck, hk, rfl, rfl, hok, hs⟩ := hrel
      have hslk : Sl wr 1 ak (A k).length ck (bv (A k)) := by
        obtain ⟨a', c', h1, h2⟩ := hok.sl
        injection h1 with h1 _ h3
        subst h1 h3
        exact h2
      replace hok := Lib.hid hok
      have hsw := ((hs0.out.trans hw1.out).trans hs).size
      have d1 := (hw1.out.trans hs).cell c1h.out
      by_cases hlt : k < n
      · obtain ⟨bk, off, hao, hbl, hrange⟩ := BatV.range (w := w) (b := b) h.out (i := k) (by rw [← hn.out]; exact hlt)
        rw [hao] at d1
        replace hao := Lib.hid hao
        have hr2 := ((hs0.out.trans hw1.out).trans hs).range hrange
        have hrt := (h.out.2 _ (reqAt_mem (l := b.reqs) (i := k) (by rw [← hn.out]; exact hlt))).1.1
        have hsk := hst.out k hlt
        obtain ⟨R, hR⟩ : ∃ R, R = reqAt b.reqs k := ⟨_, rfl⟩
        rw [← hR] at hr2 hrt hsk
        have hinfL := Lib.hid (req_infoL hrt)
        have hinfR := Lib.hid (req_info hrt)
        have hsz := Lib.hid (req_sizes (r := zeroReq) rfl hrt)
        have q0 : 0 ≤ (k : Int) := by omega
        have q1 : (k : Int) < (n : Int) := by omega
        clear hrange hbl hR
        replace hr2 := Lib.hid hr2
        replace hrt := Lib.hid hrt
        replace hsk := Lib.hid hsk
        replace hs := Lib.hid hs
        replace hslk := Lib.hid hslk
        rw [hao.out]
        go_upto_region 7 with (first | (refine load_mid rfl _ _ rfl bk (off + k * 19) rfl R.cells _ hr2.out Try.underlying90 rfl hinfL.out ?_) | (refine alloc_new rfl 90 rfl zeroReq.cells.toArray (by kernel_rfl) ?_; intro w2 hd hs2; have hdl := blk_lt hd; replace hd := Lib.hid hd; replace hs2 := Lib.hid hs2) | (refine store_row rfl _ _ _ rfl wr.heap.size _ rfl rfl _ _ hd.out hinfR.out hsz.out (req_one _) ?_; intro w3 hd3 hk3))
        have hs3 : Same wr w3 := hs2.out.keep hk3 (fun x hx hv => by omega)
        have hslk3 := Lib.hid (hslk.out.same hs3)
        have hs3z := hs3.size
        have hw3 := Lib.hid (hs.out.trans hs3)
        clear hk3 hs2 hs hd hs3 hslk
        replace hd3 := Lib.hid hd3
        go_simp
        go_wp2_with (refine load_row rfl _ _ rfl wr.heap.size rfl _ _ _ _ hd3.out Try.underlying90 rfl hinfR.out ?_)
        refine (hsk.out _ _ _ hslk3.out).mono ?_
        rintro e w4 ⟨v4, rfl, ho4, hs4⟩
        have ho4 := ho4.lower (Nat.le_trans hsw hs3z)
        obtain ⟨ao4, cp4, rfl, -⟩ := ho4.sl
        have hw4 := Lib.hid (hw3.out.trans hs4)
        clear hs4 hw3
        replace ho4 := Lib.hid ho4
        go_wp2
        go_roundw
        case rel => exact ⟨k + 1, ao4, cp4, by omega, by go_num, rfl, ho4.out, hw4.out⟩
        case measure => simp [intOf]; omega
      · obtain rfl : k = n := by omega
        replace hs := Lib.hid hs
        replace hslk := Lib.hid hslk
        go_wp2
        go_ret
        exact ⟨_, rfl, hok.out, (hs0.out.trans hw1.out).trans hs.out⟩
  · simp only [if_true]
    have hp := fun w h => (put_own ao len cap xs 0 w h (by omega) (by omega) (by omega))
    obtain ⟨A, hA⟩ : ∃ A : List UInt8, A = xs ++ Num.putI 0 := ⟨_, rfl⟩
    rw [← hA] at hp ⊢
    clear hA
    replace hsl := Lib.hid hsl
    replace hp := Lib.hid hp
    go_enter Try.func146, Try.ntmps146
    go_upto_region 1 with (refine box_row rfl _ _ rfl _ rfl hinf.out ?_; intro w0 hbx hs0; have c0 := bat_noop hbx; rw [hno] at c0; clear hbx; replace hs0 := Lib.hid hs0)
    have hsl0 := Lib.hid (hsl.out.same hs0.out)
    go_wp2_with fail
    refine (hp.out _ hsl0.out).mono ?_
    rintro e w1 ⟨v1, rfl, ho1, hs1⟩
    have ho1 := ho1.lower hs0.out.size
    obtain ⟨ao1, cp1, rfl, hsl1⟩ := ho1.sl
    replace hsl1 := Lib.hid hsl1
    replace ho1 := Lib.hid ho1
    go_wp2
    go_ret
    exact ⟨_, rfl, ho1.out, hs0.out.trans hs1⟩
theorem bput_any (ao : Option Addr) (len cap : Nat) (xs : List UInt8) (b : BatV) (w : World) (hsl : Sl w 1 ao len cap (bv xs)) (hmax : len ≤ 1000000000) (h : b.at w) (hsm : b.small) :
    Calls Try.prog 146 #[.slice ao len cap, .agg b.cells.toArray] w (RetS w (xs ++ batPut b.noop b.reqs)) := (bputB_any ao len cap xs b w hsl hmax h hsm).mono fun _ _ h => RetB.s h
set_option maxRecDepth 100000 in
set_option maxHeartbeats 1600000 in
theorem rbputB_any (ao : Option Addr) (len cap : Nat) (xs : List UInt8) (b : BatV) (w : World) (hsl : Sl w 1 ao len cap (bv xs)) (hmax : len ≤ 1000000000) (h : b.at w) (hsm : b.small) :
    Calls Try.prog 94 #[.slice ao len cap, .agg b.cells.toArray] w (RetB w (xs ++ batPut b.noop b.reqs)) := by
  have hinf := Lib.hid (bat_info b)
  have hinfZ := Lib.hid (req_info zeroReq_tag)
  have hcap := h.1.cap
  have hmost := h.1.most
  unfold maxLen at hmost
  have hlen : xs.length = len := by have := hsl.len; rw [bv_length] at this; omega
  obtain ⟨n, hn⟩ : ∃ n, n = b.reqs.length := ⟨_, rfl⟩
  rw [← hn] at hcap
  have hn2 : n ≤ 200 := by rw [hn]; exact hsm.1
  unfold batPut
  rw [← hn]
  cases hno : b.noop
  · simp only [Bool.false_eq_true, if_false]
    have hp := fun w h => (rput_own ao len cap xs ((n : Int) + 1) w h (by omega) (by omega) (by omega))
    have hpl := Num.putI_le ((n : Int) + 1) (by omega)
    obtain ⟨A, hA⟩ : ∃ A : Nat → List UInt8, A = fun k => xs ++ Num.putI ((n : Int) + 1) ++ reqPuts (b.reqs.take k) := ⟨_, rfl⟩
    have hA0 : xs ++ Num.putI ((n : Int) + 1) = A 0 := by rw [hA]; simp [reqPuts]
    rw [hA0] at hp
    have hAn : xs ++ (Num.putI ((n : Int) + 1) ++ reqPuts b.reqs) = A n := by
      rw [hA, hn]
      simp only
      rw [List.take_of_length_le (Nat.le_refl _), List.append_assoc]
    rw [hAn]
    have hAl : ∀ k, k ≤ n → (A k).length ≤ 2000000000 := by
      intro k hk
      have := reqPuts_le h.2 hsm.2 k (by omega)
      rw [hA]
      simp only [List.length_append]
      omega
    have hst : ∀ k, k < n → ∀ (ao : Option Addr) (c : Nat) (w : World), Sl w 1 ao (A k).length c (bv (A k)) → Calls Try.prog 150 #[.slice ao (A k).length c, .agg (reqAt b.reqs k).cells.toArray] w (RetB w (A (k + 1))) := by
      intro k hk ao c w hs
      have hm := reqAt_mem (l := b.reqs) (i := k) (by omega)
      have hb1 := i64_bounds' (h.2 _ hm).1.2.1
      have hb2 := i64_bounds' (h.2 _ hm).1.2.2.1
      have e : A k ++ reqPut (reqAt b.reqs k) = A (k + 1) := by
        rw [hA]
        simp only
        rw [reqPuts_next (by omega), List.append_assoc _ (reqPuts _) (reqPut _)]
      rw [← e]
      exact rqrput_any ao (A k).length c (A k) (reqAt b.reqs k) w hs (by have := hAl k (by omega); omega) (h.2 _ hm).1.1 hb1 hb2 (by have := hsm.2 _ hm; omega)
    have hwr : IntKind.i64.wrap ((n : Int) + 1) = n + 1 := IntWalk.i64_in _ ⟨by omega, by omega⟩
    clear hA hA0 hAn hpl
    replace hsl := Lib.hid hsl
    replace h := Lib.hid h
    replace hn := Lib.hid hn
    replace hp := Lib.hid hp
    replace hst := Lib.hid hst
    replace hAl := Lib.hid hAl
    replace hlen := Lib.hid hlen
    go_enter Try.func94, Try.ntmps94
    go_upto_region 1 with (refine box_row rfl _ _ rfl _ rfl hinf.out ?_; intro w0 hbx hs0; have c0 := bat_noop hbx; have c1 := bat_reqs hbx; rw [← hn.out] at c1; rw [hno] at c0; clear hbx; replace hs0 := Lib.hid hs0)
    have hsl0 := Lib.hid (hsl.out.same hs0.out)
    have c1h := Lib.hid c1
    go_wp2_with fail
    refine (hp.out _ hsl0.out).mono ?_
    rintro e w1 ⟨v1, rfl, ho1, hs1⟩
    have ho1 := ho1.lower hs0.out.size
    obtain ⟨ao1, cp1, rfl, hsl1⟩ := ho1.sl
    replace hsl1 := Lib.hid hsl1
    replace ho1 := Lib.hid ho1
    have c1 := hs1.cell c1h.out
    have hw1 := Lib.hid hs1
    clear hs1
    go_wp2
    go_loopw [0, 5] (fun v i wr => ∃ (k : Nat) (ak : Option Addr) (ck : Nat), k ≤ n ∧ i = .int .i64 k ∧ v = .slice ak (A k).length ck ∧ Own wr w.heap.size 5 1 (.slice ak (A k).length ck) (A k).length (bv (A k)) ∧ Same w1 wr) (fun _ i _ => n - (intOf i).toNat)
    case atStart => exact ⟨0, ao1, cp1, by omega, rfl, rfl, ho1.out, Same.refl⟩
    case round =>
      obtain ⟨k, ak, ck, hk, rfl, rfl, hok, hs⟩ := hrel
      have hslk : Sl wr 1 ak (A k).length ck (bv (A k)) := by
        obtain ⟨a', c', h1, h2⟩ := hok.sl
        injection h1 with h1 _ h3
        subst h1 h3
        exact h2
      replace hok := Lib.hid hok
      have hsw := ((hs0.out.trans hw1.out).trans hs).size
      have d1 := (hw1.out.trans hs).cell c1h.out
      by_cases hlt : k < n
      · obtain ⟨bk, off, hao, hbl, hrange⟩ := BatV.range (w := w) (b := b) h.out (i := k) (by rw [← hn.out]; exact hlt)
        rw [hao] at d1
        replace hao := Lib.hid hao
        have hr2 := ((hs0.out.trans hw1.out).trans hs).range hrange
        have hrt := (h.out.2 _ (reqAt_mem (l := b.reqs) (i := k) (by rw [← hn.out]; exact hlt))).1.1
        have hsk := hst.out k hlt
        obtain ⟨R, hR⟩ : ∃ R, R = reqAt b.reqs k := ⟨_, rfl⟩
        rw [← hR] at hr2 hrt hsk
        have hinfL := Lib.hid (req_infoL hrt)
        have hinfR := Lib.hid (req_info hrt)
        have hsz := Lib.hid (req_sizes (r := zeroReq) rfl hrt)
        have q0 : 0 ≤ (k : Int) := by omega
        have q1 : (k : Int) < (n : Int) := by omega
        clear hrange hbl hR
        replace hr2 := Lib.hid hr2
        replace hrt := Lib.hid hrt
        replace hsk := Lib.hid hsk
        replace hs := Lib.hid hs
        replace hslk := Lib.hid hslk
        go_wp2_with (refine load_mid rfl _ _ rfl bk (off + k * 19) rfl R.cells _ hr2.out Try.underlying90 rfl hinfL.out ?_)
        refine (hsk.out _ _ _ hslk.out).mono ?_
        rintro e w4 ⟨v4, rfl, ho4, hs4⟩
        have ho4 := ho4.lower hsw
        obtain ⟨ao4, cp4, rfl, -⟩ := ho4.sl
        have hw4 := Lib.hid (hs.out.trans hs4)
        clear hs4 hs
        replace ho4 := Lib.hid ho4
        go_wp2
        go_roundw
        case rel => exact ⟨k + 1, ao4, cp4, by omega, by go_num, rfl, ho4.out, hw4.out⟩
        case measure => simp [intOf]; omega
      · obtain rfl : k = n := by omega
        replace hs := Lib.hid hs
        replace hslk := Lib.hid hslk
        go_wp2
        go_ret
        exact ⟨_, rfl, hok.out, (hs0.out.trans hw1.out).trans hs.out⟩
  · simp only [if_true]
    have hp := fun w h => (rput_own ao len cap xs 0 w h (by omega) (by omega) (by omega))
    obtain ⟨A, hA⟩ : ∃ A : List UInt8, A = xs ++ Num.putI 0 := ⟨_, rfl⟩
    rw [← hA] at hp ⊢
    clear hA
    replace hsl := Lib.hid hsl
    replace hp := Lib.hid hp
    go_enter Try.func94, Try.ntmps94
    go_upto_region 1 with (refine box_row rfl _ _ rfl _ rfl hinf.out ?_; intro w0 hbx hs0; have c0 := bat_noop hbx; rw [hno] at c0; clear hbx; replace hs0 := Lib.hid hs0)
    have hsl0 := Lib.hid (hsl.out.same hs0.out)
    go_wp2_with fail
    refine (hp.out _ hsl0.out).mono ?_
    rintro e w1 ⟨v1, rfl, ho1, hs1⟩
    have ho1 := ho1.lower hs0.out.size
    obtain ⟨ao1, cp1, rfl, hsl1⟩ := ho1.sl
    replace hsl1 := Lib.hid hsl1
    replace ho1 := Lib.hid ho1
    go_wp2
    go_ret
    exact ⟨_, rfl, ho1.out, hs0.out.trans hs1⟩
theorem rbput_any (ao : Option Addr) (len cap : Nat) (xs : List UInt8) (b : BatV) (w : World) (hsl : Sl w 1 ao len cap (bv xs)) (hmax : len ≤ 1000000000) (h : b.at w) (hsm : b.small) :
    Calls Try.prog 94 #[.slice ao len cap, .agg b.cells.toArray] w (RetS w (xs ++ batPut b.noop b.reqs)) := (rbputB_any ao len cap xs b w hsl hmax h hsm).mono fun _ _ h => RetB.s h
end Go.Proofs.Ytmacgmmjgdmleaa
