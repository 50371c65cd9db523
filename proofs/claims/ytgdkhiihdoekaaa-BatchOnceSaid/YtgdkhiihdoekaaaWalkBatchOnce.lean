/-
  The walk of the law BatchOnce: a batch that may be has no pair twice, and each of its requests is good.
-/
-- @law rep bat, int
import Derived.Test.YtgdkhiihdoekaaaBatG
import Derived.Test.YtgdkhiihdoekaaaBat5
import Derived.Test.YtgdkhiihdoekaaaBat2
import Derived.Test.YtgdkhiihdoekaaaBatH
import Derived.Deep.DeepCutAuto
namespace Go.Proofs.Ytgdkhiihdoekaaa
open Go Go.RowKit
set_option linter.unusedSimpArgs false
set_option linter.unusedVariables false

theorem batErrs_zero {g : Req → Nat} : ∀ (l seen : List Req), batErrs g seen l = 0 → (∀ r ∈ l, g r = 0) ∧ ∀ k r, l[k]? = some r → inPairs (seen ++ l.take k) r.pair = false := by
  intro l
  induction l with
  | nil => intro seen _; exact ⟨fun r hr => (by cases hr), fun k r h => (by simp at h)⟩
  | cons x l ih =>
    intro seen h
    rw [batErrs] at h
    split at h
    · rename_i hx
      exact absurd h hx
    · rename_i hx
      have hx0 : g x = 0 := by omega
      cases hp : inPairs seen x.pair
      · rw [hp] at h
        simp only [Bool.false_eq_true, if_false] at h
        obtain ⟨h1, h2⟩ := ih _ h
        refine ⟨fun r hr => ?_, fun k r hk => ?_⟩
        · rcases List.mem_cons.1 hr with rfl | hr
          · exact hx0
          · exact h1 r hr
        · rcases k with _ | k
          · simp only [List.getElem?_cons_zero, Option.some.injEq] at hk
            subst hk
            simpa using hp
          · have := h2 k r (by simpa using hk)
            simpa [List.append_assoc] using this
      · rw [hp] at h
        simp at h
theorem batGood_zero {g : Req → Nat} {b : BatV} {most : Int} (h : batGood g b most = 0) : (∀ i, i < b.reqs.length → g (reqAt b.reqs i) = 0) ∧ ∀ i, i < b.reqs.length → inPairs (b.reqs.take i) (reqAt b.reqs i).pair = false := by
  unfold batGood at h
  split at h
  · cases h
  · obtain ⟨h1, h2⟩ := batErrs_zero _ _ h
    exact ⟨fun i hi => h1 _ (reqAt_mem hi), fun i hi => by simpa using h2 i _ (reqAt_get hi)⟩
theorem inPairs_at {l : List Req} {p : Int × Int} (h : inPairs l p = false) {j : Nat} (hj : j < l.length) : ¬ ((reqAt l j).client = p.1 ∧ (reqAt l j).num = p.2) := by
  intro h2
  rw [inPairs, List.any_eq_false] at h
  refine h _ (reqAt_mem hj) ?_
  simp [Req.pair, h2.1, h2.2]
set_option maxRecDepth 100000 in
set_option maxHeartbeats 3200000 in
theorem walk_BatchOnce (w : World) (b : BatV) (hb : b.at w) (clients : Int) (hcw : (Lit.int .i64 clients).wf = true) :
    Calls Try.prog 8 #[.agg b.cells.toArray, .int .i64 clients] w fun e w' => e = .returned (.bool true) ∧ Same w w' := by
  have hl := Lib.hid lives7
  have hinfB := Lib.hid (bat_info b)
  have hinfK := Lib.hid (keys_info #[.string seedR, .int .i64 (72 : Nat)] rfl)
  have hky := Lib.hid keys7_any
  have hg1 := fun w p h hk => bgood_any (some p) seedR 72 4 clients 100 b w h hk (by omega) (by omega) (by decide)
  obtain ⟨G, hG⟩ : ∃ G : Req → Nat, G = fun r => r.good seedR.data.toList 72 4 clients := ⟨_, rfl⟩
  have hgo : ∀ w p r, r.tag.length = 16 → KeysAt w (some p) seedR 72 → Calls Try.prog 38 #[.pointer (some p), .int .i64 4, .int .i64 clients, .agg r.cells.toArray] w fun e w' => e = .returned (.int .i64 (G r : Nat)) ∧ Same w w' := by
    intro w p r ht hk
    rw [hG]
    exact rqsgood_any w (some p) seedR 72 4 clients r ht hk (by omega) (by omega) (by decide)
  rw [← hG] at hg1
  have hE0 := batGood_zero (g := G) (b := b) (most := 100)
  obtain ⟨E, hE⟩ : ∃ E, E = batGood G b 100 := ⟨_, rfl⟩
  rw [← hE] at hg1 hE0
  have hcap := hb.1.cap
  have hmost := hb.1.most
  unfold maxLen at hmost
  obtain ⟨n, hn⟩ : ∃ n, n = b.reqs.length := ⟨_, rfl⟩
  rw [← hn] at hE0 hcap
  clear hE hG hcw
  replace hn := Lib.hid hn
  replace hg1 := Lib.hid hg1
  replace hgo := Lib.hid hgo
  replace hb := Lib.hid hb
  replace hE0 := Lib.hid hE0
  unfold RetKeys at hky
  go_enter Try.func8, Try.ntmps8
  go_upto_region 1 with (refine box_row rfl _ _ rfl b.cells.toArray rfl hinfB.out ?_; intro w1 hbb hs1; replace hbb := Lib.hid hbb; replace hs1 := Lib.hid hs1)
  have s0 := hs1
  have sb := Lib.hid (Same.refl (w := w1))
  clear hs1
  go_wp2_with (first | (refine load_row rfl _ _ rfl w.heap.size rfl _ _ _ _ (sb.out.at hbb.out) Try.underlying24 rfl hinfB.out ?_) | (refine build_sl (W' := w1.alloc (.cells (bvs [b]).toArray 24)) (.slice (some ⟨w1.heap.size, 0, none⟩) 1 1) rfl rfl (by kernel_rfl) ?_))
  have hlt := light7_any (some ⟨w1.heap.size, 0, none⟩) 1 1 [b] (w1.alloc (.cells (bvs [b]).toArray 24)) (bvs_box [b] 1 rfl (by unfold maxLen; omega)) rfl (by
    intro x hx
    have hw : Same w (w1.alloc (.cells (bvs [b]).toArray 24)) := s0.out.trans (Same.refl.alloc _)
    simp only [List.mem_cons, List.not_mem_nil, or_false] at hx
    subst hx
    exact BatV.same hb.out hw)
  refine hlt.mono ?_
  rintro e w2 ⟨L, rfl, hL, hs'⟩
  have hs : Same w1 w2 := (Same.refl.alloc _).trans hs'
  clear hs' hlt hL
  replace s0 := Lib.hid (s0.out.trans hs)
  replace sb := Lib.hid (sb.out.trans hs)
  clear hs
  cases L
  · go_wp2_with fail
    refine (hl.out _).mono ?_
    rintro e w3 ⟨rfl, hs⟩
    replace s0 := Lib.hid (s0.out.trans hs)
    replace sb := Lib.hid (sb.out.trans hs)
    clear hs
    go_wp2
    go_ret
    exact ⟨rfl, s0.out⟩
  · go_wp2_with fail
    refine (hky.out _).mono ?_
    rintro e w3 ⟨kp, rfl, hka, hs⟩
    replace s0 := Lib.hid (s0.out.trans hs)
    replace sb := Lib.hid (sb.out.trans hs)
    clear hs
    replace hka := Lib.hid hka
    go_upto_region 4 with (first | (refine alloc_new rfl 71 rfl #[.string ByteArray.empty, .int .i64 0] (by kernel_rfl) ?_; intro w4 hd hs4; have hdl := blk_lt hd; replace hd := Lib.hid hd; replace hs4 := Lib.hid hs4) | (refine store_row rfl _ _ _ rfl w3.heap.size #[.string seedR, .int .i64 (72 : Nat)] rfl rfl _ _ hd.out hinfK.out rfl (by simp [Value.oneCell']) ?_; intro w5 hb5 hk5; clear hb5))
    have hs5 : Same w3 w5 := hs4.out.keep hk5 (fun x hx hv => by omega)
    replace s0 := Lib.hid (s0.out.trans hs5)
    replace sb := Lib.hid (sb.out.trans hs5)
    have hka5 := Lib.hid (hka.out.same hs5)
    clear hs5 hk5 hs4 hd hka
    go_simp
    have sk := Lib.hid (Same.refl (w := w5))
    have hbx := Lib.hid (BatV.same hb.out s0.out)
    go_wp2_with (first | (refine load_row rfl _ _ rfl w.heap.size rfl _ _ _ _ (sb.out.at hbb.out) Try.underlying24 rfl hinfB.out ?_))
    refine (hg1.out _ _ hbx.out hka5.out).mono ?_
    rintro e w6 ⟨rfl, hs⟩
    replace s0 := Lib.hid (s0.out.trans hs)
    replace sb := Lib.hid (sb.out.trans hs)
    replace sk := Lib.hid (sk.out.trans hs)
    clear hs
    clear hbx
    by_cases hz : E = 0
    · subst hz
      obtain ⟨hz1, hz2⟩ := hE0.out rfl
      have c1 := bat_reqs (sb.out.at hbb.out)
      rw [← hn.out] at c1
      have hka6 := Lib.hid (hka5.out.same sk.out)
      clear hE0 sk hka5
      replace hz1 := Lib.hid hz1
      replace hz2 := Lib.hid hz2
      go_wp2
      replace c1 := Lib.hid c1
      go_loopw [29] (fun i wr => ∃ k : Nat, k ≤ n ∧ i = .int .i64 k ∧ Same w6 wr) (fun i _ => n - (intOf i).toNat)
      case atStart => exact ⟨0, by omega, rfl, Same.refl⟩
      case round =>
        obtain ⟨k, hkn0, rfl, hs⟩ := hrel
        by_cases hlt : k < n
        · have g0 := hz1.out k hlt
          have p0 := hz2.out k hlt
          obtain ⟨bk, off, hao2, hbl, hrange⟩ := BatV.range (w := w) (b := b) hb.out (i := k) (by rw [← hn.out]; exact hlt)
          have hr2 := (s0.out.trans hs).range hrange
          have hwfR := (hb.out.2 _ (reqAt_mem (l := b.reqs) (i := k) (by rw [← hn.out]; exact hlt))).1
          obtain ⟨R, hR⟩ : ∃ R, R = reqAt b.reqs k := ⟨_, rfl⟩
          rw [← hR] at hr2 hwfR
          have hinfL := Lib.hid (req_infoL hwfR.1)
          have hinfR := Lib.hid (req_info hwfR.1)
          have hsz := Lib.hid (req_sizes (r := zeroReq) rfl hwfR.1)
          have q0 : 0 ≤ (k : Int) := by omega
          clear hrange hbl
          replace hr2 := Lib.hid hr2
          replace hwfR := Lib.hid hwfR
          replace hR := Lib.hid hR
          have q1 : (k : Int) < (n : Int) := by omega
          rw [← hR.out] at g0 p0
          have c1r := hs.cell c1.out
          have hslf := Lib.hid (Sl.same hb.out.1 (s0.out.trans hs))
          rw [← hn.out] at hslf
          rw [hao2] at hslf c1r ⊢
          replace hao2 := Lib.hid hao2
          replace hs := Lib.hid hs
          replace p0 := Lib.hid p0
          replace c1r := Lib.hid c1r
          go_upto_region 9 with (first | (refine load_mid rfl _ _ rfl bk (off + k * 19) rfl R.cells _ hr2.out Try.underlying78 rfl hinfL.out ?_) | (refine alloc_new rfl 78 rfl zeroReq.cells.toArray (by kernel_rfl) ?_; intro w7 hd hs7; have hdl := blk_lt hd; replace hd := Lib.hid hd; replace hs7 := Lib.hid hs7) | (refine store_row rfl _ _ _ rfl wr.heap.size _ rfl rfl _ _ hd.out hinfR.out hsz.out (req_one _) ?_; intro w8 hd8 hk8))
          have hs8 : Same wr w8 := hs7.out.keep hk8 (fun x hx hv => by omega)
          have hw8 := Lib.hid (hs.out.trans hs8)
          have c18 := Lib.hid (hs8.cell c1r.out)
          have hsl8 := Lib.hid (hslf.out.same hs8)
          replace hd8 := Lib.hid hd8
          clear hs7 hk8 hs8 hd c1r hslf hs
          go_simp
          go_wp2_with (refine load_row rfl _ _ rfl wr.heap.size rfl _ _ _ _ hd8.out Try.underlying78 rfl hinfR.out ?_)
          refine (hgo.out _ _ _ hwfR.out.1 (hka6.out.same hw8.out)).mono ?_
          rintro e w9 ⟨rfl, hs9⟩
          rw [g0]
          have hw9 := Lib.hid (hw8.out.trans hs9)
          have c19 := hs9.cell c18.out
          have hsl9 := Lib.hid (hsl8.out.same hs9)
          have hd9 := Lib.hid (hs9.at hd8.out)
          clear hs9 hw8 c18 hsl8 hd8 g0
          go_wp2_with (refine slice_to rfl _ _ rfl reqsT rfl _ _ k rfl rfl (by omega) hsl9.out ?_; intro hslt; clear hslt)
          clear c19
          obtain ⟨wo, hwo⟩ : ∃ x, x = wr := ⟨_, rfl⟩
          subst hwo
          go_loopw [44] (fun i wr2 => ∃ j : Nat, j ≤ k ∧ i = .int .i64 j ∧ Same w9 wr2) (fun i _ => k - (intOf i).toNat)
          case atStart => exact ⟨0, by omega, rfl, Same.refl⟩
          case round =>
            obtain ⟨j, hj, rfl, hs⟩ := hrel
            by_cases hjt : j < k
            · have hne := inPairs_at p0.out (j := j) (by rw [List.length_take, ← hn.out]; omega)
              rw [reqAt_take hjt] at hne
              obtain ⟨bk3, off3, hao3, hbl3, hrange3⟩ := BatV.range (w := w) (b := b) hb.out (i := j) (by rw [← hn.out]; omega)
              rw [hao2.out] at hao3
              injection hao3 with hao3
              injection hao3 with hb3 ho3 _
              subst hb3
              subst ho3
              have hr3 := (s0.out.trans (hw9.out.trans hs)).range hrange3
              have hwfY := (hb.out.2 _ (reqAt_mem (l := b.reqs) (i := j) (by rw [← hn.out]; omega))).1
              obtain ⟨Y, hY⟩ : ∃ Y, Y = reqAt b.reqs j := ⟨_, rfl⟩
              rw [← hY] at hr3 hwfY hne
              have hinfY := Lib.hid (req_infoL hwfY.1)
              have hinfY2 := Lib.hid (req_info hwfY.1)
              have hszY := Lib.hid (req_sizes (r := zeroReq) rfl hwfY.1)
              have hd10 := hs.at hd9.out
              have x0 := req_client hd10
              have x1 := req_num hd10
              obtain ⟨xc, hxc⟩ : ∃ z, z = R.client := ⟨_, rfl⟩
              obtain ⟨xn, hxn⟩ : ∃ z, z = R.num := ⟨_, rfl⟩
              obtain ⟨yc, hyc⟩ : ∃ z, z = Y.client := ⟨_, rfl⟩
              obtain ⟨yn, hyn⟩ : ∃ z, z = Y.num := ⟨_, rfl⟩
              have hne2 : ¬ (yc = xc ∧ yn = xn) := by
                rw [hyc, hyn, hxc, hxn]
                exact hne
              rw [← hxc] at x0
              rw [← hxn] at x1
              have o0 : 0 ≤ (j : Int) := by omega
              have o1 : (j : Int) < (k : Int) := by omega
              clear hrange3 hbl3 hne hY hd10
              replace hr3 := Lib.hid hr3
              replace hwfY := Lib.hid hwfY
              replace hs := Lib.hid hs
              replace x0 := Lib.hid x0
              replace x1 := Lib.hid x1
              replace hxc := Lib.hid hxc
              replace hxn := Lib.hid hxn
              replace hyc := Lib.hid hyc
              replace hyn := Lib.hid hyn
              go_upto_region 14 with (first | (refine load_mid rfl _ _ rfl bk (off + j * 19) rfl Y.cells _ hr3.out Try.underlying78 rfl hinfY.out ?_) | (refine alloc_new rfl 78 rfl zeroReq.cells.toArray (by kernel_rfl) ?_; intro w7 hd hs7; have hdl2 := blk_lt hd; replace hd := Lib.hid hd; replace hs7 := Lib.hid hs7) | (refine store_row rfl _ _ _ rfl wr.heap.size _ rfl rfl _ _ hd.out hinfY2.out hszY.out (req_one _) ?_; intro w8 hd8 hk8))
              have hs8 : Same wr w8 := hs7.out.keep hk8 (fun x hx hv => by omega)
              have y0 := req_client hd8
              have y1 := req_num hd8
              rw [← hyc.out] at y0
              rw [← hyn.out] at y1
              have z0 := hs8.cell x0.out
              have z1 := hs8.cell x1.out
              have hw8 := Lib.hid (hs.out.trans hs8)
              clear hd8 hk8 hs8 hs7 hd hs
              go_simp
              by_cases hq : yc = xc
              · have hq2 : yn ≠ xn := fun h => hne2 ⟨hq, h⟩
                subst hq
                have e1 : (yn == xn) = false := by simpa using hq2
                go_wp2
                go_roundw
                case rel => exact ⟨j + 1, by omega, by go_num, hw8.out⟩
                case measure => simp [intOf]; omega
              · have e1 : (yc == xc) = false := by simpa using hq
                go_wp2
                go_roundw
                case rel => exact ⟨j + 1, by omega, by go_num, hw8.out⟩
                case measure => simp [intOf]; omega
            · obtain rfl : j = k := by omega
              replace hs := Lib.hid hs
              go_wp2
              go_roundw
              case rel => exact ⟨j + 1, by omega, by go_num, hw9.out.trans hs.out⟩
              case measure => simp [intOf]; omega
        · obtain rfl : k = n := by omega
          replace hs := Lib.hid hs
          go_wp2_with fail
          refine (hl.out _).mono ?_
          rintro e w7 ⟨rfl, hs7⟩
          have hw7 := Lib.hid (hs.out.trans hs7)
          clear hs7 hs
          go_wp2
          go_ret
          exact ⟨rfl, s0.out.trans hw7.out⟩
    · have hzE : ((E : Int) != 0) = true := by simp; omega
      go_wp2_with fail
      refine (hl.out _).mono ?_
      rintro e w7 ⟨rfl, hs⟩
      replace s0 := Lib.hid (s0.out.trans hs)
      replace sb := Lib.hid (sb.out.trans hs)
      replace sk := Lib.hid (sk.out.trans hs)
      clear hs
      go_wp2
      go_ret
      exact ⟨rfl, s0.out⟩
end Go.Proofs.Ytgdkhiihdoekaaa
