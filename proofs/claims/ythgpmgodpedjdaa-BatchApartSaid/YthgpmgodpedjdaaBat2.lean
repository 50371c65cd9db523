/-
  Batches, the document's: which are plain, which are the same.
-/
import Derived.Test.YthgpmgodpedjdaaBat1
import Derived.Test.YthgpmgodpedjdaaSha3
namespace Go.Proofs.Ythgpmgodpedjdaa
open Go Go.RowKit
set_option linter.unusedSimpArgs false
set_option linter.unusedVariables false

instance : DecidableEq Req := fun a b => decidable_of_iff (Req.same a b = true) (Req.same_iff a b)
theorem bat_info (b : BatV) : (Try.prog.info? 24).map (·.size) = some b.cells.toArray.size := by
  show _ = some 2
  kernel_rfl
theorem bat_one (b : BatV) : b.cells.toArray.all (·.oneCell') = true := by simp [BatV.cells, Value.oneCell']
section
variable {w : World} {k T : Nat} {b : BatV} (h : w.heap[k]? = some (.cells b.cells.toArray T (0, 0)))
include h
theorem bat_noop : w.cell? ⟨k, 0, none⟩ = some (.bool b.noop) := by rw [blk_cell h]; rfl
theorem bat_reqs : w.cell? ⟨k, 1, none⟩ = some (.slice b.ao b.reqs.length b.c) := by rw [blk_cell h]; rfl
end
/-- A plain batch: at most four requests, which may be read again. -/
structure BatV.plain (b : BatV) : Prop where
  len : b.reqs.length ≤ 4
  noop : b.noop = true → b.reqs = []
  el : ∀ r ∈ b.reqs, 0 ≤ r.client ∧ r.client ≤ 8 ∧ 0 ≤ r.num ∧ r.num ≤ 1099511627776 ∧ r.data.size ≤ 64
set_option maxRecDepth 100000 in
set_option maxHeartbeats 1600000 in
theorem rplain_any (b : BatV) (w : World) (h : b.at w) :
    Calls Try.prog 16 #[.agg b.cells.toArray] w fun e w' => ∃ P, e = .returned (.bool P) ∧ (P = true → b.plain) ∧ Same w w' := by
  have hinf := Lib.hid (bat_info b)
  have hinfZ := Lib.hid (req_info zeroReq_tag)
  have hcap := h.1.cap
  have hmost := h.1.most
  unfold maxLen at hmost
  obtain ⟨n, hn⟩ : ∃ n, n = b.reqs.length := ⟨_, rfl⟩
  rw [← hn] at hcap
  have hn0 : (0 < (n : Int)) ∨ n = 0 := by omega
  replace h := Lib.hid h
  replace hn := Lib.hid hn
  by_cases h4 : 4 < n
  · have h4' : 4 < (n : Int) := by omega
    go_enter Try.func16, Try.ntmps16
    go_upto_region 1 with (refine box_row rfl _ _ rfl _ rfl hinf.out ?_; intro w0 hbx hs0; have c0 := bat_noop hbx; have c1 := bat_reqs hbx; rw [← hn.out] at c1; clear hbx; replace hs0 := Lib.hid hs0)
    go_wp2
    go_ret
    exact ⟨false, rfl, by simp, hs0.out⟩
  · have h4' : (n : Int) ≤ 4 := by omega
    by_cases hno : b.noop = true ∧ 0 < n
    · obtain ⟨hno1, hno2⟩ := hno
      have hno3 : 0 < (n : Int) := by omega
      go_enter Try.func16, Try.ntmps16
      go_upto_region 1 with (refine box_row rfl _ _ rfl _ rfl hinf.out ?_; intro w0 hbx hs0; have c0 := bat_noop hbx; have c1 := bat_reqs hbx; rw [← hn.out] at c1; rw [hno1] at c0; clear hbx; replace hs0 := Lib.hid hs0)
      go_wp2
      go_ret
      exact ⟨false, rfl, by simp, hs0.out⟩
    · have hnop : b.noop = true → b.reqs = [] := by
        intro hb
        have : b.reqs.length = 0 := by
          rw [← hn.out]
          rcases Nat.eq_zero_or_pos n with h0 | h0
          · exact h0
          · exact absurd ⟨hb, h0⟩ hno
        exact List.eq_nil_of_length_eq_zero this
      have hgd : (b.noop = false) ∨ (b.noop = true ∧ n = 0) := by
        cases hb : b.noop
        · exact .inl rfl
        · refine .inr ⟨rfl, ?_⟩
          rcases Nat.eq_zero_or_pos n with h0 | h0
          · exact h0
          · exact absurd ⟨hb, h0⟩ hno
      replace hnop := Lib.hid hnop
      clear hno
      rcases hgd with hg | ⟨hg, hg0⟩
      · go_enter Try.func16, Try.ntmps16
        go_upto_region 1 with (refine box_row rfl _ _ rfl _ rfl hinf.out ?_; intro w0 hbx hs0; have c0 := bat_noop hbx; have c1 := bat_reqs hbx; rw [← hn.out] at c1; rw [hg] at c0; clear hbx; replace hs0 := Lib.hid hs0)
        go_wp2
        replace c1 := Lib.hid c1
        go_loopw [3] (fun i wr => ∃ k : Nat, k ≤ n ∧ i = .int .i64 k ∧ (∀ j, j < k → 0 ≤ (reqAt b.reqs j).client ∧ (reqAt b.reqs j).client ≤ 8 ∧ 0 ≤ (reqAt b.reqs j).num ∧ (reqAt b.reqs j).num ≤ 1099511627776 ∧ (reqAt b.reqs j).data.size ≤ 64) ∧ Same w0 wr) (fun i _ => n - (intOf i).toNat)
        case atStart => exact ⟨0, by omega, rfl, fun j hj => by omega, Same.refl⟩
        case round =>
          obtain ⟨k, hk, rfl, hin, hs⟩ := hrel
          have d1 := hs.cell c1.out
          by_cases hlt : k < n
          · obtain ⟨bk, off, hao, hbl, hrange⟩ := BatV.range (w := w) (b := b) h.out (i := k) (by rw [← hn.out]; exact hlt)
            rw [hao] at d1
            clear hao
            have hr2 := (hs0.out.trans hs).range hrange
            have hrt := (h.out.2 _ (reqAt_mem (l := b.reqs) (i := k) (by rw [← hn.out]; exact hlt))).1.1
            obtain ⟨R, hR⟩ : ∃ R, R = reqAt b.reqs k := ⟨_, rfl⟩
            rw [← hR] at hr2 hrt
            have hinfL := Lib.hid (req_infoL hrt)
            have hinfR := Lib.hid (req_info hrt)
            have hsz := Lib.hid (req_sizes (r := zeroReq) rfl hrt)
            have q0 : 0 ≤ (k : Int) := by omega
            have q1 : (k : Int) < (n : Int) := by omega
            clear hrange hbl
            replace hr2 := Lib.hid hr2
            replace hrt := Lib.hid hrt
            replace hin := Lib.hid hin
            replace hs := Lib.hid hs
            replace hR := Lib.hid hR
            go_upto_region 7 with (first | (refine load_mid rfl _ _ rfl bk (off + k * 19) rfl R.cells _ hr2.out Try.underlying44 rfl hinfL.out ?_) | (refine alloc_new rfl 44 rfl zeroReq.cells.toArray (by kernel_rfl) ?_; intro w2 hd hs2; have hdl := blk_lt hd; replace hd := Lib.hid hd; replace hs2 := Lib.hid hs2) | (refine store_row rfl _ _ _ rfl wr.heap.size _ rfl rfl _ _ hd.out hinfR.out hsz.out (req_one _) ?_; intro w3 hd3 hk3))
            have hs3 : Same wr w3 := hs2.out.keep hk3 (fun x hx hv => by omega)
            have e0 := req_client hd3
            have e1 := req_num hd3
            have e2 := req_data hd3
            have hw3 := Lib.hid (hs.out.trans hs3)
            obtain ⟨c, hc⟩ : ∃ c, c = R.client := ⟨_, rfl⟩
            obtain ⟨m, hm⟩ : ∃ m, m = R.num := ⟨_, rfl⟩
            obtain ⟨d, hd'⟩ : ∃ d, d = R.data := ⟨_, rfl⟩
            rw [← hc] at e0
            rw [← hm] at e1
            rw [← hd'] at e2
            clear hk3 hs2 hs hd hd3 hs3 d1
            replace hc := Lib.hid hc
            replace hm := Lib.hid hm
            replace hd' := Lib.hid hd'
            go_simp
            rcases (show c < 0 ∨ 0 ≤ c ∧ 8 < c ∨ 0 ≤ c ∧ c ≤ 8 ∧ m < 0 ∨ 0 ≤ c ∧ c ≤ 8 ∧ 0 ≤ m ∧ 1099511627776 < m ∨ 0 ≤ c ∧ c ≤ 8 ∧ 0 ≤ m ∧ m ≤ 1099511627776 ∧ 64 < (d.size : Int) ∨ 0 ≤ c ∧ c ≤ 8 ∧ 0 ≤ m ∧ m ≤ 1099511627776 ∧ (d.size : Int) ≤ 64 by omega) with v1 | ⟨v1, v2⟩ | ⟨v1, v2, v3⟩ | ⟨v1, v2, v3, v4⟩ | ⟨v1, v2, v3, v4, v5⟩ | ⟨v1, v2, v3, v4, v5⟩
            · go_wp2
              go_ret
              exact ⟨false, rfl, by simp, hs0.out.trans hw3.out⟩
            · go_wp2
              go_ret
              exact ⟨false, rfl, by simp, hs0.out.trans hw3.out⟩
            · go_wp2
              go_ret
              exact ⟨false, rfl, by simp, hs0.out.trans hw3.out⟩
            · go_wp2
              go_ret
              exact ⟨false, rfl, by simp, hs0.out.trans hw3.out⟩
            · go_wp2
              go_ret
              exact ⟨false, rfl, by simp, hs0.out.trans hw3.out⟩
            · have hd5 : decide (64 < (d.size : Int)) = false := decide_eq_false (by omega)
              have hnew : ∀ j, j < k + 1 → 0 ≤ (reqAt b.reqs j).client ∧ (reqAt b.reqs j).client ≤ 8 ∧ 0 ≤ (reqAt b.reqs j).num ∧ (reqAt b.reqs j).num ≤ 1099511627776 ∧ (reqAt b.reqs j).data.size ≤ 64 := by
                intro j hj
                by_cases hjk : j < k
                · exact hin.out j hjk
                · obtain rfl : j = k := by omega
                  rw [← hR.out, ← hc.out, ← hm.out, ← hd'.out]
                  exact ⟨v1, v2, v3, v4, by omega⟩
              replace hnew := Lib.hid hnew
              go_wp2
              go_roundw
              case rel => exact ⟨k + 1, by omega, by go_num, hnew.out, hw3.out⟩
              case measure => simp [intOf]; omega
          · obtain rfl : k = n := by omega
            have hpl : b.plain := ⟨by rw [← hn.out]; omega, hnop.out, fun r hr => by
              obtain ⟨i, hi, rfl⟩ := List.getElem_of_mem hr
              have := hin i (by rw [hn.out]; exact hi)
              simpa [reqAt, List.getD, hi] using this⟩
            clear hin
            replace hpl := Lib.hid hpl
            replace hs := Lib.hid hs
            go_wp2
            go_ret
            exact ⟨true, rfl, fun _ => hpl.out, hs0.out.trans hs.out⟩
      · subst hg0
        have hpl : b.plain := ⟨by rw [← hn.out]; omega, hnop.out, fun r hr => by
          have : b.reqs = [] := hnop.out hg
          rw [this] at hr
          cases hr⟩
        replace hpl := Lib.hid hpl
        go_enter Try.func16, Try.ntmps16
        go_upto_region 1 with (refine box_row rfl _ _ rfl _ rfl hinf.out ?_; intro w0 hbx hs0; have c0 := bat_noop hbx; have c1 := bat_reqs hbx; rw [← hn.out] at c1; rw [hg] at c0; clear hbx; replace hs0 := Lib.hid hs0)
        go_wp2
        go_loopw [3] (fun i wr => i = .int .i64 0 ∧ w0 = wr) (fun _ _ => 0)
        case atStart => exact ⟨rfl, rfl⟩
        case round =>
          obtain ⟨rfl, rfl⟩ := hrel
          go_wp2
          go_ret
          exact ⟨true, rfl, fun _ => hpl.out, hs0.out⟩
def batSame (a b : BatV) : Bool := decide (a.noop = b.noop) && decide (a.reqs = b.reqs)
end Go.Proofs.Ythgpmgodpedjdaa
