/-
  When the document's epochs are the same; the law's 'Of'.
-/
import Derived.Test.YtmacgmmjgdmleaaEpLives
namespace Go.Proofs.Ytmacgmmjgdmleaa
open Go Go.RowKit
set_option linter.unusedSimpArgs false
set_option linter.unusedVariables false

set_option maxRecDepth 100000 in
set_option maxHeartbeats 400000 in
theorem of_any (c : Cfg) (number start : Int) (ao : Option Addr) (len cap : Nat) (w : World) :
    Calls Try.prog 55 #[.agg (epC c number start ao len cap).toArray] w fun e w' => e = .returned (.agg (epC c number start ao len cap).toArray) ∧ Same w w' := by
  have hinf := Lib.hid (ep_info c number start ao len cap)
  have hinfR := Lib.hid (rep_info c number start ao len cap)
  go_enter Try.func55, Try.ntmps55
  go_wp2_with (first | (refine box_row rfl _ _ rfl _ rfl hinf.out ?_; intro w0 hbx hs0; have hbxl := blk_lt hbx; replace hbx := Lib.hid hbx; replace hs0 := Lib.hid hs0) | (refine alloc_new rfl 125 rfl (epC zeroCfg 0 0 none 0 0).toArray (by kernel_rfl) ?_; intro w1 hd hs1; have hbx1 := (hs1.block _ hbxl).trans hbx.out; replace hd := Lib.hid hd; replace hs1 := Lib.hid hs1; replace hbx1 := Lib.hid hbx1) | (refine load_row rfl _ _ rfl w.heap.size rfl _ _ _ _ hbx1.out Try.underlying124 rfl hinf.out ?_) | (refine store_row rfl _ _ _ rfl w0.heap.size _ rfl rfl _ _ hd.out hinfR.out rfl (ep_one _ _ _ _ _ _) ?_; intro w2 hb2 hk2; replace hb2 := Lib.hid hb2; replace hk2 := Lib.hid hk2))
  refine bodyPost_ret (v := .agg (epC c number start ao len cap).toArray) (results_row (p := 2) (ty := 125) rfl _ _ w0.heap.size _ _ _ _ rfl hb2.out Try.underlying125 rfl hinfR.out) rfl ?_
  exact ⟨rfl, (hs0.out.trans hs1.out).keep hk2.out (fun x hx hv => by have := hs0.out.size; omega)⟩
def esame (a b : EpV) : Bool := Cfg.same a.cfg b.cfg && (decide (a.number = b.number) && (decide (a.start = b.start) && decide (a.leaders = b.leaders)))
theorem esame_self (a : EpV) : esame a a = true := by simp [esame, Cfg.same_self]
set_option maxRecDepth 100000 in
set_option maxHeartbeats 1600000 in
theorem rsame_any (a b : EpV) (ao : Option Addr) (ac : Nat) (bo : Option Addr) (bc : Nat) (w : World) (ha : Sl w 1 ao a.leaders.length ac (iv a.leaders)) (hb : Sl w 1 bo b.leaders.length bc (iv b.leaders)) (wa : a.cfg.wf) (wb : b.cfg.wf) :
    Calls Try.prog 59 #[.agg (epC a.cfg a.number a.start ao a.leaders.length ac).toArray, .agg (epC b.cfg b.number b.start bo b.leaders.length bc).toArray] w fun e w' => e = .returned (.bool (esame a b)) ∧ Same w w' := by
  obtain ⟨c, na, sa, la⟩ := a
  obtain ⟨d, nb, sb, lb⟩ := b
  simp only at ha hb wa wb ⊢
  have hinfA := Lib.hid (rep_info c na sa ao la.length ac)
  have hinfB := Lib.hid (rep_info d nb sb bo lb.length bc)
  have hinfL := Lib.hid (cfg_infoL c)
  have hinfM := Lib.hid (cfg_infoL d)
  have hce := fun w => cfg_eql c d wa wb w
  have hii := fun w h1 h2 => ints_any ao la.length ac la bo lb.length bc lb w h1 h2
  unfold esame
  simp only
  obtain ⟨q, hq⟩ : ∃ q, q = Cfg.same c d := ⟨_, rfl⟩
  obtain ⟨r, hr⟩ : ∃ r, r = decide (la = lb) := ⟨_, rfl⟩
  rw [← hq] at hce ⊢
  rw [← hr] at hii ⊢
  obtain ⟨R, hR⟩ : ∃ R, R = (q && (decide (na = nb) && (decide (sa = sb) && r))) := ⟨_, rfl⟩
  rw [← hR]
  clear hq hr wa wb
  replace hce := Lib.hid hce
  replace hii := Lib.hid hii
  replace ha := Lib.hid ha
  replace hb := Lib.hid hb
  have key : ∀ h : q = false ∨ q = true ∧ na ≠ nb ∨ q = true ∧ na = nb ∧ sa ≠ sb ∨ q = true ∧ na = nb ∧ sa = sb, Calls Try.prog 59 #[.agg (epC c na sa ao la.length ac).toArray, .agg (epC d nb sb bo lb.length bc).toArray] w fun e w' => e = .returned (.bool R) ∧ Same w w' := by
    intro h
    rcases h with h | ⟨h, h1⟩ | ⟨h, h1, h2⟩ | ⟨h, h1, h2⟩
    all_goals
      first
        | (have hR2 : R = false := by rw [hR, h]; rfl)
        | (have hR2 : R = false := by rw [hR, h, decide_eq_false h1]; rfl)
        | (have hR2 : R = false := by rw [hR, h, decide_eq_true h1, decide_eq_false h2]; rfl)
        | (have hR2 : R = r := by rw [hR, h, decide_eq_true h1, decide_eq_true h2]; rfl)
      first
        | (have e1 : (na == nb) = true := by simp [h1])
        | (have e1 : (na == nb) = false := by simpa using h1)
        | skip
      first
        | (have e2 : (sa == sb) = true := by simp [h2])
        | (have e2 : (sa == sb) = false := by simpa using h2)
        | skip
      rw [h] at hce
      clear hR h
      try clear h1
      try clear h2
      replace hR2 := Lib.hid hR2
      replace hce := Lib.hid hce
      go_enter Try.func59, Try.ntmps59
      go_upto_region 1 with (first | (refine box_row rfl _ _ rfl (epC c na sa ao la.length ac).toArray rfl hinfA.out ?_; intro w0 hbx hs0; have hbxl := blk_lt hbx; replace hbx := Lib.hid hbx; replace hs0 := Lib.hid hs0) | (refine box_row rfl _ _ rfl (epC d nb sb bo lb.length bc).toArray rfl hinfB.out ?_; intro w1 hd hs1; replace hd := Lib.hid hd; replace hs1 := Lib.hid hs1))
      have hbx1 := (hs1.out.block _ hbxl).trans hbx.out
      have hw1 := Lib.hid (hs0.out.trans hs1.out)
      have ra := Lib.hid (ep_cfg hbx1)
      have rb := Lib.hid (ep_cfg hd.out)
      have a1 := ep_number hbx1
      have a2 := ep_start hbx1
      have a3 := ep_leaders hbx1
      have d1 := ep_number hd.out
      have d2 := ep_start hd.out
      have d3 := ep_leaders hd.out
      have hce' := hce.out.out
      have hgd := cfg_guard
      have hi1 := Lib.hid (hii.out _ (ha.out.same hw1.out) (hb.out.same hw1.out))
      clear hbx hs0 hs1 hbx1 hd
      first
        | (go_wp2_with (first | (refine load_mid rfl _ _ rfl w.heap.size 0 rfl c.cells _ ra.out Try.underlying68 rfl hinfL.out ?_) | (refine load_mid rfl _ _ rfl w0.heap.size 0 rfl d.cells _ rb.out Try.underlying68 rfl hinfM.out ?_))
           refine hi1.out.mono ?_
           rintro e w2 ⟨rfl, hs2⟩
           go_wp2
           go_ret
           exact ⟨by rw [hR2.out]; rfl, hw1.out.trans hs2⟩)
        | (go_wp2_with (first | (refine load_mid rfl _ _ rfl w.heap.size 0 rfl c.cells _ ra.out Try.underlying68 rfl hinfL.out ?_) | (refine load_mid rfl _ _ rfl w0.heap.size 0 rfl d.cells _ rb.out Try.underlying68 rfl hinfM.out ?_))
           go_ret
           exact ⟨by rw [hR2.out]; rfl, hw1.out⟩)
  refine key ?_
  cases hqb : q
  · exact .inl rfl
  · by_cases h1 : na = nb
    · by_cases h2 : sa = sb
      · exact .inr (.inr (.inr ⟨rfl, h1, h2⟩))
      · exact .inr (.inr (.inl ⟨rfl, h1, h2⟩))
    · exact .inr (.inl ⟨rfl, h1⟩)
end Go.Proofs.Ytmacgmmjgdmleaa
