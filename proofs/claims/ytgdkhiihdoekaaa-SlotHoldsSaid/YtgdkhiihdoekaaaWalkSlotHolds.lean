/-
  The walk of the law SlotHolds: what is held is what was accepted in that very view, with that very cert; any other cert of prepares is refused.
-/
-- @law int, rep bat, rep bat, rep cert
import Derived.Test.YtgdkhiihdoekaaaSlot4
namespace Go.Proofs.Ytgdkhiihdoekaaa
open Go Go.RowKit
set_option linter.unusedSimpArgs false
set_option linter.unusedVariables false

set_option maxRecDepth 100000
def firstS (view : Int) (b : BatV) : SlotV := { zeroSlot with is := true, view := view, bat := b }
theorem firstS_acc (view : Int) (b : BatV) (h : 0 ≤ view) : zeroSlot.accept view b = (firstS view b, 0) := by
  unfold SlotV.accept
  rw [if_neg (by simp [zeroSlot]; omega), if_neg (by simp [zeroSlot])]
  rfl
theorem firstS_again (view : Int) (b o : BatV) (h : 0 ≤ view) : (firstS view b).accept view o = if bDig b = bDig o then (firstS view b, 0) else (zeroSlot, 181) := by
  unfold SlotV.accept
  rw [if_neg (by simp [firstS]; omega), if_pos (by simp [firstS])]
  rfl
theorem firstS_at {w : World} {view : Int} {b : BatV} (hv : (Lit.int .i64 view).wf = true) (h : b.at w) : (firstS view b).at w := ⟨hv, (by show (Lit.int .i64 0).wf = true; decide), h, zeroBat_at' w, zeroCert_at w, zeroBat_at' w, zeroCert_at w⟩
theorem firstS_wf (view : Int) (b : BatV) : (firstS view b).wf := zeroSlot_wf
def heldS (view : Int) (b : BatV) (c : CertV) : SlotV := { firstS view b with holds := true, hbat := b, hcert := c }
/-- What is held, and when. -/
theorem firstS_hold (view : Int) (b : BatV) (c : CertV) : (c.vote.kind = 1 ∧ c.vote.view = view ∧ c.vote.dig = bDig b ∧ (firstS view b).hold c = (heldS view b c, 0)) ∨
    (¬ (c.vote.kind = 1 ∧ c.vote.view = view ∧ c.vote.dig = bDig b) ∧ ∃ e : Nat, e ≠ 0 ∧ (firstS view b).hold c = (zeroSlot, e)) := by
  unfold SlotV.hold
  by_cases h1 : c.vote.kind = 1
  · by_cases h2 : c.vote.view = view
    · by_cases h3 : c.vote.dig = bDig b
      · refine .inl ⟨h1, h2, h3, ?_⟩
        rw [if_neg (by simp [h1]), if_neg (by simp [firstS, h2]), if_neg (by simp [firstS, h3]), if_neg (by simp [firstS, zeroSlot])]
        rfl
      · exact .inr ⟨fun h => h3 h.2.2, 181, by decide, by rw [if_neg (by simp [h1]), if_neg (by simp [firstS, h2]), if_pos (by simpa [firstS] using h3)]⟩
    · exact .inr ⟨fun h => h2 h.2.1, 180, by decide, by rw [if_neg (by simp [h1]), if_pos (by simp [firstS]; exact fun h => h2 h.symm)]⟩
  · exact .inr ⟨fun h => h1 h.1, 181, by decide, by rw [if_pos h1]⟩
set_option maxRecDepth 100000 in
set_option maxHeartbeats 12800000 in
theorem walk_SlotHolds (w : World) (view : Int) (hvw : (Lit.int .i64 view).wf = true) (b : BatV) (hb : b.at w) (o : BatV) (ho : o.at w) (c : CertV) (hc : c.at w) :
    Calls Try.prog 4 #[.int .i64 view, .agg b.cells.toArray, .agg o.cells.toArray, .agg c.cells.toArray] w fun e w' => e = .returned (.bool true) ∧ Same w w' := by
  have hl := Lib.hid lives18
  have hinfB := Lib.hid (bat_info b)
  have hinfO := Lib.hid (bat_info o)
  have hinfC := Lib.hid (cert_info hc.1)
  obtain ⟨n, hn⟩ : ∃ n, n = c.signs.length := ⟨_, rfl⟩
  replace hn := Lib.hid hn
  replace hb := Lib.hid hb
  replace ho := Lib.hid ho
  replace hc := Lib.hid hc
  go_enter Try.func4, Try.ntmps4
  go_upto_region 1 with (first | (refine box_row rfl _ _ rfl b.cells.toArray rfl hinfB.out ?_; intro w0 hbb hs0; have l0 := blk_lt hbb; replace hbb := Lib.hid hbb; replace hs0 := Lib.hid hs0) | (refine box_row rfl _ _ rfl o.cells.toArray rfl hinfO.out ?_; intro w1 hbo hs1; have l1 := blk_lt hbo; replace hbo := Lib.hid hbo; replace hs1 := Lib.hid hs1) | (refine box_row rfl _ _ rfl c.cells.toArray rfl hinfC.out ?_; intro w2 hbc hs2; have l2 := blk_lt hbc; replace hbc := Lib.hid hbc; replace hs2 := Lib.hid hs2))
  have s0 := Lib.hid (hs0.out.trans (hs1.out.trans hs2.out))
  have sb := Lib.hid (hs1.out.trans hs2.out)
  have so := hs2
  have sc := Lib.hid (Same.refl (w := w2))
  clear hs0 hs1 hs2
  go_wp2_with (first | (refine load_row rfl _ _ rfl w.heap.size rfl _ _ _ _ (sb.out.at hbb.out) Try.underlying24 rfl hinfB.out ?_) | (refine load_row rfl _ _ rfl w0.heap.size rfl _ _ _ _ (so.out.at hbo.out) Try.underlying24 rfl hinfO.out ?_) | (refine build_sl (W' := w2.alloc (.cells (bvs [b, o]).toArray 24)) (.slice (some ⟨w2.heap.size, 0, none⟩) 2 2) rfl rfl (by kernel_rfl) ?_))
  have hlt := light7_any (some ⟨w2.heap.size, 0, none⟩) 2 2 [b, o] (w2.alloc (.cells (bvs [b, o]).toArray 24)) (bvs_box [b, o] 2 rfl (by unfold maxLen; omega)) rfl (by
    intro x hx
    have hw : Same w (w2.alloc (.cells (bvs [b, o]).toArray 24)) := s0.out.trans (Same.refl.alloc _)
    simp only [List.mem_cons, List.not_mem_nil, or_false] at hx
    rcases hx with rfl | rfl
    · exact BatV.same hb.out hw
    · exact BatV.same ho.out hw)
  refine hlt.mono ?_
  rintro e w3 ⟨L, rfl, hL, hs'⟩
  have hs : Same w2 w3 := (Same.refl.alloc _).trans hs'
  clear hs' hlt
  replace s0 := Lib.hid (s0.out.trans hs)
  replace sb := Lib.hid (sb.out.trans hs)
  replace so := Lib.hid (so.out.trans hs)
  replace sc := Lib.hid (sc.out.trans hs)
  clear hs
  replace hL := Lib.hid hL
  cases L
  · clear hL
    go_wp2_with fail
    refine (hl.out _).mono ?_
    rintro e w4 ⟨rfl, hs⟩
    replace s0 := Lib.hid (s0.out.trans hs)
    replace sb := Lib.hid (sb.out.trans hs)
    replace so := Lib.hid (so.out.trans hs)
    replace sc := Lib.hid (sc.out.trans hs)
    clear hs
    go_wp2
    go_ret
    exact ⟨rfl, s0.out⟩
  · have smb := hL.out rfl b (by simp)
    have smo := hL.out rfl o (by simp)
    clear hL
    replace smb := Lib.hid smb
    replace smo := Lib.hid smo
    have c36 := ce_signs (sc.out.at hbc.out) hc.out.1
    rw [← hn.out] at c36
    by_cases h100 : (n : Int) ≤ 100
    · have h100' : Decidable.decide (100 < (n : Int)) = false := decide_eq_false (by omega)
      by_cases hv0 : view < 0
      · have hv0' : Decidable.decide (view < 0) = true := decide_eq_true hv0
        go_wp2_with fail
        refine (hl.out _).mono ?_
        rintro e w4 ⟨rfl, hs⟩
        replace s0 := Lib.hid (s0.out.trans hs)
        replace sb := Lib.hid (sb.out.trans hs)
        replace so := Lib.hid (so.out.trans hs)
        replace sc := Lib.hid (sc.out.trans hs)
        clear hs
        go_wp2
        go_ret
        exact ⟨rfl, s0.out⟩
      · have hv0' : Decidable.decide (view < 0) = false := decide_eq_false hv0
        have hv1 : 0 ≤ view := by omega
        have hZ0 : zeroSlot.cells.toArray = Try.zeroCells40 := by kernel_rfl
        have hacc := fun (w : World) (h : b.at w) => acc_any zeroSlot view b w (zeroSlot_at w) h zeroBat_small smb.out
        rw [firstS_acc view b hv1] at hacc
        have hhold := fun (w : World) (hs : (firstS view b).at w) (hc : c.at w) => hold_any (firstS view b) c w hs hc smb.out
        have hcases := firstS_hold view b c
        have hacc1 := fun (w : World) (hs : (firstS view b).at w) (h : o.at w) => acc_any (firstS view b) view o w hs h smb.out smo.out
        rw [firstS_again view b o hv1] at hacc1
        have hS0 : (firstS view b).at w := firstS_at hvw hb.out
        have hSb : (firstS view b).bat = b := rfl
        have hHb : (heldS view b c).hbat = b := rfl
        have hHh : (heldS view b c).holds = true := rfl
        have hHc : (heldS view b c).hcert = c := rfl
        have hHw : (heldS view b c).wf := ⟨hc.out.1, zeroVote_wf⟩
        have hSw := firstS_wf view b
        obtain ⟨S, hS⟩ : ∃ S, S = firstS view b := ⟨_, rfl⟩
        obtain ⟨X, hX⟩ : ∃ S, S = heldS view b c := ⟨_, rfl⟩
        rw [← hS] at hacc hhold hcases hacc1 hS0 hSb hSw
        rw [← hX] at hcases hHb hHh hHc hHw
        unfold RetSlot at hacc hhold hacc1
        simp only at hacc
        rw [hZ0] at hacc
        have hsame := fun w h1 h2 => rbsame_any b b w h1 h2
        rw [batSame_self] at hsame
        have hdb := fun w h => rbdig_any b w h smb.out
        have hdo := fun w h => rbdig_any o w h smo.out
        have hDb := bDig_length b
        have hDo := bDig_length o
        have hinfS := slot_info hSw
        have hinfX := slot_info hHw
        have hinfZ := slot_info zeroSlot_wf
        have szS := slot_size zeroSlot_wf hSw
        have szX := slot_size zeroSlot_wf hHw
        rw [hZ0] at szS szX hinfZ
        have oZ := slot_one zeroSlot
        rw [hZ0] at oZ
        have heqV := fun w => vote_neq c.vote c.vote hc.out.1 hc.out.1 w
        rw [(VoteV.same_iff _ _).2 rfl] at heqV
        have hvgd := vote_guard
        have hinfV := vote_infoL hc.out.1
        obtain ⟨Db, hDbe⟩ : ∃ D, D = bDig b := ⟨_, rfl⟩
        obtain ⟨Do, hDoe⟩ : ∃ D, D = bDig o := ⟨_, rfl⟩
        rw [show batDig b.noop b.reqs = Db from hDbe.symm] at hdb
        rw [show batDig o.noop o.reqs = Do from hDoe.symm] at hdo
        rw [← hDbe] at hcases hacc1 hDb
        rw [← hDoe] at hacc1 hDo
        have heqD := fun w => dig_eql Do Db hDo hDb w
        have hgd := dig_guard
        have hdl := hc.out.1.1
        have heqC := fun w => dig_eql c.vote.dig Db hdl hDb w
        have hinfD : (Try.prog.info? 29).map (·.size) = some (bv c.vote.dig).length := by rw [bv_length, hdl]; kernel_rfl
        obtain ⟨q, hq⟩ : ∃ q, q = (Do == Db) := ⟨_, rfl⟩
        rw [← hq] at heqD
        -- the second answer, its cells and its code
        have hA2 : ∃ A2 : Array Value × Int, (∀ w, S.at w → o.at w → Calls Try.prog 22 #[.agg S.cells.toArray, .int .i64 view, .agg o.cells.toArray] w fun e w' => e = .returned (.tuple #[.agg A2.1, .int .i64 A2.2]) ∧ Same w w') ∧ (A2.2 == 0) = q ∧ (Try.prog.info? 40).map (·.size) = some A2.1.size ∧ (Try.zeroCells40).size = A2.1.size ∧ A2.1.all (·.oneCell') = true := by
          by_cases e : Db = Do
          · refine ⟨(S.cells.toArray, 0), fun w h1 h2 => ?_, by rw [hq, e]; simp, hinfS, szS, slot_one S⟩
            have := hacc1 w h1 h2
            rw [if_pos e] at this
            exact this
          · refine ⟨(Try.zeroCells40, 181), fun w h1 h2 => ?_, by rw [hq]; simp; exact fun h => e h.symm, hinfZ, rfl, oZ⟩
            have := hacc1 w h1 h2
            rw [if_neg e] at this
            simp only at this
            rw [hZ0] at this
            exact this
        obtain ⟨A2, hacc2, hA2q, hA2i, hA2s, hA2o⟩ := hA2
        clear hacc1 hDbe hDoe hDb hDo hdl hq hZ0 oZ hS hX h100 hv0 c36
        replace hacc := Lib.hid hacc
        replace hhold := Lib.hid hhold
        replace hcases := Lib.hid hcases
        replace hacc2 := Lib.hid hacc2
        replace hA2q := Lib.hid hA2q
        replace hA2i := Lib.hid hA2i
        replace hA2s := Lib.hid hA2s
        replace hA2o := Lib.hid hA2o
        replace hS0 := Lib.hid hS0
        replace hSb := Lib.hid hSb
        replace hHb := Lib.hid hHb
        replace hHh := Lib.hid hHh
        replace hHc := Lib.hid hHc
        replace hHw := Lib.hid hHw
        replace hSw := Lib.hid hSw
        replace hsame := Lib.hid hsame
        replace hdb := Lib.hid hdb
        replace hdo := Lib.hid hdo
        replace hinfS := Lib.hid hinfS
        replace hinfX := Lib.hid hinfX
        replace hinfZ := Lib.hid hinfZ
        replace szS := Lib.hid szS
        replace szX := Lib.hid szX
        replace heqV := Lib.hid heqV
        replace hvgd := Lib.hid hvgd
        replace hinfV := Lib.hid hinfV
        replace heqD := Lib.hid heqD
        replace hgd := Lib.hid hgd
        replace heqC := Lib.hid heqC
        replace hinfD := Lib.hid hinfD
        have c36 := ce_signs (sc.out.at hbc.out) hc.out.1
        rw [← hn.out] at c36
        go_wp2_with (refine load_row rfl _ _ rfl w.heap.size rfl _ _ _ _ (sb.out.at hbb.out) Try.underlying24 rfl hinfB.out ?_)
        refine (hacc.out _ (BatV.same hb.out s0.out)).mono ?_
        rintro e w5 ⟨rfl, hs⟩
        replace s0 := Lib.hid (s0.out.trans hs)
        replace sb := Lib.hid (sb.out.trans hs)
        replace so := Lib.hid (so.out.trans hs)
        replace sc := Lib.hid (sc.out.trans hs)
        clear hs c36
        go_upto_region 4 with (first | (refine alloc_new rfl 40 rfl Try.zeroCells40 (by kernel_rfl) ?_; intro w6 hz hs6; have l6 := blk_lt hz; replace hz := Lib.hid hz; replace hs6 := Lib.hid hs6) | (refine store_row rfl _ _ _ rfl w5.heap.size S.cells.toArray rfl rfl _ _ hz.out hinfS.out szS.out (slot_one S) ?_; intro w7 rS hk7; replace rS := Lib.hid rS; replace hk7 := Lib.hid hk7))
        have hs : Same w5 w7 := hs6.out.keep hk7.out (fun x hx hv => by omega)
        replace s0 := Lib.hid (s0.out.trans hs)
        replace sb := Lib.hid (sb.out.trans hs)
        replace so := Lib.hid (so.out.trans hs)
        replace sc := Lib.hid (sc.out.trans hs)
        have sS := Lib.hid (Same.refl (w := w7))
        clear hs hk7 hs6 hz
        have rSb : w7.rangeAt w5.heap.size 1 b.cells := by have := sl_bat rS.out; rw [hSb.out] at this; exact this
        replace rSb := Lib.hid rSb
        have hinfb := Lib.hid (bat_infoL b)
        go_wp2_with (first | (refine load_mid rfl _ _ rfl w5.heap.size 1 rfl b.cells _ rSb.out Try.underlying24 rfl hinfb.out ?_) | (refine load_row rfl _ _ rfl w.heap.size rfl _ _ _ _ (sb.out.at hbb.out) Try.underlying24 rfl hinfB.out ?_))
        refine (hsame.out _ (BatV.same hb.out s0.out) (BatV.same hb.out s0.out)).mono ?_
        rintro e w8 ⟨rfl, hs⟩
        replace s0 := Lib.hid (s0.out.trans hs)
        replace sb := Lib.hid (sb.out.trans hs)
        replace so := Lib.hid (so.out.trans hs)
        replace sc := Lib.hid (sc.out.trans hs)
        replace sS := Lib.hid (sS.out.trans hs)
        clear hs
        go_wp2_with (first | (refine load_row rfl _ _ rfl w5.heap.size rfl _ _ _ _ (sS.out.at rS.out) Try.underlying40 rfl hinfS.out ?_) | (refine load_row rfl _ _ rfl w1.heap.size rfl _ _ _ _ (sc.out.at hbc.out) Try.underlying34 rfl hinfC.out ?_))
        refine (hhold.out _ (SlotV.same' hS0.out s0.out) (CertV.same' hc.out s0.out)).mono ?_
        rintro e w9 ⟨rfl, hs⟩
        replace s0 := Lib.hid (s0.out.trans hs)
        replace sb := Lib.hid (sb.out.trans hs)
        replace so := Lib.hid (so.out.trans hs)
        replace sc := Lib.hid (sc.out.trans hs)
        replace sS := Lib.hid (sS.out.trans hs)
        clear hs hhold hacc
        rcases hcases.out with ⟨k1, k2, k3, hh⟩ | ⟨hno, er, her, hh⟩
        · rw [hh]
          clear hh hcases
          have g1 : (c.vote.kind == 1) = true := by simpa using k1
          have g2 : (c.vote.view == view) = true := by simpa using k2
          have g3 : (c.vote.dig == Db) = true := by simpa using k3
          rw [g3] at heqC
          clear k1 k2 k3 g3
          replace g1 := Lib.hid g1
          replace g2 := Lib.hid g2
          go_upto_region 7 with (first | (refine alloc_new rfl 40 rfl Try.zeroCells40 (by kernel_rfl) ?_; intro w10 hz hs10; have l10 := blk_lt hz; replace hz := Lib.hid hz; replace hs10 := Lib.hid hs10) | (refine store_row rfl _ _ _ rfl w9.heap.size X.cells.toArray rfl rfl _ _ hz.out hinfX.out szX.out (slot_one X) ?_; intro w11 rX hk11; replace rX := Lib.hid rX; replace hk11 := Lib.hid hk11))
          have hs : Same w9 w11 := hs10.out.keep hk11.out (fun x hx hv => by omega)
          replace s0 := Lib.hid (s0.out.trans hs)
          replace sb := Lib.hid (sb.out.trans hs)
          replace so := Lib.hid (so.out.trans hs)
          replace sc := Lib.hid (sc.out.trans hs)
          replace sS := Lib.hid (sS.out.trans hs)
          clear hs hk11 hs10 hz
          have hb7 := Lib.hid (BatV.same hb.out s0.out)
          have k0 := Lib.hid (ce_kind (sc.out.at hbc.out))
          have k2 := Lib.hid (ce_view (sc.out.at hbc.out))
          have kd := Lib.hid (ce_dig (sc.out.at hbc.out))
          refine wp_region_last (by kernel_rfl) [(54, 0), (55, 1), (56, 2), (57, 3), (58, 4), (59, 5), (60, 6), (61, 7), (62, 8), (63, 9), (64, 10), (65, 11), (66, 12), (67, 13), (68, 14), (69, 15), (70, 16), (71, 17), (72, 18), (13, 19)] Same (Same _) [isV (.pointer (some ⟨w1.heap.size, 0, none⟩)), isV (.pointer (some ⟨w1.heap.size, 0, none⟩)), isV (.int .i64 c.vote.kind), isV (.bool true), isV (.bool true), isV (.pointer (some ⟨w1.heap.size, 0, none⟩)), isV (.pointer (some ⟨w1.heap.size, 2, none⟩)), isV (.int .i64 c.vote.view), isV (.int .i64 view), isV (.bool true), isV (.bool true), isV (.bool true), isV (.pointer (some ⟨w1.heap.size, 0, none⟩)), isV (.pointer (some ⟨w1.heap.size, 4, none⟩)), isV (.agg (bv c.vote.dig).toArray), isV (.agg b.cells.toArray), isV (.agg (bv Db).toArray), isV (.bool true), isV (.bool true)] Same.refl.drew (fun _ _ h k => h.trans k) (by simp [isV_stable, isB_stable, isAny_stable]) (by decide) (l := [_, _, _, _, _, _, _, _, _, _, _, _, _, _, _, _, _, _, _]) rfl (by decide) (by decide) ?_ ?_
          · refine ⟨?_, ?_, ?_, ?_, ?_, ?_, ?_, ?_, ?_, ?_, ?_, ?_, ?_, ?_, ?_, ?_, ?_, ?_, ?_, trivial⟩
            all_goals (intro u wx hI hp; simp only [mkAct, List.foldl_cons, List.foldl_nil, List.setIfInBounds_toArray, List.set_cons_succ, List.set_cons_zero])
            · -- operation 0
              go_wp2
              refine stq_v rfl Same.refl ?_
              first | (simp only [mkAct, List.foldl_cons, List.foldl_nil, List.setIfInBounds_toArray, List.set_cons_succ, List.set_cons_zero, upd, reduceIte, Nat.reduceEqDiff, Nat.reduceAdd, str]; done) | (simp [mkAct, upd, str, *]; done)
            · -- operation 1
              obtain ⟨f0, -⟩ := hp
              replace f0 : u 0 = (.pointer (some ⟨w1.heap.size, 0, none⟩)) := f0
              try simp only [f0, str]
              go_wp2
              refine stq_v rfl Same.refl ?_
              first | (simp only [mkAct, List.foldl_cons, List.foldl_nil, List.setIfInBounds_toArray, List.set_cons_succ, List.set_cons_zero, upd, reduceIte, Nat.reduceEqDiff, Nat.reduceAdd, f0, str]; done) | (simp [mkAct, upd, f0, str, *]; done)
            · -- operation 2
              obtain ⟨f1, -⟩ := hp
              replace f1 : u 1 = (.pointer (some ⟨w1.heap.size, 0, none⟩)) := f1
              try simp only [f1, str]
              have cx := hI.cell (k0.out)
              go_wp2
              refine stq_v rfl Same.refl ?_
              first | (simp only [mkAct, List.foldl_cons, List.foldl_nil, List.setIfInBounds_toArray, List.set_cons_succ, List.set_cons_zero, upd, reduceIte, Nat.reduceEqDiff, Nat.reduceAdd, f1, str]; done) | (simp [mkAct, upd, f1, str, *]; done)
            · -- operation 3
              obtain ⟨f2, -⟩ := hp
              replace f2 : u 2 = (.int .i64 c.vote.kind) := f2
              try simp only [f2, str]
              have hx := g1.out
              go_wp2
              refine stq_v rfl Same.refl ?_
              first | (simp only [mkAct, List.foldl_cons, List.foldl_nil, List.setIfInBounds_toArray, List.set_cons_succ, List.set_cons_zero, upd, reduceIte, Nat.reduceEqDiff, Nat.reduceAdd, f2, str]; done) | (simp [mkAct, upd, f2, str, *]; done)
            · -- operation 4
              obtain ⟨f3, -⟩ := hp
              replace f3 : u 3 = (.bool true) := f3
              try simp only [f3, str]
              go_wp2
              refine stq_v rfl Same.refl ?_
              first | (simp only [mkAct, List.foldl_cons, List.foldl_nil, List.setIfInBounds_toArray, List.set_cons_succ, List.set_cons_zero, upd, reduceIte, Nat.reduceEqDiff, Nat.reduceAdd, f3, str]; done) | (simp [mkAct, upd, f3, str, *]; done)
            · -- operation 5
              obtain ⟨f4, -⟩ := hp
              replace f4 : u 4 = (.bool true) := f4
              try simp only [f4, str]
              go_wp2
              refine stq_v rfl Same.refl ?_
              first | (simp only [mkAct, List.foldl_cons, List.foldl_nil, List.setIfInBounds_toArray, List.set_cons_succ, List.set_cons_zero, upd, reduceIte, Nat.reduceEqDiff, Nat.reduceAdd, f4, str]; done) | (simp [mkAct, upd, f4, str, *]; done)
            · -- operation 6
              obtain ⟨f5, f4, -⟩ := hp
              replace f5 : u 5 = (.pointer (some ⟨w1.heap.size, 0, none⟩)) := f5
              replace f4 : u 4 = (.bool true) := f4
              try simp only [f5, f4, str]
              go_wp2
              refine stq_v rfl Same.refl ?_
              first | (simp only [mkAct, List.foldl_cons, List.foldl_nil, List.setIfInBounds_toArray, List.set_cons_succ, List.set_cons_zero, upd, reduceIte, Nat.reduceEqDiff, Nat.reduceAdd, f5, f4, str]; done) | (simp [mkAct, upd, f5, f4, str, *]; done)
            · -- operation 7
              obtain ⟨f6, f4, -⟩ := hp
              replace f6 : u 6 = (.pointer (some ⟨w1.heap.size, 2, none⟩)) := f6
              replace f4 : u 4 = (.bool true) := f4
              try simp only [f6, f4, str]
              have cx := hI.cell (k2.out)
              go_wp2
              refine stq_v rfl Same.refl ?_
              first | (simp only [mkAct, List.foldl_cons, List.foldl_nil, List.setIfInBounds_toArray, List.set_cons_succ, List.set_cons_zero, upd, reduceIte, Nat.reduceEqDiff, Nat.reduceAdd, f6, f4, str]; done) | (simp [mkAct, upd, f6, f4, str, *]; done)
            · -- operation 8
              obtain ⟨f4, -⟩ := hp
              replace f4 : u 4 = (.bool true) := f4
              try simp only [f4, str]
              go_wp2
              refine stq_v rfl Same.refl ?_
              first | (simp only [mkAct, List.foldl_cons, List.foldl_nil, List.setIfInBounds_toArray, List.set_cons_succ, List.set_cons_zero, upd, reduceIte, Nat.reduceEqDiff, Nat.reduceAdd, f4, str]; done) | (simp [mkAct, upd, f4, str, *]; done)
            · -- operation 9
              obtain ⟨f7, f8, f4, -⟩ := hp
              replace f7 : u 7 = (.int .i64 c.vote.view) := f7
              replace f8 : u 8 = (.int .i64 view) := f8
              replace f4 : u 4 = (.bool true) := f4
              try simp only [f7, f8, f4, str]
              have hx := g2.out
              go_wp2
              refine stq_v rfl Same.refl ?_
              first | (simp only [mkAct, List.foldl_cons, List.foldl_nil, List.setIfInBounds_toArray, List.set_cons_succ, List.set_cons_zero, upd, reduceIte, Nat.reduceEqDiff, Nat.reduceAdd, f7, f8, f4, str]; done) | (simp [mkAct, upd, f7, f8, f4, str, *]; done)
            · -- operation 10
              obtain ⟨f4, f9, -⟩ := hp
              replace f4 : u 4 = (.bool true) := f4
              replace f9 : u 9 = (.bool true) := f9
              try simp only [f4, f9, str]
              go_wp2
              refine stq_v rfl Same.refl ?_
              first | (simp only [mkAct, List.foldl_cons, List.foldl_nil, List.setIfInBounds_toArray, List.set_cons_succ, List.set_cons_zero, upd, reduceIte, Nat.reduceEqDiff, Nat.reduceAdd, f4, f9, str]; done) | (simp [mkAct, upd, f4, f9, str, *]; done)
            · -- operation 11
              obtain ⟨f10, -, -⟩ := hp
              replace f10 : u 10 = (.bool true) := f10
              try simp only [f10, str]
              go_wp2
              refine stq_v rfl Same.refl ?_
              first | (simp only [mkAct, List.foldl_cons, List.foldl_nil, List.setIfInBounds_toArray, List.set_cons_succ, List.set_cons_zero, upd, reduceIte, Nat.reduceEqDiff, Nat.reduceAdd, f10, str]; done) | (simp [mkAct, upd, f10, str, *]; done)
            · -- operation 12
              obtain ⟨f11, -⟩ := hp
              replace f11 : u 11 = (.bool true) := f11
              try simp only [f11, str]
              go_wp2
              refine stq_v rfl Same.refl ?_
              first | (simp only [mkAct, List.foldl_cons, List.foldl_nil, List.setIfInBounds_toArray, List.set_cons_succ, List.set_cons_zero, upd, reduceIte, Nat.reduceEqDiff, Nat.reduceAdd, f11, str]; done) | (simp [mkAct, upd, f11, str, *]; done)
            · -- operation 13
              obtain ⟨f12, f11, -⟩ := hp
              replace f12 : u 12 = (.pointer (some ⟨w1.heap.size, 0, none⟩)) := f12
              replace f11 : u 11 = (.bool true) := f11
              try simp only [f12, f11, str]
              go_wp2
              refine stq_v rfl Same.refl ?_
              first | (simp only [mkAct, List.foldl_cons, List.foldl_nil, List.setIfInBounds_toArray, List.set_cons_succ, List.set_cons_zero, upd, reduceIte, Nat.reduceEqDiff, Nat.reduceAdd, f12, f11, str]; done) | (simp [mkAct, upd, f12, f11, str, *]; done)
            · -- operation 14
              obtain ⟨f13, f11, -⟩ := hp
              replace f13 : u 13 = (.pointer (some ⟨w1.heap.size, 4, none⟩)) := f13
              replace f11 : u 11 = (.bool true) := f11
              try simp only [f13, f11, str]
              go_wp2_with (refine load_mid rfl _ _ rfl w1.heap.size 4 rfl (bv c.vote.dig) _ (hI.range kd.out) Try.underlying29 rfl hinfD.out ?_)
              refine stq_v rfl Same.refl ?_
              first | (simp only [mkAct, List.foldl_cons, List.foldl_nil, List.setIfInBounds_toArray, List.set_cons_succ, List.set_cons_zero, upd, reduceIte, Nat.reduceEqDiff, Nat.reduceAdd, f13, f11, str]; done) | (simp [mkAct, upd, f13, f11, str, *]; done)
            · -- operation 15
              obtain ⟨f11, -⟩ := hp
              replace f11 : u 11 = (.bool true) := f11
              try simp only [f11, str]
              go_wp2_with (refine load_row rfl _ _ rfl w.heap.size rfl _ _ _ _ (hI.at (sb.out.at hbb.out)) Try.underlying24 rfl hinfB.out ?_)
              refine stq_v rfl Same.refl ?_
              first | (simp only [mkAct, List.foldl_cons, List.foldl_nil, List.setIfInBounds_toArray, List.set_cons_succ, List.set_cons_zero, upd, reduceIte, Nat.reduceEqDiff, Nat.reduceAdd, f11, str]; done) | (simp [mkAct, upd, f11, str, *]; done)
            · -- operation 16
              obtain ⟨f15, -, f11, -⟩ := hp
              replace f15 : u 15 = (.agg b.cells.toArray) := f15
              replace f11 : u 11 = (.bool true) := f11
              try simp only [f15, f11, str]
              go_wp2_with fail
              refine (hdb.out _ (BatV.same hb7.out hI)).mono ?_
              rintro e w1 ⟨rfl, hs'⟩
              go_wp2
              refine stq_v rfl hs' ?_
              first | (simp only [mkAct, List.foldl_cons, List.foldl_nil, List.setIfInBounds_toArray, List.set_cons_succ, List.set_cons_zero, upd, reduceIte, Nat.reduceEqDiff, Nat.reduceAdd, f15, f11, str]; done) | (simp [mkAct, upd, f15, f11, str, *]; done)
            · -- operation 17
              obtain ⟨f14, f16, f11, -⟩ := hp
              replace f14 : u 14 = (.agg (bv c.vote.dig).toArray) := f14
              replace f16 : u 16 = (.agg (bv Db).toArray) := f16
              replace f11 : u 11 = (.bool true) := f11
              try simp only [f14, f16, f11, str]
              have hx := heqC.out
              have hg := hgd.out
              go_wp2
              refine stq_v rfl Same.refl ?_
              first | (simp only [mkAct, List.foldl_cons, List.foldl_nil, List.setIfInBounds_toArray, List.set_cons_succ, List.set_cons_zero, upd, reduceIte, Nat.reduceEqDiff, Nat.reduceAdd, f14, f16, f11, str]; done) | (simp [mkAct, upd, f14, f16, f11, str, *]; done)
            · -- operation 18
              obtain ⟨f11, f17, -⟩ := hp
              replace f11 : u 11 = (.bool true) := f11
              replace f17 : u 17 = (.bool true) := f17
              try simp only [f11, f17, str]
              go_wp2
              refine stq_v rfl Same.refl ?_
              first | (simp only [mkAct, List.foldl_cons, List.foldl_nil, List.setIfInBounds_toArray, List.set_cons_succ, List.set_cons_zero, upd, reduceIte, Nat.reduceEqDiff, Nat.reduceAdd, f11, f17, str]; done) | (simp [mkAct, upd, f11, f17, str, *]; done)
          · intro u wx hI hR
            obtain ⟨r0, r1, r2, r3, r4, r5, r6, r7, r8, r9, r10, r11, r12, r13, r14, r15, r16, r17, r18, -⟩ := hR
            replace r0 : u 0 = (.pointer (some ⟨w1.heap.size, 0, none⟩)) := r0
            replace r1 : u 1 = (.pointer (some ⟨w1.heap.size, 0, none⟩)) := r1
            replace r2 : u 2 = (.int .i64 c.vote.kind) := r2
            replace r3 : u 3 = (.bool true) := r3
            replace r4 : u 4 = (.bool true) := r4
            replace r5 : u 5 = (.pointer (some ⟨w1.heap.size, 0, none⟩)) := r5
            replace r6 : u 6 = (.pointer (some ⟨w1.heap.size, 2, none⟩)) := r6
            replace r7 : u 7 = (.int .i64 c.vote.view) := r7
            replace r8 : u 8 = (.int .i64 view) := r8
            replace r9 : u 9 = (.bool true) := r9
            replace r10 : u 10 = (.bool true) := r10
            replace r11 : u 11 = (.bool true) := r11
            replace r12 : u 12 = (.pointer (some ⟨w1.heap.size, 0, none⟩)) := r12
            replace r13 : u 13 = (.pointer (some ⟨w1.heap.size, 4, none⟩)) := r13
            replace r14 : u 14 = (.agg (bv c.vote.dig).toArray) := r14
            replace r15 : u 15 = (.agg b.cells.toArray) := r15
            replace r16 : u 16 = (.agg (bv Db).toArray) := r16
            replace r17 : u 17 = (.bool true) := r17
            replace r18 : u 18 = (.bool true) := r18
            simp only [mkAct, List.foldl_cons, List.foldl_nil, List.setIfInBounds_toArray, List.set_cons_succ, List.set_cons_zero]
            try simp only [str, r0, r1, r2, r3, r4, r5, r6, r7, r8, r9, r10, r11, r12, r13, r14, r15, r16, r17, r18]
            have sX := Lib.hid hI
            replace s0 := Lib.hid (s0.out.trans hI)
            replace sb := Lib.hid (sb.out.trans hI)
            replace so := Lib.hid (so.out.trans hI)
            replace sc := Lib.hid (sc.out.trans hI)
            replace sS := Lib.hid (sS.out.trans hI)
            clear hI hb7 k0 k2 kd g1 g2
            have c43 : wx.cell? ⟨w9.heap.size, 43, none⟩ = some (.bool true) := by have := sl_holds (sX.out.at rX.out) hHw.out; rw [hHh.out] at this; exact this
            have rXb : wx.rangeAt w9.heap.size 4 b.cells := by have := sl_hbat (sX.out.at rX.out); rw [hHb.out] at this; exact this
            replace rXb := Lib.hid rXb
            have rXv : w11.rangeAt w9.heap.size 6 c.vote.cells := by have := sl_hvote rX.out; rw [hHc.out] at this; exact this
            replace rXv := Lib.hid rXv
            go_wp2_with (first | (refine load_mid rfl _ _ rfl w9.heap.size 4 rfl b.cells _ rXb.out Try.underlying24 rfl hinfb.out ?_) | (refine load_row rfl _ _ rfl w.heap.size rfl _ _ _ _ (sb.out.at hbb.out) Try.underlying24 rfl hinfB.out ?_))
            refine (hsame.out _ (BatV.same hb.out s0.out) (BatV.same hb.out s0.out)).mono ?_
            rintro e w12 ⟨rfl, hs⟩
            replace s0 := Lib.hid (s0.out.trans hs)
            replace sb := Lib.hid (sb.out.trans hs)
            replace so := Lib.hid (so.out.trans hs)
            replace sc := Lib.hid (sc.out.trans hs)
            replace sS := Lib.hid (sS.out.trans hs)
            replace sX := Lib.hid (sX.out.trans hs)
            clear hs c43 rXb
            have hx := heqV.out
            have hg := hvgd.out
            go_wp2_with (first | (refine load_mid rfl _ _ rfl w9.heap.size 6 rfl c.vote.cells _ (sX.out.range rXv.out) Try.underlying31 rfl hinfV.out ?_) | (refine load_mid rfl _ _ rfl w1.heap.size 0 rfl c.vote.cells _ (ce_vote (sc.out.at hbc.out)) Try.underlying31 rfl hinfV.out ?_) | (refine load_row rfl _ _ rfl w5.heap.size rfl _ _ _ _ (sS.out.at rS.out) Try.underlying40 rfl hinfS.out ?_) | (refine load_row rfl _ _ rfl w0.heap.size rfl _ _ _ _ (so.out.at hbo.out) Try.underlying24 rfl hinfO.out ?_))
            clear hx hg
            refine (hacc2.out _ (SlotV.same' hS0.out (s0.out.trans (Same.refl))) (BatV.same ho.out s0.out)).mono ?_
            rintro e wa ⟨rfl, hs⟩
            replace s0 := Lib.hid (s0.out.trans hs)
            replace sb := Lib.hid (sb.out.trans hs)
            replace so := Lib.hid (so.out.trans hs)
            replace sc := Lib.hid (sc.out.trans hs)
            replace sS := Lib.hid (sS.out.trans hs)
            replace sX := Lib.hid (sX.out.trans hs)
            clear hs
            go_upto_region 11 with (first | (refine alloc_new rfl 40 rfl Try.zeroCells40 (by kernel_rfl) ?_; intro wb hz hsb; have lb := blk_lt hz; replace hz := Lib.hid hz; replace hsb := Lib.hid hsb) | (refine store_row rfl _ _ _ rfl wa.heap.size A2.1 rfl rfl _ _ hz.out hA2i.out hA2s.out hA2o.out ?_; intro wc rX2 hkc; clear rX2; replace hkc := Lib.hid hkc))
            have hs : Same wa wc := hsb.out.keep hkc.out (fun x hx hv => by omega)
            replace s0 := Lib.hid (s0.out.trans hs)
            replace sb := Lib.hid (sb.out.trans hs)
            replace so := Lib.hid (so.out.trans hs)
            replace sc := Lib.hid (sc.out.trans hs)
            replace sS := Lib.hid (sS.out.trans hs)
            replace sX := Lib.hid (sX.out.trans hs)
            clear hs hkc hsb hz
            have hb7 := Lib.hid (BatV.same hb.out s0.out)
            have ho7 := Lib.hid (BatV.same ho.out s0.out)
            refine wp_region_last (by kernel_rfl) [(110, 0), (111, 1), (112, 2), (113, 3), (114, 4), (115, 5), (116, 6), (117, 7), (118, 8), (119, 9), (120, 10), (8, 11)] Same (Same _) [isV (.int .i64 A2.2), isV (.bool q), isV (.agg o.cells.toArray), isV (.agg (bv Do).toArray), isV (.agg b.cells.toArray), isV (.agg (bv Db).toArray), isV (.bool q), isV (.bool true), isV (.bool true), isV (.bool true), isV (.bool true)] Same.refl.drew (fun _ _ h k => h.trans k) (by simp [isV_stable, isB_stable, isAny_stable]) (by decide) (l := [_, _, _, _, _, _, _, _, _, _, _]) rfl (by decide) (by decide) ?_ ?_
            · refine ⟨?_, ?_, ?_, ?_, ?_, ?_, ?_, ?_, ?_, ?_, ?_, trivial⟩
              all_goals (intro u wx hI hp; simp only [mkAct, List.foldl_cons, List.foldl_nil, List.setIfInBounds_toArray, List.set_cons_succ, List.set_cons_zero])
              · -- operation 0
                go_wp2
                refine stq_v rfl Same.refl ?_
                first | (simp only [mkAct, List.foldl_cons, List.foldl_nil, List.setIfInBounds_toArray, List.set_cons_succ, List.set_cons_zero, upd, reduceIte, Nat.reduceEqDiff, Nat.reduceAdd, str]; done) | (simp [mkAct, upd, str, *]; done)
              · -- operation 1
                obtain ⟨f0, -⟩ := hp
                replace f0 : u 0 = (.int .i64 A2.2) := f0
                try simp only [f0, str]
                have hx := hA2q.out
                go_wp2
                refine stq_v rfl Same.refl ?_
                first | (simp only [mkAct, List.foldl_cons, List.foldl_nil, List.setIfInBounds_toArray, List.set_cons_succ, List.set_cons_zero, upd, reduceIte, Nat.reduceEqDiff, Nat.reduceAdd, f0, str]; done) | (simp [mkAct, upd, f0, str, *]; done)
              · -- operation 2
                go_wp2_with (refine load_row rfl _ _ rfl w0.heap.size rfl _ _ _ _ (hI.at (so.out.at hbo.out)) Try.underlying24 rfl hinfO.out ?_)
                refine stq_v rfl Same.refl ?_
                first | (simp only [mkAct, List.foldl_cons, List.foldl_nil, List.setIfInBounds_toArray, List.set_cons_succ, List.set_cons_zero, upd, reduceIte, Nat.reduceEqDiff, Nat.reduceAdd, str]; done) | (simp [mkAct, upd, str, *]; done)
              · -- operation 3
                obtain ⟨f2, -⟩ := hp
                replace f2 : u 2 = (.agg o.cells.toArray) := f2
                try simp only [f2, str]
                go_wp2_with fail
                refine (hdo.out _ (BatV.same ho7.out hI)).mono ?_
                rintro e w1 ⟨rfl, hs'⟩
                go_wp2
                refine stq_v rfl hs' ?_
                first | (simp only [mkAct, List.foldl_cons, List.foldl_nil, List.setIfInBounds_toArray, List.set_cons_succ, List.set_cons_zero, upd, reduceIte, Nat.reduceEqDiff, Nat.reduceAdd, f2, str]; done) | (simp [mkAct, upd, f2, str, *]; done)
              · -- operation 4
                go_wp2_with (refine load_row rfl _ _ rfl w.heap.size rfl _ _ _ _ (hI.at (sb.out.at hbb.out)) Try.underlying24 rfl hinfB.out ?_)
                refine stq_v rfl Same.refl ?_
                first | (simp only [mkAct, List.foldl_cons, List.foldl_nil, List.setIfInBounds_toArray, List.set_cons_succ, List.set_cons_zero, upd, reduceIte, Nat.reduceEqDiff, Nat.reduceAdd, str]; done) | (simp [mkAct, upd, str, *]; done)
              · -- operation 5
                obtain ⟨f4, -, -⟩ := hp
                replace f4 : u 4 = (.agg b.cells.toArray) := f4
                try simp only [f4, str]
                go_wp2_with fail
                refine (hdb.out _ (BatV.same hb7.out hI)).mono ?_
                rintro e w1 ⟨rfl, hs'⟩
                go_wp2
                refine stq_v rfl hs' ?_
                first | (simp only [mkAct, List.foldl_cons, List.foldl_nil, List.setIfInBounds_toArray, List.set_cons_succ, List.set_cons_zero, upd, reduceIte, Nat.reduceEqDiff, Nat.reduceAdd, f4, str]; done) | (simp [mkAct, upd, f4, str, *]; done)
              · -- operation 6
                obtain ⟨f3, f5, -⟩ := hp
                replace f3 : u 3 = (.agg (bv Do).toArray) := f3
                replace f5 : u 5 = (.agg (bv Db).toArray) := f5
                try simp only [f3, f5, str]
                have hx := heqD.out
                have hg := hgd.out
                go_wp2
                refine stq_v rfl Same.refl ?_
                first | (simp only [mkAct, List.foldl_cons, List.foldl_nil, List.setIfInBounds_toArray, List.set_cons_succ, List.set_cons_zero, upd, reduceIte, Nat.reduceEqDiff, Nat.reduceAdd, f3, f5, str]; done) | (simp [mkAct, upd, f3, f5, str, *]; done)
              · -- operation 7
                obtain ⟨f1, f6, -⟩ := hp
                replace f1 : u 1 = (.bool q) := f1
                replace f6 : u 6 = (.bool q) := f6
                try simp only [f1, f6, str]
                have hx : (q == q) = true := by simp
                go_wp2
                refine stq_v rfl Same.refl ?_
                first | (simp only [mkAct, List.foldl_cons, List.foldl_nil, List.setIfInBounds_toArray, List.set_cons_succ, List.set_cons_zero, upd, reduceIte, Nat.reduceEqDiff, Nat.reduceAdd, f1, f6, str]; done) | (simp [mkAct, upd, f1, f6, str, *]; done)
              · -- operation 8
                obtain ⟨f7, -, -⟩ := hp
                replace f7 : u 7 = (.bool true) := f7
                try simp only [f7, str]
                go_wp2
                refine stq_v rfl Same.refl ?_
                first | (simp only [mkAct, List.foldl_cons, List.foldl_nil, List.setIfInBounds_toArray, List.set_cons_succ, List.set_cons_zero, upd, reduceIte, Nat.reduceEqDiff, Nat.reduceAdd, f7, str]; done) | (simp [mkAct, upd, f7, str, *]; done)
              · -- operation 9
                obtain ⟨-, f8, -⟩ := hp
                replace f8 : u 8 = (.bool true) := f8
                try simp only [f8, str]
                go_wp2_with fail
                refine (hl.out _).mono ?_
                rintro e w1 ⟨rfl, hs'⟩
                go_wp2
                refine stq_v rfl hs' ?_
                first | (simp only [mkAct, List.foldl_cons, List.foldl_nil, List.setIfInBounds_toArray, List.set_cons_succ, List.set_cons_zero, upd, reduceIte, Nat.reduceEqDiff, Nat.reduceAdd, f8, str]; done) | (simp [mkAct, upd, f8, str, *]; done)
              · -- operation 10
                obtain ⟨f8, f9, -⟩ := hp
                replace f8 : u 8 = (.bool true) := f8
                replace f9 : u 9 = (.bool true) := f9
                try simp only [f8, f9, str]
                go_wp2
                refine stq_v rfl Same.refl ?_
                first | (simp only [mkAct, List.foldl_cons, List.foldl_nil, List.setIfInBounds_toArray, List.set_cons_succ, List.set_cons_zero, upd, reduceIte, Nat.reduceEqDiff, Nat.reduceAdd, f8, f9, str]; done) | (simp [mkAct, upd, f8, f9, str, *]; done)
            · intro u wx hI hR
              obtain ⟨r0, r1, r2, r3, r4, r5, r6, r7, r8, r9, r10, -⟩ := hR
              replace r0 : u 0 = (.int .i64 A2.2) := r0
              replace r1 : u 1 = (.bool q) := r1
              replace r2 : u 2 = (.agg o.cells.toArray) := r2
              replace r3 : u 3 = (.agg (bv Do).toArray) := r3
              replace r4 : u 4 = (.agg b.cells.toArray) := r4
              replace r5 : u 5 = (.agg (bv Db).toArray) := r5
              replace r6 : u 6 = (.bool q) := r6
              replace r7 : u 7 = (.bool true) := r7
              replace r8 : u 8 = (.bool true) := r8
              replace r9 : u 9 = (.bool true) := r9
              replace r10 : u 10 = (.bool true) := r10
              simp only [mkAct, List.foldl_cons, List.foldl_nil, List.setIfInBounds_toArray, List.set_cons_succ, List.set_cons_zero]
              try simp only [str, r0, r1, r2, r3, r4, r5, r6, r7, r8, r9, r10]
              go_wp2
              go_ret
              exact ⟨rfl, s0.out.trans hI⟩
        · rw [hh]
          clear hh hcases
          have her2 : ((er : Int) == 0) = false := by simp; omega
          have her3 : ((er : Int) != 0) = true := by simp; omega
          have hZ0 : zeroSlot.cells.toArray = Try.zeroCells40 := by kernel_rfl
          simp only
          rw [hZ0]
          clear hZ0 her
          replace her2 := Lib.hid her2
          replace her3 := Lib.hid her3
          have hx := her2.out
          go_upto_region 7 with (first | (refine alloc_new rfl 40 rfl Try.zeroCells40 (by kernel_rfl) ?_; intro w10 hz hs10; have l10 := blk_lt hz; replace hz := Lib.hid hz; replace hs10 := Lib.hid hs10) | (refine store_row rfl _ _ _ rfl w9.heap.size Try.zeroCells40 rfl rfl _ _ hz.out hinfZ.out rfl (by kernel_rfl) ?_; intro w11 rX hk11; clear rX; replace hk11 := Lib.hid hk11))
          clear hx
          have hs : Same w9 w11 := hs10.out.keep hk11.out (fun x hx hv => by omega)
          replace s0 := Lib.hid (s0.out.trans hs)
          replace sb := Lib.hid (sb.out.trans hs)
          replace so := Lib.hid (so.out.trans hs)
          replace sc := Lib.hid (sc.out.trans hs)
          replace sS := Lib.hid (sS.out.trans hs)
          clear hs hk11 hs10 hz
          have hb7 := Lib.hid (BatV.same hb.out s0.out)
          have k0 := Lib.hid (ce_kind (sc.out.at hbc.out))
          have k2 := Lib.hid (ce_view (sc.out.at hbc.out))
          have kd := Lib.hid (ce_dig (sc.out.at hbc.out))
          have hcs : (c.vote.kind == 1) = false ∨ (c.vote.kind == 1) = true ∧ (c.vote.view == view) = false ∨ (c.vote.kind == 1) = true ∧ (c.vote.view == view) = true ∧ (c.vote.dig == Db) = false := by
            by_cases e1 : c.vote.kind = 1
            · by_cases e2 : c.vote.view = view
              · have e3 : c.vote.dig ≠ Db := fun e3 => hno ⟨e1, e2, e3⟩
                exact .inr (.inr ⟨by simp [e1], by simp [e2], by simp [e3]⟩)
              · exact .inr (.inl ⟨by simp [e1], by simp [e2]⟩)
            · exact .inl (by simp [e1])
          clear hno
          replace hcs := Lib.hid hcs
          go_cut [13] (fun v wx => v = .bool false ∧ Same w11 wx)
          case first =>
            rcases hcs.out with g1 | ⟨g1, g2⟩ | ⟨g1, g2, g3⟩
            · replace g1 := Lib.hid g1
              refine wp_region_last (by kernel_rfl) [(54, 0), (55, 1), (56, 2), (57, 3), (58, 4), (59, 5), (60, 6), (61, 7), (62, 8), (63, 9), (64, 10), (65, 11), (66, 12), (67, 13), (68, 14), (69, 15), (70, 16), (71, 17), (72, 18), (13, 19)] Same (Same _) [isV (.pointer (some ⟨w1.heap.size, 0, none⟩)), isV (.pointer (some ⟨w1.heap.size, 0, none⟩)), isV (.int .i64 c.vote.kind), isV (.bool false), isV (.bool false), isV undef, isV undef, isV undef, isV undef, isV undef, isV (.bool false), isV (.bool false), isV undef, isV undef, isV undef, isV undef, isV undef, isV undef, isV (.bool false)] Same.refl.drew (fun _ _ h k => h.trans k) (by simp [isV_stable, isB_stable, isAny_stable]) (by decide) (l := [_, _, _, _, _, _, _, _, _, _, _, _, _, _, _, _, _, _, _]) rfl (by decide) (by decide) ?_ ?_
              · refine ⟨?_, ?_, ?_, ?_, ?_, ?_, ?_, ?_, ?_, ?_, ?_, ?_, ?_, ?_, ?_, ?_, ?_, ?_, ?_, trivial⟩
                all_goals (intro u wx hI hp; simp only [mkAct, List.foldl_cons, List.foldl_nil, List.setIfInBounds_toArray, List.set_cons_succ, List.set_cons_zero])
                · -- operation 0
                  go_wp2
                  refine stq_v rfl Same.refl ?_
                  first | (simp only [mkAct, List.foldl_cons, List.foldl_nil, List.setIfInBounds_toArray, List.set_cons_succ, List.set_cons_zero, upd, reduceIte, Nat.reduceEqDiff, Nat.reduceAdd, str]; done) | (simp [mkAct, upd, str, *]; done)
                · -- operation 1
                  obtain ⟨f0, -⟩ := hp
                  replace f0 : u 0 = (.pointer (some ⟨w1.heap.size, 0, none⟩)) := f0
                  try simp only [f0, str]
                  go_wp2
                  refine stq_v rfl Same.refl ?_
                  first | (simp only [mkAct, List.foldl_cons, List.foldl_nil, List.setIfInBounds_toArray, List.set_cons_succ, List.set_cons_zero, upd, reduceIte, Nat.reduceEqDiff, Nat.reduceAdd, f0, str]; done) | (simp [mkAct, upd, f0, str, *]; done)
                · -- operation 2
                  obtain ⟨f1, -⟩ := hp
                  replace f1 : u 1 = (.pointer (some ⟨w1.heap.size, 0, none⟩)) := f1
                  try simp only [f1, str]
                  have cx := hI.cell (k0.out)
                  go_wp2
                  refine stq_v rfl Same.refl ?_
                  first | (simp only [mkAct, List.foldl_cons, List.foldl_nil, List.setIfInBounds_toArray, List.set_cons_succ, List.set_cons_zero, upd, reduceIte, Nat.reduceEqDiff, Nat.reduceAdd, f1, str]; done) | (simp [mkAct, upd, f1, str, *]; done)
                · -- operation 3
                  obtain ⟨f2, -⟩ := hp
                  replace f2 : u 2 = (.int .i64 c.vote.kind) := f2
                  try simp only [f2, str]
                  have hx := g1.out
                  go_wp2
                  refine stq_v rfl Same.refl ?_
                  first | (simp only [mkAct, List.foldl_cons, List.foldl_nil, List.setIfInBounds_toArray, List.set_cons_succ, List.set_cons_zero, upd, reduceIte, Nat.reduceEqDiff, Nat.reduceAdd, f2, str]; done) | (simp [mkAct, upd, f2, str, *]; done)
                · -- operation 4
                  obtain ⟨f3, -⟩ := hp
                  replace f3 : u 3 = (.bool false) := f3
                  try simp only [f3, str]
                  go_wp2
                  refine stq_v rfl Same.refl ?_
                  first | (simp only [mkAct, List.foldl_cons, List.foldl_nil, List.setIfInBounds_toArray, List.set_cons_succ, List.set_cons_zero, upd, reduceIte, Nat.reduceEqDiff, Nat.reduceAdd, f3, str]; done) | (simp [mkAct, upd, f3, str, *]; done)
                · -- operation 5
                  obtain ⟨f4, -⟩ := hp
                  replace f4 : u 4 = (.bool false) := f4
                  try simp only [f4, str]
                  go_wp2
                  refine stq_v rfl Same.refl ?_
                  first | (simp only [mkAct, List.foldl_cons, List.foldl_nil, List.setIfInBounds_toArray, List.set_cons_succ, List.set_cons_zero, upd, reduceIte, Nat.reduceEqDiff, Nat.reduceAdd, f4, str]; done) | (simp [mkAct, upd, f4, str, *]; done)
                · -- operation 6
                  obtain ⟨f5, f4, -⟩ := hp
                  replace f5 : u 5 = undef := f5
                  replace f4 : u 4 = (.bool false) := f4
                  try simp only [f5, f4, str]
                  go_wp2
                  refine stq_v rfl Same.refl ?_
                  first | (simp only [mkAct, List.foldl_cons, List.foldl_nil, List.setIfInBounds_toArray, List.set_cons_succ, List.set_cons_zero, upd, reduceIte, Nat.reduceEqDiff, Nat.reduceAdd, f5, f4, str]; done) | (simp [mkAct, upd, f5, f4, str, *]; done)
                · -- operation 7
                  obtain ⟨f6, f4, -⟩ := hp
                  replace f6 : u 6 = undef := f6
                  replace f4 : u 4 = (.bool false) := f4
                  try simp only [f6, f4, str]
                  go_wp2
                  refine stq_v rfl Same.refl ?_
                  first | (simp only [mkAct, List.foldl_cons, List.foldl_nil, List.setIfInBounds_toArray, List.set_cons_succ, List.set_cons_zero, upd, reduceIte, Nat.reduceEqDiff, Nat.reduceAdd, f6, f4, str]; done) | (simp [mkAct, upd, f6, f4, str, *]; done)
                · -- operation 8
                  obtain ⟨f4, -⟩ := hp
                  replace f4 : u 4 = (.bool false) := f4
                  try simp only [f4, str]
                  go_wp2
                  refine stq_v rfl Same.refl ?_
                  first | (simp only [mkAct, List.foldl_cons, List.foldl_nil, List.setIfInBounds_toArray, List.set_cons_succ, List.set_cons_zero, upd, reduceIte, Nat.reduceEqDiff, Nat.reduceAdd, f4, str]; done) | (simp [mkAct, upd, f4, str, *]; done)
                · -- operation 9
                  obtain ⟨f7, f8, f4, -⟩ := hp
                  replace f7 : u 7 = undef := f7
                  replace f8 : u 8 = undef := f8
                  replace f4 : u 4 = (.bool false) := f4
                  try simp only [f7, f8, f4, str]
                  go_wp2
                  refine stq_v rfl Same.refl ?_
                  first | (simp only [mkAct, List.foldl_cons, List.foldl_nil, List.setIfInBounds_toArray, List.set_cons_succ, List.set_cons_zero, upd, reduceIte, Nat.reduceEqDiff, Nat.reduceAdd, f7, f8, f4, str]; done) | (simp [mkAct, upd, f7, f8, f4, str, *]; done)
                · -- operation 10
                  obtain ⟨f4, f9, -⟩ := hp
                  replace f4 : u 4 = (.bool false) := f4
                  replace f9 : u 9 = undef := f9
                  try simp only [f4, f9, str]
                  go_wp2
                  refine stq_v rfl Same.refl ?_
                  first | (simp only [mkAct, List.foldl_cons, List.foldl_nil, List.setIfInBounds_toArray, List.set_cons_succ, List.set_cons_zero, upd, reduceIte, Nat.reduceEqDiff, Nat.reduceAdd, f4, f9, str]; done) | (simp [mkAct, upd, f4, f9, str, *]; done)
                · -- operation 11
                  obtain ⟨f10, -, -⟩ := hp
                  replace f10 : u 10 = (.bool false) := f10
                  try simp only [f10, str]
                  go_wp2
                  refine stq_v rfl Same.refl ?_
                  first | (simp only [mkAct, List.foldl_cons, List.foldl_nil, List.setIfInBounds_toArray, List.set_cons_succ, List.set_cons_zero, upd, reduceIte, Nat.reduceEqDiff, Nat.reduceAdd, f10, str]; done) | (simp [mkAct, upd, f10, str, *]; done)
                · -- operation 12
                  obtain ⟨f11, -⟩ := hp
                  replace f11 : u 11 = (.bool false) := f11
                  try simp only [f11, str]
                  go_wp2
                  refine stq_v rfl Same.refl ?_
                  first | (simp only [mkAct, List.foldl_cons, List.foldl_nil, List.setIfInBounds_toArray, List.set_cons_succ, List.set_cons_zero, upd, reduceIte, Nat.reduceEqDiff, Nat.reduceAdd, f11, str]; done) | (simp [mkAct, upd, f11, str, *]; done)
                · -- operation 13
                  obtain ⟨f12, f11, -⟩ := hp
                  replace f12 : u 12 = undef := f12
                  replace f11 : u 11 = (.bool false) := f11
                  try simp only [f12, f11, str]
                  go_wp2
                  refine stq_v rfl Same.refl ?_
                  first | (simp only [mkAct, List.foldl_cons, List.foldl_nil, List.setIfInBounds_toArray, List.set_cons_succ, List.set_cons_zero, upd, reduceIte, Nat.reduceEqDiff, Nat.reduceAdd, f12, f11, str]; done) | (simp [mkAct, upd, f12, f11, str, *]; done)
                · -- operation 14
                  obtain ⟨f13, f11, -⟩ := hp
                  replace f13 : u 13 = undef := f13
                  replace f11 : u 11 = (.bool false) := f11
                  try simp only [f13, f11, str]
                  go_wp2
                  refine stq_v rfl Same.refl ?_
                  first | (simp only [mkAct, List.foldl_cons, List.foldl_nil, List.setIfInBounds_toArray, List.set_cons_succ, List.set_cons_zero, upd, reduceIte, Nat.reduceEqDiff, Nat.reduceAdd, f13, f11, str]; done) | (simp [mkAct, upd, f13, f11, str, *]; done)
                · -- operation 15
                  obtain ⟨f11, -⟩ := hp
                  replace f11 : u 11 = (.bool false) := f11
                  try simp only [f11, str]
                  go_wp2
                  refine stq_v rfl Same.refl ?_
                  first | (simp only [mkAct, List.foldl_cons, List.foldl_nil, List.setIfInBounds_toArray, List.set_cons_succ, List.set_cons_zero, upd, reduceIte, Nat.reduceEqDiff, Nat.reduceAdd, f11, str]; done) | (simp [mkAct, upd, f11, str, *]; done)
                · -- operation 16
                  obtain ⟨f15, -, f11, -⟩ := hp
                  replace f15 : u 15 = undef := f15
                  replace f11 : u 11 = (.bool false) := f11
                  try simp only [f15, f11, str]
                  go_wp2
                  refine stq_v rfl Same.refl ?_
                  first | (simp only [mkAct, List.foldl_cons, List.foldl_nil, List.setIfInBounds_toArray, List.set_cons_succ, List.set_cons_zero, upd, reduceIte, Nat.reduceEqDiff, Nat.reduceAdd, f15, f11, str]; done) | (simp [mkAct, upd, f15, f11, str, *]; done)
                · -- operation 17
                  obtain ⟨f14, f16, f11, -⟩ := hp
                  replace f14 : u 14 = undef := f14
                  replace f16 : u 16 = undef := f16
                  replace f11 : u 11 = (.bool false) := f11
                  try simp only [f14, f16, f11, str]
                  go_wp2
                  refine stq_v rfl Same.refl ?_
                  first | (simp only [mkAct, List.foldl_cons, List.foldl_nil, List.setIfInBounds_toArray, List.set_cons_succ, List.set_cons_zero, upd, reduceIte, Nat.reduceEqDiff, Nat.reduceAdd, f14, f16, f11, str]; done) | (simp [mkAct, upd, f14, f16, f11, str, *]; done)
                · -- operation 18
                  obtain ⟨f11, f17, -⟩ := hp
                  replace f11 : u 11 = (.bool false) := f11
                  replace f17 : u 17 = undef := f17
                  try simp only [f11, f17, str]
                  go_wp2
                  refine stq_v rfl Same.refl ?_
                  first | (simp only [mkAct, List.foldl_cons, List.foldl_nil, List.setIfInBounds_toArray, List.set_cons_succ, List.set_cons_zero, upd, reduceIte, Nat.reduceEqDiff, Nat.reduceAdd, f11, f17, str]; done) | (simp [mkAct, upd, f11, f17, str, *]; done)
              · intro u wx hI hR
                obtain ⟨r0, r1, r2, r3, r4, r5, r6, r7, r8, r9, r10, r11, r12, r13, r14, r15, r16, r17, r18, -⟩ := hR
                replace r0 : u 0 = (.pointer (some ⟨w1.heap.size, 0, none⟩)) := r0
                replace r1 : u 1 = (.pointer (some ⟨w1.heap.size, 0, none⟩)) := r1
                replace r2 : u 2 = (.int .i64 c.vote.kind) := r2
                replace r3 : u 3 = (.bool false) := r3
                replace r4 : u 4 = (.bool false) := r4
                replace r5 : u 5 = undef := r5
                replace r6 : u 6 = undef := r6
                replace r7 : u 7 = undef := r7
                replace r8 : u 8 = undef := r8
                replace r9 : u 9 = undef := r9
                replace r10 : u 10 = (.bool false) := r10
                replace r11 : u 11 = (.bool false) := r11
                replace r12 : u 12 = undef := r12
                replace r13 : u 13 = undef := r13
                replace r14 : u 14 = undef := r14
                replace r15 : u 15 = undef := r15
                replace r16 : u 16 = undef := r16
                replace r17 : u 17 = undef := r17
                replace r18 : u 18 = (.bool false) := r18
                simp only [mkAct, List.foldl_cons, List.foldl_nil, List.setIfInBounds_toArray, List.set_cons_succ, List.set_cons_zero]
                try simp only [str, r0, r1, r2, r3, r4, r5, r6, r7, r8, r9, r10, r11, r12, r13, r14, r15, r16, r17, r18]
                go_wp2
                go_meet
                exact ⟨rfl, hI⟩
            · replace g1 := Lib.hid g1
              replace g2 := Lib.hid g2
              refine wp_region_last (by kernel_rfl) [(54, 0), (55, 1), (56, 2), (57, 3), (58, 4), (59, 5), (60, 6), (61, 7), (62, 8), (63, 9), (64, 10), (65, 11), (66, 12), (67, 13), (68, 14), (69, 15), (70, 16), (71, 17), (72, 18), (13, 19)] Same (Same _) [isV (.pointer (some ⟨w1.heap.size, 0, none⟩)), isV (.pointer (some ⟨w1.heap.size, 0, none⟩)), isV (.int .i64 c.vote.kind), isV (.bool true), isV (.bool true), isV (.pointer (some ⟨w1.heap.size, 0, none⟩)), isV (.pointer (some ⟨w1.heap.size, 2, none⟩)), isV (.int .i64 c.vote.view), isV (.int .i64 view), isV (.bool false), isV (.bool false), isV (.bool false), isV undef, isV undef, isV undef, isV undef, isV undef, isV undef, isV (.bool false)] Same.refl.drew (fun _ _ h k => h.trans k) (by simp [isV_stable, isB_stable, isAny_stable]) (by decide) (l := [_, _, _, _, _, _, _, _, _, _, _, _, _, _, _, _, _, _, _]) rfl (by decide) (by decide) ?_ ?_
              · refine ⟨?_, ?_, ?_, ?_, ?_, ?_, ?_, ?_, ?_, ?_, ?_, ?_, ?_, ?_, ?_, ?_, ?_, ?_, ?_, trivial⟩
                all_goals (intro u wx hI hp; simp only [mkAct, List.foldl_cons, List.foldl_nil, List.setIfInBounds_toArray, List.set_cons_succ, List.set_cons_zero])
                · -- operation 0
                  go_wp2
                  refine stq_v rfl Same.refl ?_
                  first | (simp only [mkAct, List.foldl_cons, List.foldl_nil, List.setIfInBounds_toArray, List.set_cons_succ, List.set_cons_zero, upd, reduceIte, Nat.reduceEqDiff, Nat.reduceAdd, str]; done) | (simp [mkAct, upd, str, *]; done)
                · -- operation 1
                  obtain ⟨f0, -⟩ := hp
                  replace f0 : u 0 = (.pointer (some ⟨w1.heap.size, 0, none⟩)) := f0
                  try simp only [f0, str]
                  go_wp2
                  refine stq_v rfl Same.refl ?_
                  first | (simp only [mkAct, List.foldl_cons, List.foldl_nil, List.setIfInBounds_toArray, List.set_cons_succ, List.set_cons_zero, upd, reduceIte, Nat.reduceEqDiff, Nat.reduceAdd, f0, str]; done) | (simp [mkAct, upd, f0, str, *]; done)
                · -- operation 2
                  obtain ⟨f1, -⟩ := hp
                  replace f1 : u 1 = (.pointer (some ⟨w1.heap.size, 0, none⟩)) := f1
                  try simp only [f1, str]
                  have cx := hI.cell (k0.out)
                  go_wp2
                  refine stq_v rfl Same.refl ?_
                  first | (simp only [mkAct, List.foldl_cons, List.foldl_nil, List.setIfInBounds_toArray, List.set_cons_succ, List.set_cons_zero, upd, reduceIte, Nat.reduceEqDiff, Nat.reduceAdd, f1, str]; done) | (simp [mkAct, upd, f1, str, *]; done)
                · -- operation 3
                  obtain ⟨f2, -⟩ := hp
                  replace f2 : u 2 = (.int .i64 c.vote.kind) := f2
                  try simp only [f2, str]
                  have hx := g1.out
                  go_wp2
                  refine stq_v rfl Same.refl ?_
                  first | (simp only [mkAct, List.foldl_cons, List.foldl_nil, List.setIfInBounds_toArray, List.set_cons_succ, List.set_cons_zero, upd, reduceIte, Nat.reduceEqDiff, Nat.reduceAdd, f2, str]; done) | (simp [mkAct, upd, f2, str, *]; done)
                · -- operation 4
                  obtain ⟨f3, -⟩ := hp
                  replace f3 : u 3 = (.bool true) := f3
                  try simp only [f3, str]
                  go_wp2
                  refine stq_v rfl Same.refl ?_
                  first | (simp only [mkAct, List.foldl_cons, List.foldl_nil, List.setIfInBounds_toArray, List.set_cons_succ, List.set_cons_zero, upd, reduceIte, Nat.reduceEqDiff, Nat.reduceAdd, f3, str]; done) | (simp [mkAct, upd, f3, str, *]; done)
                · -- operation 5
                  obtain ⟨f4, -⟩ := hp
                  replace f4 : u 4 = (.bool true) := f4
                  try simp only [f4, str]
                  go_wp2
                  refine stq_v rfl Same.refl ?_
                  first | (simp only [mkAct, List.foldl_cons, List.foldl_nil, List.setIfInBounds_toArray, List.set_cons_succ, List.set_cons_zero, upd, reduceIte, Nat.reduceEqDiff, Nat.reduceAdd, f4, str]; done) | (simp [mkAct, upd, f4, str, *]; done)
                · -- operation 6
                  obtain ⟨f5, f4, -⟩ := hp
                  replace f5 : u 5 = (.pointer (some ⟨w1.heap.size, 0, none⟩)) := f5
                  replace f4 : u 4 = (.bool true) := f4
                  try simp only [f5, f4, str]
                  go_wp2
                  refine stq_v rfl Same.refl ?_
                  first | (simp only [mkAct, List.foldl_cons, List.foldl_nil, List.setIfInBounds_toArray, List.set_cons_succ, List.set_cons_zero, upd, reduceIte, Nat.reduceEqDiff, Nat.reduceAdd, f5, f4, str]; done) | (simp [mkAct, upd, f5, f4, str, *]; done)
                · -- operation 7
                  obtain ⟨f6, f4, -⟩ := hp
                  replace f6 : u 6 = (.pointer (some ⟨w1.heap.size, 2, none⟩)) := f6
                  replace f4 : u 4 = (.bool true) := f4
                  try simp only [f6, f4, str]
                  have cx := hI.cell (k2.out)
                  go_wp2
                  refine stq_v rfl Same.refl ?_
                  first | (simp only [mkAct, List.foldl_cons, List.foldl_nil, List.setIfInBounds_toArray, List.set_cons_succ, List.set_cons_zero, upd, reduceIte, Nat.reduceEqDiff, Nat.reduceAdd, f6, f4, str]; done) | (simp [mkAct, upd, f6, f4, str, *]; done)
                · -- operation 8
                  obtain ⟨f4, -⟩ := hp
                  replace f4 : u 4 = (.bool true) := f4
                  try simp only [f4, str]
                  go_wp2
                  refine stq_v rfl Same.refl ?_
                  first | (simp only [mkAct, List.foldl_cons, List.foldl_nil, List.setIfInBounds_toArray, List.set_cons_succ, List.set_cons_zero, upd, reduceIte, Nat.reduceEqDiff, Nat.reduceAdd, f4, str]; done) | (simp [mkAct, upd, f4, str, *]; done)
                · -- operation 9
                  obtain ⟨f7, f8, f4, -⟩ := hp
                  replace f7 : u 7 = (.int .i64 c.vote.view) := f7
                  replace f8 : u 8 = (.int .i64 view) := f8
                  replace f4 : u 4 = (.bool true) := f4
                  try simp only [f7, f8, f4, str]
                  have hx := g2.out
                  go_wp2
                  refine stq_v rfl Same.refl ?_
                  first | (simp only [mkAct, List.foldl_cons, List.foldl_nil, List.setIfInBounds_toArray, List.set_cons_succ, List.set_cons_zero, upd, reduceIte, Nat.reduceEqDiff, Nat.reduceAdd, f7, f8, f4, str]; done) | (simp [mkAct, upd, f7, f8, f4, str, *]; done)
                · -- operation 10
                  obtain ⟨f4, f9, -⟩ := hp
                  replace f4 : u 4 = (.bool true) := f4
                  replace f9 : u 9 = (.bool false) := f9
                  try simp only [f4, f9, str]
                  go_wp2
                  refine stq_v rfl Same.refl ?_
                  first | (simp only [mkAct, List.foldl_cons, List.foldl_nil, List.setIfInBounds_toArray, List.set_cons_succ, List.set_cons_zero, upd, reduceIte, Nat.reduceEqDiff, Nat.reduceAdd, f4, f9, str]; done) | (simp [mkAct, upd, f4, f9, str, *]; done)
                · -- operation 11
                  obtain ⟨f10, -, -⟩ := hp
                  replace f10 : u 10 = (.bool false) := f10
                  try simp only [f10, str]
                  go_wp2
                  refine stq_v rfl Same.refl ?_
                  first | (simp only [mkAct, List.foldl_cons, List.foldl_nil, List.setIfInBounds_toArray, List.set_cons_succ, List.set_cons_zero, upd, reduceIte, Nat.reduceEqDiff, Nat.reduceAdd, f10, str]; done) | (simp [mkAct, upd, f10, str, *]; done)
                · -- operation 12
                  obtain ⟨f11, -⟩ := hp
                  replace f11 : u 11 = (.bool false) := f11
                  try simp only [f11, str]
                  go_wp2
                  refine stq_v rfl Same.refl ?_
                  first | (simp only [mkAct, List.foldl_cons, List.foldl_nil, List.setIfInBounds_toArray, List.set_cons_succ, List.set_cons_zero, upd, reduceIte, Nat.reduceEqDiff, Nat.reduceAdd, f11, str]; done) | (simp [mkAct, upd, f11, str, *]; done)
                · -- operation 13
                  obtain ⟨f12, f11, -⟩ := hp
                  replace f12 : u 12 = undef := f12
                  replace f11 : u 11 = (.bool false) := f11
                  try simp only [f12, f11, str]
                  go_wp2
                  refine stq_v rfl Same.refl ?_
                  first | (simp only [mkAct, List.foldl_cons, List.foldl_nil, List.setIfInBounds_toArray, List.set_cons_succ, List.set_cons_zero, upd, reduceIte, Nat.reduceEqDiff, Nat.reduceAdd, f12, f11, str]; done) | (simp [mkAct, upd, f12, f11, str, *]; done)
                · -- operation 14
                  obtain ⟨f13, f11, -⟩ := hp
                  replace f13 : u 13 = undef := f13
                  replace f11 : u 11 = (.bool false) := f11
                  try simp only [f13, f11, str]
                  go_wp2
                  refine stq_v rfl Same.refl ?_
                  first | (simp only [mkAct, List.foldl_cons, List.foldl_nil, List.setIfInBounds_toArray, List.set_cons_succ, List.set_cons_zero, upd, reduceIte, Nat.reduceEqDiff, Nat.reduceAdd, f13, f11, str]; done) | (simp [mkAct, upd, f13, f11, str, *]; done)
                · -- operation 15
                  obtain ⟨f11, -⟩ := hp
                  replace f11 : u 11 = (.bool false) := f11
                  try simp only [f11, str]
                  go_wp2
                  refine stq_v rfl Same.refl ?_
                  first | (simp only [mkAct, List.foldl_cons, List.foldl_nil, List.setIfInBounds_toArray, List.set_cons_succ, List.set_cons_zero, upd, reduceIte, Nat.reduceEqDiff, Nat.reduceAdd, f11, str]; done) | (simp [mkAct, upd, f11, str, *]; done)
                · -- operation 16
                  obtain ⟨f15, -, f11, -⟩ := hp
                  replace f15 : u 15 = undef := f15
                  replace f11 : u 11 = (.bool false) := f11
                  try simp only [f15, f11, str]
                  go_wp2
                  refine stq_v rfl Same.refl ?_
                  first | (simp only [mkAct, List.foldl_cons, List.foldl_nil, List.setIfInBounds_toArray, List.set_cons_succ, List.set_cons_zero, upd, reduceIte, Nat.reduceEqDiff, Nat.reduceAdd, f15, f11, str]; done) | (simp [mkAct, upd, f15, f11, str, *]; done)
                · -- operation 17
                  obtain ⟨f14, f16, f11, -⟩ := hp
                  replace f14 : u 14 = undef := f14
                  replace f16 : u 16 = undef := f16
                  replace f11 : u 11 = (.bool false) := f11
                  try simp only [f14, f16, f11, str]
                  go_wp2
                  refine stq_v rfl Same.refl ?_
                  first | (simp only [mkAct, List.foldl_cons, List.foldl_nil, List.setIfInBounds_toArray, List.set_cons_succ, List.set_cons_zero, upd, reduceIte, Nat.reduceEqDiff, Nat.reduceAdd, f14, f16, f11, str]; done) | (simp [mkAct, upd, f14, f16, f11, str, *]; done)
                · -- operation 18
                  obtain ⟨f11, f17, -⟩ := hp
                  replace f11 : u 11 = (.bool false) := f11
                  replace f17 : u 17 = undef := f17
                  try simp only [f11, f17, str]
                  go_wp2
                  refine stq_v rfl Same.refl ?_
                  first | (simp only [mkAct, List.foldl_cons, List.foldl_nil, List.setIfInBounds_toArray, List.set_cons_succ, List.set_cons_zero, upd, reduceIte, Nat.reduceEqDiff, Nat.reduceAdd, f11, f17, str]; done) | (simp [mkAct, upd, f11, f17, str, *]; done)
              · intro u wx hI hR
                obtain ⟨r0, r1, r2, r3, r4, r5, r6, r7, r8, r9, r10, r11, r12, r13, r14, r15, r16, r17, r18, -⟩ := hR
                replace r0 : u 0 = (.pointer (some ⟨w1.heap.size, 0, none⟩)) := r0
                replace r1 : u 1 = (.pointer (some ⟨w1.heap.size, 0, none⟩)) := r1
                replace r2 : u 2 = (.int .i64 c.vote.kind) := r2
                replace r3 : u 3 = (.bool true) := r3
                replace r4 : u 4 = (.bool true) := r4
                replace r5 : u 5 = (.pointer (some ⟨w1.heap.size, 0, none⟩)) := r5
                replace r6 : u 6 = (.pointer (some ⟨w1.heap.size, 2, none⟩)) := r6
                replace r7 : u 7 = (.int .i64 c.vote.view) := r7
                replace r8 : u 8 = (.int .i64 view) := r8
                replace r9 : u 9 = (.bool false) := r9
                replace r10 : u 10 = (.bool false) := r10
                replace r11 : u 11 = (.bool false) := r11
                replace r12 : u 12 = undef := r12
                replace r13 : u 13 = undef := r13
                replace r14 : u 14 = undef := r14
                replace r15 : u 15 = undef := r15
                replace r16 : u 16 = undef := r16
                replace r17 : u 17 = undef := r17
                replace r18 : u 18 = (.bool false) := r18
                simp only [mkAct, List.foldl_cons, List.foldl_nil, List.setIfInBounds_toArray, List.set_cons_succ, List.set_cons_zero]
                try simp only [str, r0, r1, r2, r3, r4, r5, r6, r7, r8, r9, r10, r11, r12, r13, r14, r15, r16, r17, r18]
                go_wp2
                go_meet
                exact ⟨rfl, hI⟩
            · rw [g3] at heqC
              clear g3
              replace g1 := Lib.hid g1
              replace g2 := Lib.hid g2
              refine wp_region_last (by kernel_rfl) [(54, 0), (55, 1), (56, 2), (57, 3), (58, 4), (59, 5), (60, 6), (61, 7), (62, 8), (63, 9), (64, 10), (65, 11), (66, 12), (67, 13), (68, 14), (69, 15), (70, 16), (71, 17), (72, 18), (13, 19)] Same (Same _) [isV (.pointer (some ⟨w1.heap.size, 0, none⟩)), isV (.pointer (some ⟨w1.heap.size, 0, none⟩)), isV (.int .i64 c.vote.kind), isV (.bool true), isV (.bool true), isV (.pointer (some ⟨w1.heap.size, 0, none⟩)), isV (.pointer (some ⟨w1.heap.size, 2, none⟩)), isV (.int .i64 c.vote.view), isV (.int .i64 view), isV (.bool true), isV (.bool true), isV (.bool true), isV (.pointer (some ⟨w1.heap.size, 0, none⟩)), isV (.pointer (some ⟨w1.heap.size, 4, none⟩)), isV (.agg (bv c.vote.dig).toArray), isV (.agg b.cells.toArray), isV (.agg (bv Db).toArray), isV (.bool false), isV (.bool false)] Same.refl.drew (fun _ _ h k => h.trans k) (by simp [isV_stable, isB_stable, isAny_stable]) (by decide) (l := [_, _, _, _, _, _, _, _, _, _, _, _, _, _, _, _, _, _, _]) rfl (by decide) (by decide) ?_ ?_
              · refine ⟨?_, ?_, ?_, ?_, ?_, ?_, ?_, ?_, ?_, ?_, ?_, ?_, ?_, ?_, ?_, ?_, ?_, ?_, ?_, trivial⟩
                all_goals (intro u wx hI hp; simp only [mkAct, List.foldl_cons, List.foldl_nil, List.setIfInBounds_toArray, List.set_cons_succ, List.set_cons_zero])
                · -- operation 0
                  go_wp2
                  refine stq_v rfl Same.refl ?_
                  first | (simp only [mkAct, List.foldl_cons, List.foldl_nil, List.setIfInBounds_toArray, List.set_cons_succ, List.set_cons_zero, upd, reduceIte, Nat.reduceEqDiff, Nat.reduceAdd, str]; done) | (simp [mkAct, upd, str, *]; done)
                · -- operation 1
                  obtain ⟨f0, -⟩ := hp
                  replace f0 : u 0 = (.pointer (some ⟨w1.heap.size, 0, none⟩)) := f0
                  try simp only [f0, str]
                  go_wp2
                  refine stq_v rfl Same.refl ?_
                  first | (simp only [mkAct, List.foldl_cons, List.foldl_nil, List.setIfInBounds_toArray, List.set_cons_succ, List.set_cons_zero, upd, reduceIte, Nat.reduceEqDiff, Nat.reduceAdd, f0, str]; done) | (simp [mkAct, upd, f0, str, *]; done)
                · -- operation 2
                  obtain ⟨f1, -⟩ := hp
                  replace f1 : u 1 = (.pointer (some ⟨w1.heap.size, 0, none⟩)) := f1
                  try simp only [f1, str]
                  have cx := hI.cell (k0.out)
                  go_wp2
                  refine stq_v rfl Same.refl ?_
                  first | (simp only [mkAct, List.foldl_cons, List.foldl_nil, List.setIfInBounds_toArray, List.set_cons_succ, List.set_cons_zero, upd, reduceIte, Nat.reduceEqDiff, Nat.reduceAdd, f1, str]; done) | (simp [mkAct, upd, f1, str, *]; done)
                · -- operation 3
                  obtain ⟨f2, -⟩ := hp
                  replace f2 : u 2 = (.int .i64 c.vote.kind) := f2
                  try simp only [f2, str]
                  have hx := g1.out
                  go_wp2
                  refine stq_v rfl Same.refl ?_
                  first | (simp only [mkAct, List.foldl_cons, List.foldl_nil, List.setIfInBounds_toArray, List.set_cons_succ, List.set_cons_zero, upd, reduceIte, Nat.reduceEqDiff, Nat.reduceAdd, f2, str]; done) | (simp [mkAct, upd, f2, str, *]; done)
                · -- operation 4
                  obtain ⟨f3, -⟩ := hp
                  replace f3 : u 3 = (.bool true) := f3
                  try simp only [f3, str]
                  go_wp2
                  refine stq_v rfl Same.refl ?_
                  first | (simp only [mkAct, List.foldl_cons, List.foldl_nil, List.setIfInBounds_toArray, List.set_cons_succ, List.set_cons_zero, upd, reduceIte, Nat.reduceEqDiff, Nat.reduceAdd, f3, str]; done) | (simp [mkAct, upd, f3, str, *]; done)
                · -- operation 5
                  obtain ⟨f4, -⟩ := hp
                  replace f4 : u 4 = (.bool true) := f4
                  try simp only [f4, str]
                  go_wp2
                  refine stq_v rfl Same.refl ?_
                  first | (simp only [mkAct, List.foldl_cons, List.foldl_nil, List.setIfInBounds_toArray, List.set_cons_succ, List.set_cons_zero, upd, reduceIte, Nat.reduceEqDiff, Nat.reduceAdd, f4, str]; done) | (simp [mkAct, upd, f4, str, *]; done)
                · -- operation 6
                  obtain ⟨f5, f4, -⟩ := hp
                  replace f5 : u 5 = (.pointer (some ⟨w1.heap.size, 0, none⟩)) := f5
                  replace f4 : u 4 = (.bool true) := f4
                  try simp only [f5, f4, str]
                  go_wp2
                  refine stq_v rfl Same.refl ?_
                  first | (simp only [mkAct, List.foldl_cons, List.foldl_nil, List.setIfInBounds_toArray, List.set_cons_succ, List.set_cons_zero, upd, reduceIte, Nat.reduceEqDiff, Nat.reduceAdd, f5, f4, str]; done) | (simp [mkAct, upd, f5, f4, str, *]; done)
                · -- operation 7
                  obtain ⟨f6, f4, -⟩ := hp
                  replace f6 : u 6 = (.pointer (some ⟨w1.heap.size, 2, none⟩)) := f6
                  replace f4 : u 4 = (.bool true) := f4
                  try simp only [f6, f4, str]
                  have cx := hI.cell (k2.out)
                  go_wp2
                  refine stq_v rfl Same.refl ?_
                  first | (simp only [mkAct, List.foldl_cons, List.foldl_nil, List.setIfInBounds_toArray, List.set_cons_succ, List.set_cons_zero, upd, reduceIte, Nat.reduceEqDiff, Nat.reduceAdd, f6, f4, str]; done) | (simp [mkAct, upd, f6, f4, str, *]; done)
                · -- operation 8
                  obtain ⟨f4, -⟩ := hp
                  replace f4 : u 4 = (.bool true) := f4
                  try simp only [f4, str]
                  go_wp2
                  refine stq_v rfl Same.refl ?_
                  first | (simp only [mkAct, List.foldl_cons, List.foldl_nil, List.setIfInBounds_toArray, List.set_cons_succ, List.set_cons_zero, upd, reduceIte, Nat.reduceEqDiff, Nat.reduceAdd, f4, str]; done) | (simp [mkAct, upd, f4, str, *]; done)
                · -- operation 9
                  obtain ⟨f7, f8, f4, -⟩ := hp
                  replace f7 : u 7 = (.int .i64 c.vote.view) := f7
                  replace f8 : u 8 = (.int .i64 view) := f8
                  replace f4 : u 4 = (.bool true) := f4
                  try simp only [f7, f8, f4, str]
                  have hx := g2.out
                  go_wp2
                  refine stq_v rfl Same.refl ?_
                  first | (simp only [mkAct, List.foldl_cons, List.foldl_nil, List.setIfInBounds_toArray, List.set_cons_succ, List.set_cons_zero, upd, reduceIte, Nat.reduceEqDiff, Nat.reduceAdd, f7, f8, f4, str]; done) | (simp [mkAct, upd, f7, f8, f4, str, *]; done)
                · -- operation 10
                  obtain ⟨f4, f9, -⟩ := hp
                  replace f4 : u 4 = (.bool true) := f4
                  replace f9 : u 9 = (.bool true) := f9
                  try simp only [f4, f9, str]
                  go_wp2
                  refine stq_v rfl Same.refl ?_
                  first | (simp only [mkAct, List.foldl_cons, List.foldl_nil, List.setIfInBounds_toArray, List.set_cons_succ, List.set_cons_zero, upd, reduceIte, Nat.reduceEqDiff, Nat.reduceAdd, f4, f9, str]; done) | (simp [mkAct, upd, f4, f9, str, *]; done)
                · -- operation 11
                  obtain ⟨f10, -, -⟩ := hp
                  replace f10 : u 10 = (.bool true) := f10
                  try simp only [f10, str]
                  go_wp2
                  refine stq_v rfl Same.refl ?_
                  first | (simp only [mkAct, List.foldl_cons, List.foldl_nil, List.setIfInBounds_toArray, List.set_cons_succ, List.set_cons_zero, upd, reduceIte, Nat.reduceEqDiff, Nat.reduceAdd, f10, str]; done) | (simp [mkAct, upd, f10, str, *]; done)
                · -- operation 12
                  obtain ⟨f11, -⟩ := hp
                  replace f11 : u 11 = (.bool true) := f11
                  try simp only [f11, str]
                  go_wp2
                  refine stq_v rfl Same.refl ?_
                  first | (simp only [mkAct, List.foldl_cons, List.foldl_nil, List.setIfInBounds_toArray, List.set_cons_succ, List.set_cons_zero, upd, reduceIte, Nat.reduceEqDiff, Nat.reduceAdd, f11, str]; done) | (simp [mkAct, upd, f11, str, *]; done)
                · -- operation 13
                  obtain ⟨f12, f11, -⟩ := hp
                  replace f12 : u 12 = (.pointer (some ⟨w1.heap.size, 0, none⟩)) := f12
                  replace f11 : u 11 = (.bool true) := f11
                  try simp only [f12, f11, str]
                  go_wp2
                  refine stq_v rfl Same.refl ?_
                  first | (simp only [mkAct, List.foldl_cons, List.foldl_nil, List.setIfInBounds_toArray, List.set_cons_succ, List.set_cons_zero, upd, reduceIte, Nat.reduceEqDiff, Nat.reduceAdd, f12, f11, str]; done) | (simp [mkAct, upd, f12, f11, str, *]; done)
                · -- operation 14
                  obtain ⟨f13, f11, -⟩ := hp
                  replace f13 : u 13 = (.pointer (some ⟨w1.heap.size, 4, none⟩)) := f13
                  replace f11 : u 11 = (.bool true) := f11
                  try simp only [f13, f11, str]
                  go_wp2_with (refine load_mid rfl _ _ rfl w1.heap.size 4 rfl (bv c.vote.dig) _ (hI.range kd.out) Try.underlying29 rfl hinfD.out ?_)
                  refine stq_v rfl Same.refl ?_
                  first | (simp only [mkAct, List.foldl_cons, List.foldl_nil, List.setIfInBounds_toArray, List.set_cons_succ, List.set_cons_zero, upd, reduceIte, Nat.reduceEqDiff, Nat.reduceAdd, f13, f11, str]; done) | (simp [mkAct, upd, f13, f11, str, *]; done)
                · -- operation 15
                  obtain ⟨f11, -⟩ := hp
                  replace f11 : u 11 = (.bool true) := f11
                  try simp only [f11, str]
                  go_wp2_with (refine load_row rfl _ _ rfl w.heap.size rfl _ _ _ _ (hI.at (sb.out.at hbb.out)) Try.underlying24 rfl hinfB.out ?_)
                  refine stq_v rfl Same.refl ?_
                  first | (simp only [mkAct, List.foldl_cons, List.foldl_nil, List.setIfInBounds_toArray, List.set_cons_succ, List.set_cons_zero, upd, reduceIte, Nat.reduceEqDiff, Nat.reduceAdd, f11, str]; done) | (simp [mkAct, upd, f11, str, *]; done)
                · -- operation 16
                  obtain ⟨f15, -, f11, -⟩ := hp
                  replace f15 : u 15 = (.agg b.cells.toArray) := f15
                  replace f11 : u 11 = (.bool true) := f11
                  try simp only [f15, f11, str]
                  go_wp2_with fail
                  refine (hdb.out _ (BatV.same hb7.out hI)).mono ?_
                  rintro e w1 ⟨rfl, hs'⟩
                  go_wp2
                  refine stq_v rfl hs' ?_
                  first | (simp only [mkAct, List.foldl_cons, List.foldl_nil, List.setIfInBounds_toArray, List.set_cons_succ, List.set_cons_zero, upd, reduceIte, Nat.reduceEqDiff, Nat.reduceAdd, f15, f11, str]; done) | (simp [mkAct, upd, f15, f11, str, *]; done)
                · -- operation 17
                  obtain ⟨f14, f16, f11, -⟩ := hp
                  replace f14 : u 14 = (.agg (bv c.vote.dig).toArray) := f14
                  replace f16 : u 16 = (.agg (bv Db).toArray) := f16
                  replace f11 : u 11 = (.bool true) := f11
                  try simp only [f14, f16, f11, str]
                  have hx := heqC.out
                  have hg := hgd.out
                  go_wp2
                  refine stq_v rfl Same.refl ?_
                  first | (simp only [mkAct, List.foldl_cons, List.foldl_nil, List.setIfInBounds_toArray, List.set_cons_succ, List.set_cons_zero, upd, reduceIte, Nat.reduceEqDiff, Nat.reduceAdd, f14, f16, f11, str]; done) | (simp [mkAct, upd, f14, f16, f11, str, *]; done)
                · -- operation 18
                  obtain ⟨f11, f17, -⟩ := hp
                  replace f11 : u 11 = (.bool true) := f11
                  replace f17 : u 17 = (.bool false) := f17
                  try simp only [f11, f17, str]
                  go_wp2
                  refine stq_v rfl Same.refl ?_
                  first | (simp only [mkAct, List.foldl_cons, List.foldl_nil, List.setIfInBounds_toArray, List.set_cons_succ, List.set_cons_zero, upd, reduceIte, Nat.reduceEqDiff, Nat.reduceAdd, f11, f17, str]; done) | (simp [mkAct, upd, f11, f17, str, *]; done)
              · intro u wx hI hR
                obtain ⟨r0, r1, r2, r3, r4, r5, r6, r7, r8, r9, r10, r11, r12, r13, r14, r15, r16, r17, r18, -⟩ := hR
                replace r0 : u 0 = (.pointer (some ⟨w1.heap.size, 0, none⟩)) := r0
                replace r1 : u 1 = (.pointer (some ⟨w1.heap.size, 0, none⟩)) := r1
                replace r2 : u 2 = (.int .i64 c.vote.kind) := r2
                replace r3 : u 3 = (.bool true) := r3
                replace r4 : u 4 = (.bool true) := r4
                replace r5 : u 5 = (.pointer (some ⟨w1.heap.size, 0, none⟩)) := r5
                replace r6 : u 6 = (.pointer (some ⟨w1.heap.size, 2, none⟩)) := r6
                replace r7 : u 7 = (.int .i64 c.vote.view) := r7
                replace r8 : u 8 = (.int .i64 view) := r8
                replace r9 : u 9 = (.bool true) := r9
                replace r10 : u 10 = (.bool true) := r10
                replace r11 : u 11 = (.bool true) := r11
                replace r12 : u 12 = (.pointer (some ⟨w1.heap.size, 0, none⟩)) := r12
                replace r13 : u 13 = (.pointer (some ⟨w1.heap.size, 4, none⟩)) := r13
                replace r14 : u 14 = (.agg (bv c.vote.dig).toArray) := r14
                replace r15 : u 15 = (.agg b.cells.toArray) := r15
                replace r16 : u 16 = (.agg (bv Db).toArray) := r16
                replace r17 : u 17 = (.bool false) := r17
                replace r18 : u 18 = (.bool false) := r18
                simp only [mkAct, List.foldl_cons, List.foldl_nil, List.setIfInBounds_toArray, List.set_cons_succ, List.set_cons_zero]
                try simp only [str, r0, r1, r2, r3, r4, r5, r6, r7, r8, r9, r10, r11, r12, r13, r14, r15, r16, r17, r18]
                go_wp2
                go_meet
                exact ⟨rfl, hI⟩
          case rest =>
            obtain ⟨rfl, hI⟩ := hcut
            rename World => wx
            replace s0 := Lib.hid (s0.out.trans hI)
            replace sb := Lib.hid (sb.out.trans hI)
            replace so := Lib.hid (so.out.trans hI)
            replace sc := Lib.hid (sc.out.trans hI)
            replace sS := Lib.hid (sS.out.trans hI)
            clear hI hb7 k0 k2 kd hcs
            have hx := her2.out
            go_upto_region 10 with fail
            clear hx
            go_wp2_with (first | (refine load_row rfl _ _ rfl w5.heap.size rfl _ _ _ _ (sS.out.at rS.out) Try.underlying40 rfl hinfS.out ?_) | (refine load_row rfl _ _ rfl w0.heap.size rfl _ _ _ _ (so.out.at hbo.out) Try.underlying24 rfl hinfO.out ?_))
            refine (hacc2.out _ (SlotV.same' hS0.out (s0.out.trans (Same.refl))) (BatV.same ho.out s0.out)).mono ?_
            rintro e wa ⟨rfl, hs⟩
            replace s0 := Lib.hid (s0.out.trans hs)
            replace sb := Lib.hid (sb.out.trans hs)
            replace so := Lib.hid (so.out.trans hs)
            replace sc := Lib.hid (sc.out.trans hs)
            replace sS := Lib.hid (sS.out.trans hs)
            clear hs
            go_upto_region 11 with (first | (refine alloc_new rfl 40 rfl Try.zeroCells40 (by kernel_rfl) ?_; intro wb hz hsb; have lb := blk_lt hz; replace hz := Lib.hid hz; replace hsb := Lib.hid hsb) | (refine store_row rfl _ _ _ rfl wa.heap.size A2.1 rfl rfl _ _ hz.out hA2i.out hA2s.out hA2o.out ?_; intro wc rX2 hkc; clear rX2; replace hkc := Lib.hid hkc))
            have hs : Same wa wc := hsb.out.keep hkc.out (fun x hx hv => by omega)
            replace s0 := Lib.hid (s0.out.trans hs)
            replace sb := Lib.hid (sb.out.trans hs)
            replace so := Lib.hid (so.out.trans hs)
            replace sc := Lib.hid (sc.out.trans hs)
            replace sS := Lib.hid (sS.out.trans hs)
            clear hs hkc hsb hz
            have hb7 := Lib.hid (BatV.same hb.out s0.out)
            have ho7 := Lib.hid (BatV.same ho.out s0.out)
            refine wp_region_last (by kernel_rfl) [(110, 0), (111, 1), (112, 2), (113, 3), (114, 4), (115, 5), (116, 6), (117, 7), (118, 8), (119, 9), (120, 10), (8, 11)] Same (Same _) [isV (.int .i64 A2.2), isV (.bool q), isV (.agg o.cells.toArray), isV (.agg (bv Do).toArray), isV (.agg b.cells.toArray), isV (.agg (bv Db).toArray), isV (.bool q), isV (.bool true), isV (.bool true), isV (.bool true), isV (.bool true)] Same.refl.drew (fun _ _ h k => h.trans k) (by simp [isV_stable, isB_stable, isAny_stable]) (by decide) (l := [_, _, _, _, _, _, _, _, _, _, _]) rfl (by decide) (by decide) ?_ ?_
            · refine ⟨?_, ?_, ?_, ?_, ?_, ?_, ?_, ?_, ?_, ?_, ?_, trivial⟩
              all_goals (intro u wx hI hp; simp only [mkAct, List.foldl_cons, List.foldl_nil, List.setIfInBounds_toArray, List.set_cons_succ, List.set_cons_zero])
              · -- operation 0
                go_wp2
                refine stq_v rfl Same.refl ?_
                first | (simp only [mkAct, List.foldl_cons, List.foldl_nil, List.setIfInBounds_toArray, List.set_cons_succ, List.set_cons_zero, upd, reduceIte, Nat.reduceEqDiff, Nat.reduceAdd, str]; done) | (simp [mkAct, upd, str, *]; done)
              · -- operation 1
                obtain ⟨f0, -⟩ := hp
                replace f0 : u 0 = (.int .i64 A2.2) := f0
                try simp only [f0, str]
                have hx := hA2q.out
                go_wp2
                refine stq_v rfl Same.refl ?_
                first | (simp only [mkAct, List.foldl_cons, List.foldl_nil, List.setIfInBounds_toArray, List.set_cons_succ, List.set_cons_zero, upd, reduceIte, Nat.reduceEqDiff, Nat.reduceAdd, f0, str]; done) | (simp [mkAct, upd, f0, str, *]; done)
              · -- operation 2
                go_wp2_with (refine load_row rfl _ _ rfl w0.heap.size rfl _ _ _ _ (hI.at (so.out.at hbo.out)) Try.underlying24 rfl hinfO.out ?_)
                refine stq_v rfl Same.refl ?_
                first | (simp only [mkAct, List.foldl_cons, List.foldl_nil, List.setIfInBounds_toArray, List.set_cons_succ, List.set_cons_zero, upd, reduceIte, Nat.reduceEqDiff, Nat.reduceAdd, str]; done) | (simp [mkAct, upd, str, *]; done)
              · -- operation 3
                obtain ⟨f2, -⟩ := hp
                replace f2 : u 2 = (.agg o.cells.toArray) := f2
                try simp only [f2, str]
                go_wp2_with fail
                refine (hdo.out _ (BatV.same ho7.out hI)).mono ?_
                rintro e w1 ⟨rfl, hs'⟩
                go_wp2
                refine stq_v rfl hs' ?_
                first | (simp only [mkAct, List.foldl_cons, List.foldl_nil, List.setIfInBounds_toArray, List.set_cons_succ, List.set_cons_zero, upd, reduceIte, Nat.reduceEqDiff, Nat.reduceAdd, f2, str]; done) | (simp [mkAct, upd, f2, str, *]; done)
              · -- operation 4
                go_wp2_with (refine load_row rfl _ _ rfl w.heap.size rfl _ _ _ _ (hI.at (sb.out.at hbb.out)) Try.underlying24 rfl hinfB.out ?_)
                refine stq_v rfl Same.refl ?_
                first | (simp only [mkAct, List.foldl_cons, List.foldl_nil, List.setIfInBounds_toArray, List.set_cons_succ, List.set_cons_zero, upd, reduceIte, Nat.reduceEqDiff, Nat.reduceAdd, str]; done) | (simp [mkAct, upd, str, *]; done)
              · -- operation 5
                obtain ⟨f4, -, -⟩ := hp
                replace f4 : u 4 = (.agg b.cells.toArray) := f4
                try simp only [f4, str]
                go_wp2_with fail
                refine (hdb.out _ (BatV.same hb7.out hI)).mono ?_
                rintro e w1 ⟨rfl, hs'⟩
                go_wp2
                refine stq_v rfl hs' ?_
                first | (simp only [mkAct, List.foldl_cons, List.foldl_nil, List.setIfInBounds_toArray, List.set_cons_succ, List.set_cons_zero, upd, reduceIte, Nat.reduceEqDiff, Nat.reduceAdd, f4, str]; done) | (simp [mkAct, upd, f4, str, *]; done)
              · -- operation 6
                obtain ⟨f3, f5, -⟩ := hp
                replace f3 : u 3 = (.agg (bv Do).toArray) := f3
                replace f5 : u 5 = (.agg (bv Db).toArray) := f5
                try simp only [f3, f5, str]
                have hx := heqD.out
                have hg := hgd.out
                go_wp2
                refine stq_v rfl Same.refl ?_
                first | (simp only [mkAct, List.foldl_cons, List.foldl_nil, List.setIfInBounds_toArray, List.set_cons_succ, List.set_cons_zero, upd, reduceIte, Nat.reduceEqDiff, Nat.reduceAdd, f3, f5, str]; done) | (simp [mkAct, upd, f3, f5, str, *]; done)
              · -- operation 7
                obtain ⟨f1, f6, -⟩ := hp
                replace f1 : u 1 = (.bool q) := f1
                replace f6 : u 6 = (.bool q) := f6
                try simp only [f1, f6, str]
                have hx : (q == q) = true := by simp
                go_wp2
                refine stq_v rfl Same.refl ?_
                first | (simp only [mkAct, List.foldl_cons, List.foldl_nil, List.setIfInBounds_toArray, List.set_cons_succ, List.set_cons_zero, upd, reduceIte, Nat.reduceEqDiff, Nat.reduceAdd, f1, f6, str]; done) | (simp [mkAct, upd, f1, f6, str, *]; done)
              · -- operation 8
                obtain ⟨f7, -, -⟩ := hp
                replace f7 : u 7 = (.bool true) := f7
                try simp only [f7, str]
                go_wp2
                refine stq_v rfl Same.refl ?_
                first | (simp only [mkAct, List.foldl_cons, List.foldl_nil, List.setIfInBounds_toArray, List.set_cons_succ, List.set_cons_zero, upd, reduceIte, Nat.reduceEqDiff, Nat.reduceAdd, f7, str]; done) | (simp [mkAct, upd, f7, str, *]; done)
              · -- operation 9
                obtain ⟨-, f8, -⟩ := hp
                replace f8 : u 8 = (.bool true) := f8
                try simp only [f8, str]
                go_wp2_with fail
                refine (hl.out _).mono ?_
                rintro e w1 ⟨rfl, hs'⟩
                go_wp2
                refine stq_v rfl hs' ?_
                first | (simp only [mkAct, List.foldl_cons, List.foldl_nil, List.setIfInBounds_toArray, List.set_cons_succ, List.set_cons_zero, upd, reduceIte, Nat.reduceEqDiff, Nat.reduceAdd, f8, str]; done) | (simp [mkAct, upd, f8, str, *]; done)
              · -- operation 10
                obtain ⟨f8, f9, -⟩ := hp
                replace f8 : u 8 = (.bool true) := f8
                replace f9 : u 9 = (.bool true) := f9
                try simp only [f8, f9, str]
                go_wp2
                refine stq_v rfl Same.refl ?_
                first | (simp only [mkAct, List.foldl_cons, List.foldl_nil, List.setIfInBounds_toArray, List.set_cons_succ, List.set_cons_zero, upd, reduceIte, Nat.reduceEqDiff, Nat.reduceAdd, f8, f9, str]; done) | (simp [mkAct, upd, f8, f9, str, *]; done)
            · intro u wx hI hR
              obtain ⟨r0, r1, r2, r3, r4, r5, r6, r7, r8, r9, r10, -⟩ := hR
              replace r0 : u 0 = (.int .i64 A2.2) := r0
              replace r1 : u 1 = (.bool q) := r1
              replace r2 : u 2 = (.agg o.cells.toArray) := r2
              replace r3 : u 3 = (.agg (bv Do).toArray) := r3
              replace r4 : u 4 = (.agg b.cells.toArray) := r4
              replace r5 : u 5 = (.agg (bv Db).toArray) := r5
              replace r6 : u 6 = (.bool q) := r6
              replace r7 : u 7 = (.bool true) := r7
              replace r8 : u 8 = (.bool true) := r8
              replace r9 : u 9 = (.bool true) := r9
              replace r10 : u 10 = (.bool true) := r10
              simp only [mkAct, List.foldl_cons, List.foldl_nil, List.setIfInBounds_toArray, List.set_cons_succ, List.set_cons_zero]
              try simp only [str, r0, r1, r2, r3, r4, r5, r6, r7, r8, r9, r10]
              go_wp2
              go_ret
              exact ⟨rfl, s0.out.trans hI⟩
    · have h100' : Decidable.decide (100 < (n : Int)) = true := decide_eq_true (by omega)
      go_wp2_with fail
      refine (hl.out _).mono ?_
      rintro e w4 ⟨rfl, hs⟩
      replace s0 := Lib.hid (s0.out.trans hs)
      replace sb := Lib.hid (sb.out.trans hs)
      replace so := Lib.hid (so.out.trans hs)
      replace sc := Lib.hid (sc.out.trans hs)
      clear hs
      go_wp2
      go_ret
      exact ⟨rfl, s0.out⟩
end Go.Proofs.Ytgdkhiihdoekaaa
