/-
  THE LAW 'raddle/raddlelaw18.SlotTells': for every input the Go function returns true, and each argument reads as it did.
  Conditions: those of the given row, none of ours. (The frame is written by a program of this work, law.py, after the kit's proof-skeleton; the walk stands in YtmacgmmjgdmleaaWalkSlotTells.)
-/
import Derived.Test.YtmacgmmjgdmleaaOpen
import Derived.SizedLaws
import Derived.Test.YtmacgmmjgdmleaaSlot4
import Derived.Test.YtmacgmmjgdmleaaSlotT
import Derived.Test.YtmacgmmjgdmleaaMutL
namespace Go.Proofs.Ytmacgmmjgdmleaa
open Go Go.RowKit
set_option linter.unusedSimpArgs false
set_option linter.unusedVariables false

/-- What was met in each view. -/
abbrev MetV := Int → Option (List UInt8)
def MetV.with (m : MetV) (v : Int) (d : List UInt8) : MetV := fun x => if x = v then some d else m x
def OnceInv (s : SlotV) (m : MetV) : Prop :=
  (s.is = true → m s.view = some (bDig s.bat)) ∧ (∀ v d, m v = some d → s.is = true ∧ v ≤ s.view) ∧
  (s.holds = true → m s.hcert.vote.view = some s.hcert.vote.dig) ∧ (s.decided = true → s.ecert.vote.dig = bDig s.ebat)
def MetV.next (m : MetV) (x : SlotV) : MetV := if x.is = true then m.with x.view (bDig x.bat) else m
/-- A step that was taken. -/
def OnceStep (s x : SlotV) (m : MetV) : Prop :=
  (s.is = true → x.is = true ∧ s.view ≤ x.view) ∧ (s.holds = true → x.holds = true ∧ s.hcert.vote.view ≤ x.hcert.vote.view) ∧
  (s.decided = true → x.decided = true ∧ x.eslot = s.eslot ∧ x.ebat = s.ebat ∧ x.ecert = s.ecert) ∧
  (x.is = true → m x.view = none ∨ m x.view = some (bDig x.bat)) ∧ OnceInv x (m.next x)
theorem once_start : OnceInv zeroSlot (fun _ => none) := ⟨(fun h => by cases h), (fun v d h => by cases h), (fun h => by cases h), (fun h => by cases h)⟩
theorem next_same {s : SlotV} {m : MetV} (h : OnceInv s m) : m.next s = m := by
  unfold MetV.next
  split
  · rename_i hi
    funext v
    unfold MetV.with
    split
    · rename_i e
      rw [e, h.1 hi]
    · rfl
  · rfl
theorem once_self {s : SlotV} {m : MetV} (h : OnceInv s m) : OnceStep s s m :=
  ⟨fun hi => ⟨hi, Int.le_refl _⟩, fun hi => ⟨hi, Int.le_refl _⟩, fun hi => ⟨hi, rfl, rfl, rfl⟩, fun hi => .inr (h.1 hi), by rw [next_same h]; exact h⟩
theorem once_accept {s x : SlotV} {m : MetV} {v : Int} {b : BatV} (h : OnceInv s m) (e : s.accept v b = (x, 0)) : OnceStep s x m := by
  unfold SlotV.accept at e
  split at e
  · simp at e
  · rename_i h1
    split at e
    · split at e
      · obtain ⟨rfl, -⟩ := Prod.mk.inj e
        exact once_self h
      · simp at e
    · rename_i h2
      obtain ⟨rfl, -⟩ := Prod.mk.inj e
      have hlt : ∀ u d, m u = some d → u < v := by
        intro u d hu
        obtain ⟨h3, h4⟩ := h.2.1 u d hu
        rw [not_or] at h1
        have h5 : ¬ v < s.view := fun h6 => h1.2 ⟨h3, h6⟩
        have h6 : ¬ s.view = v := fun h7 => h2 ⟨h3, h7⟩
        omega
      have hne : ∀ u d, m u = some d → u ≠ v := fun u d hu => by have := hlt u d hu; omega
      refine ⟨?_, fun hi => ⟨hi, Int.le_refl _⟩, fun hi => ⟨hi, rfl, rfl, rfl⟩, ?_, ?_, ?_, ?_, h.2.2.2⟩
      · intro hi
        refine ⟨rfl, ?_⟩
        have := hlt _ _ (h.1 hi)
        show s.view ≤ v
        omega
      · intro _
        left
        show m v = none
        cases hm : m v with
        | none => rfl
        | some d => exact absurd rfl (hne v d hm)
      · intro _
        simp [MetV.next, MetV.with]
      · intro u d hu
        refine ⟨rfl, ?_⟩
        show u ≤ v
        simp only [MetV.next, MetV.with, if_true] at hu
        split at hu
        · omega
        · have := hlt u d hu
          omega
      · intro hi
        have := h.2.2.1 hi
        simp only [MetV.next, MetV.with, if_true]
        rw [if_neg (hne _ _ this)]
        exact this
theorem once_hold {s x : SlotV} {m : MetV} {c : CertV} (h : OnceInv s m) (e : s.hold c = (x, 0)) : OnceStep s x m := by
  unfold SlotV.hold at e
  split at e
  · simp at e
  · split at e
    · simp at e
    · rename_i h2
      split at e
      · simp at e
      · rename_i h3
        split at e
        · obtain ⟨rfl, -⟩ := Prod.mk.inj e
          exact once_self h
        · rename_i h4
          obtain ⟨rfl, -⟩ := Prod.mk.inj e
          have h2' : s.is = true ∧ s.view = c.vote.view := Decidable.not_not.1 h2
          have h3' : c.vote.dig = bDig s.bat := Decidable.not_not.1 h3
          have hm : MetV.next m { s with holds := true, hbat := s.bat, hcert := c } = m := by
            have := next_same h
            exact this
          refine ⟨fun hi => ⟨hi, Int.le_refl _⟩, fun hi => ⟨rfl, ?_⟩, fun hi => ⟨hi, rfl, rfl, rfl⟩, fun hi => .inr (h.1 hi), ?_⟩
          · show s.hcert.vote.view ≤ c.vote.view
            by_cases h5 : c.vote.view ≤ s.hcert.vote.view
            · exact absurd ⟨hi, h5⟩ h4
            · omega
          · rw [hm]
            refine ⟨h.1, h.2.1, fun _ => ?_, h.2.2.2⟩
            show m c.vote.view = some c.vote.dig
            rw [← h2'.2, h3', h.1 h2'.1]
theorem once_decide {s x : SlotV} {m : MetV} {b : BatV} {c : CertV} (h : OnceInv s m) (e : s.decide b c = (x, 0)) : OnceStep s x m := by
  unfold SlotV.decide at e
  split at e
  · simp at e
  · rename_i h1
    split at e
    · split at e
      · obtain ⟨rfl, -⟩ := Prod.mk.inj e
        exact once_self h
      · simp at e
    · rename_i h2
      obtain ⟨rfl, -⟩ := Prod.mk.inj e
      have h3 : c.vote.dig = bDig b := by
        rw [not_or] at h1
        exact Decidable.not_not.1 h1.2
      have hm : MetV.next m { s with decided := true, eslot := c.vote.slot, ebat := b, ecert := c } = m := by
        have := next_same h
        exact this
      refine ⟨fun hi => ⟨hi, Int.le_refl _⟩, fun hi => ⟨hi, Int.le_refl _⟩, fun hi => absurd hi h2, fun hi => .inr (h.1 hi), ?_⟩
      rw [hm]
      exact ⟨h.1, h.2.1, h.2.2.1, fun _ => h3⟩
/-- What was refused is the zero slot. -/
theorem accept_bad {s x : SlotV} {v : Int} {b : BatV} {n : Nat} (e : s.accept v b = (x, n)) (hn : n ≠ 0) : x = zeroSlot := by
  unfold SlotV.accept at e
  repeat' split at e
  all_goals obtain ⟨rfl, rfl⟩ := Prod.mk.inj e
  all_goals first | rfl | exact absurd rfl hn
theorem hold_bad {s x : SlotV} {c : CertV} {n : Nat} (e : s.hold c = (x, n)) (hn : n ≠ 0) : x = zeroSlot := by
  unfold SlotV.hold at e
  repeat' split at e
  all_goals obtain ⟨rfl, rfl⟩ := Prod.mk.inj e
  all_goals first | rfl | exact absurd rfl hn
theorem decide_bad {s x : SlotV} {b : BatV} {c : CertV} {n : Nat} (e : s.decide b c = (x, n)) (hn : n ≠ 0) : x = zeroSlot := by
  unfold SlotV.decide at e
  repeat' split at e
  all_goals obtain ⟨rfl, rfl⟩ := Prod.mk.inj e
  all_goals first | rfl | exact absurd rfl hn
/-- All parts of a slot are of those that fit. -/
def SlotV.fits (p : BatV → Prop) (q : CertV → Prop) (r : Int → Prop) (s : SlotV) : Prop := p s.bat ∧ p s.hbat ∧ p s.ebat ∧ q s.hcert ∧ q s.ecert ∧ r s.view ∧ r s.eslot
section
variable {p : BatV → Prop} {q : CertV → Prop} {r : Int → Prop} {s x : SlotV} {n : Nat}
theorem fits_accept {v : Int} {b : BatV} (h : s.fits p q r) (hz : zeroSlot.fits p q r) (hb : p b) (hv : r v) (e : s.accept v b = (x, n)) : x.fits p q r := by
  unfold SlotV.accept at e
  repeat' split at e
  all_goals obtain ⟨rfl, rfl⟩ := Prod.mk.inj e
  all_goals first | exact h | exact hz | exact ⟨hb, h.2.1, h.2.2.1, h.2.2.2.1, h.2.2.2.2.1, hv, h.2.2.2.2.2.2⟩
theorem fits_hold {c : CertV} (h : s.fits p q r) (hz : zeroSlot.fits p q r) (hc : q c) (e : s.hold c = (x, n)) : x.fits p q r := by
  unfold SlotV.hold at e
  repeat' split at e
  all_goals obtain ⟨rfl, rfl⟩ := Prod.mk.inj e
  all_goals first | exact h | exact hz | exact ⟨h.1, h.1, h.2.2.1, hc, h.2.2.2.2⟩
theorem fits_decide {b : BatV} {c : CertV} (h : s.fits p q r) (hz : zeroSlot.fits p q r) (hb : p b) (hc : q c) (hs : r c.vote.slot) (e : s.decide b c = (x, n)) : x.fits p q r := by
  unfold SlotV.decide at e
  repeat' split at e
  all_goals obtain ⟨rfl, rfl⟩ := Prod.mk.inj e
  all_goals first | exact h | exact hz | exact ⟨h.1, h.2.1, hb, h.2.2.2.1, hc, h.2.2.2.2.2.1, hs⟩
end
theorem fits_at {w : World} {s : SlotV} (h : s.fits (fun b => b.at w ∧ b.small) (fun c => c.at w) (fun x => (Lit.int .i64 x).wf = true)) : s.at w ∧ s.bat.small ∧ s.hbat.small ∧ s.ebat.small :=
  ⟨⟨h.2.2.2.2.2.1, h.2.2.2.2.2.2, h.1.1, h.2.1.1, h.2.2.2.1, h.2.2.1.1, h.2.2.2.2.1⟩, h.1.2, h.2.1.2, h.2.2.1.2⟩
end Go.Proofs.Ytmacgmmjgdmleaa
namespace Go.Proofs.Ytmacgmmjgdmleaa
open Go Go.RowKit
set_option linter.unusedSimpArgs false
set_option linter.unusedVariables false

set_option maxRecDepth 100000
set_option maxRecDepth 100000 in
set_option maxHeartbeats 3200000 in
theorem racc_any (s : SlotV) (view : Int) (b : BatV) (w : World) (hs : s.at w) (hb : b.at w) (hsm : s.bat.small) (hbm : b.small) :
    Calls Try.prog 24 #[.agg s.cells.toArray, .int .i64 view, .agg b.cells.toArray] w (RetSlot w (s.accept view b)) := by
  have hwf := hs.wf
  have hinf := Lib.hid (rslot_info hwf)
  have hinfZ := Lib.hid (rslot_info zeroSlot_wf)
  have hinfB := Lib.hid (bat_info b)
  have hinfb := Lib.hid (bat_infoL s.bat)
  have hlen := Lib.hid (SlotV.len hwf)
  have hd1 := Lib.hid (fun w h => rbdig_any s.bat w h hsm)
  have hd2 := Lib.hid (fun w h => rbdig_any b w h hbm)
  rcases accept_cases s view b with ⟨h1, h⟩ | ⟨h1, h2, h3, h⟩ | ⟨h1, h2, h3, h⟩ | ⟨h1, h2, h⟩
  · rw [h]
    clear h hd1 hd2 hsm hbm
    replace hwf := Lib.hid hwf
    replace hs := Lib.hid hs
    replace hb := Lib.hid hb
    have g1 : decide (view < 0) = true := decide_eq_true h1
    go_enter Try.func24, Try.ntmps24
    go_upto_region 1 with (first | (refine box_row rfl _ _ rfl s.cells.toArray rfl hinf.out ?_; intro w0 hbs hs0; have l0 := blk_lt hbs; replace hbs := Lib.hid hbs; replace hs0 := Lib.hid hs0) | (refine box_row rfl _ _ rfl b.cells.toArray rfl hinfB.out ?_; intro w1 hbb hs1; have l1 := blk_lt hbb; replace hbb := Lib.hid hbb; replace hs1 := Lib.hid hs1) | (refine alloc_new rfl 50 rfl zeroSlot.cells.toArray (by kernel_rfl) ?_; intro w2 hbz hs2; have l2 := blk_lt hbz; replace hbz := Lib.hid hbz; replace hs2 := Lib.hid hs2))
    have a0 := Lib.hid ((hs1.out.trans hs2.out).at hbs.out)
    have a1 := Lib.hid (hs2.out.at hbb.out)
    have hw2 := Lib.hid (hs0.out.trans (hs1.out.trans hs2.out))
    have z0 := hs0.out.size
    have z1 := hs1.out.size
    have z2 := hs2.out.size
    have c0 := sl_view a0.out
    have c3 := sl_is a0.out
    clear hbs hbb hs0 hs1 hs2
    clear c3
    go_wp2_with (first | (refine build_const (ty := 50) (.agg zeroSlot.cells.toArray) rfl rfl (by kernel_rfl) ?_) | (refine store_row rfl _ _ _ rfl w1.heap.size zeroSlot.cells.toArray rfl rfl _ _ hbz.out hinfZ.out rfl (slot_one _) ?_; intro w9 hb9 hk9; replace hb9 := Lib.hid hb9; replace hk9 := Lib.hid hk9))
    refine bodyPost_ret (v := .tuple #[.agg zeroSlot.cells.toArray, .int .i64 180]) (results_row2 (p := 6) (q := 7) (ty := 50) rfl _ _ w1.heap.size _ _ _ _ _ rfl rfl hb9.out Try.underlying50 rfl hinfZ.out) rfl ?_
    exact ⟨rfl, hw2.out.keep hk9.out (fun x hx hv => by omega)⟩
  · rw [h]
    clear h hd1 hd2 hsm hbm
    replace hwf := Lib.hid hwf
    replace hs := Lib.hid hs
    replace hb := Lib.hid hb
    have g1 : decide (view < 0) = false := decide_eq_false (by omega)
    have g2 : decide (view < s.view) = true := decide_eq_true (by omega)
    go_enter Try.func24, Try.ntmps24
    go_upto_region 1 with (first | (refine box_row rfl _ _ rfl s.cells.toArray rfl hinf.out ?_; intro w0 hbs hs0; have l0 := blk_lt hbs; replace hbs := Lib.hid hbs; replace hs0 := Lib.hid hs0) | (refine box_row rfl _ _ rfl b.cells.toArray rfl hinfB.out ?_; intro w1 hbb hs1; have l1 := blk_lt hbb; replace hbb := Lib.hid hbb; replace hs1 := Lib.hid hs1) | (refine alloc_new rfl 50 rfl zeroSlot.cells.toArray (by kernel_rfl) ?_; intro w2 hbz hs2; have l2 := blk_lt hbz; replace hbz := Lib.hid hbz; replace hs2 := Lib.hid hs2))
    have a0 := Lib.hid ((hs1.out.trans hs2.out).at hbs.out)
    have a1 := Lib.hid (hs2.out.at hbb.out)
    have hw2 := Lib.hid (hs0.out.trans (hs1.out.trans hs2.out))
    have z0 := hs0.out.size
    have z1 := hs1.out.size
    have z2 := hs2.out.size
    have c0 := sl_view a0.out
    have c3 := sl_is a0.out
    clear hbs hbb hs0 hs1 hs2
    rw [h2] at c3
    go_wp2_with (first | (refine build_const (ty := 50) (.agg zeroSlot.cells.toArray) rfl rfl (by kernel_rfl) ?_) | (refine store_row rfl _ _ _ rfl w1.heap.size zeroSlot.cells.toArray rfl rfl _ _ hbz.out hinfZ.out rfl (slot_one _) ?_; intro w9 hb9 hk9; replace hb9 := Lib.hid hb9; replace hk9 := Lib.hid hk9))
    refine bodyPost_ret (v := .tuple #[.agg zeroSlot.cells.toArray, .int .i64 180]) (results_row2 (p := 6) (q := 7) (ty := 50) rfl _ _ w1.heap.size _ _ _ _ _ rfl rfl hb9.out Try.underlying50 rfl hinfZ.out) rfl ?_
    exact ⟨rfl, hw2.out.keep hk9.out (fun x hx hv => by omega)⟩
  · have hq := dig_neq (bDig s.bat) (bDig b) (bDig_length _) (bDig_length _)
    have hgd := dig_guard
    rw [h]
    clear h
    obtain ⟨D1, hD1⟩ : ∃ D, D = bDig s.bat := ⟨_, rfl⟩
    obtain ⟨D2, hD2⟩ : ∃ D, D = bDig b := ⟨_, rfl⟩
    have hd1' : ∀ w, s.bat.at w → Calls Try.prog 22 #[.agg s.bat.cells.toArray] w fun e w' => e = .returned (.agg (bv D1).toArray) ∧ Same w w' := by rw [hD1]; exact hd1.out
    have hd2' : ∀ w, b.at w → Calls Try.prog 22 #[.agg b.cells.toArray] w fun e w' => e = .returned (.agg (bv D2).toArray) ∧ Same w w' := by rw [hD2]; exact hd2.out
    rw [← hD1, ← hD2] at hq ⊢
    clear hd1 hd2 hsm hbm hD1 hD2
    replace hd1' := Lib.hid hd1'
    replace hd2' := Lib.hid hd2'
    replace hq := Lib.hid hq
    replace hgd := Lib.hid hgd
    replace hwf := Lib.hid hwf
    replace hs := Lib.hid hs
    replace hb := Lib.hid hb
    obtain ⟨q, hqe⟩ : ∃ q, q = (D1 != D2) := ⟨_, rfl⟩
    have hif : (if D1 = D2 then (s, 0) else (zeroSlot, 181)) = if q = true then (zeroSlot, 181) else (s, 0) := by
      rw [hqe]
      by_cases e : D1 = D2 <;> simp [e]
    rw [hif]
    rw [← hqe] at hq
    clear hif hqe
    obtain ⟨R, hR⟩ : ∃ R, R = if q = true then (zeroSlot, 181) else (s, 0) := ⟨_, rfl⟩
    rw [← hR]
    have hRf : q = false → R = (s, 0) := by rintro rfl; rw [hR]; rfl
    have hRt : q = true → R = (zeroSlot, 181) := by rintro rfl; rw [hR]; rfl
    clear hR
    replace hRf := Lib.hid hRf
    replace hRt := Lib.hid hRt
    have g1 : decide (view < 0) = false := decide_eq_false (by omega)
    have g2 : decide (view < view) = false := decide_eq_false (by omega)
    go_enter Try.func24, Try.ntmps24
    go_upto_region 1 with (first | (refine box_row rfl _ _ rfl s.cells.toArray rfl hinf.out ?_; intro w0 hbs hs0; have l0 := blk_lt hbs; replace hbs := Lib.hid hbs; replace hs0 := Lib.hid hs0) | (refine box_row rfl _ _ rfl b.cells.toArray rfl hinfB.out ?_; intro w1 hbb hs1; have l1 := blk_lt hbb; replace hbb := Lib.hid hbb; replace hs1 := Lib.hid hs1) | (refine alloc_new rfl 50 rfl zeroSlot.cells.toArray (by kernel_rfl) ?_; intro w2 hbz hs2; have l2 := blk_lt hbz; replace hbz := Lib.hid hbz; replace hs2 := Lib.hid hs2))
    have a0 := Lib.hid ((hs1.out.trans hs2.out).at hbs.out)
    have a1 := Lib.hid (hs2.out.at hbb.out)
    have hw2 := Lib.hid (hs0.out.trans (hs1.out.trans hs2.out))
    have z0 := hs0.out.size
    have z1 := hs1.out.size
    have z2 := hs2.out.size
    have c0 := sl_view a0.out
    have c3 := sl_is a0.out
    clear hbs hbb hs0 hs1 hs2
    rw [h2] at c3
    rw [h3] at c0
    go_upto_region 4 with fail
    clear c0 c3
    refine wp_region_facts (by kernel_rfl) [(29, 0), (30, 1), (31, 2), (32, 3), (33, 4), (34, 5)] Same (Same _) [isV (.pointer (some ⟨w.heap.size, 1, none⟩)), isV (.agg s.bat.cells.toArray), isV (.agg (bv D1).toArray), isV (.agg b.cells.toArray), isV (.agg (bv D2).toArray), isV (.bool q)] Same.refl.drew (fun _ _ h k => h.trans k) (by simp [isV_stable, isB_stable, isAny_stable]) (by decide) (by decide) ?_ ?_
    · refine ⟨?_, ?_, ?_, ?_, ?_, ?_, trivial⟩
      all_goals (intro u wx hI hp; simp only [mkAct, List.foldl_cons, List.foldl_nil, List.setIfInBounds_toArray, List.set_cons_succ, List.set_cons_zero])
      · -- operation 0
        go_wp2
        refine stq_v rfl Same.refl ?_
        first | (simp only [mkAct, List.foldl_cons, List.foldl_nil, List.setIfInBounds_toArray, List.set_cons_succ, List.set_cons_zero, upd, reduceIte, Nat.reduceEqDiff, Nat.reduceAdd, str]; done) | (simp [mkAct, upd, str, *]; done)
      · -- operation 1
        obtain ⟨f0, -⟩ := hp
        replace f0 : u 0 = (.pointer (some ⟨w.heap.size, 1, none⟩)) := f0
        try simp only [f0, str]
        go_wp2_with (refine load_mid rfl _ _ rfl w.heap.size 1 rfl s.bat.cells _ (hI.range (sl_bat a0.out)) Try.underlying26 rfl hinfb.out ?_)
        refine stq_v rfl Same.refl ?_
        first | (simp only [mkAct, List.foldl_cons, List.foldl_nil, List.setIfInBounds_toArray, List.set_cons_succ, List.set_cons_zero, upd, reduceIte, Nat.reduceEqDiff, Nat.reduceAdd, f0, str]; done) | (simp [mkAct, upd, f0, str, *]; done)
      · -- operation 2
        obtain ⟨f1, -⟩ := hp
        replace f1 : u 1 = (.agg s.bat.cells.toArray) := f1
        try simp only [f1, str]
        go_wp2_with fail
        refine (hd1'.out _ (BatV.same hs.out.2.2.1 (hw2.out.trans hI))).mono ?_
        rintro e w1 ⟨rfl, hs'⟩
        go_wp2
        refine stq_v rfl hs' ?_
        first | (simp only [mkAct, List.foldl_cons, List.foldl_nil, List.setIfInBounds_toArray, List.set_cons_succ, List.set_cons_zero, upd, reduceIte, Nat.reduceEqDiff, Nat.reduceAdd, f1, str]; done) | (simp [mkAct, upd, f1, str, *]; done)
      · -- operation 3
        go_wp2_with (refine load_row rfl _ _ rfl w0.heap.size rfl _ _ _ _ (hI.at a1.out) Try.underlying26 rfl hinfB.out ?_)
        refine stq_v rfl Same.refl ?_
        first | (simp only [mkAct, List.foldl_cons, List.foldl_nil, List.setIfInBounds_toArray, List.set_cons_succ, List.set_cons_zero, upd, reduceIte, Nat.reduceEqDiff, Nat.reduceAdd, str]; done) | (simp [mkAct, upd, str, *]; done)
      · -- operation 4
        obtain ⟨f3, -, -⟩ := hp
        replace f3 : u 3 = (.agg b.cells.toArray) := f3
        try simp only [f3, str]
        go_wp2_with fail
        refine (hd2'.out _ (BatV.same hb.out (hw2.out.trans hI))).mono ?_
        rintro e w1 ⟨rfl, hs'⟩
        go_wp2
        refine stq_v rfl hs' ?_
        first | (simp only [mkAct, List.foldl_cons, List.foldl_nil, List.setIfInBounds_toArray, List.set_cons_succ, List.set_cons_zero, upd, reduceIte, Nat.reduceEqDiff, Nat.reduceAdd, f3, str]; done) | (simp [mkAct, upd, f3, str, *]; done)
      · -- operation 5
        obtain ⟨f2, f4, -⟩ := hp
        replace f2 : u 2 = (.agg (bv D1).toArray) := f2
        replace f4 : u 4 = (.agg (bv D2).toArray) := f4
        try simp only [f2, f4, str]
        have hqo := hq.out
        have hgo := hgd.out
        go_wp2
        refine stq_v rfl Same.refl ?_
        first | (simp only [mkAct, List.foldl_cons, List.foldl_nil, List.setIfInBounds_toArray, List.set_cons_succ, List.set_cons_zero, upd, reduceIte, Nat.reduceEqDiff, Nat.reduceAdd, f2, f4, str]; done) | (simp [mkAct, upd, f2, f4, str, *]; done)
    · intro u wx hI hR
      obtain ⟨r0, r1, r2, r3, r4, r5, -⟩ := hR
      replace r0 : u 0 = (.pointer (some ⟨w.heap.size, 1, none⟩)) := r0
      replace r1 : u 1 = (.agg s.bat.cells.toArray) := r1
      replace r2 : u 2 = (.agg (bv D1).toArray) := r2
      replace r3 : u 3 = (.agg b.cells.toArray) := r3
      replace r4 : u 4 = (.agg (bv D2).toArray) := r4
      replace r5 : u 5 = (.bool q) := r5
      simp only [mkAct, List.foldl_cons, List.foldl_nil, List.setIfInBounds_toArray, List.set_cons_succ, List.set_cons_zero]
      try simp only [str, r0, r1, r2, r3, r4, r5]
      have r04 := Lib.hid (hI.at a0.out)
      have r24 := Lib.hid (hI.at hbz.out)
      have hw4 := Lib.hid (hw2.out.trans hI)
      clear hI r0 r1 r2 r3 r4 r5 hbz hw2
      cases q
      · have hRe := hRf.out rfl
        clear hRf hRt
        subst hRe
        go_wp2_with (first | (refine load_row rfl _ _ rfl w.heap.size rfl _ _ _ _ r04.out Try.underlying50 rfl hinf.out ?_) | (refine store_row rfl _ _ _ rfl w1.heap.size s.cells.toArray rfl rfl _ _ r24.out hinf.out (slot_size zeroSlot_wf hwf.out) (slot_one _) ?_; intro w9 hb9 hk9; replace hb9 := Lib.hid hb9; replace hk9 := Lib.hid hk9))
        refine bodyPost_ret (v := .tuple #[.agg s.cells.toArray, .int .i64 0]) (results_row2 (p := 6) (q := 7) (ty := 50) rfl _ _ w1.heap.size _ _ _ _ _ rfl rfl hb9.out Try.underlying50 rfl hinf.out) rfl ?_
        exact ⟨rfl, hw4.out.keep hk9.out (fun x hx hv => by omega)⟩
      · have hRe := hRt.out rfl
        clear hRf hRt
        subst hRe
        go_wp2_with (first | (refine build_const (ty := 50) (.agg zeroSlot.cells.toArray) rfl rfl (by kernel_rfl) ?_) | (refine store_row rfl _ _ _ rfl w1.heap.size zeroSlot.cells.toArray rfl rfl _ _ r24.out hinfZ.out rfl (slot_one _) ?_; intro w9 hb9 hk9; replace hb9 := Lib.hid hb9; replace hk9 := Lib.hid hk9))
        refine bodyPost_ret (v := .tuple #[.agg zeroSlot.cells.toArray, .int .i64 181]) (results_row2 (p := 6) (q := 7) (ty := 50) rfl _ _ w1.heap.size _ _ _ _ _ rfl rfl hb9.out Try.underlying50 rfl hinfZ.out) rfl ?_
        exact ⟨rfl, hw4.out.keep hk9.out (fun x hx hv => by omega)⟩
  · rw [h]
    clear h hd1 hd2 hsm hbm
    replace hwf := Lib.hid hwf
    replace hs := Lib.hid hs
    replace hb := Lib.hid hb
    obtain ⟨s1, hs1e⟩ : ∃ x, x = { s with is := true } := ⟨_, rfl⟩
    obtain ⟨s2, hs2e⟩ : ∃ x, x = { s1 with view := view } := ⟨_, rfl⟩
    obtain ⟨s3, hs3e⟩ : ∃ x, x = { s2 with bat := b } := ⟨_, rfl⟩
    have hfin : ({ s with is := true, view := view, bat := b } : SlotV) = s3 := by rw [hs3e, hs2e, hs1e]
    rw [hfin]
    have hl1 : s1.cells.length = 85 := by rw [hs1e]; exact SlotV.len (s := { s with is := true }) hwf.out
    have hl2 : s2.cells.length = 85 := by rw [hs2e, hs1e]; exact SlotV.len (s := { s with is := true, view := view }) hwf.out
    have hw3f : s3.wf := by rw [hs3e, hs2e, hs1e]; exact hwf.out
    have st1 : s.cells.take 3 ++ ([.bool true] ++ s.cells.drop 4) = s1.cells := by rw [hs1e]; exact set_is s true
    have st2 : s1.cells.take 0 ++ ([.int .i64 view] ++ s1.cells.drop 1) = s2.cells := by rw [hs2e]; exact set_view s1 view
    have st3 : s2.cells.take 1 ++ (b.cells ++ s2.cells.drop (1 + b.cells.length)) = s3.cells := by rw [hs3e]; exact set_bat s2 b
    have hinf3 := Lib.hid (rslot_info hw3f)
    have hsz3 := Lib.hid (slot_size zeroSlot_wf hw3f)
    have hinfbb := Lib.hid (bat_infoL b)
    clear hs1e hs2e hs3e hfin
    replace hl1 := Lib.hid hl1
    replace hl2 := Lib.hid hl2
    replace st1 := Lib.hid st1
    replace st2 := Lib.hid st2
    replace st3 := Lib.hid st3
    have key : ∀ (hc : ∃ i : Bool, s.is = i ∧ (i = false ∨ i = true ∧ s.view < view)), Calls Try.prog 24 #[.agg s.cells.toArray, .int .i64 view, .agg b.cells.toArray] w (RetSlot w (s3, 0)) := by
      rintro ⟨i, hi, hc⟩
      clear h2
      have g1 : decide (view < 0) = false := decide_eq_false (by omega)
      replace hi := Lib.hid hi
      have body : ∀ (g2 : i = true → s.view < view), Calls Try.prog 24 #[.agg s.cells.toArray, .int .i64 view, .agg b.cells.toArray] w (RetSlot w (s3, 0)) := by
        intro g2
        clear hc
        cases i
        all_goals
          try (have g3 : decide (view < s.view) = false := decide_eq_false (by have := g2 rfl; omega))
          try (have g4 : (s.view == view) = false := by have := g2 rfl; simp; omega)
          clear g2
          go_enter Try.func24, Try.ntmps24
          go_upto_region 1 with (first | (refine box_row rfl _ _ rfl s.cells.toArray rfl hinf.out ?_; intro w0 hbs hs0; have l0 := blk_lt hbs; replace hbs := Lib.hid hbs; replace hs0 := Lib.hid hs0) | (refine box_row rfl _ _ rfl b.cells.toArray rfl hinfB.out ?_; intro w1 hbb hs1; have l1 := blk_lt hbb; replace hbb := Lib.hid hbb; replace hs1 := Lib.hid hs1) | (refine alloc_new rfl 50 rfl zeroSlot.cells.toArray (by kernel_rfl) ?_; intro w2 hbz hs2; have l2 := blk_lt hbz; replace hbz := Lib.hid hbz; replace hs2 := Lib.hid hs2))
          have a0 := Lib.hid ((hs1.out.trans hs2.out).at hbs.out)
          have a1 := Lib.hid (hs2.out.at hbb.out)
          have hw2 := Lib.hid (hs0.out.trans (hs1.out.trans hs2.out))
          have z0 := hs0.out.size
          have z1 := hs1.out.size
          have z2 := hs2.out.size
          have c0 := sl_view a0.out
          have c3 := sl_is a0.out
          clear hbs hbb hs0 hs1 hs2
          rw [hi.out] at c3
          go_upto_region 7 with fail
          replace c0 := Lib.hid c0
          replace c3 := Lib.hid c3
          go_wp2_with (first | (refine store_one rfl _ _ _ rfl w.heap.size 3 (.bool true) rfl rfl rfl rfl _ _ a0.out (by kernel_rfl) (by rw [hlen.out]; decide) ?_; intro w3 q3 j3; have q3' : w3.heap[w.heap.size]? = some (Obj.cells s1.cells.toArray 50 (0, 0)) := (by rw [← st1.out]; exact q3); replace q3 := q3'; clear q3'; have r13 := (j3.block _ (by omega) (by omega)).trans a1.out; have rz3 := (j3.block _ (by omega) (by omega)).trans hbz.out; have k3 := hw2.out.keep j3 (fun x hx hv => by omega); have y3 := j3.size; replace q3 := Lib.hid q3; replace j3 := Lib.hid j3; replace r13 := Lib.hid r13; replace rz3 := Lib.hid rz3; replace k3 := Lib.hid k3) | (refine store_one rfl _ _ _ rfl w.heap.size 0 (.int .i64 view) rfl rfl rfl rfl _ _ q3.out (by kernel_rfl) (by rw [hl1.out]; decide) ?_; intro w4 q4 j4; have q4' : w4.heap[w.heap.size]? = some (Obj.cells s2.cells.toArray 50 (0, 0)) := (by rw [← st2.out]; exact q4); replace q4 := q4'; clear q4'; have r14 := (j4.block _ (by omega) (by omega)).trans r13.out; have rz4 := (j4.block _ (by omega) (by omega)).trans rz3.out; have k4 := k3.out.keep j4 (fun x hx hv => by omega); have y4 := j4.size; replace q4 := Lib.hid q4; replace j4 := Lib.hid j4; replace r14 := Lib.hid r14; replace rz4 := Lib.hid rz4; replace k4 := Lib.hid k4) | (refine load_row rfl _ _ rfl w0.heap.size rfl _ _ _ _ r14.out Try.underlying26 rfl hinfB.out ?_) | (refine store_mid rfl _ _ _ rfl w.heap.size 1 b.cells rfl rfl _ _ q4.out hinfbb.out (by rw [hl2.out, bat_len]; decide) (bat_oneL _) ?_; intro w5 q5 j5; have q5' : w5.heap[w.heap.size]? = some (Obj.cells s3.cells.toArray 50 (0, 0)) := (by rw [← st3.out]; exact q5); replace q5 := q5'; clear q5'; have rz5 := (j5.block _ (by omega) (by omega)).trans rz4.out; have k5 := k4.out.keep j5 (fun x hx hv => by omega); have y5 := j5.size; replace q5 := Lib.hid q5; replace j5 := Lib.hid j5; replace rz5 := Lib.hid rz5; replace k5 := Lib.hid k5) | (refine load_row rfl _ _ rfl w.heap.size rfl _ _ _ _ q5.out Try.underlying50 rfl hinf3.out ?_) | (refine store_row rfl _ _ _ rfl w1.heap.size s3.cells.toArray rfl rfl _ _ rz5.out hinf3.out hsz3.out (slot_one _) ?_; intro w9 hb9 hk9; replace hb9 := Lib.hid hb9; replace hk9 := Lib.hid hk9))
          refine bodyPost_ret (v := .tuple #[.agg s3.cells.toArray, .int .i64 0]) (results_row2 (p := 6) (q := 7) (ty := 50) rfl _ _ w1.heap.size _ _ _ _ _ rfl rfl hb9.out Try.underlying50 rfl hinf3.out) rfl ?_
          exact ⟨rfl, k5.out.keep hk9.out (fun x hx hv => by omega)⟩
      refine body ?_
      rcases hc with rfl | ⟨rfl, h3⟩
      · intro h; cases h
      · intro _; exact h3
    refine key ?_
    rcases h2 with h2 | ⟨h2, h3⟩
    · exact ⟨_, h2, .inl rfl⟩
    · exact ⟨_, h2, .inr ⟨rfl, h3⟩⟩
set_option maxRecDepth 100000 in
set_option maxHeartbeats 6400000 in
theorem rhold_any (s : SlotV) (c : CertV) (w : World) (hs : s.at w) (hc : c.at w) (hsm : s.bat.small) :
    Calls Try.prog 25 #[.agg s.cells.toArray, .agg c.cells.toArray] w (RetSlot w (s.hold c)) := by
  have hwf := hs.wf
  have hinf := Lib.hid (rslot_info hwf)
  have hinfZ := Lib.hid (rslot_info zeroSlot_wf)
  have hinfC := Lib.hid (cert_info hc.1)
  have hinfb := Lib.hid (bat_infoL s.bat)
  have hlen := Lib.hid (SlotV.len hwf)
  have hd1 := Lib.hid (fun w h => rbdig_any s.bat w h hsm)
  have hq := fun w => dig_neq c.vote.dig (bDig s.bat) hc.1.1 (bDig_length _) w
  have hgd := dig_guard
  have hDl := hc.1.1
  have hinfD : (Try.prog.info? 28).map (·.size) = some (bv c.vote.dig).length := by rw [bv_length, hDl]; kernel_rfl
  have hcs := hold_cases s c
  obtain ⟨R, hR⟩ : ∃ R, R = s.hold c := ⟨_, rfl⟩
  rw [← hR] at hcs ⊢
  obtain ⟨D1, hD1⟩ : ∃ D, D = c.vote.dig := ⟨_, rfl⟩
  obtain ⟨D2, hD2⟩ : ∃ D, D = bDig s.bat := ⟨_, rfl⟩
  rw [show batDig s.bat.noop s.bat.reqs = D2 from hD2.symm] at hd1
  rw [← hD1, ← hD2] at hq hcs
  rw [← hD1] at hinfD
  obtain ⟨q, hqe⟩ : ∃ q, q = (D1 != D2) := ⟨_, rfl⟩
  rw [← hqe] at hq
  have hq1 : D1 = D2 → q = false := fun h => by rw [hqe, h]; simp
  have hq2 : D1 ≠ D2 → q = true := fun h => by rw [hqe]; simp [h]
  clear hR hD2 hqe hsm hDl
  replace hinfD := Lib.hid hinfD
  replace hD1 := Lib.hid hD1
  replace hq := Lib.hid hq
  replace hgd := Lib.hid hgd
  replace hwf := Lib.hid hwf
  replace hs := Lib.hid hs
  replace hc := Lib.hid hc
  rcases hcs with ⟨h1, h⟩ | ⟨h1, hj, h⟩ | ⟨h1, hj, h3, h⟩ | ⟨h1, hj, h3, h4, h5, h⟩ | ⟨h1, hj, h3, h4, h⟩
  · subst h
    have h1' : (c.vote.kind != 1) = true := by simpa using h1
    clear hq hgd hq1 hq2 hd1
    go_enter Try.func25, Try.ntmps25
    go_upto_region 1 with (first | (refine box_row rfl _ _ rfl s.cells.toArray rfl hinf.out ?_; intro w0 hbs hs0; have l0 := blk_lt hbs; replace hbs := Lib.hid hbs; replace hs0 := Lib.hid hs0) | (refine box_row rfl _ _ rfl c.cells.toArray rfl hinfC.out ?_; intro w1 hbb hs1; have l1 := blk_lt hbb; replace hbb := Lib.hid hbb; replace hs1 := Lib.hid hs1) | (refine alloc_new rfl 50 rfl zeroSlot.cells.toArray (by kernel_rfl) ?_; intro w2 hbz hs2; have l2 := blk_lt hbz; replace hbz := Lib.hid hbz; replace hs2 := Lib.hid hs2))
    have a0 := Lib.hid ((hs1.out.trans hs2.out).at hbs.out)
    have a1 := Lib.hid (hs2.out.at hbb.out)
    have hw2 := Lib.hid (hs0.out.trans (hs1.out.trans hs2.out))
    have z0 := hs0.out.size
    have z1 := hs1.out.size
    have z2 := hs2.out.size
    have k0 := ce_kind a1.out
    have k2 := ce_view a1.out
    clear hbs hbb hs0 hs1 hs2
    have c0 := sl_view a0.out
    have c3 := sl_is a0.out
    clear c0 c3 k2
    go_wp2_with (first | (refine build_const (ty := 50) (.agg zeroSlot.cells.toArray) rfl rfl (by kernel_rfl) ?_) | (refine store_row rfl _ _ _ rfl w1.heap.size zeroSlot.cells.toArray rfl rfl _ _ hbz.out hinfZ.out rfl (slot_one _) ?_; intro w9 hb9 hk9; replace hb9 := Lib.hid hb9; replace hk9 := Lib.hid hk9))
    refine bodyPost_ret (v := .tuple #[.agg zeroSlot.cells.toArray, .int .i64 181]) (results_row2 (p := 4) (q := 5) (ty := 50) rfl _ _ w1.heap.size _ _ _ _ _ rfl rfl hb9.out Try.underlying50 rfl hinfZ.out) rfl ?_
    exact ⟨rfl, hw2.out.keep hk9.out (fun x hx hv => by omega)⟩
  · subst h
    clear hq hgd hq1 hq2 hd1
    obtain ⟨i, hi⟩ : ∃ i, i = s.is := ⟨_, rfl⟩
    rw [← hi] at hj
    replace hi := Lib.hid hi
    cases i
    · clear hj
      go_enter Try.func25, Try.ntmps25
      go_upto_region 1 with (first | (refine box_row rfl _ _ rfl s.cells.toArray rfl hinf.out ?_; intro w0 hbs hs0; have l0 := blk_lt hbs; replace hbs := Lib.hid hbs; replace hs0 := Lib.hid hs0) | (refine box_row rfl _ _ rfl c.cells.toArray rfl hinfC.out ?_; intro w1 hbb hs1; have l1 := blk_lt hbb; replace hbb := Lib.hid hbb; replace hs1 := Lib.hid hs1) | (refine alloc_new rfl 50 rfl zeroSlot.cells.toArray (by kernel_rfl) ?_; intro w2 hbz hs2; have l2 := blk_lt hbz; replace hbz := Lib.hid hbz; replace hs2 := Lib.hid hs2))
      have a0 := Lib.hid ((hs1.out.trans hs2.out).at hbs.out)
      have a1 := Lib.hid (hs2.out.at hbb.out)
      have hw2 := Lib.hid (hs0.out.trans (hs1.out.trans hs2.out))
      have z0 := hs0.out.size
      have z1 := hs1.out.size
      have z2 := hs2.out.size
      have k0 := ce_kind a1.out
      have k2 := ce_view a1.out
      clear hbs hbb hs0 hs1 hs2
      have c0 := sl_view a0.out
      have c3 := sl_is a0.out
      rw [h1] at k0
      rw [← hi.out] at c3
      go_wp2_with (first | (refine build_const (ty := 50) (.agg zeroSlot.cells.toArray) rfl rfl (by kernel_rfl) ?_) | (refine store_row rfl _ _ _ rfl w1.heap.size zeroSlot.cells.toArray rfl rfl _ _ hbz.out hinfZ.out rfl (slot_one _) ?_; intro w9 hb9 hk9; replace hb9 := Lib.hid hb9; replace hk9 := Lib.hid hk9))
      refine bodyPost_ret (v := .tuple #[.agg zeroSlot.cells.toArray, .int .i64 180]) (results_row2 (p := 4) (q := 5) (ty := 50) rfl _ _ w1.heap.size _ _ _ _ _ rfl rfl hb9.out Try.underlying50 rfl hinfZ.out) rfl ?_
      exact ⟨rfl, hw2.out.keep hk9.out (fun x hx hv => by omega)⟩
    · have g1 : (c.vote.view != s.view) = true := by
        rw [Bool.true_and] at hj
        have := of_decide_eq_false hj
        simp
        exact fun h => this h.symm
      clear hj
      go_enter Try.func25, Try.ntmps25
      go_upto_region 1 with (first | (refine box_row rfl _ _ rfl s.cells.toArray rfl hinf.out ?_; intro w0 hbs hs0; have l0 := blk_lt hbs; replace hbs := Lib.hid hbs; replace hs0 := Lib.hid hs0) | (refine box_row rfl _ _ rfl c.cells.toArray rfl hinfC.out ?_; intro w1 hbb hs1; have l1 := blk_lt hbb; replace hbb := Lib.hid hbb; replace hs1 := Lib.hid hs1) | (refine alloc_new rfl 50 rfl zeroSlot.cells.toArray (by kernel_rfl) ?_; intro w2 hbz hs2; have l2 := blk_lt hbz; replace hbz := Lib.hid hbz; replace hs2 := Lib.hid hs2))
      have a0 := Lib.hid ((hs1.out.trans hs2.out).at hbs.out)
      have a1 := Lib.hid (hs2.out.at hbb.out)
      have hw2 := Lib.hid (hs0.out.trans (hs1.out.trans hs2.out))
      have z0 := hs0.out.size
      have z1 := hs1.out.size
      have z2 := hs2.out.size
      have k0 := ce_kind a1.out
      have k2 := ce_view a1.out
      clear hbs hbb hs0 hs1 hs2
      have c0 := sl_view a0.out
      have c3 := sl_is a0.out
      rw [h1] at k0
      rw [← hi.out] at c3
      go_wp2_with (first | (refine build_const (ty := 50) (.agg zeroSlot.cells.toArray) rfl rfl (by kernel_rfl) ?_) | (refine store_row rfl _ _ _ rfl w1.heap.size zeroSlot.cells.toArray rfl rfl _ _ hbz.out hinfZ.out rfl (slot_one _) ?_; intro w9 hb9 hk9; replace hb9 := Lib.hid hb9; replace hk9 := Lib.hid hk9))
      refine bodyPost_ret (v := .tuple #[.agg zeroSlot.cells.toArray, .int .i64 180]) (results_row2 (p := 4) (q := 5) (ty := 50) rfl _ _ w1.heap.size _ _ _ _ _ rfl rfl hb9.out Try.underlying50 rfl hinfZ.out) rfl ?_
      exact ⟨rfl, hw2.out.keep hk9.out (fun x hx hv => by omega)⟩
  · subst h
    obtain rfl := hq2 h3
    clear hq1 hq2 h3
    have hj' : s.is = true ∧ s.view = c.vote.view := by simpa using hj
    clear hj
    replace hj' := Lib.hid hj'
    have g1 : (c.vote.view != c.vote.view) = false := by simp
    go_enter Try.func25, Try.ntmps25
    go_upto_region 1 with (first | (refine box_row rfl _ _ rfl s.cells.toArray rfl hinf.out ?_; intro w0 hbs hs0; have l0 := blk_lt hbs; replace hbs := Lib.hid hbs; replace hs0 := Lib.hid hs0) | (refine box_row rfl _ _ rfl c.cells.toArray rfl hinfC.out ?_; intro w1 hbb hs1; have l1 := blk_lt hbb; replace hbb := Lib.hid hbb; replace hs1 := Lib.hid hs1) | (refine alloc_new rfl 50 rfl zeroSlot.cells.toArray (by kernel_rfl) ?_; intro w2 hbz hs2; have l2 := blk_lt hbz; replace hbz := Lib.hid hbz; replace hs2 := Lib.hid hs2))
    have a0 := Lib.hid ((hs1.out.trans hs2.out).at hbs.out)
    have a1 := Lib.hid (hs2.out.at hbb.out)
    have hw2 := Lib.hid (hs0.out.trans (hs1.out.trans hs2.out))
    have z0 := hs0.out.size
    have z1 := hs1.out.size
    have z2 := hs2.out.size
    have k0 := ce_kind a1.out
    have k2 := ce_view a1.out
    clear hbs hbb hs0 hs1 hs2
    have c0 := sl_view a0.out
    have c3 := sl_is a0.out
    rw [h1] at k0
    rw [hj'.out.1] at c3
    rw [hj'.out.2] at c0
    have hdr : w2.rangeAt w0.heap.size 4 (bv D1) := by rw [hD1.out]; exact ce_dig a1.out
    replace hdr := Lib.hid hdr
    go_upto_region 5 with fail
    clear c0 c3 k0 k2
    refine wp_region_facts (by kernel_rfl) [(23, 0), (24, 1), (25, 2), (26, 3), (27, 4), (28, 5), (29, 6)] Same (Same _) [isV (.pointer (some ⟨w0.heap.size, 0, none⟩)), isV (.pointer (some ⟨w0.heap.size, 4, none⟩)), isV (.agg (bv D1).toArray), isV (.pointer (some ⟨w.heap.size, 1, none⟩)), isV (.agg s.bat.cells.toArray), isV (.agg (bv D2).toArray), isV (.bool true)] Same.refl.drew (fun _ _ h k => h.trans k) (by simp [isV_stable, isB_stable, isAny_stable]) (by decide) (by decide) ?_ ?_
    · refine ⟨?_, ?_, ?_, ?_, ?_, ?_, ?_, trivial⟩
      all_goals (intro u wx hI hp; simp only [mkAct, List.foldl_cons, List.foldl_nil, List.setIfInBounds_toArray, List.set_cons_succ, List.set_cons_zero])
      · -- operation 0
        go_wp2
        refine stq_v rfl Same.refl ?_
        first | (simp only [mkAct, List.foldl_cons, List.foldl_nil, List.setIfInBounds_toArray, List.set_cons_succ, List.set_cons_zero, upd, reduceIte, Nat.reduceEqDiff, Nat.reduceAdd, str]; done) | (simp [mkAct, upd, str, *]; done)
      · -- operation 1
        obtain ⟨f0, -⟩ := hp
        replace f0 : u 0 = (.pointer (some ⟨w0.heap.size, 0, none⟩)) := f0
        try simp only [f0, str]
        go_wp2
        refine stq_v rfl Same.refl ?_
        first | (simp only [mkAct, List.foldl_cons, List.foldl_nil, List.setIfInBounds_toArray, List.set_cons_succ, List.set_cons_zero, upd, reduceIte, Nat.reduceEqDiff, Nat.reduceAdd, f0, str]; done) | (simp [mkAct, upd, f0, str, *]; done)
      · -- operation 2
        obtain ⟨f1, -⟩ := hp
        replace f1 : u 1 = (.pointer (some ⟨w0.heap.size, 4, none⟩)) := f1
        try simp only [f1, str]
        go_wp2_with (refine load_mid rfl _ _ rfl w0.heap.size 4 rfl (bv D1) _ (hI.range hdr.out) Try.underlying28 rfl hinfD.out ?_)
        refine stq_v rfl Same.refl ?_
        first | (simp only [mkAct, List.foldl_cons, List.foldl_nil, List.setIfInBounds_toArray, List.set_cons_succ, List.set_cons_zero, upd, reduceIte, Nat.reduceEqDiff, Nat.reduceAdd, f1, str]; done) | (simp [mkAct, upd, f1, str, *]; done)
      · -- operation 3
        go_wp2
        refine stq_v rfl Same.refl ?_
        first | (simp only [mkAct, List.foldl_cons, List.foldl_nil, List.setIfInBounds_toArray, List.set_cons_succ, List.set_cons_zero, upd, reduceIte, Nat.reduceEqDiff, Nat.reduceAdd, str]; done) | (simp [mkAct, upd, str, *]; done)
      · -- operation 4
        obtain ⟨f3, -⟩ := hp
        replace f3 : u 3 = (.pointer (some ⟨w.heap.size, 1, none⟩)) := f3
        try simp only [f3, str]
        go_wp2_with (refine load_mid rfl _ _ rfl w.heap.size 1 rfl s.bat.cells _ (hI.range (sl_bat a0.out)) Try.underlying26 rfl hinfb.out ?_)
        refine stq_v rfl Same.refl ?_
        first | (simp only [mkAct, List.foldl_cons, List.foldl_nil, List.setIfInBounds_toArray, List.set_cons_succ, List.set_cons_zero, upd, reduceIte, Nat.reduceEqDiff, Nat.reduceAdd, f3, str]; done) | (simp [mkAct, upd, f3, str, *]; done)
      · -- operation 5
        obtain ⟨f4, -⟩ := hp
        replace f4 : u 4 = (.agg s.bat.cells.toArray) := f4
        try simp only [f4, str]
        go_wp2_with fail
        refine (hd1.out _ (BatV.same hs.out.2.2.1 (hw2.out.trans hI))).mono ?_
        rintro e w1 ⟨rfl, hs'⟩
        go_wp2
        refine stq_v rfl hs' ?_
        first | (simp only [mkAct, List.foldl_cons, List.foldl_nil, List.setIfInBounds_toArray, List.set_cons_succ, List.set_cons_zero, upd, reduceIte, Nat.reduceEqDiff, Nat.reduceAdd, f4, str]; done) | (simp [mkAct, upd, f4, str, *]; done)
      · -- operation 6
        obtain ⟨f2, f5, -⟩ := hp
        replace f2 : u 2 = (.agg (bv D1).toArray) := f2
        replace f5 : u 5 = (.agg (bv D2).toArray) := f5
        try simp only [f2, f5, str]
        have hqo := hq.out
        have hgo := hgd.out
        go_wp2
        refine stq_v rfl Same.refl ?_
        first | (simp only [mkAct, List.foldl_cons, List.foldl_nil, List.setIfInBounds_toArray, List.set_cons_succ, List.set_cons_zero, upd, reduceIte, Nat.reduceEqDiff, Nat.reduceAdd, f2, f5, str]; done) | (simp [mkAct, upd, f2, f5, str, *]; done)
    · intro u wx hI hR
      obtain ⟨r0, r1, r2, r3, r4, r5, r6, -⟩ := hR
      replace r0 : u 0 = (.pointer (some ⟨w0.heap.size, 0, none⟩)) := r0
      replace r1 : u 1 = (.pointer (some ⟨w0.heap.size, 4, none⟩)) := r1
      replace r2 : u 2 = (.agg (bv D1).toArray) := r2
      replace r3 : u 3 = (.pointer (some ⟨w.heap.size, 1, none⟩)) := r3
      replace r4 : u 4 = (.agg s.bat.cells.toArray) := r4
      replace r5 : u 5 = (.agg (bv D2).toArray) := r5
      replace r6 : u 6 = (.bool true) := r6
      simp only [mkAct, List.foldl_cons, List.foldl_nil, List.setIfInBounds_toArray, List.set_cons_succ, List.set_cons_zero]
      try simp only [str, r0, r1, r2, r3, r4, r5, r6]
      have r24 := Lib.hid (hI.at hbz.out)
      have hw4 := Lib.hid (hw2.out.trans hI)
      clear hI r0 r1 r2 r3 r4 r5 r6 hbz hw2
      go_wp2_with (first | (refine build_const (ty := 50) (.agg zeroSlot.cells.toArray) rfl rfl (by kernel_rfl) ?_) | (refine store_row rfl _ _ _ rfl w1.heap.size zeroSlot.cells.toArray rfl rfl _ _ r24.out hinfZ.out rfl (slot_one _) ?_; intro w9 hb9 hk9; replace hb9 := Lib.hid hb9; replace hk9 := Lib.hid hk9))
      refine bodyPost_ret (v := .tuple #[.agg zeroSlot.cells.toArray, .int .i64 181]) (results_row2 (p := 4) (q := 5) (ty := 50) rfl _ _ w1.heap.size _ _ _ _ _ rfl rfl hb9.out Try.underlying50 rfl hinfZ.out) rfl ?_
      exact ⟨rfl, hw4.out.keep hk9.out (fun x hx hv => by omega)⟩
  · subst h
    obtain rfl := hq1 h3
    clear hq1 hq2 h3
    have hj' : s.is = true ∧ s.view = c.vote.view := by simpa using hj
    clear hj
    replace hj' := Lib.hid hj'
    have g1 : (c.vote.view != c.vote.view) = false := by simp
    have g2 : decide (c.vote.view ≤ s.hcert.vote.view) = true := decide_eq_true h5
    go_enter Try.func25, Try.ntmps25
    go_upto_region 1 with (first | (refine box_row rfl _ _ rfl s.cells.toArray rfl hinf.out ?_; intro w0 hbs hs0; have l0 := blk_lt hbs; replace hbs := Lib.hid hbs; replace hs0 := Lib.hid hs0) | (refine box_row rfl _ _ rfl c.cells.toArray rfl hinfC.out ?_; intro w1 hbb hs1; have l1 := blk_lt hbb; replace hbb := Lib.hid hbb; replace hs1 := Lib.hid hs1) | (refine alloc_new rfl 50 rfl zeroSlot.cells.toArray (by kernel_rfl) ?_; intro w2 hbz hs2; have l2 := blk_lt hbz; replace hbz := Lib.hid hbz; replace hs2 := Lib.hid hs2))
    have a0 := Lib.hid ((hs1.out.trans hs2.out).at hbs.out)
    have a1 := Lib.hid (hs2.out.at hbb.out)
    have hw2 := Lib.hid (hs0.out.trans (hs1.out.trans hs2.out))
    have z0 := hs0.out.size
    have z1 := hs1.out.size
    have z2 := hs2.out.size
    have k0 := ce_kind a1.out
    have k2 := ce_view a1.out
    clear hbs hbb hs0 hs1 hs2
    have c0 := sl_view a0.out
    have c3 := sl_is a0.out
    rw [h1] at k0
    rw [hj'.out.1] at c3
    rw [hj'.out.2] at c0
    have hdr : w2.rangeAt w0.heap.size 4 (bv D1) := by rw [hD1.out]; exact ce_dig a1.out
    replace hdr := Lib.hid hdr
    go_upto_region 5 with fail
    clear c0 c3 k0 k2
    refine wp_region_facts (by kernel_rfl) [(23, 0), (24, 1), (25, 2), (26, 3), (27, 4), (28, 5), (29, 6)] Same (Same _) [isV (.pointer (some ⟨w0.heap.size, 0, none⟩)), isV (.pointer (some ⟨w0.heap.size, 4, none⟩)), isV (.agg (bv D1).toArray), isV (.pointer (some ⟨w.heap.size, 1, none⟩)), isV (.agg s.bat.cells.toArray), isV (.agg (bv D2).toArray), isV (.bool false)] Same.refl.drew (fun _ _ h k => h.trans k) (by simp [isV_stable, isB_stable, isAny_stable]) (by decide) (by decide) ?_ ?_
    · refine ⟨?_, ?_, ?_, ?_, ?_, ?_, ?_, trivial⟩
      all_goals (intro u wx hI hp; simp only [mkAct, List.foldl_cons, List.foldl_nil, List.setIfInBounds_toArray, List.set_cons_succ, List.set_cons_zero])
      · -- operation 0
        go_wp2
        refine stq_v rfl Same.refl ?_
        first | (simp only [mkAct, List.foldl_cons, List.foldl_nil, List.setIfInBounds_toArray, List.set_cons_succ, List.set_cons_zero, upd, reduceIte, Nat.reduceEqDiff, Nat.reduceAdd, str]; done) | (simp [mkAct, upd, str, *]; done)
      · -- operation 1
        obtain ⟨f0, -⟩ := hp
        replace f0 : u 0 = (.pointer (some ⟨w0.heap.size, 0, none⟩)) := f0
        try simp only [f0, str]
        go_wp2
        refine stq_v rfl Same.refl ?_
        first | (simp only [mkAct, List.foldl_cons, List.foldl_nil, List.setIfInBounds_toArray, List.set_cons_succ, List.set_cons_zero, upd, reduceIte, Nat.reduceEqDiff, Nat.reduceAdd, f0, str]; done) | (simp [mkAct, upd, f0, str, *]; done)
      · -- operation 2
        obtain ⟨f1, -⟩ := hp
        replace f1 : u 1 = (.pointer (some ⟨w0.heap.size, 4, none⟩)) := f1
        try simp only [f1, str]
        go_wp2_with (refine load_mid rfl _ _ rfl w0.heap.size 4 rfl (bv D1) _ (hI.range hdr.out) Try.underlying28 rfl hinfD.out ?_)
        refine stq_v rfl Same.refl ?_
        first | (simp only [mkAct, List.foldl_cons, List.foldl_nil, List.setIfInBounds_toArray, List.set_cons_succ, List.set_cons_zero, upd, reduceIte, Nat.reduceEqDiff, Nat.reduceAdd, f1, str]; done) | (simp [mkAct, upd, f1, str, *]; done)
      · -- operation 3
        go_wp2
        refine stq_v rfl Same.refl ?_
        first | (simp only [mkAct, List.foldl_cons, List.foldl_nil, List.setIfInBounds_toArray, List.set_cons_succ, List.set_cons_zero, upd, reduceIte, Nat.reduceEqDiff, Nat.reduceAdd, str]; done) | (simp [mkAct, upd, str, *]; done)
      · -- operation 4
        obtain ⟨f3, -⟩ := hp
        replace f3 : u 3 = (.pointer (some ⟨w.heap.size, 1, none⟩)) := f3
        try simp only [f3, str]
        go_wp2_with (refine load_mid rfl _ _ rfl w.heap.size 1 rfl s.bat.cells _ (hI.range (sl_bat a0.out)) Try.underlying26 rfl hinfb.out ?_)
        refine stq_v rfl Same.refl ?_
        first | (simp only [mkAct, List.foldl_cons, List.foldl_nil, List.setIfInBounds_toArray, List.set_cons_succ, List.set_cons_zero, upd, reduceIte, Nat.reduceEqDiff, Nat.reduceAdd, f3, str]; done) | (simp [mkAct, upd, f3, str, *]; done)
      · -- operation 5
        obtain ⟨f4, -⟩ := hp
        replace f4 : u 4 = (.agg s.bat.cells.toArray) := f4
        try simp only [f4, str]
        go_wp2_with fail
        refine (hd1.out _ (BatV.same hs.out.2.2.1 (hw2.out.trans hI))).mono ?_
        rintro e w1 ⟨rfl, hs'⟩
        go_wp2
        refine stq_v rfl hs' ?_
        first | (simp only [mkAct, List.foldl_cons, List.foldl_nil, List.setIfInBounds_toArray, List.set_cons_succ, List.set_cons_zero, upd, reduceIte, Nat.reduceEqDiff, Nat.reduceAdd, f4, str]; done) | (simp [mkAct, upd, f4, str, *]; done)
      · -- operation 6
        obtain ⟨f2, f5, -⟩ := hp
        replace f2 : u 2 = (.agg (bv D1).toArray) := f2
        replace f5 : u 5 = (.agg (bv D2).toArray) := f5
        try simp only [f2, f5, str]
        have hqo := hq.out
        have hgo := hgd.out
        go_wp2
        refine stq_v rfl Same.refl ?_
        first | (simp only [mkAct, List.foldl_cons, List.foldl_nil, List.setIfInBounds_toArray, List.set_cons_succ, List.set_cons_zero, upd, reduceIte, Nat.reduceEqDiff, Nat.reduceAdd, f2, f5, str]; done) | (simp [mkAct, upd, f2, f5, str, *]; done)
    · intro u wx hI hR
      obtain ⟨r0, r1, r2, r3, r4, r5, r6, -⟩ := hR
      replace r0 : u 0 = (.pointer (some ⟨w0.heap.size, 0, none⟩)) := r0
      replace r1 : u 1 = (.pointer (some ⟨w0.heap.size, 4, none⟩)) := r1
      replace r2 : u 2 = (.agg (bv D1).toArray) := r2
      replace r3 : u 3 = (.pointer (some ⟨w.heap.size, 1, none⟩)) := r3
      replace r4 : u 4 = (.agg s.bat.cells.toArray) := r4
      replace r5 : u 5 = (.agg (bv D2).toArray) := r5
      replace r6 : u 6 = (.bool false) := r6
      simp only [mkAct, List.foldl_cons, List.foldl_nil, List.setIfInBounds_toArray, List.set_cons_succ, List.set_cons_zero]
      try simp only [str, r0, r1, r2, r3, r4, r5, r6]
      have r04 := Lib.hid (hI.at a0.out)
      have k2 := ce_view (hI.at a1.out)
      have r24 := Lib.hid (hI.at hbz.out)
      have hw4 := Lib.hid (hw2.out.trans hI)
      have c43 := sl_holds r04.out hwf.out
      rw [h4] at c43
      have c8 := sl_hview r04.out
      clear hI r0 r1 r2 r3 r4 r5 r6 hbz hw2
      go_wp2_with (first | (refine load_row rfl _ _ rfl w.heap.size rfl _ _ _ _ r04.out Try.underlying50 rfl hinf.out ?_) | (refine store_row rfl _ _ _ rfl w1.heap.size s.cells.toArray rfl rfl _ _ r24.out hinf.out (slot_size zeroSlot_wf hwf.out) (slot_one _) ?_; intro w9 hb9 hk9; replace hb9 := Lib.hid hb9; replace hk9 := Lib.hid hk9))
      refine bodyPost_ret (v := .tuple #[.agg s.cells.toArray, .int .i64 0]) (results_row2 (p := 4) (q := 5) (ty := 50) rfl _ _ w1.heap.size _ _ _ _ _ rfl rfl hb9.out Try.underlying50 rfl hinf.out) rfl ?_
      exact ⟨rfl, hw4.out.keep hk9.out (fun x hx hv => by omega)⟩
  · subst h
    obtain rfl := hq1 h3
    clear hq1 hq2 h3
    have hj' : s.is = true ∧ s.view = c.vote.view := by simpa using hj
    clear hj
    replace hj' := Lib.hid hj'
    have g1 : (c.vote.view != c.vote.view) = false := by simp
    obtain ⟨s1, hs1e⟩ : ∃ x, x = { s with holds := true } := ⟨_, rfl⟩
    obtain ⟨s2, hs2e⟩ : ∃ x, x = { s1 with hbat := s.bat, hcert := c } := ⟨_, rfl⟩
    have hfin : ({ s with holds := true, hbat := s.bat, hcert := c } : SlotV) = s2 := by rw [hs2e, hs1e]
    rw [hfin]
    have hw1f : s1.wf := by rw [hs1e]; exact hwf.out
    have hb1 : s1.bat = s.bat := by rw [hs1e]
    have hl1 : s1.cells.length = 85 := SlotV.len hw1f
    have hw2f : s2.wf := by rw [hs2e, hs1e]; exact ⟨hc.out.1, hwf.out.2⟩
    have st1 : s.cells.take 43 ++ ([.bool true] ++ s.cells.drop 44) = s1.cells := by rw [hs1e]; exact set_holds hwf.out true
    have st2 : s1.cells.take 4 ++ (heldCells s.bat c ++ s1.cells.drop (4 + (heldCells s.bat c).length)) = s2.cells := by rw [hs2e]; exact set_held hw1f s.bat c hc.out.1
    have hinf3 := Lib.hid (rslot_info hw2f)
    have hsz3 := Lib.hid (slot_size zeroSlot_wf hw2f)
    have hinfH := Lib.hid (held_infoL (b := s.bat) hc.out.1)
    have hlH := Lib.hid (held_len (b := s.bat) hc.out.1)
    have hbH := Lib.hid (held_built s.bat c hc.out.1)
    clear hs1e hs2e hfin
    replace hw2f := Lib.hid hw2f
    replace hw1f := Lib.hid hw1f
    replace hb1 := Lib.hid hb1
    replace hl1 := Lib.hid hl1
    replace st1 := Lib.hid st1
    replace st2 := Lib.hid st2
    obtain ⟨i, hi⟩ : ∃ i, i = s.holds := ⟨_, rfl⟩
    have g2 : i = true → decide (c.vote.view ≤ s.hcert.vote.view) = false := by
      rintro rfl
      rcases h4 with h4 | ⟨h4, h5⟩
      · rw [h4] at hi; cases hi
      · exact decide_eq_false (by omega)
    clear h4
    replace hi := Lib.hid hi
    cases i
    all_goals
      try have g3 := g2 rfl
      clear g2
      go_enter Try.func25, Try.ntmps25
      go_upto_region 1 with (first | (refine box_row rfl _ _ rfl s.cells.toArray rfl hinf.out ?_; intro w0 hbs hs0; have l0 := blk_lt hbs; replace hbs := Lib.hid hbs; replace hs0 := Lib.hid hs0) | (refine box_row rfl _ _ rfl c.cells.toArray rfl hinfC.out ?_; intro w1 hbb hs1; have l1 := blk_lt hbb; replace hbb := Lib.hid hbb; replace hs1 := Lib.hid hs1) | (refine alloc_new rfl 50 rfl zeroSlot.cells.toArray (by kernel_rfl) ?_; intro w2 hbz hs2; have l2 := blk_lt hbz; replace hbz := Lib.hid hbz; replace hs2 := Lib.hid hs2))
      have a0 := Lib.hid ((hs1.out.trans hs2.out).at hbs.out)
      have a1 := Lib.hid (hs2.out.at hbb.out)
      have hw2 := Lib.hid (hs0.out.trans (hs1.out.trans hs2.out))
      have z0 := hs0.out.size
      have z1 := hs1.out.size
      have z2 := hs2.out.size
      have k0 := ce_kind a1.out
      have k2 := ce_view a1.out
      clear hbs hbb hs0 hs1 hs2
      have c0 := sl_view a0.out
      have c3 := sl_is a0.out
      rw [h1] at k0
      rw [hj'.out.1] at c3
      rw [hj'.out.2] at c0
      have hdr : w2.rangeAt w0.heap.size 4 (bv D1) := by rw [hD1.out]; exact ce_dig a1.out
      replace hdr := Lib.hid hdr
      go_upto_region 5 with fail
      clear c0 c3 k0 k2
      refine wp_region_facts (by kernel_rfl) [(23, 0), (24, 1), (25, 2), (26, 3), (27, 4), (28, 5), (29, 6)] Same (Same _) [isV (.pointer (some ⟨w0.heap.size, 0, none⟩)), isV (.pointer (some ⟨w0.heap.size, 4, none⟩)), isV (.agg (bv D1).toArray), isV (.pointer (some ⟨w.heap.size, 1, none⟩)), isV (.agg s.bat.cells.toArray), isV (.agg (bv D2).toArray), isV (.bool false)] Same.refl.drew (fun _ _ h k => h.trans k) (by simp [isV_stable, isB_stable, isAny_stable]) (by decide) (by decide) ?_ ?_
      · refine ⟨?_, ?_, ?_, ?_, ?_, ?_, ?_, trivial⟩
        all_goals (intro u wx hI hp; simp only [mkAct, List.foldl_cons, List.foldl_nil, List.setIfInBounds_toArray, List.set_cons_succ, List.set_cons_zero])
        · -- operation 0
          go_wp2
          refine stq_v rfl Same.refl ?_
          first | (simp only [mkAct, List.foldl_cons, List.foldl_nil, List.setIfInBounds_toArray, List.set_cons_succ, List.set_cons_zero, upd, reduceIte, Nat.reduceEqDiff, Nat.reduceAdd, str]; done) | (simp [mkAct, upd, str, *]; done)
        · -- operation 1
          obtain ⟨f0, -⟩ := hp
          replace f0 : u 0 = (.pointer (some ⟨w0.heap.size, 0, none⟩)) := f0
          try simp only [f0, str]
          go_wp2
          refine stq_v rfl Same.refl ?_
          first | (simp only [mkAct, List.foldl_cons, List.foldl_nil, List.setIfInBounds_toArray, List.set_cons_succ, List.set_cons_zero, upd, reduceIte, Nat.reduceEqDiff, Nat.reduceAdd, f0, str]; done) | (simp [mkAct, upd, f0, str, *]; done)
        · -- operation 2
          obtain ⟨f1, -⟩ := hp
          replace f1 : u 1 = (.pointer (some ⟨w0.heap.size, 4, none⟩)) := f1
          try simp only [f1, str]
          go_wp2_with (refine load_mid rfl _ _ rfl w0.heap.size 4 rfl (bv D1) _ (hI.range hdr.out) Try.underlying28 rfl hinfD.out ?_)
          refine stq_v rfl Same.refl ?_
          first | (simp only [mkAct, List.foldl_cons, List.foldl_nil, List.setIfInBounds_toArray, List.set_cons_succ, List.set_cons_zero, upd, reduceIte, Nat.reduceEqDiff, Nat.reduceAdd, f1, str]; done) | (simp [mkAct, upd, f1, str, *]; done)
        · -- operation 3
          go_wp2
          refine stq_v rfl Same.refl ?_
          first | (simp only [mkAct, List.foldl_cons, List.foldl_nil, List.setIfInBounds_toArray, List.set_cons_succ, List.set_cons_zero, upd, reduceIte, Nat.reduceEqDiff, Nat.reduceAdd, str]; done) | (simp [mkAct, upd, str, *]; done)
        · -- operation 4
          obtain ⟨f3, -⟩ := hp
          replace f3 : u 3 = (.pointer (some ⟨w.heap.size, 1, none⟩)) := f3
          try simp only [f3, str]
          go_wp2_with (refine load_mid rfl _ _ rfl w.heap.size 1 rfl s.bat.cells _ (hI.range (sl_bat a0.out)) Try.underlying26 rfl hinfb.out ?_)
          refine stq_v rfl Same.refl ?_
          first | (simp only [mkAct, List.foldl_cons, List.foldl_nil, List.setIfInBounds_toArray, List.set_cons_succ, List.set_cons_zero, upd, reduceIte, Nat.reduceEqDiff, Nat.reduceAdd, f3, str]; done) | (simp [mkAct, upd, f3, str, *]; done)
        · -- operation 5
          obtain ⟨f4, -⟩ := hp
          replace f4 : u 4 = (.agg s.bat.cells.toArray) := f4
          try simp only [f4, str]
          go_wp2_with fail
          refine (hd1.out _ (BatV.same hs.out.2.2.1 (hw2.out.trans hI))).mono ?_
          rintro e w1 ⟨rfl, hs'⟩
          go_wp2
          refine stq_v rfl hs' ?_
          first | (simp only [mkAct, List.foldl_cons, List.foldl_nil, List.setIfInBounds_toArray, List.set_cons_succ, List.set_cons_zero, upd, reduceIte, Nat.reduceEqDiff, Nat.reduceAdd, f4, str]; done) | (simp [mkAct, upd, f4, str, *]; done)
        · -- operation 6
          obtain ⟨f2, f5, -⟩ := hp
          replace f2 : u 2 = (.agg (bv D1).toArray) := f2
          replace f5 : u 5 = (.agg (bv D2).toArray) := f5
          try simp only [f2, f5, str]
          have hqo := hq.out
          have hgo := hgd.out
          go_wp2
          refine stq_v rfl Same.refl ?_
          first | (simp only [mkAct, List.foldl_cons, List.foldl_nil, List.setIfInBounds_toArray, List.set_cons_succ, List.set_cons_zero, upd, reduceIte, Nat.reduceEqDiff, Nat.reduceAdd, f2, f5, str]; done) | (simp [mkAct, upd, f2, f5, str, *]; done)
      · intro u wx hI hR
        obtain ⟨r0, r1, r2, r3, r4, r5, r6, -⟩ := hR
        replace r0 : u 0 = (.pointer (some ⟨w0.heap.size, 0, none⟩)) := r0
        replace r1 : u 1 = (.pointer (some ⟨w0.heap.size, 4, none⟩)) := r1
        replace r2 : u 2 = (.agg (bv D1).toArray) := r2
        replace r3 : u 3 = (.pointer (some ⟨w.heap.size, 1, none⟩)) := r3
        replace r4 : u 4 = (.agg s.bat.cells.toArray) := r4
        replace r5 : u 5 = (.agg (bv D2).toArray) := r5
        replace r6 : u 6 = (.bool false) := r6
        simp only [mkAct, List.foldl_cons, List.foldl_nil, List.setIfInBounds_toArray, List.set_cons_succ, List.set_cons_zero]
        try simp only [str, r0, r1, r2, r3, r4, r5, r6]
        have r04 := Lib.hid (hI.at a0.out)
        have r14 := Lib.hid (hI.at a1.out)
        have k2 := ce_view r14.out
        have r24 := Lib.hid (hI.at hbz.out)
        have hw4 := Lib.hid (hw2.out.trans hI)
        have c43 := sl_holds r04.out hwf.out
        rw [← hi.out] at c43
        have c8 := sl_hview r04.out
        have z4 := hI.size
        clear hI r0 r1 r2 r3 r4 r5 r6 hbz hw2
        go_upto_region 9 with fail
        clear k2 c43 c8
        go_wp2_with (first | (refine store_one rfl _ _ _ rfl w.heap.size 43 (.bool true) rfl rfl rfl rfl _ _ r04.out (by kernel_rfl) (by rw [hlen.out]; decide) ?_; intro w5 q5 j5; have q5' : w5.heap[w.heap.size]? = some (Obj.cells s1.cells.toArray 50 (0, 0)) := (by rw [← st1.out]; exact q5); replace q5 := q5'; clear q5'; have r15 := (j5.block _ (by omega) (by omega)).trans r14.out; have rz5 := (j5.block _ (by omega) (by omega)).trans r24.out; have k5 := hw4.out.keep j5 (fun x hx hv => by omega); have y5 := j5.size; have b5 : w5.rangeAt w.heap.size 1 s.bat.cells := (by rw [← hb1.out]; exact sl_bat q5); replace b5 := Lib.hid b5; replace q5 := Lib.hid q5; replace j5 := Lib.hid j5; replace r15 := Lib.hid r15; replace rz5 := Lib.hid rz5; replace k5 := Lib.hid k5) | (refine load_mid rfl _ _ rfl w.heap.size 1 rfl s.bat.cells _ b5.out Try.underlying26 rfl hinfb.out ?_) | (refine load_row rfl _ _ rfl w0.heap.size rfl _ _ _ _ r15.out Try.underlying33 rfl hinfC.out ?_) | (refine build_struct rfl _ _ rfl [(0, .agg s.bat.cells.toArray), (1, .agg c.cells.toArray)] rfl _ hbH.out ?_) | (refine store_mid rfl _ _ _ rfl w.heap.size 4 (heldCells s.bat c) rfl rfl _ _ q5.out hinfH.out (by rw [hl1.out, hlH.out]; decide) (held_oneL _ _) ?_; intro w6 q6 j6; have q6' : w6.heap[w.heap.size]? = some (Obj.cells s2.cells.toArray 50 (0, 0)) := (by rw [← st2.out]; exact q6); replace q6 := q6'; clear q6'; have rz6 := (j6.block _ (by omega) (by omega)).trans rz5.out; have k6 := k5.out.keep j6 (fun x hx hv => by omega); have y6 := j6.size; replace q6 := Lib.hid q6; replace j6 := Lib.hid j6; replace rz6 := Lib.hid rz6; replace k6 := Lib.hid k6) | (refine load_row rfl _ _ rfl w.heap.size rfl _ _ _ _ q6.out Try.underlying50 rfl hinf3.out ?_) | (refine store_row rfl _ _ _ rfl w1.heap.size s2.cells.toArray rfl rfl _ _ rz6.out hinf3.out hsz3.out (slot_one _) ?_; intro w9 hb9 hk9; replace hb9 := Lib.hid hb9; replace hk9 := Lib.hid hk9))
        refine bodyPost_ret (v := .tuple #[.agg s2.cells.toArray, .int .i64 0]) (results_row2 (p := 4) (q := 5) (ty := 50) rfl _ _ w1.heap.size _ _ _ _ _ rfl rfl hb9.out Try.underlying50 rfl hinf3.out) rfl ?_
        exact ⟨rfl, k6.out.keep hk9.out (fun x hx hv => by omega)⟩
set_option maxRecDepth 100000 in
set_option maxHeartbeats 6400000 in
theorem rdecide_any (s : SlotV) (b : BatV) (c : CertV) (w : World) (hs : s.at w) (hb : b.at w) (hc : c.at w) (hsm : s.ebat.small) (hbm : b.small) :
    Calls Try.prog 26 #[.agg s.cells.toArray, .agg b.cells.toArray, .agg c.cells.toArray] w (RetSlot w (s.decide b c)) := by
  have hwf := hs.wf
  have hinf := Lib.hid (rslot_info hwf)
  have hinfZ := Lib.hid (rslot_info zeroSlot_wf)
  have hinfC := Lib.hid (cert_info hc.1)
  have hinfB := Lib.hid (bat_info b)
  have hinfe := Lib.hid (bat_infoL s.ebat)
  have hlen := Lib.hid (SlotV.len hwf)
  have hd1 := Lib.hid (fun w h => rbdig_any s.ebat w h hsm)
  have hd2 := Lib.hid (fun w h => rbdig_any b w h hbm)
  have hq := fun w => dig_neq c.vote.dig (bDig b) hc.1.1 (bDig_length _) w
  have hq' := fun w => dig_neq (bDig s.ebat) (bDig b) (bDig_length _) (bDig_length _) w
  have hgd := dig_guard
  have hDl0 := hc.1.1
  have hDl := bDig_length b
  have hinfD : (Try.prog.info? 28).map (·.size) = some (bv c.vote.dig).length := by rw [bv_length, hDl0]; kernel_rfl
  have hinfd := dig_info hDl
  have hcs := decide_cases s b c
  obtain ⟨R, hR⟩ : ∃ R, R = s.decide b c := ⟨_, rfl⟩
  rw [← hR] at hcs ⊢
  obtain ⟨D1, hD1⟩ : ∃ D, D = c.vote.dig := ⟨_, rfl⟩
  obtain ⟨D2, hD2⟩ : ∃ D, D = bDig b := ⟨_, rfl⟩
  obtain ⟨D3, hD3⟩ : ∃ D, D = bDig s.ebat := ⟨_, rfl⟩
  rw [show batDig s.ebat.noop s.ebat.reqs = D3 from hD3.symm] at hd1
  rw [show batDig b.noop b.reqs = D2 from hD2.symm] at hd2
  rw [← hD1, ← hD2] at hq
  rw [← hD3, ← hD2] at hq'
  rw [← hD1, ← hD2, ← hD3] at hcs
  rw [← hD1] at hinfD
  rw [← hD2] at hinfd hDl
  obtain ⟨q, hqe⟩ : ∃ q, q = (D1 != D2) := ⟨_, rfl⟩
  obtain ⟨q', hqe'⟩ : ∃ q, q = (D3 != D2) := ⟨_, rfl⟩
  rw [← hqe] at hq
  rw [← hqe'] at hq'
  have hq1 : D1 = D2 → q = false := fun h => by rw [hqe, h]; simp
  have hq2 : D1 ≠ D2 → q = true := fun h => by rw [hqe]; simp [h]
  have hq3 : D3 = D2 → q' = false := fun h => by rw [hqe', h]; simp
  have hq4 : D3 ≠ D2 → q' = true := fun h => by rw [hqe']; simp [h]
  clear hR hD2 hD3 hqe hqe' hsm hbm hDl0
  replace hinfD := Lib.hid hinfD
  replace hinfd := Lib.hid hinfd
  replace hDl := Lib.hid hDl
  replace hD1 := Lib.hid hD1
  replace hq := Lib.hid hq
  replace hq' := Lib.hid hq'
  replace hgd := Lib.hid hgd
  replace hwf := Lib.hid hwf
  replace hs := Lib.hid hs
  replace hb := Lib.hid hb
  replace hc := Lib.hid hc
  rcases hcs with ⟨h1, h⟩ | ⟨h1, h2, h⟩ | ⟨h1, h2, h3, h4, h⟩ | ⟨h1, h2, h3, h4, h⟩ | ⟨h1, h2, h3, h⟩
  · subst h
    have h1' : (c.vote.kind != 2) = true := by simpa using h1
    clear hq hq' hgd hq1 hq2 hq3 hq4 hd1
    go_enter Try.func26, Try.ntmps26
    go_upto_region 1 with (first | (refine box_row rfl _ _ rfl s.cells.toArray rfl hinf.out ?_; intro w0 hbs hs0; have l0 := blk_lt hbs; replace hbs := Lib.hid hbs; replace hs0 := Lib.hid hs0) | (refine box_row rfl _ _ rfl b.cells.toArray rfl hinfB.out ?_; intro w1 hbb hs1; have l1 := blk_lt hbb; replace hbb := Lib.hid hbb; replace hs1 := Lib.hid hs1) | (refine box_row rfl _ _ rfl c.cells.toArray rfl hinfC.out ?_; intro w2 hbc hs2; have l2 := blk_lt hbc; replace hbc := Lib.hid hbc; replace hs2 := Lib.hid hs2) | (refine alloc_new rfl 50 rfl zeroSlot.cells.toArray (by kernel_rfl) ?_; intro w3 hbz hs3; have l3 := blk_lt hbz; replace hbz := Lib.hid hbz; replace hs3 := Lib.hid hs3))
    have r0 := Lib.hid ((hs1.out.trans (hs2.out.trans hs3.out)).at hbs.out)
    have r1 := Lib.hid ((hs2.out.trans hs3.out).at hbb.out)
    have r2 := Lib.hid (hs3.out.at hbc.out)
    have hw3 := Lib.hid (hs0.out.trans (hs1.out.trans (hs2.out.trans hs3.out)))
    have z0 := hs0.out.size
    have z1 := hs1.out.size
    have z2 := hs2.out.size
    have z3 := hs3.out.size
    clear hbs hbb hbc hs0 hs1 hs2 hs3
    go_wp2_with (refine load_row rfl _ _ rfl w0.heap.size rfl _ _ _ _ r1.out Try.underlying26 rfl hinfB.out ?_)
    refine (hd2.out _ (BatV.same hb.out hw3.out)).mono ?_
    rintro e w4 ⟨rfl, hs4⟩
    have r04 := Lib.hid (hs4.at r0.out)
    have r14 := Lib.hid (hs4.at r1.out)
    have r24 := Lib.hid (hs4.at r2.out)
    have r34 := Lib.hid (hs4.at hbz.out)
    have hw4 := Lib.hid (hw3.out.trans hs4)
    have z4 := hs4.size
    clear hs4 r0 r1 r2 hbz hw3
    go_upto_region 2 with (first | (refine alloc_new rfl 28 rfl (bv (List.replicate 32 0)).toArray (by kernel_rfl) ?_; intro w5 hbd hs5; have l5 := blk_lt hbd; replace hbd := Lib.hid hbd; replace hs5 := Lib.hid hs5) | (refine store_row rfl _ _ _ rfl w4.heap.size (bv D2).toArray rfl rfl _ _ hbd.out hinfd.out (by rw [List.size_toArray, List.size_toArray, bv_length, bv_length, hDl.out]; rfl) (all_of bv_cell) ?_; intro w6 rd hk6; replace rd := Lib.hid rd; replace hk6 := Lib.hid hk6))
    have hs6 : Same w4 w6 := hs5.out.keep hk6.out (fun x hx hv => by omega)
    have r06 := Lib.hid (hs6.at r04.out)
    have r16 := Lib.hid (hs6.at r14.out)
    have r26 := Lib.hid (hs6.at r24.out)
    have r36 := Lib.hid (hs6.at r34.out)
    have hw6 := Lib.hid (hw4.out.trans hs6)
    have z6 := hs6.size
    have k0 := ce_kind r26.out
    have hdr := Lib.hid (ce_dig r26.out)
    have c84 := sl_decided r06.out hwf.out
    clear hs5 hk6 hs6 r04 r14 r24 r34 hbd hw4
    rw [← hD1.out] at hdr
    clear c84
    go_wp2_with (first | (refine build_const (ty := 50) (.agg zeroSlot.cells.toArray) rfl rfl (by kernel_rfl) ?_) | (refine store_row rfl _ _ _ rfl w2.heap.size zeroSlot.cells.toArray rfl rfl _ _ r36.out hinfZ.out rfl (slot_one _) ?_; intro w9 hb9 hk9; replace hb9 := Lib.hid hb9; replace hk9 := Lib.hid hk9))
    refine bodyPost_ret (v := .tuple #[.agg zeroSlot.cells.toArray, .int .i64 181]) (results_row2 (p := 6) (q := 7) (ty := 50) rfl _ _ w2.heap.size _ _ _ _ _ rfl rfl hb9.out Try.underlying50 rfl hinfZ.out) rfl ?_
    exact ⟨rfl, hw6.out.keep hk9.out (fun x hx hv => by omega)⟩
  · subst h
    obtain rfl := hq2 h2
    clear hq1 hq2 hq3 hq4 hd1 h2 hq'
    go_enter Try.func26, Try.ntmps26
    go_upto_region 1 with (first | (refine box_row rfl _ _ rfl s.cells.toArray rfl hinf.out ?_; intro w0 hbs hs0; have l0 := blk_lt hbs; replace hbs := Lib.hid hbs; replace hs0 := Lib.hid hs0) | (refine box_row rfl _ _ rfl b.cells.toArray rfl hinfB.out ?_; intro w1 hbb hs1; have l1 := blk_lt hbb; replace hbb := Lib.hid hbb; replace hs1 := Lib.hid hs1) | (refine box_row rfl _ _ rfl c.cells.toArray rfl hinfC.out ?_; intro w2 hbc hs2; have l2 := blk_lt hbc; replace hbc := Lib.hid hbc; replace hs2 := Lib.hid hs2) | (refine alloc_new rfl 50 rfl zeroSlot.cells.toArray (by kernel_rfl) ?_; intro w3 hbz hs3; have l3 := blk_lt hbz; replace hbz := Lib.hid hbz; replace hs3 := Lib.hid hs3))
    have r0 := Lib.hid ((hs1.out.trans (hs2.out.trans hs3.out)).at hbs.out)
    have r1 := Lib.hid ((hs2.out.trans hs3.out).at hbb.out)
    have r2 := Lib.hid (hs3.out.at hbc.out)
    have hw3 := Lib.hid (hs0.out.trans (hs1.out.trans (hs2.out.trans hs3.out)))
    have z0 := hs0.out.size
    have z1 := hs1.out.size
    have z2 := hs2.out.size
    have z3 := hs3.out.size
    clear hbs hbb hbc hs0 hs1 hs2 hs3
    go_wp2_with (refine load_row rfl _ _ rfl w0.heap.size rfl _ _ _ _ r1.out Try.underlying26 rfl hinfB.out ?_)
    refine (hd2.out _ (BatV.same hb.out hw3.out)).mono ?_
    rintro e w4 ⟨rfl, hs4⟩
    have r04 := Lib.hid (hs4.at r0.out)
    have r14 := Lib.hid (hs4.at r1.out)
    have r24 := Lib.hid (hs4.at r2.out)
    have r34 := Lib.hid (hs4.at hbz.out)
    have hw4 := Lib.hid (hw3.out.trans hs4)
    have z4 := hs4.size
    clear hs4 r0 r1 r2 hbz hw3
    go_upto_region 2 with (first | (refine alloc_new rfl 28 rfl (bv (List.replicate 32 0)).toArray (by kernel_rfl) ?_; intro w5 hbd hs5; have l5 := blk_lt hbd; replace hbd := Lib.hid hbd; replace hs5 := Lib.hid hs5) | (refine store_row rfl _ _ _ rfl w4.heap.size (bv D2).toArray rfl rfl _ _ hbd.out hinfd.out (by rw [List.size_toArray, List.size_toArray, bv_length, bv_length, hDl.out]; rfl) (all_of bv_cell) ?_; intro w6 rd hk6; replace rd := Lib.hid rd; replace hk6 := Lib.hid hk6))
    have hs6 : Same w4 w6 := hs5.out.keep hk6.out (fun x hx hv => by omega)
    have r06 := Lib.hid (hs6.at r04.out)
    have r16 := Lib.hid (hs6.at r14.out)
    have r26 := Lib.hid (hs6.at r24.out)
    have r36 := Lib.hid (hs6.at r34.out)
    have hw6 := Lib.hid (hw4.out.trans hs6)
    have z6 := hs6.size
    have k0 := ce_kind r26.out
    have hdr := Lib.hid (ce_dig r26.out)
    have c84 := sl_decided r06.out hwf.out
    clear hs5 hk6 hs6 r04 r14 r24 r34 hbd hw4
    rw [← hD1.out] at hdr
    clear c84
    rw [h1] at k0
    have hqo := hq.out
    have hgo := hgd.out
    go_wp2_with (first | (refine load_mid rfl _ _ rfl w1.heap.size 4 rfl (bv D1) _ hdr.out Try.underlying28 rfl hinfD.out ?_) | (refine load_row rfl _ _ rfl w4.heap.size rfl _ _ _ _ rd.out Try.underlying28 rfl hinfd.out ?_) | (refine build_const (ty := 50) (.agg zeroSlot.cells.toArray) rfl rfl (by kernel_rfl) ?_) | (refine store_row rfl _ _ _ rfl w2.heap.size zeroSlot.cells.toArray rfl rfl _ _ r36.out hinfZ.out rfl (slot_one _) ?_; intro w9 hb9 hk9; replace hb9 := Lib.hid hb9; replace hk9 := Lib.hid hk9))
    refine bodyPost_ret (v := .tuple #[.agg zeroSlot.cells.toArray, .int .i64 181]) (results_row2 (p := 6) (q := 7) (ty := 50) rfl _ _ w2.heap.size _ _ _ _ _ rfl rfl hb9.out Try.underlying50 rfl hinfZ.out) rfl ?_
    exact ⟨rfl, hw6.out.keep hk9.out (fun x hx hv => by omega)⟩
  · subst h
    obtain rfl := hq1 h2
    obtain rfl := hq4 h4
    clear hq1 hq2 hq3 hq4 h2 h4
    go_enter Try.func26, Try.ntmps26
    go_upto_region 1 with (first | (refine box_row rfl _ _ rfl s.cells.toArray rfl hinf.out ?_; intro w0 hbs hs0; have l0 := blk_lt hbs; replace hbs := Lib.hid hbs; replace hs0 := Lib.hid hs0) | (refine box_row rfl _ _ rfl b.cells.toArray rfl hinfB.out ?_; intro w1 hbb hs1; have l1 := blk_lt hbb; replace hbb := Lib.hid hbb; replace hs1 := Lib.hid hs1) | (refine box_row rfl _ _ rfl c.cells.toArray rfl hinfC.out ?_; intro w2 hbc hs2; have l2 := blk_lt hbc; replace hbc := Lib.hid hbc; replace hs2 := Lib.hid hs2) | (refine alloc_new rfl 50 rfl zeroSlot.cells.toArray (by kernel_rfl) ?_; intro w3 hbz hs3; have l3 := blk_lt hbz; replace hbz := Lib.hid hbz; replace hs3 := Lib.hid hs3))
    have r0 := Lib.hid ((hs1.out.trans (hs2.out.trans hs3.out)).at hbs.out)
    have r1 := Lib.hid ((hs2.out.trans hs3.out).at hbb.out)
    have r2 := Lib.hid (hs3.out.at hbc.out)
    have hw3 := Lib.hid (hs0.out.trans (hs1.out.trans (hs2.out.trans hs3.out)))
    have z0 := hs0.out.size
    have z1 := hs1.out.size
    have z2 := hs2.out.size
    have z3 := hs3.out.size
    clear hbs hbb hbc hs0 hs1 hs2 hs3
    go_wp2_with (refine load_row rfl _ _ rfl w0.heap.size rfl _ _ _ _ r1.out Try.underlying26 rfl hinfB.out ?_)
    refine (hd2.out _ (BatV.same hb.out hw3.out)).mono ?_
    rintro e w4 ⟨rfl, hs4⟩
    have r04 := Lib.hid (hs4.at r0.out)
    have r14 := Lib.hid (hs4.at r1.out)
    have r24 := Lib.hid (hs4.at r2.out)
    have r34 := Lib.hid (hs4.at hbz.out)
    have hw4 := Lib.hid (hw3.out.trans hs4)
    have z4 := hs4.size
    clear hs4 r0 r1 r2 hbz hw3
    go_upto_region 2 with (first | (refine alloc_new rfl 28 rfl (bv (List.replicate 32 0)).toArray (by kernel_rfl) ?_; intro w5 hbd hs5; have l5 := blk_lt hbd; replace hbd := Lib.hid hbd; replace hs5 := Lib.hid hs5) | (refine store_row rfl _ _ _ rfl w4.heap.size (bv D2).toArray rfl rfl _ _ hbd.out hinfd.out (by rw [List.size_toArray, List.size_toArray, bv_length, bv_length, hDl.out]; rfl) (all_of bv_cell) ?_; intro w6 rd hk6; replace rd := Lib.hid rd; replace hk6 := Lib.hid hk6))
    have hs6 : Same w4 w6 := hs5.out.keep hk6.out (fun x hx hv => by omega)
    have r06 := Lib.hid (hs6.at r04.out)
    have r16 := Lib.hid (hs6.at r14.out)
    have r26 := Lib.hid (hs6.at r24.out)
    have r36 := Lib.hid (hs6.at r34.out)
    have hw6 := Lib.hid (hw4.out.trans hs6)
    have z6 := hs6.size
    have k0 := ce_kind r26.out
    have hdr := Lib.hid (ce_dig r26.out)
    have c84 := sl_decided r06.out hwf.out
    clear hs5 hk6 hs6 r04 r14 r24 r34 hbd hw4
    rw [← hD1.out] at hdr
    rw [h1] at k0
    rw [h3] at c84
    have hqo := hq.out
    have hgo := hgd.out
    go_upto_region 5 with (first | (refine load_mid rfl _ _ rfl w1.heap.size 4 rfl (bv D1) _ hdr.out Try.underlying28 rfl hinfD.out ?_) | (refine load_row rfl _ _ rfl w4.heap.size rfl _ _ _ _ rd.out Try.underlying28 rfl hinfd.out ?_))
    replace c84 := Lib.hid c84
    clear hqo hgo k0
    refine wp_region_facts (by kernel_rfl) [(25, 0), (26, 1), (27, 2), (28, 3), (29, 4), (30, 5)] Same (Same _) [isV (.pointer (some ⟨w.heap.size, 44, none⟩)), isV (.pointer (some ⟨w.heap.size, 45, none⟩)), isV (.agg s.ebat.cells.toArray), isV (.agg (bv D3).toArray), isV (.agg (bv D2).toArray), isV (.bool true)] Same.refl.drew (fun _ _ h k => h.trans k) (by simp [isV_stable, isB_stable, isAny_stable]) (by decide) (by decide) ?_ ?_
    · refine ⟨?_, ?_, ?_, ?_, ?_, ?_, trivial⟩
      all_goals (intro u wx hI hp; simp only [mkAct, List.foldl_cons, List.foldl_nil, List.setIfInBounds_toArray, List.set_cons_succ, List.set_cons_zero])
      · -- operation 0
        go_wp2
        refine stq_v rfl Same.refl ?_
        first | (simp only [mkAct, List.foldl_cons, List.foldl_nil, List.setIfInBounds_toArray, List.set_cons_succ, List.set_cons_zero, upd, reduceIte, Nat.reduceEqDiff, Nat.reduceAdd, str]; done) | (simp [mkAct, upd, str, *]; done)
      · -- operation 1
        obtain ⟨f0, -⟩ := hp
        replace f0 : u 0 = (.pointer (some ⟨w.heap.size, 44, none⟩)) := f0
        try simp only [f0, str]
        go_wp2
        refine stq_v rfl Same.refl ?_
        first | (simp only [mkAct, List.foldl_cons, List.foldl_nil, List.setIfInBounds_toArray, List.set_cons_succ, List.set_cons_zero, upd, reduceIte, Nat.reduceEqDiff, Nat.reduceAdd, f0, str]; done) | (simp [mkAct, upd, f0, str, *]; done)
      · -- operation 2
        obtain ⟨f1, -⟩ := hp
        replace f1 : u 1 = (.pointer (some ⟨w.heap.size, 45, none⟩)) := f1
        try simp only [f1, str]
        go_wp2_with (refine load_mid rfl _ _ rfl w.heap.size 45 rfl s.ebat.cells _ (hI.range (sl_ebat r06.out hwf.out)) Try.underlying26 rfl hinfe.out ?_)
        refine stq_v rfl Same.refl ?_
        first | (simp only [mkAct, List.foldl_cons, List.foldl_nil, List.setIfInBounds_toArray, List.set_cons_succ, List.set_cons_zero, upd, reduceIte, Nat.reduceEqDiff, Nat.reduceAdd, f1, str]; done) | (simp [mkAct, upd, f1, str, *]; done)
      · -- operation 3
        obtain ⟨f2, -⟩ := hp
        replace f2 : u 2 = (.agg s.ebat.cells.toArray) := f2
        try simp only [f2, str]
        go_wp2_with fail
        refine (hd1.out _ (BatV.same hs.out.2.2.2.2.2.1 (hw6.out.trans hI))).mono ?_
        rintro e w1 ⟨rfl, hs'⟩
        go_wp2
        refine stq_v rfl hs' ?_
        first | (simp only [mkAct, List.foldl_cons, List.foldl_nil, List.setIfInBounds_toArray, List.set_cons_succ, List.set_cons_zero, upd, reduceIte, Nat.reduceEqDiff, Nat.reduceAdd, f2, str]; done) | (simp [mkAct, upd, f2, str, *]; done)
      · -- operation 4
        go_wp2_with (refine load_row rfl _ _ rfl w4.heap.size rfl _ _ _ _ (hI.at rd.out) Try.underlying28 rfl hinfd.out ?_)
        refine stq_v rfl Same.refl ?_
        first | (simp only [mkAct, List.foldl_cons, List.foldl_nil, List.setIfInBounds_toArray, List.set_cons_succ, List.set_cons_zero, upd, reduceIte, Nat.reduceEqDiff, Nat.reduceAdd, str]; done) | (simp [mkAct, upd, str, *]; done)
      · -- operation 5
        obtain ⟨f3, f4, -⟩ := hp
        replace f3 : u 3 = (.agg (bv D3).toArray) := f3
        replace f4 : u 4 = (.agg (bv D2).toArray) := f4
        try simp only [f3, f4, str]
        have hqo := hq'.out
        have hgo := hgd.out
        go_wp2
        refine stq_v rfl Same.refl ?_
        first | (simp only [mkAct, List.foldl_cons, List.foldl_nil, List.setIfInBounds_toArray, List.set_cons_succ, List.set_cons_zero, upd, reduceIte, Nat.reduceEqDiff, Nat.reduceAdd, f3, f4, str]; done) | (simp [mkAct, upd, f3, f4, str, *]; done)
    · intro u wx hI hR
      obtain ⟨r0, r1, r2, r3, r4, r5, -⟩ := hR
      replace r0 : u 0 = (.pointer (some ⟨w.heap.size, 44, none⟩)) := r0
      replace r1 : u 1 = (.pointer (some ⟨w.heap.size, 45, none⟩)) := r1
      replace r2 : u 2 = (.agg s.ebat.cells.toArray) := r2
      replace r3 : u 3 = (.agg (bv D3).toArray) := r3
      replace r4 : u 4 = (.agg (bv D2).toArray) := r4
      replace r5 : u 5 = (.bool true) := r5
      simp only [mkAct, List.foldl_cons, List.foldl_nil, List.setIfInBounds_toArray, List.set_cons_succ, List.set_cons_zero]
      try simp only [str, r0, r1, r2, r3, r4, r5]
      have r37 := Lib.hid (hI.at r36.out)
      have hw7 := Lib.hid (hw6.out.trans hI)
      have z7 := hI.size
      clear hI r0 r1 r2 r3 r4 r5 r06 r16 r26 r36 hw6
      go_wp2_with (first | (refine build_const (ty := 50) (.agg zeroSlot.cells.toArray) rfl rfl (by kernel_rfl) ?_) | (refine store_row rfl _ _ _ rfl w2.heap.size zeroSlot.cells.toArray rfl rfl _ _ r37.out hinfZ.out rfl (slot_one _) ?_; intro w9 hb9 hk9; replace hb9 := Lib.hid hb9; replace hk9 := Lib.hid hk9))
      refine bodyPost_ret (v := .tuple #[.agg zeroSlot.cells.toArray, .int .i64 181]) (results_row2 (p := 6) (q := 7) (ty := 50) rfl _ _ w2.heap.size _ _ _ _ _ rfl rfl hb9.out Try.underlying50 rfl hinfZ.out) rfl ?_
      exact ⟨rfl, hw7.out.keep hk9.out (fun x hx hv => by omega)⟩
  · subst h
    obtain rfl := hq1 h2
    obtain rfl := hq3 h4
    clear hq1 hq2 hq3 hq4 h2 h4
    go_enter Try.func26, Try.ntmps26
    go_upto_region 1 with (first | (refine box_row rfl _ _ rfl s.cells.toArray rfl hinf.out ?_; intro w0 hbs hs0; have l0 := blk_lt hbs; replace hbs := Lib.hid hbs; replace hs0 := Lib.hid hs0) | (refine box_row rfl _ _ rfl b.cells.toArray rfl hinfB.out ?_; intro w1 hbb hs1; have l1 := blk_lt hbb; replace hbb := Lib.hid hbb; replace hs1 := Lib.hid hs1) | (refine box_row rfl _ _ rfl c.cells.toArray rfl hinfC.out ?_; intro w2 hbc hs2; have l2 := blk_lt hbc; replace hbc := Lib.hid hbc; replace hs2 := Lib.hid hs2) | (refine alloc_new rfl 50 rfl zeroSlot.cells.toArray (by kernel_rfl) ?_; intro w3 hbz hs3; have l3 := blk_lt hbz; replace hbz := Lib.hid hbz; replace hs3 := Lib.hid hs3))
    have r0 := Lib.hid ((hs1.out.trans (hs2.out.trans hs3.out)).at hbs.out)
    have r1 := Lib.hid ((hs2.out.trans hs3.out).at hbb.out)
    have r2 := Lib.hid (hs3.out.at hbc.out)
    have hw3 := Lib.hid (hs0.out.trans (hs1.out.trans (hs2.out.trans hs3.out)))
    have z0 := hs0.out.size
    have z1 := hs1.out.size
    have z2 := hs2.out.size
    have z3 := hs3.out.size
    clear hbs hbb hbc hs0 hs1 hs2 hs3
    go_wp2_with (refine load_row rfl _ _ rfl w0.heap.size rfl _ _ _ _ r1.out Try.underlying26 rfl hinfB.out ?_)
    refine (hd2.out _ (BatV.same hb.out hw3.out)).mono ?_
    rintro e w4 ⟨rfl, hs4⟩
    have r04 := Lib.hid (hs4.at r0.out)
    have r14 := Lib.hid (hs4.at r1.out)
    have r24 := Lib.hid (hs4.at r2.out)
    have r34 := Lib.hid (hs4.at hbz.out)
    have hw4 := Lib.hid (hw3.out.trans hs4)
    have z4 := hs4.size
    clear hs4 r0 r1 r2 hbz hw3
    go_upto_region 2 with (first | (refine alloc_new rfl 28 rfl (bv (List.replicate 32 0)).toArray (by kernel_rfl) ?_; intro w5 hbd hs5; have l5 := blk_lt hbd; replace hbd := Lib.hid hbd; replace hs5 := Lib.hid hs5) | (refine store_row rfl _ _ _ rfl w4.heap.size (bv D2).toArray rfl rfl _ _ hbd.out hinfd.out (by rw [List.size_toArray, List.size_toArray, bv_length, bv_length, hDl.out]; rfl) (all_of bv_cell) ?_; intro w6 rd hk6; replace rd := Lib.hid rd; replace hk6 := Lib.hid hk6))
    have hs6 : Same w4 w6 := hs5.out.keep hk6.out (fun x hx hv => by omega)
    have r06 := Lib.hid (hs6.at r04.out)
    have r16 := Lib.hid (hs6.at r14.out)
    have r26 := Lib.hid (hs6.at r24.out)
    have r36 := Lib.hid (hs6.at r34.out)
    have hw6 := Lib.hid (hw4.out.trans hs6)
    have z6 := hs6.size
    have k0 := ce_kind r26.out
    have hdr := Lib.hid (ce_dig r26.out)
    have c84 := sl_decided r06.out hwf.out
    clear hs5 hk6 hs6 r04 r14 r24 r34 hbd hw4
    rw [← hD1.out] at hdr
    rw [h1] at k0
    rw [h3] at c84
    have hqo := hq.out
    have hgo := hgd.out
    go_upto_region 5 with (first | (refine load_mid rfl _ _ rfl w1.heap.size 4 rfl (bv D1) _ hdr.out Try.underlying28 rfl hinfD.out ?_) | (refine load_row rfl _ _ rfl w4.heap.size rfl _ _ _ _ rd.out Try.underlying28 rfl hinfd.out ?_))
    replace c84 := Lib.hid c84
    clear hqo hgo k0
    refine wp_region_facts (by kernel_rfl) [(25, 0), (26, 1), (27, 2), (28, 3), (29, 4), (30, 5)] Same (Same _) [isV (.pointer (some ⟨w.heap.size, 44, none⟩)), isV (.pointer (some ⟨w.heap.size, 45, none⟩)), isV (.agg s.ebat.cells.toArray), isV (.agg (bv D3).toArray), isV (.agg (bv D2).toArray), isV (.bool false)] Same.refl.drew (fun _ _ h k => h.trans k) (by simp [isV_stable, isB_stable, isAny_stable]) (by decide) (by decide) ?_ ?_
    · refine ⟨?_, ?_, ?_, ?_, ?_, ?_, trivial⟩
      all_goals (intro u wx hI hp; simp only [mkAct, List.foldl_cons, List.foldl_nil, List.setIfInBounds_toArray, List.set_cons_succ, List.set_cons_zero])
      · -- operation 0
        go_wp2
        refine stq_v rfl Same.refl ?_
        first | (simp only [mkAct, List.foldl_cons, List.foldl_nil, List.setIfInBounds_toArray, List.set_cons_succ, List.set_cons_zero, upd, reduceIte, Nat.reduceEqDiff, Nat.reduceAdd, str]; done) | (simp [mkAct, upd, str, *]; done)
      · -- operation 1
        obtain ⟨f0, -⟩ := hp
        replace f0 : u 0 = (.pointer (some ⟨w.heap.size, 44, none⟩)) := f0
        try simp only [f0, str]
        go_wp2
        refine stq_v rfl Same.refl ?_
        first | (simp only [mkAct, List.foldl_cons, List.foldl_nil, List.setIfInBounds_toArray, List.set_cons_succ, List.set_cons_zero, upd, reduceIte, Nat.reduceEqDiff, Nat.reduceAdd, f0, str]; done) | (simp [mkAct, upd, f0, str, *]; done)
      · -- operation 2
        obtain ⟨f1, -⟩ := hp
        replace f1 : u 1 = (.pointer (some ⟨w.heap.size, 45, none⟩)) := f1
        try simp only [f1, str]
        go_wp2_with (refine load_mid rfl _ _ rfl w.heap.size 45 rfl s.ebat.cells _ (hI.range (sl_ebat r06.out hwf.out)) Try.underlying26 rfl hinfe.out ?_)
        refine stq_v rfl Same.refl ?_
        first | (simp only [mkAct, List.foldl_cons, List.foldl_nil, List.setIfInBounds_toArray, List.set_cons_succ, List.set_cons_zero, upd, reduceIte, Nat.reduceEqDiff, Nat.reduceAdd, f1, str]; done) | (simp [mkAct, upd, f1, str, *]; done)
      · -- operation 3
        obtain ⟨f2, -⟩ := hp
        replace f2 : u 2 = (.agg s.ebat.cells.toArray) := f2
        try simp only [f2, str]
        go_wp2_with fail
        refine (hd1.out _ (BatV.same hs.out.2.2.2.2.2.1 (hw6.out.trans hI))).mono ?_
        rintro e w1 ⟨rfl, hs'⟩
        go_wp2
        refine stq_v rfl hs' ?_
        first | (simp only [mkAct, List.foldl_cons, List.foldl_nil, List.setIfInBounds_toArray, List.set_cons_succ, List.set_cons_zero, upd, reduceIte, Nat.reduceEqDiff, Nat.reduceAdd, f2, str]; done) | (simp [mkAct, upd, f2, str, *]; done)
      · -- operation 4
        go_wp2_with (refine load_row rfl _ _ rfl w4.heap.size rfl _ _ _ _ (hI.at rd.out) Try.underlying28 rfl hinfd.out ?_)
        refine stq_v rfl Same.refl ?_
        first | (simp only [mkAct, List.foldl_cons, List.foldl_nil, List.setIfInBounds_toArray, List.set_cons_succ, List.set_cons_zero, upd, reduceIte, Nat.reduceEqDiff, Nat.reduceAdd, str]; done) | (simp [mkAct, upd, str, *]; done)
      · -- operation 5
        obtain ⟨f3, f4, -⟩ := hp
        replace f3 : u 3 = (.agg (bv D3).toArray) := f3
        replace f4 : u 4 = (.agg (bv D2).toArray) := f4
        try simp only [f3, f4, str]
        have hqo := hq'.out
        have hgo := hgd.out
        go_wp2
        refine stq_v rfl Same.refl ?_
        first | (simp only [mkAct, List.foldl_cons, List.foldl_nil, List.setIfInBounds_toArray, List.set_cons_succ, List.set_cons_zero, upd, reduceIte, Nat.reduceEqDiff, Nat.reduceAdd, f3, f4, str]; done) | (simp [mkAct, upd, f3, f4, str, *]; done)
    · intro u wx hI hR
      obtain ⟨r0, r1, r2, r3, r4, r5, -⟩ := hR
      replace r0 : u 0 = (.pointer (some ⟨w.heap.size, 44, none⟩)) := r0
      replace r1 : u 1 = (.pointer (some ⟨w.heap.size, 45, none⟩)) := r1
      replace r2 : u 2 = (.agg s.ebat.cells.toArray) := r2
      replace r3 : u 3 = (.agg (bv D3).toArray) := r3
      replace r4 : u 4 = (.agg (bv D2).toArray) := r4
      replace r5 : u 5 = (.bool false) := r5
      simp only [mkAct, List.foldl_cons, List.foldl_nil, List.setIfInBounds_toArray, List.set_cons_succ, List.set_cons_zero]
      try simp only [str, r0, r1, r2, r3, r4, r5]
      have r07 := Lib.hid (hI.at r06.out)
      have r37 := Lib.hid (hI.at r36.out)
      have hw7 := Lib.hid (hw6.out.trans hI)
      have z7 := hI.size
      clear hI r0 r1 r2 r3 r4 r5 r06 r16 r26 r36 hw6
      go_wp2_with (first | (refine load_row rfl _ _ rfl w.heap.size rfl _ _ _ _ r07.out Try.underlying50 rfl hinf.out ?_) | (refine store_row rfl _ _ _ rfl w2.heap.size s.cells.toArray rfl rfl _ _ r37.out hinf.out (slot_size zeroSlot_wf hwf.out) (slot_one _) ?_; intro w9 hb9 hk9; replace hb9 := Lib.hid hb9; replace hk9 := Lib.hid hk9))
      refine bodyPost_ret (v := .tuple #[.agg s.cells.toArray, .int .i64 0]) (results_row2 (p := 6) (q := 7) (ty := 50) rfl _ _ w2.heap.size _ _ _ _ _ rfl rfl hb9.out Try.underlying50 rfl hinf.out) rfl ?_
      exact ⟨rfl, hw7.out.keep hk9.out (fun x hx hv => by omega)⟩
  · subst h
    obtain rfl := hq1 h2
    clear hq1 hq2 hq3 hq4 h2 hq' hd1
    obtain ⟨s1, hs1e⟩ : ∃ x, x = { s with decided := true } := ⟨_, rfl⟩
    obtain ⟨s2, hs2e⟩ : ∃ x, x = { s1 with eslot := c.vote.slot, ebat := b, ecert := c } := ⟨_, rfl⟩
    have hfin : ({ s with decided := true, eslot := c.vote.slot, ebat := b, ecert := c } : SlotV) = s2 := by rw [hs2e, hs1e]
    rw [hfin]
    have hw1f : s1.wf := by rw [hs1e]; exact hwf.out
    have hl1 : s1.cells.length = 85 := SlotV.len hw1f
    have hw2f : s2.wf := by rw [hs2e, hs1e]; exact ⟨hwf.out.1, hc.out.1⟩
    have st1 : s.cells.take 84 ++ ([.bool true] ++ s.cells.drop 85) = s1.cells := by rw [hs1e]; exact set_decided hwf.out true
    have st2 : s1.cells.take 44 ++ (entCells c.vote.slot b c ++ s1.cells.drop (44 + (entCells c.vote.slot b c).length)) = s2.cells := by rw [hs2e]; exact set_ent hw1f c.vote.slot b c hc.out.1
    have hinf3 := Lib.hid (rslot_info hw2f)
    have hsz3 := Lib.hid (slot_size zeroSlot_wf hw2f)
    have hinfH := Lib.hid (ent_infoL (s := c.vote.slot) (b := b) hc.out.1)
    have hlH := Lib.hid (ent_len (s := c.vote.slot) (b := b) hc.out.1)
    have hbH := Lib.hid (ent_built c.vote.slot b c hc.out.1)
    clear hs1e hs2e hfin
    replace hw2f := Lib.hid hw2f
    replace hw1f := Lib.hid hw1f
    replace hl1 := Lib.hid hl1
    replace st1 := Lib.hid st1
    replace st2 := Lib.hid st2
    go_enter Try.func26, Try.ntmps26
    go_upto_region 1 with (first | (refine box_row rfl _ _ rfl s.cells.toArray rfl hinf.out ?_; intro w0 hbs hs0; have l0 := blk_lt hbs; replace hbs := Lib.hid hbs; replace hs0 := Lib.hid hs0) | (refine box_row rfl _ _ rfl b.cells.toArray rfl hinfB.out ?_; intro w1 hbb hs1; have l1 := blk_lt hbb; replace hbb := Lib.hid hbb; replace hs1 := Lib.hid hs1) | (refine box_row rfl _ _ rfl c.cells.toArray rfl hinfC.out ?_; intro w2 hbc hs2; have l2 := blk_lt hbc; replace hbc := Lib.hid hbc; replace hs2 := Lib.hid hs2) | (refine alloc_new rfl 50 rfl zeroSlot.cells.toArray (by kernel_rfl) ?_; intro w3 hbz hs3; have l3 := blk_lt hbz; replace hbz := Lib.hid hbz; replace hs3 := Lib.hid hs3))
    have r0 := Lib.hid ((hs1.out.trans (hs2.out.trans hs3.out)).at hbs.out)
    have r1 := Lib.hid ((hs2.out.trans hs3.out).at hbb.out)
    have r2 := Lib.hid (hs3.out.at hbc.out)
    have hw3 := Lib.hid (hs0.out.trans (hs1.out.trans (hs2.out.trans hs3.out)))
    have z0 := hs0.out.size
    have z1 := hs1.out.size
    have z2 := hs2.out.size
    have z3 := hs3.out.size
    clear hbs hbb hbc hs0 hs1 hs2 hs3
    go_wp2_with (refine load_row rfl _ _ rfl w0.heap.size rfl _ _ _ _ r1.out Try.underlying26 rfl hinfB.out ?_)
    refine (hd2.out _ (BatV.same hb.out hw3.out)).mono ?_
    rintro e w4 ⟨rfl, hs4⟩
    have r04 := Lib.hid (hs4.at r0.out)
    have r14 := Lib.hid (hs4.at r1.out)
    have r24 := Lib.hid (hs4.at r2.out)
    have r34 := Lib.hid (hs4.at hbz.out)
    have hw4 := Lib.hid (hw3.out.trans hs4)
    have z4 := hs4.size
    clear hs4 r0 r1 r2 hbz hw3
    go_upto_region 2 with (first | (refine alloc_new rfl 28 rfl (bv (List.replicate 32 0)).toArray (by kernel_rfl) ?_; intro w5 hbd hs5; have l5 := blk_lt hbd; replace hbd := Lib.hid hbd; replace hs5 := Lib.hid hs5) | (refine store_row rfl _ _ _ rfl w4.heap.size (bv D2).toArray rfl rfl _ _ hbd.out hinfd.out (by rw [List.size_toArray, List.size_toArray, bv_length, bv_length, hDl.out]; rfl) (all_of bv_cell) ?_; intro w6 rd hk6; replace rd := Lib.hid rd; replace hk6 := Lib.hid hk6))
    have hs6 : Same w4 w6 := hs5.out.keep hk6.out (fun x hx hv => by omega)
    have r06 := Lib.hid (hs6.at r04.out)
    have r16 := Lib.hid (hs6.at r14.out)
    have r26 := Lib.hid (hs6.at r24.out)
    have r36 := Lib.hid (hs6.at r34.out)
    have hw6 := Lib.hid (hw4.out.trans hs6)
    have z6 := hs6.size
    have k0 := ce_kind r26.out
    have hdr := Lib.hid (ce_dig r26.out)
    have c84 := sl_decided r06.out hwf.out
    clear hs5 hk6 hs6 r04 r14 r24 r34 hbd hw4
    rw [← hD1.out] at hdr
    rw [h1] at k0
    rw [h3] at c84
    have hqo := hq.out
    have hgo := hgd.out
    go_upto_region 8 with (first | (refine load_mid rfl _ _ rfl w1.heap.size 4 rfl (bv D1) _ hdr.out Try.underlying28 rfl hinfD.out ?_) | (refine load_row rfl _ _ rfl w4.heap.size rfl _ _ _ _ rd.out Try.underlying28 rfl hinfd.out ?_))
    have k3 := ce_slot r26.out
    clear hqo hgo k0 c84
    replace k3 := Lib.hid k3
    go_wp2_with (first | (refine store_one rfl _ _ _ rfl w.heap.size 84 (.bool true) rfl rfl rfl rfl _ _ r06.out (by kernel_rfl) (by rw [hlen.out]; decide) ?_; intro w7 q7 j7; have q7' : w7.heap[w.heap.size]? = some (Obj.cells s1.cells.toArray 50 (0, 0)) := (by rw [← st1.out]; exact q7); replace q7 := q7'; clear q7'; have r17 := (j7.block _ (by omega) (by omega)).trans r16.out; have r27 := (j7.block _ (by omega) (by omega)).trans r26.out; have rz7 := (j7.block _ (by omega) (by omega)).trans r36.out; have x7 := hw6.out.keep j7 (fun x hx hv => by omega); have y7 := j7.size; have k7 := ce_slot r27; replace q7 := Lib.hid q7; replace j7 := Lib.hid j7; replace r17 := Lib.hid r17; replace r27 := Lib.hid r27; replace rz7 := Lib.hid rz7; replace x7 := Lib.hid x7) | (refine load_row rfl _ _ rfl w0.heap.size rfl _ _ _ _ r17.out Try.underlying26 rfl hinfB.out ?_) | (refine load_row rfl _ _ rfl w1.heap.size rfl _ _ _ _ r27.out Try.underlying33 rfl hinfC.out ?_) | (refine build_struct rfl _ _ rfl [(0, .int .i64 c.vote.slot), (1, .agg b.cells.toArray), (2, .agg c.cells.toArray)] rfl _ hbH.out ?_) | (refine store_mid rfl _ _ _ rfl w.heap.size 44 (entCells c.vote.slot b c) rfl rfl _ _ q7.out hinfH.out (by rw [hl1.out, hlH.out]; decide) (ent_oneL _ _ _) ?_; intro w8 q8 j8; have q8' : w8.heap[w.heap.size]? = some (Obj.cells s2.cells.toArray 50 (0, 0)) := (by rw [← st2.out]; exact q8); replace q8 := q8'; clear q8'; have rz8 := (j8.block _ (by omega) (by omega)).trans rz7.out; have x8 := x7.out.keep j8 (fun x hx hv => by omega); have y8 := j8.size; replace q8 := Lib.hid q8; replace j8 := Lib.hid j8; replace rz8 := Lib.hid rz8; replace x8 := Lib.hid x8) | (refine load_row rfl _ _ rfl w.heap.size rfl _ _ _ _ q8.out Try.underlying50 rfl hinf3.out ?_) | (refine store_row rfl _ _ _ rfl w2.heap.size s2.cells.toArray rfl rfl _ _ rz8.out hinf3.out hsz3.out (slot_one _) ?_; intro w9 hb9 hk9; replace hb9 := Lib.hid hb9; replace hk9 := Lib.hid hk9))
    refine bodyPost_ret (v := .tuple #[.agg s2.cells.toArray, .int .i64 0]) (results_row2 (p := 6) (q := 7) (ty := 50) rfl _ _ w2.heap.size _ _ _ _ _ rfl rfl hb9.out Try.underlying50 rfl hinf3.out) rfl ?_
    exact ⟨rfl, x8.out.keep hk9.out (fun x hx hv => by omega)⟩
/-- Which batch a digest is known by: the first of three. -/
theorem known_steps (s : SlotV) (d : List UInt8) (G1 G2 G3 : Bool) (h1 : (s.decided && decide (bDig s.ebat = d)) = G1) (h2 : (s.is && decide (bDig s.bat = d)) = G2) (h3 : (s.holds && decide (bDig s.hbat = d)) = G3) :
    (G1 = true → s.known d = (s.ebat, true)) ∧ (G1 = false → G2 = true → s.known d = (s.bat, true)) ∧ (G1 = false → G2 = false → G3 = true → s.known d = (s.hbat, true)) ∧ (G1 = false → G2 = false → G3 = false → s.known d = (zeroBat, false)) := by
  subst h1 h2 h3
  unfold SlotV.known
  simp only [Bool.and_eq_true, decide_eq_true_eq, Bool.and_eq_false_imp, decide_eq_false_iff_not]
  refine ⟨fun a => by rw [if_pos a], fun a b => by rw [if_neg (by rintro ⟨x, y⟩; exact a x y), if_pos b], fun a b c => by rw [if_neg (by rintro ⟨x, y⟩; exact a x y), if_neg (by rintro ⟨x, y⟩; exact b x y), if_pos c], fun a b c => by rw [if_neg (by rintro ⟨x, y⟩; exact a x y), if_neg (by rintro ⟨x, y⟩; exact b x y), if_neg (by rintro ⟨x, y⟩; exact c x y)]⟩
set_option maxRecDepth 100000 in
set_option maxHeartbeats 6400000 in
theorem rknown_any (s : SlotV) (d : List UInt8) (hd : d.length = 32) (w : World) (hs : s.at w) (h1 : s.ebat.small) (h2 : s.bat.small) (h3 : s.hbat.small) :
    Calls Try.prog 28 #[.agg s.cells.toArray, .agg (bv d).toArray] w fun e w' => e = .returned (.tuple #[.agg (s.known d).1.cells.toArray, .bool (s.known d).2]) ∧ Same w w' := by
  have hwf := hs.wf
  obtain ⟨e1, he1⟩ : ∃ x, x = s.decided := ⟨_, rfl⟩
  obtain ⟨e2, he2⟩ : ∃ x, x = s.is := ⟨_, rfl⟩
  obtain ⟨e3, he3⟩ : ∃ x, x = s.holds := ⟨_, rfl⟩
  have hinf := Lib.hid (rslot_info hwf)
  have hinfD := Lib.hid (dig_info hd)
  have b0 := Lib.hid hs.2.2.2.2.2.1
  have b1 := Lib.hid hs.2.2.1
  have b2 := Lib.hid hs.2.2.2.1
  have i0 := Lib.hid (bat_infoL s.ebat)
  have i1 := Lib.hid (bat_infoL s.bat)
  have i2 := Lib.hid (bat_infoL s.hbat)
  have hgd := Lib.hid dig_guard
  obtain ⟨G1, g1⟩ : ∃ G, G = (s.decided && decide (bDig s.ebat = d)) := ⟨_, rfl⟩
  obtain ⟨G2, g2⟩ : ∃ G, G = (s.is && decide (bDig s.bat = d)) := ⟨_, rfl⟩
  obtain ⟨G3, g3⟩ : ∃ G, G = (s.holds && decide (bDig s.hbat = d)) := ⟨_, rfl⟩
  have hR := (known_steps s d G1 G2 G3 g1.symm g2.symm g3.symm)
  obtain ⟨R, hRe⟩ : ∃ R, R = s.known d := ⟨_, rfl⟩
  rw [← hRe] at hR ⊢
  rw [← he1] at g1
  rw [← he2] at g2
  rw [← he3] at g3
  replace he1 := Lib.hid he1
  replace he2 := Lib.hid he2
  replace he3 := Lib.hid he3
  replace hR := Lib.hid hR
  clear hRe
  have hdig1 := fun w h => rbdig_any s.ebat w h h1
  obtain ⟨D1, hD1⟩ : ∃ D, D = bDig s.ebat := ⟨_, rfl⟩
  rw [show batDig s.ebat.noop s.ebat.reqs = D1 from hD1.symm] at hdig1
  have lD1 : D1.length = 32 := by rw [hD1]; exact bDig_length _
  have eD1 := fun w => dig_eql D1 d lD1 hd w
  rw [show (D1 == d) = decide (bDig s.ebat = d) from by rw [hD1, Bool.eq_iff_iff]; simp] at eD1
  obtain ⟨qD1, hqD1⟩ : ∃ q, q = decide (bDig s.ebat = d) := ⟨_, rfl⟩
  rw [← hqD1] at eD1 g1
  clear hqD1 hD1 lD1
  replace hdig1 := Lib.hid hdig1
  replace eD1 := Lib.hid eD1
  replace g1 := Lib.hid g1
  have hdig2 := fun w h => rbdig_any s.bat w h h2
  obtain ⟨D2, hD2⟩ : ∃ D, D = bDig s.bat := ⟨_, rfl⟩
  rw [show batDig s.bat.noop s.bat.reqs = D2 from hD2.symm] at hdig2
  have lD2 : D2.length = 32 := by rw [hD2]; exact bDig_length _
  have eD2 := fun w => dig_eql D2 d lD2 hd w
  rw [show (D2 == d) = decide (bDig s.bat = d) from by rw [hD2, Bool.eq_iff_iff]; simp] at eD2
  obtain ⟨qD2, hqD2⟩ : ∃ q, q = decide (bDig s.bat = d) := ⟨_, rfl⟩
  rw [← hqD2] at eD2 g2
  clear hqD2 hD2 lD2
  replace hdig2 := Lib.hid hdig2
  replace eD2 := Lib.hid eD2
  replace g2 := Lib.hid g2
  have hdig3 := fun w h => rbdig_any s.hbat w h h3
  obtain ⟨D3, hD3⟩ : ∃ D, D = bDig s.hbat := ⟨_, rfl⟩
  rw [show batDig s.hbat.noop s.hbat.reqs = D3 from hD3.symm] at hdig3
  have lD3 : D3.length = 32 := by rw [hD3]; exact bDig_length _
  have eD3 := fun w => dig_eql D3 d lD3 hd w
  rw [show (D3 == d) = decide (bDig s.hbat = d) from by rw [hD3, Bool.eq_iff_iff]; simp] at eD3
  obtain ⟨qD3, hqD3⟩ : ∃ q, q = decide (bDig s.hbat = d) := ⟨_, rfl⟩
  rw [← hqD3] at eD3 g3
  clear hqD3 hD3 lD3
  replace hdig3 := Lib.hid hdig3
  replace eD3 := Lib.hid eD3
  replace g3 := Lib.hid g3
  go_enter Try.func28, Try.ntmps28
  go_upto_region 1 with (first | (refine box_row rfl _ _ rfl s.cells.toArray rfl hinf.out ?_; intro w0 hbs hs0; have l0 := blk_lt hbs; replace hbs := Lib.hid hbs; replace hs0 := Lib.hid hs0) | (refine box_row rfl _ _ rfl (bv d).toArray rfl hinfD.out ?_; intro w1 hbb hs1; have l1 := blk_lt hbb; replace hbb := Lib.hid hbb; replace hs1 := Lib.hid hs1) | (refine alloc_new rfl 26 rfl zeroBat.cells.toArray (by kernel_rfl) ?_; intro w2 hbz hs2; have l2 := blk_lt hbz; replace hbz := Lib.hid hbz; replace hs2 := Lib.hid hs2))
  have a0 := Lib.hid ((hs1.out.trans hs2.out).at hbs.out)
  have a1 := Lib.hid (hs2.out.at hbb.out)
  have a2 := hbz
  have hw2 := Lib.hid (hs0.out.trans (hs1.out.trans hs2.out))
  have z0 := hs0.out.size
  have z1 := hs1.out.size
  have z2 := hs2.out.size
  have k84 := sl_decided a0.out hwf
  rw [← he1.out] at k84
  have k3 := sl_is a0.out
  rw [← he2.out] at k3
  have k43 := sl_holds a0.out hwf
  rw [← he3.out] at k43
  have m45 := Lib.hid (sl_ebat a0.out hwf)
  have m1 := Lib.hid (sl_bat a0.out)
  have m4 := Lib.hid (sl_hbat a0.out)
  clear hbs hbb hs0 hs1 hs2 hbz hwf hs
  replace k84 := Lib.hid k84
  replace k3 := Lib.hid k3
  replace k43 := Lib.hid k43
  refine wp_region_facts (by kernel_rfl) [(6, 0), (7, 1), (8, 2), (9, 3), (10, 4), (11, 5), (12, 6), (13, 7), (14, 8), (15, 9)] Same (Same _) [isV (.pointer (some ⟨w.heap.size, 84, none⟩)), isV (.bool e1), isV (.bool e1), isV (cond e1 (.pointer (some ⟨w.heap.size, 44, none⟩)) undef), isV (cond e1 (.pointer (some ⟨w.heap.size, 45, none⟩)) undef), isV (cond e1 (.agg s.ebat.cells.toArray) undef), isV (cond e1 (.agg (bv D1).toArray) undef), isV (cond e1 (.agg (bv d).toArray) undef), isV (cond e1 (.bool qD1) undef), isV (.bool G1)] Same.refl.drew (fun _ _ h k => h.trans k) (by simp [isV_stable, isB_stable, isAny_stable]) (by decide) (by decide) ?_ ?_
  · refine ⟨?_, ?_, ?_, ?_, ?_, ?_, ?_, ?_, ?_, ?_, trivial⟩
    all_goals (intro u wx hI hp; simp only [mkAct, List.foldl_cons, List.foldl_nil, List.setIfInBounds_toArray, List.set_cons_succ, List.set_cons_zero])
    · -- operation 0
      go_wp2
      refine stq_v rfl Same.refl ?_
      first | (simp only [mkAct, List.foldl_cons, List.foldl_nil, List.setIfInBounds_toArray, List.set_cons_succ, List.set_cons_zero, upd, reduceIte, Nat.reduceEqDiff, Nat.reduceAdd, str]; done) | (simp [mkAct, upd, str, *]; done)
    · -- operation 1
      obtain ⟨f0, -⟩ := hp
      replace f0 : u 0 = (.pointer (some ⟨w.heap.size, 84, none⟩)) := f0
      try simp only [f0, str]
      have cx := hI.cell (k84.out)
      go_wp2
      refine stq_v rfl Same.refl ?_
      first | (simp only [mkAct, List.foldl_cons, List.foldl_nil, List.setIfInBounds_toArray, List.set_cons_succ, List.set_cons_zero, upd, reduceIte, Nat.reduceEqDiff, Nat.reduceAdd, f0, str]; done) | (simp [mkAct, upd, f0, str, *]; done)
    · -- operation 2
      obtain ⟨f1, -⟩ := hp
      replace f1 : u 1 = (.bool e1) := f1
      try simp only [f1, str]
      go_wp2
      refine stq_v rfl Same.refl ?_
      first | (simp only [mkAct, List.foldl_cons, List.foldl_nil, List.setIfInBounds_toArray, List.set_cons_succ, List.set_cons_zero, upd, reduceIte, Nat.reduceEqDiff, Nat.reduceAdd, f1, str]; done) | (simp [mkAct, upd, f1, str, *]; done)
    · -- operation 3
      obtain ⟨f2, -⟩ := hp
      replace f2 : u 2 = (.bool e1) := f2
      cases e1
      · try simp only [f2, str]
        go_wp2
        refine stq_v rfl Same.refl ?_
        first | (simp only [mkAct, List.foldl_cons, List.foldl_nil, List.setIfInBounds_toArray, List.set_cons_succ, List.set_cons_zero, upd, reduceIte, Nat.reduceEqDiff, Nat.reduceAdd, f2, str]; done) | (simp [mkAct, upd, f2, str, *]; done)
      · try simp only [f2, str]
        go_wp2
        refine stq_v rfl Same.refl ?_
        first | (simp only [mkAct, List.foldl_cons, List.foldl_nil, List.setIfInBounds_toArray, List.set_cons_succ, List.set_cons_zero, upd, reduceIte, Nat.reduceEqDiff, Nat.reduceAdd, f2, str]; done) | (simp [mkAct, upd, f2, str, *]; done)
    · -- operation 4
      obtain ⟨f3, f2, -⟩ := hp
      replace f3 : u 3 = (cond e1 (.pointer (some ⟨w.heap.size, 44, none⟩)) undef) := f3
      replace f2 : u 2 = (.bool e1) := f2
      cases e1
      · try simp only [cond_true, cond_false] at f3
        try simp only [f3, f2, str]
        go_wp2
        refine stq_v rfl Same.refl ?_
        first | (simp only [mkAct, List.foldl_cons, List.foldl_nil, List.setIfInBounds_toArray, List.set_cons_succ, List.set_cons_zero, upd, reduceIte, Nat.reduceEqDiff, Nat.reduceAdd, f3, f2, str]; done) | (simp [mkAct, upd, f3, f2, str, *]; done)
      · try simp only [cond_true, cond_false] at f3
        try simp only [f3, f2, str]
        go_wp2
        refine stq_v rfl Same.refl ?_
        first | (simp only [mkAct, List.foldl_cons, List.foldl_nil, List.setIfInBounds_toArray, List.set_cons_succ, List.set_cons_zero, upd, reduceIte, Nat.reduceEqDiff, Nat.reduceAdd, f3, f2, str]; done) | (simp [mkAct, upd, f3, f2, str, *]; done)
    · -- operation 5
      obtain ⟨f4, f2, -⟩ := hp
      replace f4 : u 4 = (cond e1 (.pointer (some ⟨w.heap.size, 45, none⟩)) undef) := f4
      replace f2 : u 2 = (.bool e1) := f2
      cases e1
      · try simp only [cond_true, cond_false] at f4
        try simp only [f4, f2, str]
        go_wp2
        refine stq_v rfl Same.refl ?_
        first | (simp only [mkAct, List.foldl_cons, List.foldl_nil, List.setIfInBounds_toArray, List.set_cons_succ, List.set_cons_zero, upd, reduceIte, Nat.reduceEqDiff, Nat.reduceAdd, f4, f2, str]; done) | (simp [mkAct, upd, f4, f2, str, *]; done)
      · try simp only [cond_true, cond_false] at f4
        try simp only [f4, f2, str]
        go_wp2_with (refine load_mid rfl _ _ rfl w.heap.size 45 rfl s.ebat.cells _ (hI.range m45.out) Try.underlying26 rfl i0.out ?_)
        refine stq_v rfl Same.refl ?_
        first | (simp only [mkAct, List.foldl_cons, List.foldl_nil, List.setIfInBounds_toArray, List.set_cons_succ, List.set_cons_zero, upd, reduceIte, Nat.reduceEqDiff, Nat.reduceAdd, f4, f2, str]; done) | (simp [mkAct, upd, f4, f2, str, *]; done)
    · -- operation 6
      obtain ⟨f5, -, f2, -⟩ := hp
      replace f5 : u 5 = (cond e1 (.agg s.ebat.cells.toArray) undef) := f5
      replace f2 : u 2 = (.bool e1) := f2
      cases e1
      · try simp only [cond_true, cond_false] at f5
        try simp only [f5, f2, str]
        go_wp2
        refine stq_v rfl Same.refl ?_
        first | (simp only [mkAct, List.foldl_cons, List.foldl_nil, List.setIfInBounds_toArray, List.set_cons_succ, List.set_cons_zero, upd, reduceIte, Nat.reduceEqDiff, Nat.reduceAdd, f5, f2, str]; done) | (simp [mkAct, upd, f5, f2, str, *]; done)
      · try simp only [cond_true, cond_false] at f5
        try simp only [f5, f2, str]
        go_wp2_with fail
        refine (hdig1.out _ (BatV.same b0.out (hw2.out.trans hI))).mono ?_
        rintro e w1 ⟨rfl, hs'⟩
        go_wp2
        refine stq_v rfl hs' ?_
        first | (simp only [mkAct, List.foldl_cons, List.foldl_nil, List.setIfInBounds_toArray, List.set_cons_succ, List.set_cons_zero, upd, reduceIte, Nat.reduceEqDiff, Nat.reduceAdd, f5, f2, str]; done) | (simp [mkAct, upd, f5, f2, str, *]; done)
    · -- operation 7
      obtain ⟨f2, -⟩ := hp
      replace f2 : u 2 = (.bool e1) := f2
      cases e1
      · try simp only [f2, str]
        go_wp2
        refine stq_v rfl Same.refl ?_
        first | (simp only [mkAct, List.foldl_cons, List.foldl_nil, List.setIfInBounds_toArray, List.set_cons_succ, List.set_cons_zero, upd, reduceIte, Nat.reduceEqDiff, Nat.reduceAdd, f2, str]; done) | (simp [mkAct, upd, f2, str, *]; done)
      · try simp only [f2, str]
        go_wp2_with (refine load_row rfl _ _ rfl w0.heap.size rfl _ _ _ _ (hI.at a1.out) Try.underlying28 rfl hinfD.out ?_)
        refine stq_v rfl Same.refl ?_
        first | (simp only [mkAct, List.foldl_cons, List.foldl_nil, List.setIfInBounds_toArray, List.set_cons_succ, List.set_cons_zero, upd, reduceIte, Nat.reduceEqDiff, Nat.reduceAdd, f2, str]; done) | (simp [mkAct, upd, f2, str, *]; done)
    · -- operation 8
      obtain ⟨f6, f7, f2, -⟩ := hp
      replace f6 : u 6 = (cond e1 (.agg (bv D1).toArray) undef) := f6
      replace f7 : u 7 = (cond e1 (.agg (bv d).toArray) undef) := f7
      replace f2 : u 2 = (.bool e1) := f2
      cases e1
      · try simp only [cond_true, cond_false] at f6 f7
        try simp only [f6, f7, f2, str]
        go_wp2
        refine stq_v rfl Same.refl ?_
        first | (simp only [mkAct, List.foldl_cons, List.foldl_nil, List.setIfInBounds_toArray, List.set_cons_succ, List.set_cons_zero, upd, reduceIte, Nat.reduceEqDiff, Nat.reduceAdd, f6, f7, f2, str]; done) | (simp [mkAct, upd, f6, f7, f2, str, *]; done)
      · try simp only [cond_true, cond_false] at f6 f7
        try simp only [f6, f7, f2, str]
        have hx := eD1.out
        have hg := hgd.out
        go_wp2
        refine stq_v rfl Same.refl ?_
        first | (simp only [mkAct, List.foldl_cons, List.foldl_nil, List.setIfInBounds_toArray, List.set_cons_succ, List.set_cons_zero, upd, reduceIte, Nat.reduceEqDiff, Nat.reduceAdd, f6, f7, f2, str]; done) | (simp [mkAct, upd, f6, f7, f2, str, *]; done)
    · -- operation 9
      obtain ⟨f2, f8, -⟩ := hp
      replace f2 : u 2 = (.bool e1) := f2
      replace f8 : u 8 = (cond e1 (.bool qD1) undef) := f8
      have hpk := g1.out
      cases e1
      · simp only [Bool.false_and, Bool.true_and, Bool.false_or, Bool.true_or] at hpk
        subst hpk
        try simp only [cond_true, cond_false] at f8
        try simp only [f2, f8, str]
        go_wp2
        refine stq_v rfl Same.refl ?_
        first | (simp only [mkAct, List.foldl_cons, List.foldl_nil, List.setIfInBounds_toArray, List.set_cons_succ, List.set_cons_zero, upd, reduceIte, Nat.reduceEqDiff, Nat.reduceAdd, f2, f8, str]; done) | (simp [mkAct, upd, f2, f8, str, *]; done)
      · simp only [Bool.false_and, Bool.true_and, Bool.false_or, Bool.true_or] at hpk
        subst hpk
        try simp only [cond_true, cond_false] at f8
        try simp only [f2, f8, str]
        go_wp2
        refine stq_v rfl Same.refl ?_
        first | (simp only [mkAct, List.foldl_cons, List.foldl_nil, List.setIfInBounds_toArray, List.set_cons_succ, List.set_cons_zero, upd, reduceIte, Nat.reduceEqDiff, Nat.reduceAdd, f2, f8, str]; done) | (simp [mkAct, upd, f2, f8, str, *]; done)
  · intro u wx hI hR
    obtain ⟨r0, r1, r2, r3, r4, r5, r6, r7, r8, r9, -⟩ := hR
    replace r0 : u 0 = (.pointer (some ⟨w.heap.size, 84, none⟩)) := r0
    replace r1 : u 1 = (.bool e1) := r1
    replace r2 : u 2 = (.bool e1) := r2
    replace r3 : u 3 = (cond e1 (.pointer (some ⟨w.heap.size, 44, none⟩)) undef) := r3
    replace r4 : u 4 = (cond e1 (.pointer (some ⟨w.heap.size, 45, none⟩)) undef) := r4
    replace r5 : u 5 = (cond e1 (.agg s.ebat.cells.toArray) undef) := r5
    replace r6 : u 6 = (cond e1 (.agg (bv D1).toArray) undef) := r6
    replace r7 : u 7 = (cond e1 (.agg (bv d).toArray) undef) := r7
    replace r8 : u 8 = (cond e1 (.bool qD1) undef) := r8
    replace r9 : u 9 = (.bool G1) := r9
    simp only [mkAct, List.foldl_cons, List.foldl_nil, List.setIfInBounds_toArray, List.set_cons_succ, List.set_cons_zero]
    try simp only [str, r0, r1, r2, r3, r4, r5, r6, r7, r8, r9]
    clear r0 r1 r2 r3 r4 r5 r6 r7 r8 r9
    replace a0 := Lib.hid (hI.at a0.out)
    replace a1 := Lib.hid (hI.at a1.out)
    replace a2 := Lib.hid (hI.at a2.out)
    replace hw2 := Lib.hid (hw2.out.trans hI)
    replace k3 := Lib.hid (hI.cell k3.out)
    replace k43 := Lib.hid (hI.cell k43.out)
    replace m45 := Lib.hid (hI.range m45.out)
    replace m1 := Lib.hid (hI.range m1.out)
    replace m4 := Lib.hid (hI.range m4.out)
    have z3 := hI.size
    clear hI
    cases G1
    · go_upto_region 3 with fail
      refine wp_region_facts (by kernel_rfl) [(19, 0), (20, 1), (21, 2), (22, 3), (23, 4), (24, 5), (25, 6), (26, 7), (27, 8)] Same (Same _) [isV (.pointer (some ⟨w.heap.size, 3, none⟩)), isV (.bool e2), isV (.bool e2), isV (cond e2 (.pointer (some ⟨w.heap.size, 1, none⟩)) undef), isV (cond e2 (.agg s.bat.cells.toArray) undef), isV (cond e2 (.agg (bv D2).toArray) undef), isV (cond e2 (.agg (bv d).toArray) undef), isV (cond e2 (.bool qD2) undef), isV (.bool G2)] Same.refl.drew (fun _ _ h k => h.trans k) (by simp [isV_stable, isB_stable, isAny_stable]) (by decide) (by decide) ?_ ?_
      · refine ⟨?_, ?_, ?_, ?_, ?_, ?_, ?_, ?_, ?_, trivial⟩
        all_goals (intro u wx hI hp; simp only [mkAct, List.foldl_cons, List.foldl_nil, List.setIfInBounds_toArray, List.set_cons_succ, List.set_cons_zero])
        · -- operation 0
          go_wp2
          refine stq_v rfl Same.refl ?_
          first | (simp only [mkAct, List.foldl_cons, List.foldl_nil, List.setIfInBounds_toArray, List.set_cons_succ, List.set_cons_zero, upd, reduceIte, Nat.reduceEqDiff, Nat.reduceAdd, str]; done) | (simp [mkAct, upd, str, *]; done)
        · -- operation 1
          obtain ⟨f0, -⟩ := hp
          replace f0 : u 0 = (.pointer (some ⟨w.heap.size, 3, none⟩)) := f0
          try simp only [f0, str]
          have cx := hI.cell (k3.out)
          go_wp2
          refine stq_v rfl Same.refl ?_
          first | (simp only [mkAct, List.foldl_cons, List.foldl_nil, List.setIfInBounds_toArray, List.set_cons_succ, List.set_cons_zero, upd, reduceIte, Nat.reduceEqDiff, Nat.reduceAdd, f0, str]; done) | (simp [mkAct, upd, f0, str, *]; done)
        · -- operation 2
          obtain ⟨f1, -⟩ := hp
          replace f1 : u 1 = (.bool e2) := f1
          try simp only [f1, str]
          go_wp2
          refine stq_v rfl Same.refl ?_
          first | (simp only [mkAct, List.foldl_cons, List.foldl_nil, List.setIfInBounds_toArray, List.set_cons_succ, List.set_cons_zero, upd, reduceIte, Nat.reduceEqDiff, Nat.reduceAdd, f1, str]; done) | (simp [mkAct, upd, f1, str, *]; done)
        · -- operation 3
          obtain ⟨f2, -⟩ := hp
          replace f2 : u 2 = (.bool e2) := f2
          cases e2
          · try simp only [f2, str]
            go_wp2
            refine stq_v rfl Same.refl ?_
            first | (simp only [mkAct, List.foldl_cons, List.foldl_nil, List.setIfInBounds_toArray, List.set_cons_succ, List.set_cons_zero, upd, reduceIte, Nat.reduceEqDiff, Nat.reduceAdd, f2, str]; done) | (simp [mkAct, upd, f2, str, *]; done)
          · try simp only [f2, str]
            go_wp2
            refine stq_v rfl Same.refl ?_
            first | (simp only [mkAct, List.foldl_cons, List.foldl_nil, List.setIfInBounds_toArray, List.set_cons_succ, List.set_cons_zero, upd, reduceIte, Nat.reduceEqDiff, Nat.reduceAdd, f2, str]; done) | (simp [mkAct, upd, f2, str, *]; done)
        · -- operation 4
          obtain ⟨f3, f2, -⟩ := hp
          replace f3 : u 3 = (cond e2 (.pointer (some ⟨w.heap.size, 1, none⟩)) undef) := f3
          replace f2 : u 2 = (.bool e2) := f2
          cases e2
          · try simp only [cond_true, cond_false] at f3
            try simp only [f3, f2, str]
            go_wp2
            refine stq_v rfl Same.refl ?_
            first | (simp only [mkAct, List.foldl_cons, List.foldl_nil, List.setIfInBounds_toArray, List.set_cons_succ, List.set_cons_zero, upd, reduceIte, Nat.reduceEqDiff, Nat.reduceAdd, f3, f2, str]; done) | (simp [mkAct, upd, f3, f2, str, *]; done)
          · try simp only [cond_true, cond_false] at f3
            try simp only [f3, f2, str]
            go_wp2_with (refine load_mid rfl _ _ rfl w.heap.size 1 rfl s.bat.cells _ (hI.range m1.out) Try.underlying26 rfl i1.out ?_)
            refine stq_v rfl Same.refl ?_
            first | (simp only [mkAct, List.foldl_cons, List.foldl_nil, List.setIfInBounds_toArray, List.set_cons_succ, List.set_cons_zero, upd, reduceIte, Nat.reduceEqDiff, Nat.reduceAdd, f3, f2, str]; done) | (simp [mkAct, upd, f3, f2, str, *]; done)
        · -- operation 5
          obtain ⟨f4, -, f2, -⟩ := hp
          replace f4 : u 4 = (cond e2 (.agg s.bat.cells.toArray) undef) := f4
          replace f2 : u 2 = (.bool e2) := f2
          cases e2
          · try simp only [cond_true, cond_false] at f4
            try simp only [f4, f2, str]
            go_wp2
            refine stq_v rfl Same.refl ?_
            first | (simp only [mkAct, List.foldl_cons, List.foldl_nil, List.setIfInBounds_toArray, List.set_cons_succ, List.set_cons_zero, upd, reduceIte, Nat.reduceEqDiff, Nat.reduceAdd, f4, f2, str]; done) | (simp [mkAct, upd, f4, f2, str, *]; done)
          · try simp only [cond_true, cond_false] at f4
            try simp only [f4, f2, str]
            go_wp2_with fail
            refine (hdig2.out _ (BatV.same b1.out (hw2.out.trans hI))).mono ?_
            rintro e w1 ⟨rfl, hs'⟩
            go_wp2
            refine stq_v rfl hs' ?_
            first | (simp only [mkAct, List.foldl_cons, List.foldl_nil, List.setIfInBounds_toArray, List.set_cons_succ, List.set_cons_zero, upd, reduceIte, Nat.reduceEqDiff, Nat.reduceAdd, f4, f2, str]; done) | (simp [mkAct, upd, f4, f2, str, *]; done)
        · -- operation 6
          obtain ⟨f2, -⟩ := hp
          replace f2 : u 2 = (.bool e2) := f2
          cases e2
          · try simp only [f2, str]
            go_wp2
            refine stq_v rfl Same.refl ?_
            first | (simp only [mkAct, List.foldl_cons, List.foldl_nil, List.setIfInBounds_toArray, List.set_cons_succ, List.set_cons_zero, upd, reduceIte, Nat.reduceEqDiff, Nat.reduceAdd, f2, str]; done) | (simp [mkAct, upd, f2, str, *]; done)
          · try simp only [f2, str]
            go_wp2_with (refine load_row rfl _ _ rfl w0.heap.size rfl _ _ _ _ (hI.at a1.out) Try.underlying28 rfl hinfD.out ?_)
            refine stq_v rfl Same.refl ?_
            first | (simp only [mkAct, List.foldl_cons, List.foldl_nil, List.setIfInBounds_toArray, List.set_cons_succ, List.set_cons_zero, upd, reduceIte, Nat.reduceEqDiff, Nat.reduceAdd, f2, str]; done) | (simp [mkAct, upd, f2, str, *]; done)
        · -- operation 7
          obtain ⟨f5, f6, f2, -⟩ := hp
          replace f5 : u 5 = (cond e2 (.agg (bv D2).toArray) undef) := f5
          replace f6 : u 6 = (cond e2 (.agg (bv d).toArray) undef) := f6
          replace f2 : u 2 = (.bool e2) := f2
          cases e2
          · try simp only [cond_true, cond_false] at f5 f6
            try simp only [f5, f6, f2, str]
            go_wp2
            refine stq_v rfl Same.refl ?_
            first | (simp only [mkAct, List.foldl_cons, List.foldl_nil, List.setIfInBounds_toArray, List.set_cons_succ, List.set_cons_zero, upd, reduceIte, Nat.reduceEqDiff, Nat.reduceAdd, f5, f6, f2, str]; done) | (simp [mkAct, upd, f5, f6, f2, str, *]; done)
          · try simp only [cond_true, cond_false] at f5 f6
            try simp only [f5, f6, f2, str]
            have hx := eD2.out
            have hg := hgd.out
            go_wp2
            refine stq_v rfl Same.refl ?_
            first | (simp only [mkAct, List.foldl_cons, List.foldl_nil, List.setIfInBounds_toArray, List.set_cons_succ, List.set_cons_zero, upd, reduceIte, Nat.reduceEqDiff, Nat.reduceAdd, f5, f6, f2, str]; done) | (simp [mkAct, upd, f5, f6, f2, str, *]; done)
        · -- operation 8
          obtain ⟨f2, f7, -⟩ := hp
          replace f2 : u 2 = (.bool e2) := f2
          replace f7 : u 7 = (cond e2 (.bool qD2) undef) := f7
          have hpk := g2.out
          cases e2
          · simp only [Bool.false_and, Bool.true_and, Bool.false_or, Bool.true_or] at hpk
            subst hpk
            try simp only [cond_true, cond_false] at f7
            try simp only [f2, f7, str]
            go_wp2
            refine stq_v rfl Same.refl ?_
            first | (simp only [mkAct, List.foldl_cons, List.foldl_nil, List.setIfInBounds_toArray, List.set_cons_succ, List.set_cons_zero, upd, reduceIte, Nat.reduceEqDiff, Nat.reduceAdd, f2, f7, str]; done) | (simp [mkAct, upd, f2, f7, str, *]; done)
          · simp only [Bool.false_and, Bool.true_and, Bool.false_or, Bool.true_or] at hpk
            subst hpk
            try simp only [cond_true, cond_false] at f7
            try simp only [f2, f7, str]
            go_wp2
            refine stq_v rfl Same.refl ?_
            first | (simp only [mkAct, List.foldl_cons, List.foldl_nil, List.setIfInBounds_toArray, List.set_cons_succ, List.set_cons_zero, upd, reduceIte, Nat.reduceEqDiff, Nat.reduceAdd, f2, f7, str]; done) | (simp [mkAct, upd, f2, f7, str, *]; done)
      · intro u wx hI hR
        obtain ⟨r0, r1, r2, r3, r4, r5, r6, r7, r8, -⟩ := hR
        replace r0 : u 0 = (.pointer (some ⟨w.heap.size, 3, none⟩)) := r0
        replace r1 : u 1 = (.bool e2) := r1
        replace r2 : u 2 = (.bool e2) := r2
        replace r3 : u 3 = (cond e2 (.pointer (some ⟨w.heap.size, 1, none⟩)) undef) := r3
        replace r4 : u 4 = (cond e2 (.agg s.bat.cells.toArray) undef) := r4
        replace r5 : u 5 = (cond e2 (.agg (bv D2).toArray) undef) := r5
        replace r6 : u 6 = (cond e2 (.agg (bv d).toArray) undef) := r6
        replace r7 : u 7 = (cond e2 (.bool qD2) undef) := r7
        replace r8 : u 8 = (.bool G2) := r8
        simp only [mkAct, List.foldl_cons, List.foldl_nil, List.setIfInBounds_toArray, List.set_cons_succ, List.set_cons_zero]
        try simp only [str, r0, r1, r2, r3, r4, r5, r6, r7, r8]
        clear r0 r1 r2 r3 r4 r5 r6 r7 r8
        replace a0 := Lib.hid (hI.at a0.out)
        replace a1 := Lib.hid (hI.at a1.out)
        replace a2 := Lib.hid (hI.at a2.out)
        replace hw2 := Lib.hid (hw2.out.trans hI)
        replace k3 := Lib.hid (hI.cell k3.out)
        replace k43 := Lib.hid (hI.cell k43.out)
        replace m45 := Lib.hid (hI.range m45.out)
        replace m1 := Lib.hid (hI.range m1.out)
        replace m4 := Lib.hid (hI.range m4.out)
        have z4 := hI.size
        clear hI
        cases G2
        · go_upto_region 5 with fail
          refine wp_region_facts (by kernel_rfl) [(30, 0), (31, 1), (32, 2), (33, 3), (34, 4), (35, 5), (36, 6), (37, 7), (38, 8), (39, 9)] Same (Same _) [isV (.pointer (some ⟨w.heap.size, 43, none⟩)), isV (.bool e3), isV (.bool e3), isV (cond e3 (.pointer (some ⟨w.heap.size, 4, none⟩)) undef), isV (cond e3 (.pointer (some ⟨w.heap.size, 4, none⟩)) undef), isV (cond e3 (.agg s.hbat.cells.toArray) undef), isV (cond e3 (.agg (bv D3).toArray) undef), isV (cond e3 (.agg (bv d).toArray) undef), isV (cond e3 (.bool qD3) undef), isV (.bool G3)] Same.refl.drew (fun _ _ h k => h.trans k) (by simp [isV_stable, isB_stable, isAny_stable]) (by decide) (by decide) ?_ ?_
          · refine ⟨?_, ?_, ?_, ?_, ?_, ?_, ?_, ?_, ?_, ?_, trivial⟩
            all_goals (intro u wx hI hp; simp only [mkAct, List.foldl_cons, List.foldl_nil, List.setIfInBounds_toArray, List.set_cons_succ, List.set_cons_zero])
            · -- operation 0
              go_wp2
              refine stq_v rfl Same.refl ?_
              first | (simp only [mkAct, List.foldl_cons, List.foldl_nil, List.setIfInBounds_toArray, List.set_cons_succ, List.set_cons_zero, upd, reduceIte, Nat.reduceEqDiff, Nat.reduceAdd, str]; done) | (simp [mkAct, upd, str, *]; done)
            · -- operation 1
              obtain ⟨f0, -⟩ := hp
              replace f0 : u 0 = (.pointer (some ⟨w.heap.size, 43, none⟩)) := f0
              try simp only [f0, str]
              have cx := hI.cell (k43.out)
              go_wp2
              refine stq_v rfl Same.refl ?_
              first | (simp only [mkAct, List.foldl_cons, List.foldl_nil, List.setIfInBounds_toArray, List.set_cons_succ, List.set_cons_zero, upd, reduceIte, Nat.reduceEqDiff, Nat.reduceAdd, f0, str]; done) | (simp [mkAct, upd, f0, str, *]; done)
            · -- operation 2
              obtain ⟨f1, -⟩ := hp
              replace f1 : u 1 = (.bool e3) := f1
              try simp only [f1, str]
              go_wp2
              refine stq_v rfl Same.refl ?_
              first | (simp only [mkAct, List.foldl_cons, List.foldl_nil, List.setIfInBounds_toArray, List.set_cons_succ, List.set_cons_zero, upd, reduceIte, Nat.reduceEqDiff, Nat.reduceAdd, f1, str]; done) | (simp [mkAct, upd, f1, str, *]; done)
            · -- operation 3
              obtain ⟨f2, -⟩ := hp
              replace f2 : u 2 = (.bool e3) := f2
              cases e3
              · try simp only [f2, str]
                go_wp2
                refine stq_v rfl Same.refl ?_
                first | (simp only [mkAct, List.foldl_cons, List.foldl_nil, List.setIfInBounds_toArray, List.set_cons_succ, List.set_cons_zero, upd, reduceIte, Nat.reduceEqDiff, Nat.reduceAdd, f2, str]; done) | (simp [mkAct, upd, f2, str, *]; done)
              · try simp only [f2, str]
                go_wp2
                refine stq_v rfl Same.refl ?_
                first | (simp only [mkAct, List.foldl_cons, List.foldl_nil, List.setIfInBounds_toArray, List.set_cons_succ, List.set_cons_zero, upd, reduceIte, Nat.reduceEqDiff, Nat.reduceAdd, f2, str]; done) | (simp [mkAct, upd, f2, str, *]; done)
            · -- operation 4
              obtain ⟨f3, f2, -⟩ := hp
              replace f3 : u 3 = (cond e3 (.pointer (some ⟨w.heap.size, 4, none⟩)) undef) := f3
              replace f2 : u 2 = (.bool e3) := f2
              cases e3
              · try simp only [cond_true, cond_false] at f3
                try simp only [f3, f2, str]
                go_wp2
                refine stq_v rfl Same.refl ?_
                first | (simp only [mkAct, List.foldl_cons, List.foldl_nil, List.setIfInBounds_toArray, List.set_cons_succ, List.set_cons_zero, upd, reduceIte, Nat.reduceEqDiff, Nat.reduceAdd, f3, f2, str]; done) | (simp [mkAct, upd, f3, f2, str, *]; done)
              · try simp only [cond_true, cond_false] at f3
                try simp only [f3, f2, str]
                go_wp2
                refine stq_v rfl Same.refl ?_
                first | (simp only [mkAct, List.foldl_cons, List.foldl_nil, List.setIfInBounds_toArray, List.set_cons_succ, List.set_cons_zero, upd, reduceIte, Nat.reduceEqDiff, Nat.reduceAdd, f3, f2, str]; done) | (simp [mkAct, upd, f3, f2, str, *]; done)
            · -- operation 5
              obtain ⟨f4, f2, -⟩ := hp
              replace f4 : u 4 = (cond e3 (.pointer (some ⟨w.heap.size, 4, none⟩)) undef) := f4
              replace f2 : u 2 = (.bool e3) := f2
              cases e3
              · try simp only [cond_true, cond_false] at f4
                try simp only [f4, f2, str]
                go_wp2
                refine stq_v rfl Same.refl ?_
                first | (simp only [mkAct, List.foldl_cons, List.foldl_nil, List.setIfInBounds_toArray, List.set_cons_succ, List.set_cons_zero, upd, reduceIte, Nat.reduceEqDiff, Nat.reduceAdd, f4, f2, str]; done) | (simp [mkAct, upd, f4, f2, str, *]; done)
              · try simp only [cond_true, cond_false] at f4
                try simp only [f4, f2, str]
                go_wp2_with (refine load_mid rfl _ _ rfl w.heap.size 4 rfl s.hbat.cells _ (hI.range m4.out) Try.underlying26 rfl i2.out ?_)
                refine stq_v rfl Same.refl ?_
                first | (simp only [mkAct, List.foldl_cons, List.foldl_nil, List.setIfInBounds_toArray, List.set_cons_succ, List.set_cons_zero, upd, reduceIte, Nat.reduceEqDiff, Nat.reduceAdd, f4, f2, str]; done) | (simp [mkAct, upd, f4, f2, str, *]; done)
            · -- operation 6
              obtain ⟨f5, -, f2, -⟩ := hp
              replace f5 : u 5 = (cond e3 (.agg s.hbat.cells.toArray) undef) := f5
              replace f2 : u 2 = (.bool e3) := f2
              cases e3
              · try simp only [cond_true, cond_false] at f5
                try simp only [f5, f2, str]
                go_wp2
                refine stq_v rfl Same.refl ?_
                first | (simp only [mkAct, List.foldl_cons, List.foldl_nil, List.setIfInBounds_toArray, List.set_cons_succ, List.set_cons_zero, upd, reduceIte, Nat.reduceEqDiff, Nat.reduceAdd, f5, f2, str]; done) | (simp [mkAct, upd, f5, f2, str, *]; done)
              · try simp only [cond_true, cond_false] at f5
                try simp only [f5, f2, str]
                go_wp2_with fail
                refine (hdig3.out _ (BatV.same b2.out (hw2.out.trans hI))).mono ?_
                rintro e w1 ⟨rfl, hs'⟩
                go_wp2
                refine stq_v rfl hs' ?_
                first | (simp only [mkAct, List.foldl_cons, List.foldl_nil, List.setIfInBounds_toArray, List.set_cons_succ, List.set_cons_zero, upd, reduceIte, Nat.reduceEqDiff, Nat.reduceAdd, f5, f2, str]; done) | (simp [mkAct, upd, f5, f2, str, *]; done)
            · -- operation 7
              obtain ⟨f2, -⟩ := hp
              replace f2 : u 2 = (.bool e3) := f2
              cases e3
              · try simp only [f2, str]
                go_wp2
                refine stq_v rfl Same.refl ?_
                first | (simp only [mkAct, List.foldl_cons, List.foldl_nil, List.setIfInBounds_toArray, List.set_cons_succ, List.set_cons_zero, upd, reduceIte, Nat.reduceEqDiff, Nat.reduceAdd, f2, str]; done) | (simp [mkAct, upd, f2, str, *]; done)
              · try simp only [f2, str]
                go_wp2_with (refine load_row rfl _ _ rfl w0.heap.size rfl _ _ _ _ (hI.at a1.out) Try.underlying28 rfl hinfD.out ?_)
                refine stq_v rfl Same.refl ?_
                first | (simp only [mkAct, List.foldl_cons, List.foldl_nil, List.setIfInBounds_toArray, List.set_cons_succ, List.set_cons_zero, upd, reduceIte, Nat.reduceEqDiff, Nat.reduceAdd, f2, str]; done) | (simp [mkAct, upd, f2, str, *]; done)
            · -- operation 8
              obtain ⟨f6, f7, f2, -⟩ := hp
              replace f6 : u 6 = (cond e3 (.agg (bv D3).toArray) undef) := f6
              replace f7 : u 7 = (cond e3 (.agg (bv d).toArray) undef) := f7
              replace f2 : u 2 = (.bool e3) := f2
              cases e3
              · try simp only [cond_true, cond_false] at f6 f7
                try simp only [f6, f7, f2, str]
                go_wp2
                refine stq_v rfl Same.refl ?_
                first | (simp only [mkAct, List.foldl_cons, List.foldl_nil, List.setIfInBounds_toArray, List.set_cons_succ, List.set_cons_zero, upd, reduceIte, Nat.reduceEqDiff, Nat.reduceAdd, f6, f7, f2, str]; done) | (simp [mkAct, upd, f6, f7, f2, str, *]; done)
              · try simp only [cond_true, cond_false] at f6 f7
                try simp only [f6, f7, f2, str]
                have hx := eD3.out
                have hg := hgd.out
                go_wp2
                refine stq_v rfl Same.refl ?_
                first | (simp only [mkAct, List.foldl_cons, List.foldl_nil, List.setIfInBounds_toArray, List.set_cons_succ, List.set_cons_zero, upd, reduceIte, Nat.reduceEqDiff, Nat.reduceAdd, f6, f7, f2, str]; done) | (simp [mkAct, upd, f6, f7, f2, str, *]; done)
            · -- operation 9
              obtain ⟨f2, f8, -⟩ := hp
              replace f2 : u 2 = (.bool e3) := f2
              replace f8 : u 8 = (cond e3 (.bool qD3) undef) := f8
              have hpk := g3.out
              cases e3
              · simp only [Bool.false_and, Bool.true_and, Bool.false_or, Bool.true_or] at hpk
                subst hpk
                try simp only [cond_true, cond_false] at f8
                try simp only [f2, f8, str]
                go_wp2
                refine stq_v rfl Same.refl ?_
                first | (simp only [mkAct, List.foldl_cons, List.foldl_nil, List.setIfInBounds_toArray, List.set_cons_succ, List.set_cons_zero, upd, reduceIte, Nat.reduceEqDiff, Nat.reduceAdd, f2, f8, str]; done) | (simp [mkAct, upd, f2, f8, str, *]; done)
              · simp only [Bool.false_and, Bool.true_and, Bool.false_or, Bool.true_or] at hpk
                subst hpk
                try simp only [cond_true, cond_false] at f8
                try simp only [f2, f8, str]
                go_wp2
                refine stq_v rfl Same.refl ?_
                first | (simp only [mkAct, List.foldl_cons, List.foldl_nil, List.setIfInBounds_toArray, List.set_cons_succ, List.set_cons_zero, upd, reduceIte, Nat.reduceEqDiff, Nat.reduceAdd, f2, f8, str]; done) | (simp [mkAct, upd, f2, f8, str, *]; done)
          · intro u wx hI hR
            obtain ⟨r0, r1, r2, r3, r4, r5, r6, r7, r8, r9, -⟩ := hR
            replace r0 : u 0 = (.pointer (some ⟨w.heap.size, 43, none⟩)) := r0
            replace r1 : u 1 = (.bool e3) := r1
            replace r2 : u 2 = (.bool e3) := r2
            replace r3 : u 3 = (cond e3 (.pointer (some ⟨w.heap.size, 4, none⟩)) undef) := r3
            replace r4 : u 4 = (cond e3 (.pointer (some ⟨w.heap.size, 4, none⟩)) undef) := r4
            replace r5 : u 5 = (cond e3 (.agg s.hbat.cells.toArray) undef) := r5
            replace r6 : u 6 = (cond e3 (.agg (bv D3).toArray) undef) := r6
            replace r7 : u 7 = (cond e3 (.agg (bv d).toArray) undef) := r7
            replace r8 : u 8 = (cond e3 (.bool qD3) undef) := r8
            replace r9 : u 9 = (.bool G3) := r9
            simp only [mkAct, List.foldl_cons, List.foldl_nil, List.setIfInBounds_toArray, List.set_cons_succ, List.set_cons_zero]
            try simp only [str, r0, r1, r2, r3, r4, r5, r6, r7, r8, r9]
            clear r0 r1 r2 r3 r4 r5 r6 r7 r8 r9
            replace a0 := Lib.hid (hI.at a0.out)
            replace a1 := Lib.hid (hI.at a1.out)
            replace a2 := Lib.hid (hI.at a2.out)
            replace hw2 := Lib.hid (hw2.out.trans hI)
            replace k3 := Lib.hid (hI.cell k3.out)
            replace k43 := Lib.hid (hI.cell k43.out)
            replace m45 := Lib.hid (hI.range m45.out)
            replace m1 := Lib.hid (hI.range m1.out)
            replace m4 := Lib.hid (hI.range m4.out)
            have z5 := hI.size
            clear hI
            cases G3
            · have hRe := hR.out.2.2.2 rfl rfl rfl
              clear hR
              go_wp2_with (first | (refine build_const (ty := 26) (.agg zeroBat.cells.toArray) rfl rfl (by kernel_rfl) ?_) | (refine store_row rfl _ _ _ rfl w1.heap.size zeroBat.cells.toArray rfl rfl _ _ a2.out (bat_info _) rfl (bat_one _) ?_; intro w9 hb9 hk9; replace hb9 := Lib.hid hb9; replace hk9 := Lib.hid hk9))
              refine bodyPost_ret (v := .tuple #[.agg zeroBat.cells.toArray, .bool false]) (results_row2 (p := 4) (q := 5) (ty := 26) rfl _ _ w1.heap.size _ _ _ _ _ rfl rfl hb9.out Try.underlying26 rfl (bat_info _)) rfl ?_
              exact ⟨by rw [hRe], hw2.out.keep hk9.out (fun x hx hv => by omega)⟩
            · have hRe := hR.out.2.2.1 rfl rfl rfl
              clear hR
              go_wp2_with (first | (refine load_mid rfl _ _ rfl w.heap.size 4 rfl s.hbat.cells _ m4.out Try.underlying26 rfl i2.out ?_) | (refine store_row rfl _ _ _ rfl w1.heap.size s.hbat.cells.toArray rfl rfl _ _ a2.out (bat_info _) rfl (bat_one _) ?_; intro w9 hb9 hk9; replace hb9 := Lib.hid hb9; replace hk9 := Lib.hid hk9))
              refine bodyPost_ret (v := .tuple #[.agg s.hbat.cells.toArray, .bool true]) (results_row2 (p := 4) (q := 5) (ty := 26) rfl _ _ w1.heap.size _ _ _ _ _ rfl rfl hb9.out Try.underlying26 rfl (bat_info _)) rfl ?_
              exact ⟨by rw [hRe], hw2.out.keep hk9.out (fun x hx hv => by omega)⟩
        · have hRe := hR.out.2.1 rfl rfl
          clear hR
          go_wp2_with (first | (refine load_mid rfl _ _ rfl w.heap.size 1 rfl s.bat.cells _ m1.out Try.underlying26 rfl i1.out ?_) | (refine store_row rfl _ _ _ rfl w1.heap.size s.bat.cells.toArray rfl rfl _ _ a2.out (bat_info _) rfl (bat_one _) ?_; intro w9 hb9 hk9; replace hb9 := Lib.hid hb9; replace hk9 := Lib.hid hk9))
          refine bodyPost_ret (v := .tuple #[.agg s.bat.cells.toArray, .bool true]) (results_row2 (p := 4) (q := 5) (ty := 26) rfl _ _ w1.heap.size _ _ _ _ _ rfl rfl hb9.out Try.underlying26 rfl (bat_info _)) rfl ?_
          exact ⟨by rw [hRe], hw2.out.keep hk9.out (fun x hx hv => by omega)⟩
    · have hRe := hR.out.1 rfl
      clear hR
      go_wp2_with (first | (refine load_mid rfl _ _ rfl w.heap.size 45 rfl s.ebat.cells _ m45.out Try.underlying26 rfl i0.out ?_) | (refine store_row rfl _ _ _ rfl w1.heap.size s.ebat.cells.toArray rfl rfl _ _ a2.out (bat_info _) rfl (bat_one _) ?_; intro w9 hb9 hk9; replace hb9 := Lib.hid hb9; replace hk9 := Lib.hid hk9))
      refine bodyPost_ret (v := .tuple #[.agg s.ebat.cells.toArray, .bool true]) (results_row2 (p := 4) (q := 5) (ty := 26) rfl _ _ w1.heap.size _ _ _ _ _ rfl rfl hb9.out Try.underlying26 rfl (bat_info _)) rfl ?_
      exact ⟨by rw [hRe], hw2.out.keep hk9.out (fun x hx hv => by omega)⟩
end Go.Proofs.Ytmacgmmjgdmleaa
namespace Go.Proofs.Ytmacgmmjgdmleaa
open Go Go.RowKit
set_option linter.unusedSimpArgs false
set_option linter.unusedVariables false

set_option maxRecDepth 100000
section
variable {P : Program} {ops : Array Oper} {rest : List Oper} {o : Oper} {a : Act} {Q : Exit → Act → World → Prop}
/-- '[]T{x, y}', whole values. -/
theorem build_slice2 {W : World} (hg : Region.wanted o (yielded ops a.tmps) = true) (ty e : TypeId) (x y : Operand) (ho : o.op = .buildSlice ty 2 #[(0, x), (1, y)]) (A B : List Value) (hx : a.eval x = .agg A.toArray) (hy : a.eval y = .agg B.toArray) (hAB : B.length = A.length) (hu : P.underlying ty = some (.slice e)) (z : Value) (hi : (P.info? e).map (fun i => (i.zero, i.size)) = some (some z, A.length)) (hp : 0 < A.length) (hm : A.length ≤ 1000000)
    (h : ∀ w', w'.heap[W.heap.size]? = some (.cells (A ++ B).toArray e (0, 0)) → Same W w' → wpList P ops Q rest (a.put o.dst (.slice (some ⟨W.heap.size, 0, none⟩) 2 2)) w') : wpList P ops Q (o :: rest) a W := by
  obtain ⟨ie, hie, hz⟩ : ∃ ie, P.info? e = some ie ∧ (ie.zero, ie.size) = (some z, A.length) := by
    cases hq : P.info? e with
    | none => rw [hq] at hi; cases hi
    | some ie => rw [hq] at hi; exact ⟨ie, rfl, by simpa using hi⟩
  obtain ⟨hz1, hz2⟩ := Prod.mk.inj hz
  have hf : Instr.fill (fun i => some (i * ie.size, ie.size)) ((Array.range (2 * ie.size)).map (z.cells[· % z.cells.size]!)) [(0, .agg A.toArray), (1, .agg B.toArray)] = some (A ++ B).toArray := by
    obtain ⟨L, hL⟩ : ∃ L : List Value, L = ((Array.range (2 * ie.size)).map (z.cells[· % z.cells.size]!)).toList := ⟨_, rfl⟩
    have hLl : L.length = A.length + A.length := by rw [hL]; simp [hz2]; omega
    have e1 := fill_step (place := fun i => some (i * ie.size, ie.size)) (i := 0) (v := .agg A.toArray) (A := A) (pre := []) (mid := L.take A.length) (post := L.drop A.length) (rest := [(1, .agg B.toArray)]) (by simp [hz2]) rfl (by rw [List.length_take]; omega)
    have e2 := fill_step (place := fun i => some (i * ie.size, ie.size)) (i := 1) (v := .agg B.toArray) (A := B) (pre := A) (mid := L.drop A.length) (post := []) (rest := []) (by simp [hz2, hAB]) rfl (by rw [List.length_drop]; omega)
    rw [List.nil_append, List.nil_append, List.take_append_drop] at e1
    rw [List.append_nil, List.append_nil] at e2
    have e0 : ((Array.range (2 * ie.size)).map (z.cells[· % z.cells.size]!)) = L.toArray := by rw [hL]
    rw [e0, e1, e2]
    rfl
  have hrun := run_buildSlice (P := P) W ty e 2 #[(0, .agg A.toArray), (1, .agg B.toArray)] (A ++ B).toArray ie z hu hie hz1 (by rw [hz2]; omega) (by rw [hz2]; omega) hf
  refine wpL hg fun K hK => ?_
  have hpr : (#[(0, x), (1, y)] : Array (Nat × Operand)).map (fun p => (p.1, a.eval p.2)) = #[(0, .agg A.toArray), (1, .agg B.toArray)] := by simp [hx, hy]
  have hrun2 : (Instr.buildSlice ty 2 ((#[(0, x), (1, y)] : Array (Nat × Operand)).map fun p => (p.1, a.eval p.2))).run P W = .ok (.slice (some ⟨W.heap.size, 0, none⟩) 2 2) (W.alloc (.cells (A ++ B).toArray e)) := by rw [hpr]; exact hrun
  unfold Oper.wp execOp
  simp only [ho, Sem.run_bind, Sem.run_pure, Result.andThen_ok, hrun2]
  exact hK _ _ (h _ (heap_alloc_new _ _) (Same.alloc Same.refl _))
end
theorem ssv_two {w : World} {b : Nat} {s o : SlotV} {T : TypeId} (h : w.heap[b]? = some (.cells (s.cells ++ o.cells).toArray T (0, 0))) (hs : s.wf) (ho : o.wf) : Sl w 85 (some ⟨b, 0, none⟩) 2 2 (ssv [s, o]) :=
  ⟨by simp [ssv, SlotV.len hs, SlotV.len ho], Nat.le_refl _, by unfold maxLen; omega, (fun e => by cases e), fun x hx j u hu => by
    injection hx with hx
    subst hx
    rw [add0, blk_cell h, List.getElem?_toArray]
    simpa [ssv] using hu⟩
/-- A row of the call's own. -/
def isCe (B : Nat) (cs : List Value) (T : TypeId) : Value → World → Prop := fun v w => ∃ g, v = .pointer (some ⟨g, 0, none⟩) ∧ B ≤ g ∧ w.heap[g]? = some (.cells cs.toArray T (0, 0))
theorem isCe_stable (B : Nat) (cs : List Value) (T : TypeId) : Stable Same (isCe B cs T) := fun _ _ _ k ⟨g, h, hB, hb⟩ => ⟨g, h, hB, (k.block _ (blk_lt hb)).trans hb⟩
/-- What a call leaves is a slot that may lie there. -/
theorem left_at {w : World} {s : SlotV} {b : BatV} {c : CertV} {v : Int} (hs : s.at w) (hb : b.at w) (hc : c.at w) (hv : (Lit.int .i64 v).wf = true) : (s.accept v b).1.at w ∧ (s.hold c).1.at w ∧ (s.decide b c).1.at w := by
  have h0 : s.fits (fun b => b.at w) (fun c => c.at w) (fun x => (Lit.int .i64 x).wf = true) := ⟨hs.2.2.1, hs.2.2.2.1, hs.2.2.2.2.2.1, hs.2.2.2.2.1, hs.2.2.2.2.2.2, hs.1, hs.2.1⟩
  have z0 : zeroSlot.fits (fun b => b.at w) (fun c => c.at w) (fun x => (Lit.int .i64 x).wf = true) := ⟨zeroBat_at' w, zeroBat_at' w, zeroBat_at' w, zeroCert_at w, zeroCert_at w, by decide, by decide⟩
  have fin : ∀ x : SlotV, x.fits (fun b => b.at w) (fun c => c.at w) (fun x => (Lit.int .i64 x).wf = true) → x.at w := fun x h => ⟨h.2.2.2.2.2.1, h.2.2.2.2.2.2, h.1, h.2.1, h.2.2.2.1, h.2.2.1, h.2.2.2.2.1⟩
  exact ⟨fin _ (fits_accept h0 z0 hb hv rfl), fin _ (fits_hold h0 z0 hc rfl), fin _ (fits_decide h0 z0 hb hc hc.1.2.2.2.2 rfl)⟩
theorem known_at {w : World} {s : SlotV} (hs : s.at w) (d : List UInt8) : (s.known d).1.at w := by
  unfold SlotV.known
  repeat' split
  · exact hs.2.2.2.2.2.1
  · exact hs.2.2.1
  · exact hs.2.2.2.1
  · exact zeroBat_at' w
set_option maxRecDepth 100000 in
set_option maxHeartbeats 12800000 in
theorem walk_SlotTells (w : World) (s : SlotV) (hs : s.at w) (o : SlotV) (ho : o.at w) (view : Int) (hv : (Lit.int .i64 view).wf = true) (b : BatV) (hb : b.at w) (c : CertV) (hc : c.at w) :
    Calls Try.prog 4 #[.agg s.cells.toArray, .agg o.cells.toArray, .int .i64 view, .agg b.cells.toArray, .agg c.cells.toArray] w fun e w' => e = .returned (.bool true) ∧ Same w w' := by
  have hl := Lib.hid lives18
  have hwf := Lib.hid hs.wf
  have hwo := Lib.hid ho.wf
  have hinfA := Lib.hid (slot_info hwf.out)
  have hinfR := Lib.hid (slot_info hwo.out)
  have hinfB := Lib.hid (bat_info b)
  have hinfC := Lib.hid (cert_info hc.1)
  have zA : (Try.prog.info? 42).map (fun i => (i.zero, i.size)) = some (some (.agg zeroSlot.cells.toArray), s.cells.length) := by rw [SlotV.len hwf.out]; kernel_rfl
  have lenA := SlotV.len hwf.out
  have lenO : o.cells.length = s.cells.length := by rw [SlotV.len hwo.out, lenA]
  obtain ⟨n, hn⟩ : ∃ n, n = c.signs.length := ⟨_, rfl⟩
  have hat := left_at hs hb hc hv
  replace hat := Lib.hid hat
  replace zA := Lib.hid zA
  replace lenA := Lib.hid lenA
  replace lenO := Lib.hid lenO
  replace hn := Lib.hid hn
  replace hs := Lib.hid hs
  replace ho := Lib.hid ho
  replace hb := Lib.hid hb
  replace hc := Lib.hid hc
  clear hv
  go_enter Try.func4, Try.ntmps4
  go_upto_region 1 with (first | (refine box_row rfl _ _ rfl s.cells.toArray rfl hinfA.out ?_; intro w0 hba hs0; have l0 := blk_lt hba; replace hba := Lib.hid hba; replace hs0 := Lib.hid hs0) | (refine box_row rfl _ _ rfl o.cells.toArray rfl hinfR.out ?_; intro w1 hbo hs1; have l1 := blk_lt hbo; replace hbo := Lib.hid hbo; replace hs1 := Lib.hid hs1) | (refine box_row rfl _ _ rfl b.cells.toArray rfl hinfB.out ?_; intro w2 hbb hs2; have l2 := blk_lt hbb; replace hbb := Lib.hid hbb; replace hs2 := Lib.hid hs2) | (refine box_row rfl _ _ rfl c.cells.toArray rfl hinfC.out ?_; intro w3 hbc hs3; have l3 := blk_lt hbc; replace hbc := Lib.hid hbc; replace hs3 := Lib.hid hs3))
  have s0 := Lib.hid (hs0.out.trans (hs1.out.trans (hs2.out.trans hs3.out)))
  have t3 := Lib.hid (Same.refl (w := w3))
  replace hba := Lib.hid ((hs1.out.trans (hs2.out.trans hs3.out)).at hba.out)
  replace hbo := Lib.hid ((hs2.out.trans hs3.out).at hbo.out)
  replace hbb := Lib.hid (hs3.out.at hbb.out)
  clear hs0 hs1 hs2 hs3
  go_wp2_with (first | (refine load_row rfl _ _ rfl w.heap.size rfl _ _ _ _ (t3.out.at hba.out) Try.underlying42 rfl hinfA.out ?_) | (refine load_row rfl _ _ rfl w0.heap.size rfl _ _ _ _ (t3.out.at hbo.out) Try.underlying42 rfl hinfR.out ?_) | (refine build_slice2 rfl _ 42 _ _ rfl s.cells o.cells rfl rfl lenO.out Try.underlying168 _ zA.out (by rw [lenA.out]; decide) (by rw [lenA.out]; decide) ?_; intro w4 hA4 hs4; replace hA4 := Lib.hid hA4; replace hs4 := Lib.hid hs4))
  refine (light18_any w3.heap.size 2 [s, o] w4 rfl (by decide) (ssv_two hA4.out hwf.out hwo.out) (by
    intro x hx
    simp only [List.mem_cons, List.not_mem_nil, or_false] at hx
    rcases hx with rfl | rfl
    · exact SlotV.same' hs.out (s0.out.trans hs4.out)
    · exact SlotV.same' ho.out (s0.out.trans hs4.out))).mono ?_
  rintro e w5 ⟨L, rfl, hL, hs'⟩
  have hs5 : Same w3 w5 := hs4.out.trans hs'
  clear hs' hs4 hA4
  replace s0 := Lib.hid (s0.out.trans hs5)
  replace t3 := Lib.hid (t3.out.trans hs5)
  clear hs5
  replace hL := Lib.hid hL
  cases L
  · clear hL
    go_upto_region 2 with fail
    go_wp2_with fail
    refine (hl.out _).mono ?_
    rintro e w6 ⟨rfl, hs⟩
    replace s0 := Lib.hid (s0.out.trans hs)
    replace t3 := Lib.hid (t3.out.trans hs)
    clear hs
    go_wp2
    go_ret
    exact ⟨rfl, s0.out⟩
  · have sms := Lib.hid (hL.out rfl s (by simp))
    clear hL
    go_wp2_with (first | (refine load_row rfl _ _ rfl w1.heap.size rfl _ _ _ _ (t3.out.at hbb.out) Try.underlying26 rfl hinfB.out ?_) | (refine build_sl (W' := w5.alloc (.cells (bvs [b]).toArray 26)) (.slice (some ⟨w5.heap.size, 0, none⟩) 1 1) rfl rfl (by kernel_rfl) ?_))
    have hlt := light7_any (some ⟨w5.heap.size, 0, none⟩) 1 1 [b] (w5.alloc (.cells (bvs [b]).toArray 26)) (bvs_box [b] 1 rfl (by unfold maxLen; omega)) rfl (by
      intro x hx
      have hw : Same w (w5.alloc (.cells (bvs [b]).toArray 26)) := s0.out.trans (Same.refl.alloc _)
      simp only [List.mem_cons, List.not_mem_nil, or_false] at hx
      subst hx
      exact BatV.same hb.out hw)
    refine hlt.mono ?_
    rintro e w6 ⟨L2, rfl, hL2, hs'⟩
    have hs : Same w5 w6 := (Same.refl.alloc _).trans hs'
    clear hs' hlt
    replace s0 := Lib.hid (s0.out.trans hs)
    replace t3 := Lib.hid (t3.out.trans hs)
    clear hs
    replace hL2 := Lib.hid hL2
    cases L2
    · clear hL2
      go_upto_region 2 with fail
      go_wp2_with fail
      refine (hl.out _).mono ?_
      rintro e w7 ⟨rfl, hs⟩
      replace s0 := Lib.hid (s0.out.trans hs)
      replace t3 := Lib.hid (t3.out.trans hs)
      clear hs
      go_wp2
      go_ret
      exact ⟨rfl, s0.out⟩
    · have smb := Lib.hid (hL2.out rfl b (by simp))
      clear hL2
      have c36 := ce_signs (t3.out.at hbc.out) hc.out.1
      rw [← hn.out] at c36
      by_cases h100 : (n : Int) ≤ 100
      · have h100' : Decidable.decide (100 < (n : Int)) = false := decide_eq_false (by omega)
        go_upto_region 3 with fail
        clear c36 h100' h100
        have kss := Lib.hid (fun (X : SlotV) (w : World) (h : X.at w) => rslotSame_any X X w h h)
        have kA := fun w h1 h2 => acc_any s view b w h1 h2 sms.out.1 smb.out
        have rA := fun w h1 h2 => racc_any s view b w h1 h2 sms.out.1 smb.out
        have kH := fun w h1 h2 => hold_any s c w h1 h2 sms.out.1
        have rH := fun w h1 h2 => rhold_any s c w h1 h2 sms.out.1
        have kD := fun w h1 h2 h3 => decide_any s b c w h1 h2 h3 sms.out.2.2 smb.out
        have rD := fun w h1 h2 h3 => rdecide_any s b c w h1 h2 h3 sms.out.2.2 smb.out
        have kK := fun w h => known_any s c.vote.dig hc.out.1.1 w h sms.out.2.2 sms.out.1 sms.out.2.1
        have rK := fun w h => rknown_any s c.vote.dig hc.out.1.1 w h sms.out.2.2 sms.out.1 sms.out.2.1
        have hat' := hat.out
        have hkat := known_at hs.out c.vote.dig
        clear hat
        obtain ⟨⟨X1, n1⟩, hX1⟩ : ∃ X, X = s.accept view b := ⟨_, rfl⟩
        obtain ⟨⟨X2, n2⟩, hX2⟩ : ∃ X, X = s.hold c := ⟨_, rfl⟩
        obtain ⟨⟨X3, n3⟩, hX3⟩ : ∃ X, X = s.decide b c := ⟨_, rfl⟩
        obtain ⟨⟨K, kq⟩, hKe⟩ : ∃ X, X = s.known c.vote.dig := ⟨_, rfl⟩
        obtain ⟨D, hDe⟩ : ∃ D, D = c.vote.dig := ⟨_, rfl⟩
        rw [← hX1] at kA rA hat'
        rw [← hX2] at kH rH hat'
        rw [← hX3] at kD rD hat'
        rw [← hKe] at kK rK hkat
        rw [← hDe] at kK rK
        unfold RetSlot at kA rA kH rH kD rD
        simp only at kA rA kH rH kD rD kK rK hkat hat'
        clear hX1 hX2 hX3 hKe
        have ax1 := Lib.hid hat'.1
        have wx1 := hat'.1.wf
        have ix1 := Lib.hid (slot_info wx1)
        have jx1 := Lib.hid (rslot_info wx1)
        have zx1 := Lib.hid (slot_size zeroSlot_wf wx1)
        have of1 := Lib.hid (fun w => slotOf_any X1 w wx1)
        replace wx1 := Lib.hid wx1
        have ax2 := Lib.hid hat'.2.1
        have wx2 := hat'.2.1.wf
        have ix2 := Lib.hid (slot_info wx2)
        have jx2 := Lib.hid (rslot_info wx2)
        have zx2 := Lib.hid (slot_size zeroSlot_wf wx2)
        have of2 := Lib.hid (fun w => slotOf_any X2 w wx2)
        replace wx2 := Lib.hid wx2
        have ax3 := Lib.hid hat'.2.2
        have wx3 := hat'.2.2.wf
        have ix3 := Lib.hid (slot_info wx3)
        have jx3 := Lib.hid (rslot_info wx3)
        have zx3 := Lib.hid (slot_size zeroSlot_wf wx3)
        have of3 := Lib.hid (fun w => slotOf_any X3 w wx3)
        replace wx3 := Lib.hid wx3
        have zx12 := Lib.hid (slot_size wx1.out wx2.out)
        have zx23 := Lib.hid (slot_size wx2.out wx3.out)
        have ofs := Lib.hid (fun w => slotOf_any s w hwf.out)
        have ofo := Lib.hid (fun w => slotOf_any o w hwo.out)
        have iK := Lib.hid (bat_info K)
        have aK := Lib.hid hkat
        have hsame := Lib.hid (fun (w : World) (h : K.at w) => rbsame_any K K w h h)
        have hS1 := Lib.hid (fun w h1 h2 => slotSame_any s o w h1 h2)
        have hS2 := Lib.hid (fun w h1 h2 => rslotSame_any s o w h1 h2)
        have hinfD : (Try.prog.info? 28).map (·.size) = some (bv D).length := by rw [bv_length, hDe, hc.out.1.1]; kernel_rfl
        have hdg : w3.rangeAt w2.heap.size 4 (bv D) := by rw [hDe]; exact ce_dig hbc.out
        rw [batSame_self] at hsame
        simp only [slotSame_self] at kss
        obtain ⟨V, hV⟩ : ∃ V, V = slotSame s o := ⟨_, rfl⟩
        rw [← hV] at hS1 hS2
        clear hV hat' hkat hDe
        replace hinfD := Lib.hid hinfD
        replace hdg := Lib.hid hdg
        replace kA := Lib.hid kA
        replace rA := Lib.hid rA
        replace kH := Lib.hid kH
        replace rH := Lib.hid rH
        replace kD := Lib.hid kD
        replace rD := Lib.hid rD
        replace kK := Lib.hid kK
        replace rK := Lib.hid rK
        have z3 := l3
        go_wp2_with (first | (refine load_row rfl _ _ rfl w.heap.size rfl _ _ _ _ (t3.out.at hba.out) Try.underlying42 rfl hinfA.out ?_) | (refine load_row rfl _ _ rfl w1.heap.size rfl _ _ _ _ (t3.out.at hbb.out) Try.underlying26 rfl hinfB.out ?_))
        refine (kA.out _ (SlotV.same' hs.out s0.out) (BatV.same hb.out s0.out)).mono ?_
        rintro e w7 ⟨rfl, hs'⟩
        replace s0 := Lib.hid (s0.out.trans hs')
        replace t3 := Lib.hid (t3.out.trans hs')
        clear hs' kA
        go_upto_region 4 with (first | (refine alloc_new rfl 42 rfl zeroSlot.cells.toArray (by kernel_rfl) ?_; intro w8 hz hs8; have l8 := blk_lt hz; replace hz := Lib.hid hz; replace hs8 := Lib.hid hs8) | (refine store_row rfl _ _ _ rfl w7.heap.size X1.cells.toArray rfl rfl _ _ hz.out ix1.out zx1.out (slot_one X1) ?_; intro w9 hx hk9; replace hx := Lib.hid hx; replace hk9 := Lib.hid hk9))
        have z7 := t3.out.size
        have hs' : Same w7 w9 := hs8.out.keep hk9.out (fun x hx hv => by omega)
        replace s0 := Lib.hid (s0.out.trans hs')
        replace t3 := Lib.hid (t3.out.trans hs')
        clear hs' hk9 hs8 hz
        obtain ⟨bx, hbx⟩ : ∃ x, x = w7.heap.size := ⟨_, rfl⟩
        rw [← hbx] at hx z7 ⊢
        clear hbx l8
        have lx := blk_lt hx.out
        go_simp
        have q3 := t3.out.size
        go_cut [13, 14] (fun v1 v2 wx => ∃ g, v1 = .pointer (some ⟨g, 0, none⟩) ∧ v2 = .int .i64 (n1 : Nat) ∧ w9.heap.size ≤ g ∧ wx.heap[g]? = some (.cells X1.cells.toArray 50 (0, 0)) ∧ Same w9 wx)
        case first =>
          refine wp_region_mutL (by kernel_rfl) [(45, 0), (46, 1), (47, 2), (48, 3), (49, 4), (44, 5), (50, 6), (51, 7), (13, 8)] [(9, (Keep (fun k => w9.heap.size ≤ k)))] [(8, [9]), (9, [9])] [(9, 8)] [0, 1, 2, 3, 4, 5, 6, 7, 9] [[], [0], [], [], [1, 2, 3], [4], [5], [5], [], [8, 6]] Same (Same _) [] [isV (.agg s.cells.toArray), isV (.agg s.cells.toArray), isV (.int .i64 view), isV (.agg b.cells.toArray), isV (.tuple #[.agg X1.cells.toArray, .int .i64 (n1 : Nat)]), isV (.tuple #[.agg X1.cells.toArray, .int .i64 (n1 : Nat)]), isV (.agg X1.cells.toArray), isV (.int .i64 (n1 : Nat)), isCe w9.heap.size zeroSlot.cells 50, isCe w9.heap.size X1.cells 50] (Same.refl.drew) (by simp) (fun _ _ h k => h.trans k) (by intro g hg; simp only [List.mem_cons, List.not_mem_nil, or_false] at hg; obtain rfl := hg; exact (fun _ _ h k => h.keep k (fun x hx hv => by omega))) (by simp [isV_stable, isB_stable, isAny_stable, isCe_stable]) (by simp) (by simp [killsOf, List.zipIdx_cons, isV_stable, isAny_stable]) (by simp [killsOf, List.zipIdx_cons]) (by decide) (l := [_, _, _, _, _, _, _, _, _, _]) rfl (by decide) (by kernel_rfl) (by kernel_rfl) (by kernel_rfl) (by decide) (by kernel_rfl) ?_ ?_
          · refine ⟨?_, ?_, ?_, ?_, ?_, ?_, ?_, ?_, ?_, ?_, trivial⟩
            all_goals (intro u wx hI hp; simp only [mkAct, List.foldl_cons, List.foldl_nil, List.setIfInBounds_toArray, List.set_cons_succ, List.set_cons_zero])
            · -- operation 0
              go_wp2_with (refine load_row rfl _ _ rfl w.heap.size rfl _ _ _ _ ((t3.out.trans hI).at hba.out) Try.underlying42 rfl hinfA.out ?_)
              refine stl_v (x := (.agg s.cells.toArray)) rfl (by decide) Same.refl ?_
              first | (simp only [mkAct, List.foldl_cons, List.foldl_nil, List.setIfInBounds_toArray, List.set_cons_succ, List.set_cons_zero, upd, reduceIte, Nat.reduceEqDiff, Nat.reduceAdd, str]; done) | (simp [mkAct, upd, str, *]; done)
            · -- operation 1
              obtain ⟨f0, -⟩ := hp
              replace f0 : u 0 = (.agg s.cells.toArray) := f0
              try simp only [f0, str]
              go_wp2_with fail
              refine (ofs.out _).mono ?_
              rintro e w1 ⟨rfl, hs'⟩
              go_wp2
              refine stl_v (x := (.agg s.cells.toArray)) rfl (by decide) hs' ?_
              first | (simp only [mkAct, List.foldl_cons, List.foldl_nil, List.setIfInBounds_toArray, List.set_cons_succ, List.set_cons_zero, upd, reduceIte, Nat.reduceEqDiff, Nat.reduceAdd, f0, str]; done) | (simp [mkAct, upd, f0, str, *]; done)
            · -- operation 2
              go_wp2
              refine stl_v (x := (.int .i64 view)) rfl (by decide) Same.refl ?_
              first | (simp only [mkAct, List.foldl_cons, List.foldl_nil, List.setIfInBounds_toArray, List.set_cons_succ, List.set_cons_zero, upd, reduceIte, Nat.reduceEqDiff, Nat.reduceAdd, str]; done) | (simp [mkAct, upd, str, *]; done)
            · -- operation 3
              go_wp2_with (refine load_row rfl _ _ rfl w1.heap.size rfl _ _ _ _ ((t3.out.trans hI).at hbb.out) Try.underlying26 rfl hinfB.out ?_)
              refine stl_v (x := (.agg b.cells.toArray)) rfl (by decide) Same.refl ?_
              first | (simp only [mkAct, List.foldl_cons, List.foldl_nil, List.setIfInBounds_toArray, List.set_cons_succ, List.set_cons_zero, upd, reduceIte, Nat.reduceEqDiff, Nat.reduceAdd, str]; done) | (simp [mkAct, upd, str, *]; done)
            · -- operation 4
              obtain ⟨f1, f2, f3, -⟩ := hp
              replace f1 : u 1 = (.agg s.cells.toArray) := f1
              replace f2 : u 2 = (.int .i64 view) := f2
              replace f3 : u 3 = (.agg b.cells.toArray) := f3
              try simp only [f1, f2, f3, str]
              go_wp2_with fail
              refine (rA.out _ (SlotV.same' hs.out (s0.out.trans hI)) (BatV.same hb.out (s0.out.trans hI))).mono ?_
              rintro e w1 ⟨rfl, hs'⟩
              go_wp2
              refine stl_v (x := (.tuple #[.agg X1.cells.toArray, .int .i64 (n1 : Nat)])) rfl (by decide) hs' ?_
              first | (simp only [mkAct, List.foldl_cons, List.foldl_nil, List.setIfInBounds_toArray, List.set_cons_succ, List.set_cons_zero, upd, reduceIte, Nat.reduceEqDiff, Nat.reduceAdd, f1, f2, f3, str]; done) | (simp [mkAct, upd, f1, f2, f3, str, *]; done)
            · -- operation 5
              obtain ⟨f4, -⟩ := hp
              replace f4 : u 4 = (.tuple #[.agg X1.cells.toArray, .int .i64 (n1 : Nat)]) := f4
              try simp only [f4, str]
              go_wp2
              refine stl_v (x := (.tuple #[.agg X1.cells.toArray, .int .i64 (n1 : Nat)])) rfl (by decide) Same.refl ?_
              first | (simp only [mkAct, List.foldl_cons, List.foldl_nil, List.setIfInBounds_toArray, List.set_cons_succ, List.set_cons_zero, upd, reduceIte, Nat.reduceEqDiff, Nat.reduceAdd, f4, str]; done) | (simp [mkAct, upd, f4, str, *]; done)
            · -- operation 6
              obtain ⟨f5, -⟩ := hp
              replace f5 : u 5 = (.tuple #[.agg X1.cells.toArray, .int .i64 (n1 : Nat)]) := f5
              try simp only [f5, str]
              go_wp2
              refine stl_v (x := (.agg X1.cells.toArray)) rfl (by decide) Same.refl ?_
              first | (simp only [mkAct, List.foldl_cons, List.foldl_nil, List.setIfInBounds_toArray, List.set_cons_succ, List.set_cons_zero, upd, reduceIte, Nat.reduceEqDiff, Nat.reduceAdd, f5, str]; done) | (simp [mkAct, upd, f5, str, *]; done)
            · -- operation 7
              obtain ⟨f5, -⟩ := hp
              replace f5 : u 5 = (.tuple #[.agg X1.cells.toArray, .int .i64 (n1 : Nat)]) := f5
              try simp only [f5, str]
              go_wp2
              refine stl_v (x := (.int .i64 (n1 : Nat))) rfl (by decide) Same.refl ?_
              first | (simp only [mkAct, List.foldl_cons, List.foldl_nil, List.setIfInBounds_toArray, List.set_cons_succ, List.set_cons_zero, upd, reduceIte, Nat.reduceEqDiff, Nat.reduceAdd, f5, str]; done) | (simp [mkAct, upd, f5, str, *]; done)
            · -- operation 8
              go_wp2_with (refine alloc_new rfl 50 rfl zeroSlot.cells.toArray (by kernel_rfl) ?_; intro wb hb4 hs4)
              refine stl_v (x := (.pointer (some ⟨wx.heap.size, 0, none⟩))) ⟨_, rfl, hI.size, hb4⟩ (by decide) hs4 ?_
              first | (simp only [mkAct, List.foldl_cons, List.foldl_nil, List.setIfInBounds_toArray, List.set_cons_succ, List.set_cons_zero, upd, reduceIte, Nat.reduceEqDiff, Nat.reduceAdd, str]; done) | (simp [mkAct, upd, str, *]; done)
            · -- operation 9
              obtain ⟨f8, f6, -⟩ := hp
              replace f6 : u 6 = (.agg X1.cells.toArray) := f6
              try simp only [f6, str]
              obtain ⟨g, f8, hg, hbg⟩ := f8
              try simp only [f8]
              replace hbg := Lib.hid hbg
              go_wp2_with (refine store_row rfl _ _ _ rfl g _ rfl rfl _ _ hbg.out jx1.out zx1.out (slot_one X1) ?_; intro wb hb4 hk4)
              refine stl_l (x := .pointer (some ⟨g, 0, none⟩)) ⟨g, rfl, hg, hb4⟩ (by intro p hp hpi; simp only [List.mem_cons, List.not_mem_nil, or_false] at hp; subst hp; exact f8.symm) (hk4.mono (fun x _ hx => by subst hx; exact hg)) ?_
              simp [mkAct, upd, f8, f6]
          · intro u wx hI hR hL
            obtain ⟨r0, r1, r2, r3, r4, r5, r6, r7, r9, -⟩ := hR
            replace r0 : u 0 = (.agg s.cells.toArray) := r0
            replace r1 : u 1 = (.agg s.cells.toArray) := r1
            replace r2 : u 2 = (.int .i64 view) := r2
            replace r3 : u 3 = (.agg b.cells.toArray) := r3
            replace r4 : u 4 = (.tuple #[.agg X1.cells.toArray, .int .i64 (n1 : Nat)]) := r4
            replace r5 : u 5 = (.tuple #[.agg X1.cells.toArray, .int .i64 (n1 : Nat)]) := r5
            replace r6 : u 6 = (.agg X1.cells.toArray) := r6
            replace r7 : u 7 = (.int .i64 (n1 : Nat)) := r7
            simp only [mkAct, List.foldl_cons, List.foldl_nil, List.setIfInBounds_toArray, List.set_cons_succ, List.set_cons_zero]
            try simp only [str, r0, r1, r2, r3, r4, r5, r6, r7]
            obtain ⟨g, r9, hg, hbg⟩ := r9
            have r8 : u 8 = .pointer (some ⟨g, 0, none⟩) := (hL (9, 8) (by simp)).symm.trans r9
            simp only [r8]
            replace hbg := Lib.hid hbg
            clear r8 r9 hL
            go_wp2
            go_meet
            exact ⟨g, rfl, rfl, hg, hbg.out, hI⟩
        case rest =>
          obtain ⟨g, rfl, rfl, hg, hy, hs'⟩ := hcut
          rename World => wA
          replace hx := Lib.hid (hs'.at hx.out)
          replace hy := Lib.hid hy
          replace s0 := Lib.hid (s0.out.trans hs')
          replace t3 := Lib.hid (t3.out.trans hs')
          clear hs'
          have ax := Lib.hid (SlotV.same' ax1.out s0.out)
          have nn : ((n1 : Int) != (n1 : Int)) = false := by simp
          go_upto_region 5 with fail
          go_cut [61] (fun v wx => v = .bool false ∧ Same wA wx)
          case first =>
            refine wp_region_facts (by kernel_rfl) [(52, 0), (53, 1), (54, 2), (55, 3), (56, 4), (57, 5), (58, 6), (59, 7), (60, 8), (61, 9)] Same (Same _) [isV (.agg X1.cells.toArray), isV (.agg X1.cells.toArray), isV (.agg X1.cells.toArray), isV (.bool true), isV (.bool false), isV (.bool false), isV (.int .i64 (n1 : Nat)), isV (.int .i64 (n1 : Nat)), isV (.bool false), isV (.bool false)] Same.refl.drew (fun _ _ h k => h.trans k) (by simp [isV_stable, isB_stable, isAny_stable]) (by decide) (by decide) ?_ ?_
            · refine ⟨?_, ?_, ?_, ?_, ?_, ?_, ?_, ?_, ?_, ?_, trivial⟩
              all_goals (intro u wx hI hp; simp only [mkAct, List.foldl_cons, List.foldl_nil, List.setIfInBounds_toArray, List.set_cons_succ, List.set_cons_zero])
              · -- operation 0
                go_wp2_with (refine load_row rfl _ _ rfl bx rfl _ _ _ _ (hI.at hx.out) Try.underlying42 rfl ix1.out ?_)
                refine stq_v rfl Same.refl ?_
                first | (simp only [mkAct, List.foldl_cons, List.foldl_nil, List.setIfInBounds_toArray, List.set_cons_succ, List.set_cons_zero, upd, reduceIte, Nat.reduceEqDiff, Nat.reduceAdd, str]; done) | (simp [mkAct, upd, str, *]; done)
              · -- operation 1
                obtain ⟨f0, -⟩ := hp
                replace f0 : u 0 = (.agg X1.cells.toArray) := f0
                try simp only [f0, str]
                go_wp2_with fail
                refine (of1.out _).mono ?_
                rintro e w1 ⟨rfl, hs'⟩
                go_wp2
                refine stq_v rfl hs' ?_
                first | (simp only [mkAct, List.foldl_cons, List.foldl_nil, List.setIfInBounds_toArray, List.set_cons_succ, List.set_cons_zero, upd, reduceIte, Nat.reduceEqDiff, Nat.reduceAdd, f0, str]; done) | (simp [mkAct, upd, f0, str, *]; done)
              · -- operation 2
                go_wp2_with (refine load_row rfl _ _ rfl g rfl _ _ _ _ (hI.at hy.out) Try.underlying50 rfl jx1.out ?_)
                refine stq_v rfl Same.refl ?_
                first | (simp only [mkAct, List.foldl_cons, List.foldl_nil, List.setIfInBounds_toArray, List.set_cons_succ, List.set_cons_zero, upd, reduceIte, Nat.reduceEqDiff, Nat.reduceAdd, str]; done) | (simp [mkAct, upd, str, *]; done)
              · -- operation 3
                obtain ⟨f1, f2, -, -⟩ := hp
                replace f1 : u 1 = (.agg X1.cells.toArray) := f1
                replace f2 : u 2 = (.agg X1.cells.toArray) := f2
                try simp only [f1, f2, str]
                go_wp2_with fail
                refine (kss.out X1 _ (SlotV.same' ax.out hI)).mono ?_
                rintro e w1 ⟨rfl, hs'⟩
                go_wp2
                refine stq_v rfl hs' ?_
                first | (simp only [mkAct, List.foldl_cons, List.foldl_nil, List.setIfInBounds_toArray, List.set_cons_succ, List.set_cons_zero, upd, reduceIte, Nat.reduceEqDiff, Nat.reduceAdd, f1, f2, str]; done) | (simp [mkAct, upd, f1, f2, str, *]; done)
              · -- operation 4
                obtain ⟨f3, -⟩ := hp
                replace f3 : u 3 = (.bool true) := f3
                try simp only [f3, str]
                go_wp2
                refine stq_v rfl Same.refl ?_
                first | (simp only [mkAct, List.foldl_cons, List.foldl_nil, List.setIfInBounds_toArray, List.set_cons_succ, List.set_cons_zero, upd, reduceIte, Nat.reduceEqDiff, Nat.reduceAdd, f3, str]; done) | (simp [mkAct, upd, f3, str, *]; done)
              · -- operation 5
                obtain ⟨f4, -, -⟩ := hp
                replace f4 : u 4 = (.bool false) := f4
                try simp only [f4, str]
                go_wp2
                refine stq_v rfl Same.refl ?_
                first | (simp only [mkAct, List.foldl_cons, List.foldl_nil, List.setIfInBounds_toArray, List.set_cons_succ, List.set_cons_zero, upd, reduceIte, Nat.reduceEqDiff, Nat.reduceAdd, f4, str]; done) | (simp [mkAct, upd, f4, str, *]; done)
              · -- operation 6
                obtain ⟨f5, -⟩ := hp
                replace f5 : u 5 = (.bool false) := f5
                try simp only [f5, str]
                go_wp2
                refine stq_v rfl Same.refl ?_
                first | (simp only [mkAct, List.foldl_cons, List.foldl_nil, List.setIfInBounds_toArray, List.set_cons_succ, List.set_cons_zero, upd, reduceIte, Nat.reduceEqDiff, Nat.reduceAdd, f5, str]; done) | (simp [mkAct, upd, f5, str, *]; done)
              · -- operation 7
                obtain ⟨f5, -⟩ := hp
                replace f5 : u 5 = (.bool false) := f5
                try simp only [f5, str]
                go_wp2
                refine stq_v rfl Same.refl ?_
                first | (simp only [mkAct, List.foldl_cons, List.foldl_nil, List.setIfInBounds_toArray, List.set_cons_succ, List.set_cons_zero, upd, reduceIte, Nat.reduceEqDiff, Nat.reduceAdd, f5, str]; done) | (simp [mkAct, upd, f5, str, *]; done)
              · -- operation 8
                obtain ⟨f6, f7, f5, -⟩ := hp
                replace f6 : u 6 = (.int .i64 (n1 : Nat)) := f6
                replace f7 : u 7 = (.int .i64 (n1 : Nat)) := f7
                replace f5 : u 5 = (.bool false) := f5
                try simp only [f6, f7, f5, str]
                go_wp2
                refine stq_v rfl Same.refl ?_
                first | (simp only [mkAct, List.foldl_cons, List.foldl_nil, List.setIfInBounds_toArray, List.set_cons_succ, List.set_cons_zero, upd, reduceIte, Nat.reduceEqDiff, Nat.reduceAdd, f6, f7, f5, str]; done) | (simp [mkAct, upd, f6, f7, f5, str, *]; done)
              · -- operation 9
                obtain ⟨f5, f8, -⟩ := hp
                replace f5 : u 5 = (.bool false) := f5
                replace f8 : u 8 = (.bool false) := f8
                try simp only [f5, f8, str]
                go_wp2
                refine stq_v rfl Same.refl ?_
                first | (simp only [mkAct, List.foldl_cons, List.foldl_nil, List.setIfInBounds_toArray, List.set_cons_succ, List.set_cons_zero, upd, reduceIte, Nat.reduceEqDiff, Nat.reduceAdd, f5, f8, str]; done) | (simp [mkAct, upd, f5, f8, str, *]; done)
            · intro u wx hI hR
              obtain ⟨r0, r1, r2, r3, r4, r5, r6, r7, r8, r9, -⟩ := hR
              replace r0 : u 0 = (.agg X1.cells.toArray) := r0
              replace r1 : u 1 = (.agg X1.cells.toArray) := r1
              replace r2 : u 2 = (.agg X1.cells.toArray) := r2
              replace r3 : u 3 = (.bool true) := r3
              replace r4 : u 4 = (.bool false) := r4
              replace r5 : u 5 = (.bool false) := r5
              replace r6 : u 6 = (.int .i64 (n1 : Nat)) := r6
              replace r7 : u 7 = (.int .i64 (n1 : Nat)) := r7
              replace r8 : u 8 = (.bool false) := r8
              replace r9 : u 9 = (.bool false) := r9
              simp only [mkAct, List.foldl_cons, List.foldl_nil, List.setIfInBounds_toArray, List.set_cons_succ, List.set_cons_zero]
              try simp only [str, r0, r1, r2, r3, r4, r5, r6, r7, r8, r9]
              go_wp2
              go_meet
              exact ⟨rfl, hI⟩
          case rest =>
            obtain ⟨rfl, hs'⟩ := hcut
            rename World => wB
            replace hx := Lib.hid (hs'.at hx.out)
            replace hy := Lib.hid (hs'.at hy.out)
            replace s0 := Lib.hid (s0.out.trans hs')
            replace t3 := Lib.hid (t3.out.trans hs')
            clear hs' ax nn
            go_wp2_with (first | (refine load_row rfl _ _ rfl w.heap.size rfl _ _ _ _ (t3.out.at hba.out) Try.underlying42 rfl hinfA.out ?_) | (refine load_row rfl _ _ rfl w2.heap.size rfl _ _ _ _ (t3.out.at hbc.out) Try.underlying33 rfl hinfC.out ?_))
            refine (kH.out _ (SlotV.same' hs.out s0.out) (CertV.same' hc.out s0.out)).mono ?_
            rintro e wp2 ⟨rfl, hs'⟩
            replace hx := Lib.hid (hs'.at hx.out)
            replace hy := Lib.hid (hs'.at hy.out)
            replace s0 := Lib.hid (s0.out.trans hs')
            replace t3 := Lib.hid (t3.out.trans hs')
            have lx := blk_lt hx.out
            have lg := blk_lt hy.out
            have hne : bx ≠ g := fun e => by
              have h1 := hx.out
              rw [e, hy.out] at h1
              injection h1 with h1
              injection h1 with h1 h2
              revert h2
              decide
            have q3 := t3.out.size
            clear hs' kH
            go_upto_region 8 with (refine store_row rfl _ _ _ rfl bx X2.cells.toArray rfl rfl _ _ hx.out ix2.out (slot_size wx1.out wx2.out) (slot_one X2) ?_; intro wq2 hx9 hk9; replace hx9 := Lib.hid hx9; replace hk9 := Lib.hid hk9)
            replace hy := Lib.hid ((hk9.out.block _ lg (fun e => hne e.symm)).trans hy.out)
            replace hx := hx9
            clear hx9
            replace s0 := Lib.hid (s0.out.keep hk9.out (fun x hx hv => by omega))
            replace t3 := Lib.hid (t3.out.keep hk9.out (fun x hx hv => by omega))
            clear hk9
            have lg := blk_lt hy.out
            have lx := blk_lt hx.out
            go_simp
            go_cut [14] (fun v2 wx => v2 = .int .i64 (n2 : Nat) ∧ wx.heap[g]? = some (.cells X2.cells.toArray 50 (0, 0)) ∧ Keep (· = g) wq2 wx)
            case first =>
              refine wp_region_mut (by kernel_rfl) [(69, 0), (70, 1), (71, 2), (72, 3), (68, 4), (73, 5), (74, 6), (14, 8)] [(7, (Keep (· = g)))] [(7, [7]), (1000, [7])] [0, 1, 2, 3, 4, 5, 6, 7, 8] [[], [0], [], [1, 2], [3], [4], [4], [5, 1000], [6]] Same (Keep (· = g) wq2) [(rowAt g X1.cells 50)] [isV (.agg s.cells.toArray), isV (.agg s.cells.toArray), isV (.agg c.cells.toArray), isV (.tuple #[.agg X2.cells.toArray, .int .i64 (n2 : Nat)]), isV (.tuple #[.agg X2.cells.toArray, .int .i64 (n2 : Nat)]), isV (.agg X2.cells.toArray), isV (.int .i64 (n2 : Nat)), isRA g X2.cells 50, isV (.int .i64 (n2 : Nat))] (Keep.drew) (by intro g hg; simp only [List.mem_cons, List.not_mem_nil, or_false] at hg; obtain rfl := hg; exact hy.out) (fun _ _ h k => h.trans (Keep.of_same k) (fun _ _ hq => hq)) (by intro g hg; simp only [List.mem_cons, List.not_mem_nil, or_false] at hg; obtain rfl := hg; exact (fun _ _ h k => h.trans k (fun _ _ hq => hq))) (by simp [isV_stable, isB_stable, isAny_stable, isRA_stable]) (by intro g hg; simp only [List.mem_cons, List.not_mem_nil, or_false] at hg; obtain rfl := hg; exact (fun _ _ k h => k.at h)) (by simp [killsOf, List.zipIdx_cons, isV_stable, isAny_stable]) (by simp [killsOf, List.zipIdx_cons]) (by decide) (l := [_, _, _, _, _, _, _, _, _]) rfl (by decide) (by kernel_rfl) (by kernel_rfl) (by kernel_rfl) (by decide) ?_ ?_
              · refine ⟨?_, ?_, ?_, ?_, ?_, ?_, ?_, ?_, ?_, trivial⟩
                all_goals (intro u wx hI hp; simp only [mkAct, List.foldl_cons, List.foldl_nil, List.setIfInBounds_toArray, List.set_cons_succ, List.set_cons_zero])
                · -- operation 0
                  go_wp2_with (refine load_row rfl _ _ rfl w.heap.size rfl _ _ _ _ ((hI.block _ (by omega) (by omega)).trans (t3.out.at hba.out)) Try.underlying42 rfl hinfA.out ?_)
                  refine stg_v (x := (.agg s.cells.toArray)) rfl Same.refl ?_
                  first | (simp only [mkAct, List.foldl_cons, List.foldl_nil, List.setIfInBounds_toArray, List.set_cons_succ, List.set_cons_zero, upd, reduceIte, Nat.reduceEqDiff, Nat.reduceAdd, str]; done) | (simp [mkAct, upd, str, *]; done)
                · -- operation 1
                  obtain ⟨f0, -⟩ := hp
                  replace f0 : u 0 = (.agg s.cells.toArray) := f0
                  try simp only [f0, str]
                  go_wp2_with fail
                  refine (ofs.out _).mono ?_
                  rintro e w1 ⟨rfl, hs'⟩
                  go_wp2
                  refine stg_v (x := (.agg s.cells.toArray)) rfl hs' ?_
                  first | (simp only [mkAct, List.foldl_cons, List.foldl_nil, List.setIfInBounds_toArray, List.set_cons_succ, List.set_cons_zero, upd, reduceIte, Nat.reduceEqDiff, Nat.reduceAdd, f0, str]; done) | (simp [mkAct, upd, f0, str, *]; done)
                · -- operation 2
                  go_wp2_with (refine load_row rfl _ _ rfl w2.heap.size rfl _ _ _ _ ((hI.block _ (by omega) (by omega)).trans (t3.out.at hbc.out)) Try.underlying33 rfl hinfC.out ?_)
                  refine stg_v (x := (.agg c.cells.toArray)) rfl Same.refl ?_
                  first | (simp only [mkAct, List.foldl_cons, List.foldl_nil, List.setIfInBounds_toArray, List.set_cons_succ, List.set_cons_zero, upd, reduceIte, Nat.reduceEqDiff, Nat.reduceAdd, str]; done) | (simp [mkAct, upd, str, *]; done)
                · -- operation 3
                  obtain ⟨f1, f2, -⟩ := hp
                  replace f1 : u 1 = (.agg s.cells.toArray) := f1
                  replace f2 : u 2 = (.agg c.cells.toArray) := f2
                  try simp only [f1, f2, str]
                  go_wp2_with fail
                  refine (rH.out _ (SlotV.same' hs.out (s0.out.keep hI (fun x hx hv => by omega))) (CertV.same' hc.out (s0.out.keep hI (fun x hx hv => by omega)))).mono ?_
                  rintro e w1 ⟨rfl, hs'⟩
                  go_wp2
                  refine stg_v (x := (.tuple #[.agg X2.cells.toArray, .int .i64 (n2 : Nat)])) rfl hs' ?_
                  first | (simp only [mkAct, List.foldl_cons, List.foldl_nil, List.setIfInBounds_toArray, List.set_cons_succ, List.set_cons_zero, upd, reduceIte, Nat.reduceEqDiff, Nat.reduceAdd, f1, f2, str]; done) | (simp [mkAct, upd, f1, f2, str, *]; done)
                · -- operation 4
                  obtain ⟨f3, -⟩ := hp
                  replace f3 : u 3 = (.tuple #[.agg X2.cells.toArray, .int .i64 (n2 : Nat)]) := f3
                  try simp only [f3, str]
                  go_wp2
                  refine stg_v (x := (.tuple #[.agg X2.cells.toArray, .int .i64 (n2 : Nat)])) rfl Same.refl ?_
                  first | (simp only [mkAct, List.foldl_cons, List.foldl_nil, List.setIfInBounds_toArray, List.set_cons_succ, List.set_cons_zero, upd, reduceIte, Nat.reduceEqDiff, Nat.reduceAdd, f3, str]; done) | (simp [mkAct, upd, f3, str, *]; done)
                · -- operation 5
                  obtain ⟨f4, -⟩ := hp
                  replace f4 : u 4 = (.tuple #[.agg X2.cells.toArray, .int .i64 (n2 : Nat)]) := f4
                  try simp only [f4, str]
                  go_wp2
                  refine stg_v (x := (.agg X2.cells.toArray)) rfl Same.refl ?_
                  first | (simp only [mkAct, List.foldl_cons, List.foldl_nil, List.setIfInBounds_toArray, List.set_cons_succ, List.set_cons_zero, upd, reduceIte, Nat.reduceEqDiff, Nat.reduceAdd, f4, str]; done) | (simp [mkAct, upd, f4, str, *]; done)
                · -- operation 6
                  obtain ⟨f4, -⟩ := hp
                  replace f4 : u 4 = (.tuple #[.agg X2.cells.toArray, .int .i64 (n2 : Nat)]) := f4
                  try simp only [f4, str]
                  go_wp2
                  refine stg_v (x := (.int .i64 (n2 : Nat))) rfl Same.refl ?_
                  first | (simp only [mkAct, List.foldl_cons, List.foldl_nil, List.setIfInBounds_toArray, List.set_cons_succ, List.set_cons_zero, upd, reduceIte, Nat.reduceEqDiff, Nat.reduceAdd, f4, str]; done) | (simp [mkAct, upd, f4, str, *]; done)
                · -- operation 7
                  obtain ⟨f5, fG0, -⟩ := hp
                  replace f5 : u 5 = (.agg X2.cells.toArray) := f5
                  try simp only [f5, str]
                  go_wp2_with (refine store_row rfl _ _ _ rfl g _ rfl rfl _ _ fG0 jx2.out (slot_size wx1.out wx2.out) (slot_one X2) ?_; intro wb hb4 hk4)
                  refine stg_v (x := undef) hb4 hk4 ?_
                  first | (simp only [mkAct, List.foldl_cons, List.foldl_nil, List.setIfInBounds_toArray, List.set_cons_succ, List.set_cons_zero, upd, reduceIte, Nat.reduceEqDiff, Nat.reduceAdd, f5, str]; done) | (simp [mkAct, upd, f5, str, *]; done)
                · -- operation 8
                  obtain ⟨f6, -⟩ := hp
                  replace f6 : u 6 = (.int .i64 (n2 : Nat)) := f6
                  try simp only [f6, str]
                  go_wp2
                  refine stg_v (x := (.int .i64 (n2 : Nat))) rfl Same.refl ?_
                  first | (simp only [mkAct, List.foldl_cons, List.foldl_nil, List.setIfInBounds_toArray, List.set_cons_succ, List.set_cons_zero, upd, reduceIte, Nat.reduceEqDiff, Nat.reduceAdd, f6, str]; done) | (simp [mkAct, upd, f6, str, *]; done)
              · intro u wx hI hR
                obtain ⟨r0, r1, r2, r3, r4, r5, r6, r7, r8, -⟩ := hR
                replace r0 : u 0 = (.agg s.cells.toArray) := r0
                replace r1 : u 1 = (.agg s.cells.toArray) := r1
                replace r2 : u 2 = (.agg c.cells.toArray) := r2
                replace r3 : u 3 = (.tuple #[.agg X2.cells.toArray, .int .i64 (n2 : Nat)]) := r3
                replace r4 : u 4 = (.tuple #[.agg X2.cells.toArray, .int .i64 (n2 : Nat)]) := r4
                replace r5 : u 5 = (.agg X2.cells.toArray) := r5
                replace r6 : u 6 = (.int .i64 (n2 : Nat)) := r6
                replace r8 : u 8 = (.int .i64 (n2 : Nat)) := r8
                simp only [mkAct, List.foldl_cons, List.foldl_nil, List.setIfInBounds_toArray, List.set_cons_succ, List.set_cons_zero]
                try simp only [str, r0, r1, r2, r3, r4, r5, r6, r8]
                go_wp2
                go_meet
                exact ⟨rfl, r7, hI⟩
            case rest =>
              obtain ⟨rfl, hy9, hk⟩ := hcut
              rename World => wr2
              replace hx := Lib.hid ((hk.block _ lx hne).trans hx.out)
              replace hy := hy9
              clear hy9
              replace s0 := Lib.hid (s0.out.keep hk (fun x hx hv => by omega))
              replace t3 := Lib.hid (t3.out.keep hk (fun x hx hv => by omega))
              clear hk hne lx lg
              have hs' := Same.refl (w := wr2)
              replace hx := Lib.hid (hs'.at hx.out)
              replace hy := Lib.hid hy
              replace s0 := Lib.hid (s0.out.trans hs')
              replace t3 := Lib.hid (t3.out.trans hs')
              clear hs'
              have ax := Lib.hid (SlotV.same' ax2.out s0.out)
              have nn : ((n2 : Int) != (n2 : Int)) = false := by simp
              go_upto_region 9 with fail
              go_cut [84] (fun v wx => v = .bool false ∧ Same wr2 wx)
              case first =>
                refine wp_region_facts (by kernel_rfl) [(75, 0), (76, 1), (77, 2), (78, 3), (79, 4), (80, 5), (81, 6), (82, 7), (83, 8), (84, 9)] Same (Same _) [isV (.agg X2.cells.toArray), isV (.agg X2.cells.toArray), isV (.agg X2.cells.toArray), isV (.bool true), isV (.bool false), isV (.bool false), isV (.int .i64 (n2 : Nat)), isV (.int .i64 (n2 : Nat)), isV (.bool false), isV (.bool false)] Same.refl.drew (fun _ _ h k => h.trans k) (by simp [isV_stable, isB_stable, isAny_stable]) (by decide) (by decide) ?_ ?_
                · refine ⟨?_, ?_, ?_, ?_, ?_, ?_, ?_, ?_, ?_, ?_, trivial⟩
                  all_goals (intro u wx hI hp; simp only [mkAct, List.foldl_cons, List.foldl_nil, List.setIfInBounds_toArray, List.set_cons_succ, List.set_cons_zero])
                  · -- operation 0
                    go_wp2_with (refine load_row rfl _ _ rfl bx rfl _ _ _ _ (hI.at hx.out) Try.underlying42 rfl ix2.out ?_)
                    refine stq_v rfl Same.refl ?_
                    first | (simp only [mkAct, List.foldl_cons, List.foldl_nil, List.setIfInBounds_toArray, List.set_cons_succ, List.set_cons_zero, upd, reduceIte, Nat.reduceEqDiff, Nat.reduceAdd, str]; done) | (simp [mkAct, upd, str, *]; done)
                  · -- operation 1
                    obtain ⟨f0, -⟩ := hp
                    replace f0 : u 0 = (.agg X2.cells.toArray) := f0
                    try simp only [f0, str]
                    go_wp2_with fail
                    refine (of2.out _).mono ?_
                    rintro e w1 ⟨rfl, hs'⟩
                    go_wp2
                    refine stq_v rfl hs' ?_
                    first | (simp only [mkAct, List.foldl_cons, List.foldl_nil, List.setIfInBounds_toArray, List.set_cons_succ, List.set_cons_zero, upd, reduceIte, Nat.reduceEqDiff, Nat.reduceAdd, f0, str]; done) | (simp [mkAct, upd, f0, str, *]; done)
                  · -- operation 2
                    go_wp2_with (refine load_row rfl _ _ rfl g rfl _ _ _ _ (hI.at hy.out) Try.underlying50 rfl jx2.out ?_)
                    refine stq_v rfl Same.refl ?_
                    first | (simp only [mkAct, List.foldl_cons, List.foldl_nil, List.setIfInBounds_toArray, List.set_cons_succ, List.set_cons_zero, upd, reduceIte, Nat.reduceEqDiff, Nat.reduceAdd, str]; done) | (simp [mkAct, upd, str, *]; done)
                  · -- operation 3
                    obtain ⟨f1, f2, -, -⟩ := hp
                    replace f1 : u 1 = (.agg X2.cells.toArray) := f1
                    replace f2 : u 2 = (.agg X2.cells.toArray) := f2
                    try simp only [f1, f2, str]
                    go_wp2_with fail
                    refine (kss.out X2 _ (SlotV.same' ax.out hI)).mono ?_
                    rintro e w1 ⟨rfl, hs'⟩
                    go_wp2
                    refine stq_v rfl hs' ?_
                    first | (simp only [mkAct, List.foldl_cons, List.foldl_nil, List.setIfInBounds_toArray, List.set_cons_succ, List.set_cons_zero, upd, reduceIte, Nat.reduceEqDiff, Nat.reduceAdd, f1, f2, str]; done) | (simp [mkAct, upd, f1, f2, str, *]; done)
                  · -- operation 4
                    obtain ⟨f3, -⟩ := hp
                    replace f3 : u 3 = (.bool true) := f3
                    try simp only [f3, str]
                    go_wp2
                    refine stq_v rfl Same.refl ?_
                    first | (simp only [mkAct, List.foldl_cons, List.foldl_nil, List.setIfInBounds_toArray, List.set_cons_succ, List.set_cons_zero, upd, reduceIte, Nat.reduceEqDiff, Nat.reduceAdd, f3, str]; done) | (simp [mkAct, upd, f3, str, *]; done)
                  · -- operation 5
                    obtain ⟨f4, -, -⟩ := hp
                    replace f4 : u 4 = (.bool false) := f4
                    try simp only [f4, str]
                    go_wp2
                    refine stq_v rfl Same.refl ?_
                    first | (simp only [mkAct, List.foldl_cons, List.foldl_nil, List.setIfInBounds_toArray, List.set_cons_succ, List.set_cons_zero, upd, reduceIte, Nat.reduceEqDiff, Nat.reduceAdd, f4, str]; done) | (simp [mkAct, upd, f4, str, *]; done)
                  · -- operation 6
                    obtain ⟨f5, -⟩ := hp
                    replace f5 : u 5 = (.bool false) := f5
                    try simp only [f5, str]
                    go_wp2
                    refine stq_v rfl Same.refl ?_
                    first | (simp only [mkAct, List.foldl_cons, List.foldl_nil, List.setIfInBounds_toArray, List.set_cons_succ, List.set_cons_zero, upd, reduceIte, Nat.reduceEqDiff, Nat.reduceAdd, f5, str]; done) | (simp [mkAct, upd, f5, str, *]; done)
                  · -- operation 7
                    obtain ⟨f5, -⟩ := hp
                    replace f5 : u 5 = (.bool false) := f5
                    try simp only [f5, str]
                    go_wp2
                    refine stq_v rfl Same.refl ?_
                    first | (simp only [mkAct, List.foldl_cons, List.foldl_nil, List.setIfInBounds_toArray, List.set_cons_succ, List.set_cons_zero, upd, reduceIte, Nat.reduceEqDiff, Nat.reduceAdd, f5, str]; done) | (simp [mkAct, upd, f5, str, *]; done)
                  · -- operation 8
                    obtain ⟨f6, f7, f5, -⟩ := hp
                    replace f6 : u 6 = (.int .i64 (n2 : Nat)) := f6
                    replace f7 : u 7 = (.int .i64 (n2 : Nat)) := f7
                    replace f5 : u 5 = (.bool false) := f5
                    try simp only [f6, f7, f5, str]
                    go_wp2
                    refine stq_v rfl Same.refl ?_
                    first | (simp only [mkAct, List.foldl_cons, List.foldl_nil, List.setIfInBounds_toArray, List.set_cons_succ, List.set_cons_zero, upd, reduceIte, Nat.reduceEqDiff, Nat.reduceAdd, f6, f7, f5, str]; done) | (simp [mkAct, upd, f6, f7, f5, str, *]; done)
                  · -- operation 9
                    obtain ⟨f5, f8, -⟩ := hp
                    replace f5 : u 5 = (.bool false) := f5
                    replace f8 : u 8 = (.bool false) := f8
                    try simp only [f5, f8, str]
                    go_wp2
                    refine stq_v rfl Same.refl ?_
                    first | (simp only [mkAct, List.foldl_cons, List.foldl_nil, List.setIfInBounds_toArray, List.set_cons_succ, List.set_cons_zero, upd, reduceIte, Nat.reduceEqDiff, Nat.reduceAdd, f5, f8, str]; done) | (simp [mkAct, upd, f5, f8, str, *]; done)
                · intro u wx hI hR
                  obtain ⟨r0, r1, r2, r3, r4, r5, r6, r7, r8, r9, -⟩ := hR
                  replace r0 : u 0 = (.agg X2.cells.toArray) := r0
                  replace r1 : u 1 = (.agg X2.cells.toArray) := r1
                  replace r2 : u 2 = (.agg X2.cells.toArray) := r2
                  replace r3 : u 3 = (.bool true) := r3
                  replace r4 : u 4 = (.bool false) := r4
                  replace r5 : u 5 = (.bool false) := r5
                  replace r6 : u 6 = (.int .i64 (n2 : Nat)) := r6
                  replace r7 : u 7 = (.int .i64 (n2 : Nat)) := r7
                  replace r8 : u 8 = (.bool false) := r8
                  replace r9 : u 9 = (.bool false) := r9
                  simp only [mkAct, List.foldl_cons, List.foldl_nil, List.setIfInBounds_toArray, List.set_cons_succ, List.set_cons_zero]
                  try simp only [str, r0, r1, r2, r3, r4, r5, r6, r7, r8, r9]
                  go_wp2
                  go_meet
                  exact ⟨rfl, hI⟩
              case rest =>
                obtain ⟨rfl, hs'⟩ := hcut
                rename World => wE
                replace hx := Lib.hid (hs'.at hx.out)
                replace hy := Lib.hid (hs'.at hy.out)
                replace s0 := Lib.hid (s0.out.trans hs')
                replace t3 := Lib.hid (t3.out.trans hs')
                clear hs' ax nn
                go_wp2_with (first | (refine load_row rfl _ _ rfl w.heap.size rfl _ _ _ _ (t3.out.at hba.out) Try.underlying42 rfl hinfA.out ?_) | (refine load_row rfl _ _ rfl w1.heap.size rfl _ _ _ _ (t3.out.at hbb.out) Try.underlying26 rfl hinfB.out ?_) | (refine load_row rfl _ _ rfl w2.heap.size rfl _ _ _ _ (t3.out.at hbc.out) Try.underlying33 rfl hinfC.out ?_))
                refine (kD.out _ (SlotV.same' hs.out s0.out) (BatV.same hb.out s0.out) (CertV.same' hc.out s0.out)).mono ?_
                rintro e wp3 ⟨rfl, hs'⟩
                replace hx := Lib.hid (hs'.at hx.out)
                replace hy := Lib.hid (hs'.at hy.out)
                replace s0 := Lib.hid (s0.out.trans hs')
                replace t3 := Lib.hid (t3.out.trans hs')
                have lx := blk_lt hx.out
                have lg := blk_lt hy.out
                have hne : bx ≠ g := fun e => by
                  have h1 := hx.out
                  rw [e, hy.out] at h1
                  injection h1 with h1
                  injection h1 with h1 h2
                  revert h2
                  decide
                have q3 := t3.out.size
                clear hs' kD
                go_upto_region 12 with (refine store_row rfl _ _ _ rfl bx X3.cells.toArray rfl rfl _ _ hx.out ix3.out (slot_size wx2.out wx3.out) (slot_one X3) ?_; intro wq3 hx9 hk9; replace hx9 := Lib.hid hx9; replace hk9 := Lib.hid hk9)
                replace hy := Lib.hid ((hk9.out.block _ lg (fun e => hne e.symm)).trans hy.out)
                replace hx := hx9
                clear hx9
                replace s0 := Lib.hid (s0.out.keep hk9.out (fun x hx hv => by omega))
                replace t3 := Lib.hid (t3.out.keep hk9.out (fun x hx hv => by omega))
                clear hk9
                have lg := blk_lt hy.out
                have lx := blk_lt hx.out
                go_simp
                go_cut [14] (fun v2 wx => v2 = .int .i64 (n3 : Nat) ∧ wx.heap[g]? = some (.cells X3.cells.toArray 50 (0, 0)) ∧ Keep (· = g) wq3 wx)
                case first =>
                  refine wp_region_mut (by kernel_rfl) [(93, 0), (94, 1), (95, 2), (96, 3), (97, 4), (92, 5), (98, 6), (99, 7), (14, 9)] [(8, (Keep (· = g)))] [(8, [8]), (1000, [8])] [0, 1, 2, 3, 4, 5, 6, 7, 8, 9] [[], [0], [], [], [1, 2, 3], [4], [5], [5], [6, 1000], [7]] Same (Keep (· = g) wq3) [(rowAt g X2.cells 50)] [isV (.agg s.cells.toArray), isV (.agg s.cells.toArray), isV (.agg b.cells.toArray), isV (.agg c.cells.toArray), isV (.tuple #[.agg X3.cells.toArray, .int .i64 (n3 : Nat)]), isV (.tuple #[.agg X3.cells.toArray, .int .i64 (n3 : Nat)]), isV (.agg X3.cells.toArray), isV (.int .i64 (n3 : Nat)), isRA g X3.cells 50, isV (.int .i64 (n3 : Nat))] (Keep.drew) (by intro g hg; simp only [List.mem_cons, List.not_mem_nil, or_false] at hg; obtain rfl := hg; exact hy.out) (fun _ _ h k => h.trans (Keep.of_same k) (fun _ _ hq => hq)) (by intro g hg; simp only [List.mem_cons, List.not_mem_nil, or_false] at hg; obtain rfl := hg; exact (fun _ _ h k => h.trans k (fun _ _ hq => hq))) (by simp [isV_stable, isB_stable, isAny_stable, isRA_stable]) (by intro g hg; simp only [List.mem_cons, List.not_mem_nil, or_false] at hg; obtain rfl := hg; exact (fun _ _ k h => k.at h)) (by simp [killsOf, List.zipIdx_cons, isV_stable, isAny_stable]) (by simp [killsOf, List.zipIdx_cons]) (by decide) (l := [_, _, _, _, _, _, _, _, _, _]) rfl (by decide) (by kernel_rfl) (by kernel_rfl) (by kernel_rfl) (by decide) ?_ ?_
                  · refine ⟨?_, ?_, ?_, ?_, ?_, ?_, ?_, ?_, ?_, ?_, trivial⟩
                    all_goals (intro u wx hI hp; simp only [mkAct, List.foldl_cons, List.foldl_nil, List.setIfInBounds_toArray, List.set_cons_succ, List.set_cons_zero])
                    · -- operation 0
                      go_wp2_with (refine load_row rfl _ _ rfl w.heap.size rfl _ _ _ _ ((hI.block _ (by omega) (by omega)).trans (t3.out.at hba.out)) Try.underlying42 rfl hinfA.out ?_)
                      refine stg_v (x := (.agg s.cells.toArray)) rfl Same.refl ?_
                      first | (simp only [mkAct, List.foldl_cons, List.foldl_nil, List.setIfInBounds_toArray, List.set_cons_succ, List.set_cons_zero, upd, reduceIte, Nat.reduceEqDiff, Nat.reduceAdd, str]; done) | (simp [mkAct, upd, str, *]; done)
                    · -- operation 1
                      obtain ⟨f0, -⟩ := hp
                      replace f0 : u 0 = (.agg s.cells.toArray) := f0
                      try simp only [f0, str]
                      go_wp2_with fail
                      refine (ofs.out _).mono ?_
                      rintro e w1 ⟨rfl, hs'⟩
                      go_wp2
                      refine stg_v (x := (.agg s.cells.toArray)) rfl hs' ?_
                      first | (simp only [mkAct, List.foldl_cons, List.foldl_nil, List.setIfInBounds_toArray, List.set_cons_succ, List.set_cons_zero, upd, reduceIte, Nat.reduceEqDiff, Nat.reduceAdd, f0, str]; done) | (simp [mkAct, upd, f0, str, *]; done)
                    · -- operation 2
                      go_wp2_with (refine load_row rfl _ _ rfl w1.heap.size rfl _ _ _ _ ((hI.block _ (by omega) (by omega)).trans (t3.out.at hbb.out)) Try.underlying26 rfl hinfB.out ?_)
                      refine stg_v (x := (.agg b.cells.toArray)) rfl Same.refl ?_
                      first | (simp only [mkAct, List.foldl_cons, List.foldl_nil, List.setIfInBounds_toArray, List.set_cons_succ, List.set_cons_zero, upd, reduceIte, Nat.reduceEqDiff, Nat.reduceAdd, str]; done) | (simp [mkAct, upd, str, *]; done)
                    · -- operation 3
                      go_wp2_with (refine load_row rfl _ _ rfl w2.heap.size rfl _ _ _ _ ((hI.block _ (by omega) (by omega)).trans (t3.out.at hbc.out)) Try.underlying33 rfl hinfC.out ?_)
                      refine stg_v (x := (.agg c.cells.toArray)) rfl Same.refl ?_
                      first | (simp only [mkAct, List.foldl_cons, List.foldl_nil, List.setIfInBounds_toArray, List.set_cons_succ, List.set_cons_zero, upd, reduceIte, Nat.reduceEqDiff, Nat.reduceAdd, str]; done) | (simp [mkAct, upd, str, *]; done)
                    · -- operation 4
                      obtain ⟨f1, f2, f3, -⟩ := hp
                      replace f1 : u 1 = (.agg s.cells.toArray) := f1
                      replace f2 : u 2 = (.agg b.cells.toArray) := f2
                      replace f3 : u 3 = (.agg c.cells.toArray) := f3
                      try simp only [f1, f2, f3, str]
                      go_wp2_with fail
                      refine (rD.out _ (SlotV.same' hs.out (s0.out.keep hI (fun x hx hv => by omega))) (BatV.same hb.out (s0.out.keep hI (fun x hx hv => by omega))) (CertV.same' hc.out (s0.out.keep hI (fun x hx hv => by omega)))).mono ?_
                      rintro e w1 ⟨rfl, hs'⟩
                      go_wp2
                      refine stg_v (x := (.tuple #[.agg X3.cells.toArray, .int .i64 (n3 : Nat)])) rfl hs' ?_
                      first | (simp only [mkAct, List.foldl_cons, List.foldl_nil, List.setIfInBounds_toArray, List.set_cons_succ, List.set_cons_zero, upd, reduceIte, Nat.reduceEqDiff, Nat.reduceAdd, f1, f2, f3, str]; done) | (simp [mkAct, upd, f1, f2, f3, str, *]; done)
                    · -- operation 5
                      obtain ⟨f4, -⟩ := hp
                      replace f4 : u 4 = (.tuple #[.agg X3.cells.toArray, .int .i64 (n3 : Nat)]) := f4
                      try simp only [f4, str]
                      go_wp2
                      refine stg_v (x := (.tuple #[.agg X3.cells.toArray, .int .i64 (n3 : Nat)])) rfl Same.refl ?_
                      first | (simp only [mkAct, List.foldl_cons, List.foldl_nil, List.setIfInBounds_toArray, List.set_cons_succ, List.set_cons_zero, upd, reduceIte, Nat.reduceEqDiff, Nat.reduceAdd, f4, str]; done) | (simp [mkAct, upd, f4, str, *]; done)
                    · -- operation 6
                      obtain ⟨f5, -⟩ := hp
                      replace f5 : u 5 = (.tuple #[.agg X3.cells.toArray, .int .i64 (n3 : Nat)]) := f5
                      try simp only [f5, str]
                      go_wp2
                      refine stg_v (x := (.agg X3.cells.toArray)) rfl Same.refl ?_
                      first | (simp only [mkAct, List.foldl_cons, List.foldl_nil, List.setIfInBounds_toArray, List.set_cons_succ, List.set_cons_zero, upd, reduceIte, Nat.reduceEqDiff, Nat.reduceAdd, f5, str]; done) | (simp [mkAct, upd, f5, str, *]; done)
                    · -- operation 7
                      obtain ⟨f5, -⟩ := hp
                      replace f5 : u 5 = (.tuple #[.agg X3.cells.toArray, .int .i64 (n3 : Nat)]) := f5
                      try simp only [f5, str]
                      go_wp2
                      refine stg_v (x := (.int .i64 (n3 : Nat))) rfl Same.refl ?_
                      first | (simp only [mkAct, List.foldl_cons, List.foldl_nil, List.setIfInBounds_toArray, List.set_cons_succ, List.set_cons_zero, upd, reduceIte, Nat.reduceEqDiff, Nat.reduceAdd, f5, str]; done) | (simp [mkAct, upd, f5, str, *]; done)
                    · -- operation 8
                      obtain ⟨f6, fG0, -⟩ := hp
                      replace f6 : u 6 = (.agg X3.cells.toArray) := f6
                      try simp only [f6, str]
                      go_wp2_with (refine store_row rfl _ _ _ rfl g _ rfl rfl _ _ fG0 jx3.out (slot_size wx2.out wx3.out) (slot_one X3) ?_; intro wb hb4 hk4)
                      refine stg_v (x := undef) hb4 hk4 ?_
                      first | (simp only [mkAct, List.foldl_cons, List.foldl_nil, List.setIfInBounds_toArray, List.set_cons_succ, List.set_cons_zero, upd, reduceIte, Nat.reduceEqDiff, Nat.reduceAdd, f6, str]; done) | (simp [mkAct, upd, f6, str, *]; done)
                    · -- operation 9
                      obtain ⟨f7, -⟩ := hp
                      replace f7 : u 7 = (.int .i64 (n3 : Nat)) := f7
                      try simp only [f7, str]
                      go_wp2
                      refine stg_v (x := (.int .i64 (n3 : Nat))) rfl Same.refl ?_
                      first | (simp only [mkAct, List.foldl_cons, List.foldl_nil, List.setIfInBounds_toArray, List.set_cons_succ, List.set_cons_zero, upd, reduceIte, Nat.reduceEqDiff, Nat.reduceAdd, f7, str]; done) | (simp [mkAct, upd, f7, str, *]; done)
                  · intro u wx hI hR
                    obtain ⟨r0, r1, r2, r3, r4, r5, r6, r7, r8, r9, -⟩ := hR
                    replace r0 : u 0 = (.agg s.cells.toArray) := r0
                    replace r1 : u 1 = (.agg s.cells.toArray) := r1
                    replace r2 : u 2 = (.agg b.cells.toArray) := r2
                    replace r3 : u 3 = (.agg c.cells.toArray) := r3
                    replace r4 : u 4 = (.tuple #[.agg X3.cells.toArray, .int .i64 (n3 : Nat)]) := r4
                    replace r5 : u 5 = (.tuple #[.agg X3.cells.toArray, .int .i64 (n3 : Nat)]) := r5
                    replace r6 : u 6 = (.agg X3.cells.toArray) := r6
                    replace r7 : u 7 = (.int .i64 (n3 : Nat)) := r7
                    replace r9 : u 9 = (.int .i64 (n3 : Nat)) := r9
                    simp only [mkAct, List.foldl_cons, List.foldl_nil, List.setIfInBounds_toArray, List.set_cons_succ, List.set_cons_zero]
                    try simp only [str, r0, r1, r2, r3, r4, r5, r6, r7, r9]
                    go_wp2
                    go_meet
                    exact ⟨rfl, r8, hI⟩
                case rest =>
                  obtain ⟨rfl, hy9, hk⟩ := hcut
                  rename World => wr3
                  replace hx := Lib.hid ((hk.block _ lx hne).trans hx.out)
                  replace hy := hy9
                  clear hy9
                  replace s0 := Lib.hid (s0.out.keep hk (fun x hx hv => by omega))
                  replace t3 := Lib.hid (t3.out.keep hk (fun x hx hv => by omega))
                  clear hk hne lx lg
                  have hs' := Same.refl (w := wr3)
                  replace hx := Lib.hid (hs'.at hx.out)
                  replace hy := Lib.hid hy
                  replace s0 := Lib.hid (s0.out.trans hs')
                  replace t3 := Lib.hid (t3.out.trans hs')
                  clear hs'
                  have ax := Lib.hid (SlotV.same' ax3.out s0.out)
                  have nn : ((n3 : Int) != (n3 : Int)) = false := by simp
                  go_upto_region 13 with fail
                  go_cut [109] (fun v wx => v = .bool false ∧ Same wr3 wx)
                  case first =>
                    refine wp_region_facts (by kernel_rfl) [(100, 0), (101, 1), (102, 2), (103, 3), (104, 4), (105, 5), (106, 6), (107, 7), (108, 8), (109, 9)] Same (Same _) [isV (.agg X3.cells.toArray), isV (.agg X3.cells.toArray), isV (.agg X3.cells.toArray), isV (.bool true), isV (.bool false), isV (.bool false), isV (.int .i64 (n3 : Nat)), isV (.int .i64 (n3 : Nat)), isV (.bool false), isV (.bool false)] Same.refl.drew (fun _ _ h k => h.trans k) (by simp [isV_stable, isB_stable, isAny_stable]) (by decide) (by decide) ?_ ?_
                    · refine ⟨?_, ?_, ?_, ?_, ?_, ?_, ?_, ?_, ?_, ?_, trivial⟩
                      all_goals (intro u wx hI hp; simp only [mkAct, List.foldl_cons, List.foldl_nil, List.setIfInBounds_toArray, List.set_cons_succ, List.set_cons_zero])
                      · -- operation 0
                        go_wp2_with (refine load_row rfl _ _ rfl bx rfl _ _ _ _ (hI.at hx.out) Try.underlying42 rfl ix3.out ?_)
                        refine stq_v rfl Same.refl ?_
                        first | (simp only [mkAct, List.foldl_cons, List.foldl_nil, List.setIfInBounds_toArray, List.set_cons_succ, List.set_cons_zero, upd, reduceIte, Nat.reduceEqDiff, Nat.reduceAdd, str]; done) | (simp [mkAct, upd, str, *]; done)
                      · -- operation 1
                        obtain ⟨f0, -⟩ := hp
                        replace f0 : u 0 = (.agg X3.cells.toArray) := f0
                        try simp only [f0, str]
                        go_wp2_with fail
                        refine (of3.out _).mono ?_
                        rintro e w1 ⟨rfl, hs'⟩
                        go_wp2
                        refine stq_v rfl hs' ?_
                        first | (simp only [mkAct, List.foldl_cons, List.foldl_nil, List.setIfInBounds_toArray, List.set_cons_succ, List.set_cons_zero, upd, reduceIte, Nat.reduceEqDiff, Nat.reduceAdd, f0, str]; done) | (simp [mkAct, upd, f0, str, *]; done)
                      · -- operation 2
                        go_wp2_with (refine load_row rfl _ _ rfl g rfl _ _ _ _ (hI.at hy.out) Try.underlying50 rfl jx3.out ?_)
                        refine stq_v rfl Same.refl ?_
                        first | (simp only [mkAct, List.foldl_cons, List.foldl_nil, List.setIfInBounds_toArray, List.set_cons_succ, List.set_cons_zero, upd, reduceIte, Nat.reduceEqDiff, Nat.reduceAdd, str]; done) | (simp [mkAct, upd, str, *]; done)
                      · -- operation 3
                        obtain ⟨f1, f2, -, -⟩ := hp
                        replace f1 : u 1 = (.agg X3.cells.toArray) := f1
                        replace f2 : u 2 = (.agg X3.cells.toArray) := f2
                        try simp only [f1, f2, str]
                        go_wp2_with fail
                        refine (kss.out X3 _ (SlotV.same' ax.out hI)).mono ?_
                        rintro e w1 ⟨rfl, hs'⟩
                        go_wp2
                        refine stq_v rfl hs' ?_
                        first | (simp only [mkAct, List.foldl_cons, List.foldl_nil, List.setIfInBounds_toArray, List.set_cons_succ, List.set_cons_zero, upd, reduceIte, Nat.reduceEqDiff, Nat.reduceAdd, f1, f2, str]; done) | (simp [mkAct, upd, f1, f2, str, *]; done)
                      · -- operation 4
                        obtain ⟨f3, -⟩ := hp
                        replace f3 : u 3 = (.bool true) := f3
                        try simp only [f3, str]
                        go_wp2
                        refine stq_v rfl Same.refl ?_
                        first | (simp only [mkAct, List.foldl_cons, List.foldl_nil, List.setIfInBounds_toArray, List.set_cons_succ, List.set_cons_zero, upd, reduceIte, Nat.reduceEqDiff, Nat.reduceAdd, f3, str]; done) | (simp [mkAct, upd, f3, str, *]; done)
                      · -- operation 5
                        obtain ⟨f4, -, -⟩ := hp
                        replace f4 : u 4 = (.bool false) := f4
                        try simp only [f4, str]
                        go_wp2
                        refine stq_v rfl Same.refl ?_
                        first | (simp only [mkAct, List.foldl_cons, List.foldl_nil, List.setIfInBounds_toArray, List.set_cons_succ, List.set_cons_zero, upd, reduceIte, Nat.reduceEqDiff, Nat.reduceAdd, f4, str]; done) | (simp [mkAct, upd, f4, str, *]; done)
                      · -- operation 6
                        obtain ⟨f5, -⟩ := hp
                        replace f5 : u 5 = (.bool false) := f5
                        try simp only [f5, str]
                        go_wp2
                        refine stq_v rfl Same.refl ?_
                        first | (simp only [mkAct, List.foldl_cons, List.foldl_nil, List.setIfInBounds_toArray, List.set_cons_succ, List.set_cons_zero, upd, reduceIte, Nat.reduceEqDiff, Nat.reduceAdd, f5, str]; done) | (simp [mkAct, upd, f5, str, *]; done)
                      · -- operation 7
                        obtain ⟨f5, -⟩ := hp
                        replace f5 : u 5 = (.bool false) := f5
                        try simp only [f5, str]
                        go_wp2
                        refine stq_v rfl Same.refl ?_
                        first | (simp only [mkAct, List.foldl_cons, List.foldl_nil, List.setIfInBounds_toArray, List.set_cons_succ, List.set_cons_zero, upd, reduceIte, Nat.reduceEqDiff, Nat.reduceAdd, f5, str]; done) | (simp [mkAct, upd, f5, str, *]; done)
                      · -- operation 8
                        obtain ⟨f6, f7, f5, -⟩ := hp
                        replace f6 : u 6 = (.int .i64 (n3 : Nat)) := f6
                        replace f7 : u 7 = (.int .i64 (n3 : Nat)) := f7
                        replace f5 : u 5 = (.bool false) := f5
                        try simp only [f6, f7, f5, str]
                        go_wp2
                        refine stq_v rfl Same.refl ?_
                        first | (simp only [mkAct, List.foldl_cons, List.foldl_nil, List.setIfInBounds_toArray, List.set_cons_succ, List.set_cons_zero, upd, reduceIte, Nat.reduceEqDiff, Nat.reduceAdd, f6, f7, f5, str]; done) | (simp [mkAct, upd, f6, f7, f5, str, *]; done)
                      · -- operation 9
                        obtain ⟨f5, f8, -⟩ := hp
                        replace f5 : u 5 = (.bool false) := f5
                        replace f8 : u 8 = (.bool false) := f8
                        try simp only [f5, f8, str]
                        go_wp2
                        refine stq_v rfl Same.refl ?_
                        first | (simp only [mkAct, List.foldl_cons, List.foldl_nil, List.setIfInBounds_toArray, List.set_cons_succ, List.set_cons_zero, upd, reduceIte, Nat.reduceEqDiff, Nat.reduceAdd, f5, f8, str]; done) | (simp [mkAct, upd, f5, f8, str, *]; done)
                    · intro u wx hI hR
                      obtain ⟨r0, r1, r2, r3, r4, r5, r6, r7, r8, r9, -⟩ := hR
                      replace r0 : u 0 = (.agg X3.cells.toArray) := r0
                      replace r1 : u 1 = (.agg X3.cells.toArray) := r1
                      replace r2 : u 2 = (.agg X3.cells.toArray) := r2
                      replace r3 : u 3 = (.bool true) := r3
                      replace r4 : u 4 = (.bool false) := r4
                      replace r5 : u 5 = (.bool false) := r5
                      replace r6 : u 6 = (.int .i64 (n3 : Nat)) := r6
                      replace r7 : u 7 = (.int .i64 (n3 : Nat)) := r7
                      replace r8 : u 8 = (.bool false) := r8
                      replace r9 : u 9 = (.bool false) := r9
                      simp only [mkAct, List.foldl_cons, List.foldl_nil, List.setIfInBounds_toArray, List.set_cons_succ, List.set_cons_zero]
                      try simp only [str, r0, r1, r2, r3, r4, r5, r6, r7, r8, r9]
                      go_wp2
                      go_meet
                      exact ⟨rfl, hI⟩
                  case rest =>
                    obtain ⟨rfl, hs'⟩ := hcut
                    rename World => wG
                    replace hx := Lib.hid (hs'.at hx.out)
                    replace hy := Lib.hid (hs'.at hy.out)
                    replace s0 := Lib.hid (s0.out.trans hs')
                    replace t3 := Lib.hid (t3.out.trans hs')
                    clear hs' ax nn
                    go_wp2_with (first | (refine load_row rfl _ _ rfl w.heap.size rfl _ _ _ _ (t3.out.at hba.out) Try.underlying42 rfl hinfA.out ?_) | (refine load_mid rfl _ _ rfl w2.heap.size 4 rfl (bv D) _ (t3.out.range hdg.out) Try.underlying28 rfl hinfD.out ?_))
                    refine (kK.out _ (SlotV.same' hs.out s0.out)).mono ?_
                    rintro e wh ⟨rfl, hs'⟩
                    replace s0 := Lib.hid (s0.out.trans hs')
                    replace t3 := Lib.hid (t3.out.trans hs')
                    clear hs' kK hx hy
                    go_upto_region 16 with (first | (refine alloc_new rfl 26 rfl zeroBat.cells.toArray (by kernel_rfl) ?_; intro wi hz hsi; have li := blk_lt hz; replace hz := Lib.hid hz; replace hsi := Lib.hid hsi) | (refine store_row rfl _ _ _ rfl wh.heap.size K.cells.toArray rfl rfl _ _ hz.out iK.out rfl (bat_one K) ?_; intro wj hx hkj; replace hx := Lib.hid hx; replace hkj := Lib.hid hkj))
                    have hs' : Same wh wj := hsi.out.keep hkj.out (fun x hx hv => by omega)
                    replace s0 := Lib.hid (s0.out.trans hs')
                    replace t3 := Lib.hid (t3.out.trans hs')
                    clear hs' hkj hsi hz
                    go_simp
                    have q3 := t3.out.size
                    go_cut [17, 18] (fun v1 v2 wx => ∃ g, v1 = .pointer (some ⟨g, 0, none⟩) ∧ v2 = .bool kq ∧ wj.heap.size ≤ g ∧ wx.heap[g]? = some (.cells K.cells.toArray 26 (0, 0)) ∧ Same wj wx)
                    case first =>
                      refine wp_region_mutL (by kernel_rfl) [(119, 0), (120, 1), (121, 2), (122, 3), (123, 4), (124, 5), (118, 6), (125, 7), (126, 8), (17, 9)] [(10, (Keep (fun k => wj.heap.size ≤ k)))] [(9, [10]), (10, [10])] [(10, 9)] [0, 1, 2, 3, 4, 5, 6, 7, 8, 10] [[], [0], [], [2], [3], [1, 4], [5], [6], [6], [], [9, 7]] Same (Same _) [] [isV (.agg s.cells.toArray), isV (.agg s.cells.toArray), isV (.pointer (some ⟨w2.heap.size, 0, none⟩)), isV (.pointer (some ⟨w2.heap.size, 4, none⟩)), isV (.agg (bv D).toArray), isV (.tuple #[.agg K.cells.toArray, .bool kq]), isV (.tuple #[.agg K.cells.toArray, .bool kq]), isV (.agg K.cells.toArray), isV (.bool kq), isCe wj.heap.size zeroBat.cells 26, isCe wj.heap.size K.cells 26] (Same.refl.drew) (by simp) (fun _ _ h k => h.trans k) (by intro g hg; simp only [List.mem_cons, List.not_mem_nil, or_false] at hg; obtain rfl := hg; exact (fun _ _ h k => h.keep k (fun x hx hv => by omega))) (by simp [isV_stable, isB_stable, isAny_stable, isCe_stable]) (by simp) (by simp [killsOf, List.zipIdx_cons, isV_stable, isAny_stable]) (by simp [killsOf, List.zipIdx_cons]) (by decide) (l := [_, _, _, _, _, _, _, _, _, _, _]) rfl (by decide) (by kernel_rfl) (by kernel_rfl) (by kernel_rfl) (by decide) (by kernel_rfl) ?_ ?_
                      · refine ⟨?_, ?_, ?_, ?_, ?_, ?_, ?_, ?_, ?_, ?_, ?_, trivial⟩
                        all_goals (intro u wx hI hp; simp only [mkAct, List.foldl_cons, List.foldl_nil, List.setIfInBounds_toArray, List.set_cons_succ, List.set_cons_zero])
                        · -- operation 0
                          go_wp2_with (refine load_row rfl _ _ rfl w.heap.size rfl _ _ _ _ ((t3.out.trans hI).at hba.out) Try.underlying42 rfl hinfA.out ?_)
                          refine stl_v (x := (.agg s.cells.toArray)) rfl (by decide) Same.refl ?_
                          first | (simp only [mkAct, List.foldl_cons, List.foldl_nil, List.setIfInBounds_toArray, List.set_cons_succ, List.set_cons_zero, upd, reduceIte, Nat.reduceEqDiff, Nat.reduceAdd, str]; done) | (simp [mkAct, upd, str, *]; done)
                        · -- operation 1
                          obtain ⟨f0, -⟩ := hp
                          replace f0 : u 0 = (.agg s.cells.toArray) := f0
                          try simp only [f0, str]
                          go_wp2_with fail
                          refine (ofs.out _).mono ?_
                          rintro e w1 ⟨rfl, hs'⟩
                          go_wp2
                          refine stl_v (x := (.agg s.cells.toArray)) rfl (by decide) hs' ?_
                          first | (simp only [mkAct, List.foldl_cons, List.foldl_nil, List.setIfInBounds_toArray, List.set_cons_succ, List.set_cons_zero, upd, reduceIte, Nat.reduceEqDiff, Nat.reduceAdd, f0, str]; done) | (simp [mkAct, upd, f0, str, *]; done)
                        · -- operation 2
                          go_wp2
                          refine stl_v (x := (.pointer (some ⟨w2.heap.size, 0, none⟩))) rfl (by decide) Same.refl ?_
                          first | (simp only [mkAct, List.foldl_cons, List.foldl_nil, List.setIfInBounds_toArray, List.set_cons_succ, List.set_cons_zero, upd, reduceIte, Nat.reduceEqDiff, Nat.reduceAdd, str]; done) | (simp [mkAct, upd, str, *]; done)
                        · -- operation 3
                          obtain ⟨f2, -⟩ := hp
                          replace f2 : u 2 = (.pointer (some ⟨w2.heap.size, 0, none⟩)) := f2
                          try simp only [f2, str]
                          go_wp2
                          refine stl_v (x := (.pointer (some ⟨w2.heap.size, 4, none⟩))) rfl (by decide) Same.refl ?_
                          first | (simp only [mkAct, List.foldl_cons, List.foldl_nil, List.setIfInBounds_toArray, List.set_cons_succ, List.set_cons_zero, upd, reduceIte, Nat.reduceEqDiff, Nat.reduceAdd, f2, str]; done) | (simp [mkAct, upd, f2, str, *]; done)
                        · -- operation 4
                          obtain ⟨f3, -⟩ := hp
                          replace f3 : u 3 = (.pointer (some ⟨w2.heap.size, 4, none⟩)) := f3
                          try simp only [f3, str]
                          go_wp2_with (refine load_mid rfl _ _ rfl w2.heap.size 4 rfl (bv D) _ ((t3.out.trans hI).range hdg.out) Try.underlying28 rfl hinfD.out ?_)
                          refine stl_v (x := (.agg (bv D).toArray)) rfl (by decide) Same.refl ?_
                          first | (simp only [mkAct, List.foldl_cons, List.foldl_nil, List.setIfInBounds_toArray, List.set_cons_succ, List.set_cons_zero, upd, reduceIte, Nat.reduceEqDiff, Nat.reduceAdd, f3, str]; done) | (simp [mkAct, upd, f3, str, *]; done)
                        · -- operation 5
                          obtain ⟨f1, f4, -⟩ := hp
                          replace f1 : u 1 = (.agg s.cells.toArray) := f1
                          replace f4 : u 4 = (.agg (bv D).toArray) := f4
                          try simp only [f1, f4, str]
                          go_wp2_with fail
                          refine (rK.out _ (SlotV.same' hs.out (s0.out.trans hI))).mono ?_
                          rintro e w1 ⟨rfl, hs'⟩
                          go_wp2
                          refine stl_v (x := (.tuple #[.agg K.cells.toArray, .bool kq])) rfl (by decide) hs' ?_
                          first | (simp only [mkAct, List.foldl_cons, List.foldl_nil, List.setIfInBounds_toArray, List.set_cons_succ, List.set_cons_zero, upd, reduceIte, Nat.reduceEqDiff, Nat.reduceAdd, f1, f4, str]; done) | (simp [mkAct, upd, f1, f4, str, *]; done)
                        · -- operation 6
                          obtain ⟨f5, -⟩ := hp
                          replace f5 : u 5 = (.tuple #[.agg K.cells.toArray, .bool kq]) := f5
                          try simp only [f5, str]
                          go_wp2
                          refine stl_v (x := (.tuple #[.agg K.cells.toArray, .bool kq])) rfl (by decide) Same.refl ?_
                          first | (simp only [mkAct, List.foldl_cons, List.foldl_nil, List.setIfInBounds_toArray, List.set_cons_succ, List.set_cons_zero, upd, reduceIte, Nat.reduceEqDiff, Nat.reduceAdd, f5, str]; done) | (simp [mkAct, upd, f5, str, *]; done)
                        · -- operation 7
                          obtain ⟨f6, -⟩ := hp
                          replace f6 : u 6 = (.tuple #[.agg K.cells.toArray, .bool kq]) := f6
                          try simp only [f6, str]
                          go_wp2
                          refine stl_v (x := (.agg K.cells.toArray)) rfl (by decide) Same.refl ?_
                          first | (simp only [mkAct, List.foldl_cons, List.foldl_nil, List.setIfInBounds_toArray, List.set_cons_succ, List.set_cons_zero, upd, reduceIte, Nat.reduceEqDiff, Nat.reduceAdd, f6, str]; done) | (simp [mkAct, upd, f6, str, *]; done)
                        · -- operation 8
                          obtain ⟨f6, -⟩ := hp
                          replace f6 : u 6 = (.tuple #[.agg K.cells.toArray, .bool kq]) := f6
                          try simp only [f6, str]
                          go_wp2
                          refine stl_v (x := (.bool kq)) rfl (by decide) Same.refl ?_
                          first | (simp only [mkAct, List.foldl_cons, List.foldl_nil, List.setIfInBounds_toArray, List.set_cons_succ, List.set_cons_zero, upd, reduceIte, Nat.reduceEqDiff, Nat.reduceAdd, f6, str]; done) | (simp [mkAct, upd, f6, str, *]; done)
                        · -- operation 9
                          go_wp2_with (refine alloc_new rfl 26 rfl zeroBat.cells.toArray (by kernel_rfl) ?_; intro wb hb4 hs4)
                          refine stl_v (x := (.pointer (some ⟨wx.heap.size, 0, none⟩))) ⟨_, rfl, hI.size, hb4⟩ (by decide) hs4 ?_
                          first | (simp only [mkAct, List.foldl_cons, List.foldl_nil, List.setIfInBounds_toArray, List.set_cons_succ, List.set_cons_zero, upd, reduceIte, Nat.reduceEqDiff, Nat.reduceAdd, str]; done) | (simp [mkAct, upd, str, *]; done)
                        · -- operation 10
                          obtain ⟨f9, f7, -⟩ := hp
                          replace f7 : u 7 = (.agg K.cells.toArray) := f7
                          try simp only [f7, str]
                          obtain ⟨g, f9, hg, hbg⟩ := f9
                          try simp only [f9]
                          replace hbg := Lib.hid hbg
                          go_wp2_with (refine store_row rfl _ _ _ rfl g _ rfl rfl _ _ hbg.out iK.out rfl (bat_one K) ?_; intro wb hb4 hk4)
                          refine stl_l (x := .pointer (some ⟨g, 0, none⟩)) ⟨g, rfl, hg, hb4⟩ (by intro p hp hpi; simp only [List.mem_cons, List.not_mem_nil, or_false] at hp; subst hp; exact f9.symm) (hk4.mono (fun x _ hx => by subst hx; exact hg)) ?_
                          simp [mkAct, upd, f9, f7]
                      · intro u wx hI hR hL
                        obtain ⟨r0, r1, r2, r3, r4, r5, r6, r7, r8, r10, -⟩ := hR
                        replace r0 : u 0 = (.agg s.cells.toArray) := r0
                        replace r1 : u 1 = (.agg s.cells.toArray) := r1
                        replace r2 : u 2 = (.pointer (some ⟨w2.heap.size, 0, none⟩)) := r2
                        replace r3 : u 3 = (.pointer (some ⟨w2.heap.size, 4, none⟩)) := r3
                        replace r4 : u 4 = (.agg (bv D).toArray) := r4
                        replace r5 : u 5 = (.tuple #[.agg K.cells.toArray, .bool kq]) := r5
                        replace r6 : u 6 = (.tuple #[.agg K.cells.toArray, .bool kq]) := r6
                        replace r7 : u 7 = (.agg K.cells.toArray) := r7
                        replace r8 : u 8 = (.bool kq) := r8
                        simp only [mkAct, List.foldl_cons, List.foldl_nil, List.setIfInBounds_toArray, List.set_cons_succ, List.set_cons_zero]
                        try simp only [str, r0, r1, r2, r3, r4, r5, r6, r7, r8]
                        obtain ⟨g, r10, hg, hbg⟩ := r10
                        have r9 : u 9 = .pointer (some ⟨g, 0, none⟩) := (hL (10, 9) (by simp)).symm.trans r10
                        simp only [r9]
                        replace hbg := Lib.hid hbg
                        clear r9 r10 hL
                        go_wp2
                        go_meet
                        exact ⟨g, rfl, rfl, hg, hbg.out, hI⟩
                    case rest =>
                      obtain ⟨g, rfl, rfl, hg, hy, hs'⟩ := hcut
                      rename World => wk
                      replace hx := Lib.hid (hs'.at hx.out)
                      replace hy := Lib.hid hy
                      replace s0 := Lib.hid (s0.out.trans hs')
                      replace t3 := Lib.hid (t3.out.trans hs')
                      clear hs' hg
                      have ak := Lib.hid (K.same aK.out s0.out)
                      have as' := Lib.hid (SlotV.same' hs.out s0.out)
                      have ao' := Lib.hid (SlotV.same' ho.out s0.out)
                      have g1 : (kq == kq) = true := by simp
                      have g2 : (V == V) = true := by simp
                      replace g1 := Lib.hid g1
                      replace g2 := Lib.hid g2
                      go_upto_region 17 with fail
                      refine wp_region_last (by kernel_rfl) [(127, 0), (128, 1), (129, 2), (130, 3), (131, 4), (132, 5), (133, 6), (134, 7), (135, 8), (136, 9), (137, 10), (138, 11), (139, 12), (140, 13), (141, 14), (142, 15), (143, 16), (144, 17), (145, 18), (146, 19), (147, 20), (148, 21), (10, 22)] Same (Same _) [isV (.agg K.cells.toArray), isV (.agg K.cells.toArray), isV (.bool true), isV (.bool true), isV (.bool kq), isV (.bool kq), isV (.bool true), isV (.bool true), isV (.bool true), isV (.agg s.cells.toArray), isV (.agg o.cells.toArray), isV (.bool V), isV (.agg s.cells.toArray), isV (.agg s.cells.toArray), isV (.agg o.cells.toArray), isV (.agg o.cells.toArray), isV (.bool V), isV (.bool true), isV (.bool true), isV (.bool true), isV (.bool true), isV (.bool true)] Same.refl.drew (fun _ _ h k => h.trans k) (by simp [isV_stable, isB_stable, isAny_stable]) (by decide) (l := [_, _, _, _, _, _, _, _, _, _, _, _, _, _, _, _, _, _, _, _, _, _]) rfl (by decide) (by decide) ?_ ?_
                      · refine ⟨?_, ?_, ?_, ?_, ?_, ?_, ?_, ?_, ?_, ?_, ?_, ?_, ?_, ?_, ?_, ?_, ?_, ?_, ?_, ?_, ?_, ?_, trivial⟩
                        all_goals (intro u wx hI hp; simp only [mkAct, List.foldl_cons, List.foldl_nil, List.setIfInBounds_toArray, List.set_cons_succ, List.set_cons_zero])
                        · -- operation 0
                          go_wp2_with (refine load_row rfl _ _ rfl wh.heap.size rfl _ _ _ _ (hI.at hx.out) Try.underlying26 rfl iK.out ?_)
                          refine stq_v rfl Same.refl ?_
                          first | (simp only [mkAct, List.foldl_cons, List.foldl_nil, List.setIfInBounds_toArray, List.set_cons_succ, List.set_cons_zero, upd, reduceIte, Nat.reduceEqDiff, Nat.reduceAdd, str]; done) | (simp [mkAct, upd, str, *]; done)
                        · -- operation 1
                          go_wp2_with (refine load_row rfl _ _ rfl g rfl _ _ _ _ (hI.at hy.out) Try.underlying26 rfl iK.out ?_)
                          refine stq_v rfl Same.refl ?_
                          first | (simp only [mkAct, List.foldl_cons, List.foldl_nil, List.setIfInBounds_toArray, List.set_cons_succ, List.set_cons_zero, upd, reduceIte, Nat.reduceEqDiff, Nat.reduceAdd, str]; done) | (simp [mkAct, upd, str, *]; done)
                        · -- operation 2
                          obtain ⟨f0, f1, -⟩ := hp
                          replace f0 : u 0 = (.agg K.cells.toArray) := f0
                          replace f1 : u 1 = (.agg K.cells.toArray) := f1
                          try simp only [f0, f1, str]
                          go_wp2_with fail
                          refine (hsame.out _ (BatV.same ak.out hI)).mono ?_
                          rintro e w1 ⟨rfl, hs'⟩
                          go_wp2
                          refine stq_v rfl hs' ?_
                          first | (simp only [mkAct, List.foldl_cons, List.foldl_nil, List.setIfInBounds_toArray, List.set_cons_succ, List.set_cons_zero, upd, reduceIte, Nat.reduceEqDiff, Nat.reduceAdd, f0, f1, str]; done) | (simp [mkAct, upd, f0, f1, str, *]; done)
                        · -- operation 3
                          obtain ⟨f2, -, -⟩ := hp
                          replace f2 : u 2 = (.bool true) := f2
                          try simp only [f2, str]
                          go_wp2
                          refine stq_v rfl Same.refl ?_
                          first | (simp only [mkAct, List.foldl_cons, List.foldl_nil, List.setIfInBounds_toArray, List.set_cons_succ, List.set_cons_zero, upd, reduceIte, Nat.reduceEqDiff, Nat.reduceAdd, f2, str]; done) | (simp [mkAct, upd, f2, str, *]; done)
                        · -- operation 4
                          obtain ⟨f3, -⟩ := hp
                          replace f3 : u 3 = (.bool true) := f3
                          try simp only [f3, str]
                          go_wp2
                          refine stq_v rfl Same.refl ?_
                          first | (simp only [mkAct, List.foldl_cons, List.foldl_nil, List.setIfInBounds_toArray, List.set_cons_succ, List.set_cons_zero, upd, reduceIte, Nat.reduceEqDiff, Nat.reduceAdd, f3, str]; done) | (simp [mkAct, upd, f3, str, *]; done)
                        · -- operation 5
                          obtain ⟨f3, -⟩ := hp
                          replace f3 : u 3 = (.bool true) := f3
                          try simp only [f3, str]
                          go_wp2
                          refine stq_v rfl Same.refl ?_
                          first | (simp only [mkAct, List.foldl_cons, List.foldl_nil, List.setIfInBounds_toArray, List.set_cons_succ, List.set_cons_zero, upd, reduceIte, Nat.reduceEqDiff, Nat.reduceAdd, f3, str]; done) | (simp [mkAct, upd, f3, str, *]; done)
                        · -- operation 6
                          obtain ⟨f4, f5, f3, -⟩ := hp
                          replace f4 : u 4 = (.bool kq) := f4
                          replace f5 : u 5 = (.bool kq) := f5
                          replace f3 : u 3 = (.bool true) := f3
                          try simp only [f4, f5, f3, str]
                          have gg := g1.out
                          go_wp2
                          refine stq_v rfl Same.refl ?_
                          first | (simp only [mkAct, List.foldl_cons, List.foldl_nil, List.setIfInBounds_toArray, List.set_cons_succ, List.set_cons_zero, upd, reduceIte, Nat.reduceEqDiff, Nat.reduceAdd, f4, f5, f3, str]; done) | (simp [mkAct, upd, f4, f5, f3, str, *]; done)
                        · -- operation 7
                          obtain ⟨f3, f6, -⟩ := hp
                          replace f3 : u 3 = (.bool true) := f3
                          replace f6 : u 6 = (.bool true) := f6
                          try simp only [f3, f6, str]
                          go_wp2
                          refine stq_v rfl Same.refl ?_
                          first | (simp only [mkAct, List.foldl_cons, List.foldl_nil, List.setIfInBounds_toArray, List.set_cons_succ, List.set_cons_zero, upd, reduceIte, Nat.reduceEqDiff, Nat.reduceAdd, f3, f6, str]; done) | (simp [mkAct, upd, f3, f6, str, *]; done)
                        · -- operation 8
                          obtain ⟨f7, -, -⟩ := hp
                          replace f7 : u 7 = (.bool true) := f7
                          try simp only [f7, str]
                          go_wp2
                          refine stq_v rfl Same.refl ?_
                          first | (simp only [mkAct, List.foldl_cons, List.foldl_nil, List.setIfInBounds_toArray, List.set_cons_succ, List.set_cons_zero, upd, reduceIte, Nat.reduceEqDiff, Nat.reduceAdd, f7, str]; done) | (simp [mkAct, upd, f7, str, *]; done)
                        · -- operation 9
                          obtain ⟨f8, -⟩ := hp
                          replace f8 : u 8 = (.bool true) := f8
                          try simp only [f8, str]
                          go_wp2_with (refine load_row rfl _ _ rfl w.heap.size rfl _ _ _ _ ((t3.out.trans hI).at hba.out) Try.underlying42 rfl hinfA.out ?_)
                          refine stq_v rfl Same.refl ?_
                          first | (simp only [mkAct, List.foldl_cons, List.foldl_nil, List.setIfInBounds_toArray, List.set_cons_succ, List.set_cons_zero, upd, reduceIte, Nat.reduceEqDiff, Nat.reduceAdd, f8, str]; done) | (simp [mkAct, upd, f8, str, *]; done)
                        · -- operation 10
                          obtain ⟨f8, -⟩ := hp
                          replace f8 : u 8 = (.bool true) := f8
                          try simp only [f8, str]
                          go_wp2_with (refine load_row rfl _ _ rfl w0.heap.size rfl _ _ _ _ ((t3.out.trans hI).at hbo.out) Try.underlying42 rfl hinfR.out ?_)
                          refine stq_v rfl Same.refl ?_
                          first | (simp only [mkAct, List.foldl_cons, List.foldl_nil, List.setIfInBounds_toArray, List.set_cons_succ, List.set_cons_zero, upd, reduceIte, Nat.reduceEqDiff, Nat.reduceAdd, f8, str]; done) | (simp [mkAct, upd, f8, str, *]; done)
                        · -- operation 11
                          obtain ⟨f9, f10, -, f8, -⟩ := hp
                          replace f9 : u 9 = (.agg s.cells.toArray) := f9
                          replace f10 : u 10 = (.agg o.cells.toArray) := f10
                          replace f8 : u 8 = (.bool true) := f8
                          try simp only [f9, f10, f8, str]
                          go_wp2_with fail
                          refine (hS1.out _ (SlotV.same' as'.out hI) (SlotV.same' ao'.out hI)).mono ?_
                          rintro e w1 ⟨rfl, hs'⟩
                          go_wp2
                          refine stq_v rfl hs' ?_
                          first | (simp only [mkAct, List.foldl_cons, List.foldl_nil, List.setIfInBounds_toArray, List.set_cons_succ, List.set_cons_zero, upd, reduceIte, Nat.reduceEqDiff, Nat.reduceAdd, f9, f10, f8, str]; done) | (simp [mkAct, upd, f9, f10, f8, str, *]; done)
                        · -- operation 12
                          obtain ⟨f8, -⟩ := hp
                          replace f8 : u 8 = (.bool true) := f8
                          try simp only [f8, str]
                          go_wp2_with (refine load_row rfl _ _ rfl w.heap.size rfl _ _ _ _ ((t3.out.trans hI).at hba.out) Try.underlying42 rfl hinfA.out ?_)
                          refine stq_v rfl Same.refl ?_
                          first | (simp only [mkAct, List.foldl_cons, List.foldl_nil, List.setIfInBounds_toArray, List.set_cons_succ, List.set_cons_zero, upd, reduceIte, Nat.reduceEqDiff, Nat.reduceAdd, f8, str]; done) | (simp [mkAct, upd, f8, str, *]; done)
                        · -- operation 13
                          obtain ⟨f12, -, f8, -⟩ := hp
                          replace f12 : u 12 = (.agg s.cells.toArray) := f12
                          replace f8 : u 8 = (.bool true) := f8
                          try simp only [f12, f8, str]
                          go_wp2_with fail
                          refine (ofs.out _).mono ?_
                          rintro e w1 ⟨rfl, hs'⟩
                          go_wp2
                          refine stq_v rfl hs' ?_
                          first | (simp only [mkAct, List.foldl_cons, List.foldl_nil, List.setIfInBounds_toArray, List.set_cons_succ, List.set_cons_zero, upd, reduceIte, Nat.reduceEqDiff, Nat.reduceAdd, f12, f8, str]; done) | (simp [mkAct, upd, f12, f8, str, *]; done)
                        · -- operation 14
                          obtain ⟨f8, -⟩ := hp
                          replace f8 : u 8 = (.bool true) := f8
                          try simp only [f8, str]
                          go_wp2_with (refine load_row rfl _ _ rfl w0.heap.size rfl _ _ _ _ ((t3.out.trans hI).at hbo.out) Try.underlying42 rfl hinfR.out ?_)
                          refine stq_v rfl Same.refl ?_
                          first | (simp only [mkAct, List.foldl_cons, List.foldl_nil, List.setIfInBounds_toArray, List.set_cons_succ, List.set_cons_zero, upd, reduceIte, Nat.reduceEqDiff, Nat.reduceAdd, f8, str]; done) | (simp [mkAct, upd, f8, str, *]; done)
                        · -- operation 15
                          obtain ⟨f14, -, f8, -⟩ := hp
                          replace f14 : u 14 = (.agg o.cells.toArray) := f14
                          replace f8 : u 8 = (.bool true) := f8
                          try simp only [f14, f8, str]
                          go_wp2_with fail
                          refine (ofo.out _).mono ?_
                          rintro e w1 ⟨rfl, hs'⟩
                          go_wp2
                          refine stq_v rfl hs' ?_
                          first | (simp only [mkAct, List.foldl_cons, List.foldl_nil, List.setIfInBounds_toArray, List.set_cons_succ, List.set_cons_zero, upd, reduceIte, Nat.reduceEqDiff, Nat.reduceAdd, f14, f8, str]; done) | (simp [mkAct, upd, f14, f8, str, *]; done)
                        · -- operation 16
                          obtain ⟨f13, f15, -, f8, -⟩ := hp
                          replace f13 : u 13 = (.agg s.cells.toArray) := f13
                          replace f15 : u 15 = (.agg o.cells.toArray) := f15
                          replace f8 : u 8 = (.bool true) := f8
                          try simp only [f13, f15, f8, str]
                          go_wp2_with fail
                          refine (hS2.out _ (SlotV.same' as'.out hI) (SlotV.same' ao'.out hI)).mono ?_
                          rintro e w1 ⟨rfl, hs'⟩
                          go_wp2
                          refine stq_v rfl hs' ?_
                          first | (simp only [mkAct, List.foldl_cons, List.foldl_nil, List.setIfInBounds_toArray, List.set_cons_succ, List.set_cons_zero, upd, reduceIte, Nat.reduceEqDiff, Nat.reduceAdd, f13, f15, f8, str]; done) | (simp [mkAct, upd, f13, f15, f8, str, *]; done)
                        · -- operation 17
                          obtain ⟨f11, f16, f8, -⟩ := hp
                          replace f11 : u 11 = (.bool V) := f11
                          replace f16 : u 16 = (.bool V) := f16
                          replace f8 : u 8 = (.bool true) := f8
                          try simp only [f11, f16, f8, str]
                          have gg := g2.out
                          go_wp2
                          refine stq_v rfl Same.refl ?_
                          first | (simp only [mkAct, List.foldl_cons, List.foldl_nil, List.setIfInBounds_toArray, List.set_cons_succ, List.set_cons_zero, upd, reduceIte, Nat.reduceEqDiff, Nat.reduceAdd, f11, f16, f8, str]; done) | (simp [mkAct, upd, f11, f16, f8, str, *]; done)
                        · -- operation 18
                          obtain ⟨f8, f17, -⟩ := hp
                          replace f8 : u 8 = (.bool true) := f8
                          replace f17 : u 17 = (.bool true) := f17
                          try simp only [f8, f17, str]
                          go_wp2
                          refine stq_v rfl Same.refl ?_
                          first | (simp only [mkAct, List.foldl_cons, List.foldl_nil, List.setIfInBounds_toArray, List.set_cons_succ, List.set_cons_zero, upd, reduceIte, Nat.reduceEqDiff, Nat.reduceAdd, f8, f17, str]; done) | (simp [mkAct, upd, f8, f17, str, *]; done)
                        · -- operation 19
                          obtain ⟨f18, -, -⟩ := hp
                          replace f18 : u 18 = (.bool true) := f18
                          try simp only [f18, str]
                          go_wp2
                          refine stq_v rfl Same.refl ?_
                          first | (simp only [mkAct, List.foldl_cons, List.foldl_nil, List.setIfInBounds_toArray, List.set_cons_succ, List.set_cons_zero, upd, reduceIte, Nat.reduceEqDiff, Nat.reduceAdd, f18, str]; done) | (simp [mkAct, upd, f18, str, *]; done)
                        · -- operation 20
                          obtain ⟨-, f19, -⟩ := hp
                          replace f19 : u 19 = (.bool true) := f19
                          try simp only [f19, str]
                          go_wp2_with fail
                          refine (hl.out _).mono ?_
                          rintro e w1 ⟨rfl, hs'⟩
                          go_wp2
                          refine stq_v rfl hs' ?_
                          first | (simp only [mkAct, List.foldl_cons, List.foldl_nil, List.setIfInBounds_toArray, List.set_cons_succ, List.set_cons_zero, upd, reduceIte, Nat.reduceEqDiff, Nat.reduceAdd, f19, str]; done) | (simp [mkAct, upd, f19, str, *]; done)
                        · -- operation 21
                          obtain ⟨f19, f20, -⟩ := hp
                          replace f19 : u 19 = (.bool true) := f19
                          replace f20 : u 20 = (.bool true) := f20
                          try simp only [f19, f20, str]
                          go_wp2
                          refine stq_v rfl Same.refl ?_
                          first | (simp only [mkAct, List.foldl_cons, List.foldl_nil, List.setIfInBounds_toArray, List.set_cons_succ, List.set_cons_zero, upd, reduceIte, Nat.reduceEqDiff, Nat.reduceAdd, f19, f20, str]; done) | (simp [mkAct, upd, f19, f20, str, *]; done)
                      · intro u wx hI hR
                        obtain ⟨r0, r1, r2, r3, r4, r5, r6, r7, r8, r9, r10, r11, r12, r13, r14, r15, r16, r17, r18, r19, r20, r21, -⟩ := hR
                        replace r0 : u 0 = (.agg K.cells.toArray) := r0
                        replace r1 : u 1 = (.agg K.cells.toArray) := r1
                        replace r2 : u 2 = (.bool true) := r2
                        replace r3 : u 3 = (.bool true) := r3
                        replace r4 : u 4 = (.bool kq) := r4
                        replace r5 : u 5 = (.bool kq) := r5
                        replace r6 : u 6 = (.bool true) := r6
                        replace r7 : u 7 = (.bool true) := r7
                        replace r8 : u 8 = (.bool true) := r8
                        replace r9 : u 9 = (.agg s.cells.toArray) := r9
                        replace r10 : u 10 = (.agg o.cells.toArray) := r10
                        replace r11 : u 11 = (.bool V) := r11
                        replace r12 : u 12 = (.agg s.cells.toArray) := r12
                        replace r13 : u 13 = (.agg s.cells.toArray) := r13
                        replace r14 : u 14 = (.agg o.cells.toArray) := r14
                        replace r15 : u 15 = (.agg o.cells.toArray) := r15
                        replace r16 : u 16 = (.bool V) := r16
                        replace r17 : u 17 = (.bool true) := r17
                        replace r18 : u 18 = (.bool true) := r18
                        replace r19 : u 19 = (.bool true) := r19
                        replace r20 : u 20 = (.bool true) := r20
                        replace r21 : u 21 = (.bool true) := r21
                        simp only [mkAct, List.foldl_cons, List.foldl_nil, List.setIfInBounds_toArray, List.set_cons_succ, List.set_cons_zero]
                        try simp only [str, r0, r1, r2, r3, r4, r5, r6, r7, r8, r9, r10, r11, r12, r13, r14, r15, r16, r17, r18, r19, r20, r21]
                        go_wp2
                        go_ret
                        exact ⟨rfl, s0.out.trans hI⟩
      · have h100' : Decidable.decide (100 < (n : Int)) = true := decide_eq_true (by omega)
        go_upto_region 2 with fail
        clear c36
        go_wp2_with fail
        refine (hl.out _).mono ?_
        rintro e w7 ⟨rfl, hs⟩
        replace s0 := Lib.hid (s0.out.trans hs)
        replace t3 := Lib.hid (t3.out.trans hs)
        clear hs
        go_wp2
        go_ret
        exact ⟨rfl, s0.out⟩
end Go.Proofs.Ytmacgmmjgdmleaa
namespace Go.Proofs.Ytmacgmmjgdmleaa.slotTells
open Go Go.ChangeShapes Go.WideShapes Go.ChangeAt Go.RowKit
set_option linter.unusedVariables false
set_option maxRecDepth 100000 in
set_option maxHeartbeats 1000000 in
theorem lifted (os : Os) (started : os.Started) (H : Type) (enc : TypeId × Value → H) :
    ReturnsInHanded {} Try.checked os 4 .any (Rows.slotTellsSpec.pre6 enc Try.prog Try.f4 Rows.slotTellsRow.domain false) (Rows.slotTellsSpec.post enc Try.prog Try.f4 false true false false) := by
  refine returnsInHanded_of_change_sized (C := Try.checked) own started (by kernel_rfl) Try.func4
    (ChangeSpec.witness6 (enc := enc) (C := Try.checked) false ⟨#[], #[slot_zero, slot_zero, .int .i64 0, bat_zero, cert_zero], []⟩ 8 (by kernel_rfl) (by kernel_rfl) (by kernel_rfl) (by kernel_rfl)) ?_
  intro W base args ds gs before hval0 hW hcnd hsz0 _
  have hsz : (DataW.weightsEach Try.prog (Try.f4.params.toList ++ Rows.slotTellsSpec.plain.varTypes Try.prog) (ds ++ gs)).all (· ≤ reachBytes) = true := hsz0
  have hval : ∀ (j : Nat) t v, Try.f4.params[j]? = some t → args[j]? = some v → Value.okWide Try.prog W .any base t v := hval0
  have hW' := hW
  obtain ⟨p, q, hA0, hV, rfl, hfz, hnd⟩ := hW
  have hA : DataW.TrodAll enc Try.prog W 0 (fun _ => true) true Try.f4.params.toList args.toList ds p := hA0
  rw [Try.params4] at hA hval hsz
  obtain ⟨v0, vs0, d0, ds0, p0, q0, hargs, rfl, rfl, h0, r0⟩ := trodAll_cons hA
  obtain ⟨v1, vs1, d1, ds1, p1, q1, rfl, rfl, rfl, h1, r1⟩ := trodAll_cons r0
  obtain ⟨v2, vs2, d2, ds2, p2, q2, rfl, rfl, rfl, h2, r2⟩ := trodAll_cons r1
  obtain ⟨v3, vs3, d3, ds3, p3, q3, rfl, rfl, rfl, h3, r3⟩ := trodAll_cons r2
  obtain ⟨v4, vs4, d4, ds4, p4, q4, rfl, rfl, rfl, h4, r4⟩ := trodAll_cons r3
  obtain ⟨rfl, rfl, rfl⟩ := trodAll_nil r4
  obtain rfl : args = #[v0, v1, v2, v3, v4] := by cases args; simp_all
  obtain ⟨rfl, rfl⟩ := trodVars_none hV
  have k0 := h0
  have lt0 : ∀ x ∈ p0, x.block < W.heap.size := by obtain ⟨m, hm⟩ := k0; exact DataW.trod_lt m _ _ _ hm
  obtain ⟨a0, rfl, w0⟩ := open_slot (hval 0 42 v0 rfl rfl) h0 (fun n hn => by have z := List.all_eq_true.1 hsz n (DataW.weights_mem_each (j := 0) (t := 42) (d := d0) rfl rfl n hn); have z2 : n ≤ reachBytes := of_decide_eq_true z; simpa [reachBytes] using z2)
  have k1 := h1
  have lt1 : ∀ x ∈ p1, x.block < W.heap.size := by obtain ⟨m, hm⟩ := k1; exact DataW.trod_lt m _ _ _ hm
  obtain ⟨a1, rfl, w1⟩ := open_slot (hval 1 42 v1 rfl rfl) h1 (fun n hn => by have z := List.all_eq_true.1 hsz n (DataW.weights_mem_each (j := 1) (t := 42) (d := d1) rfl rfl n hn); have z2 : n ≤ reachBytes := of_decide_eq_true z; simpa [reachBytes] using z2)
  have k2 := h2
  have lt2 : ∀ x ∈ p2, x.block < W.heap.size := by obtain ⟨m, hm⟩ := k2; exact DataW.trod_lt m _ _ _ hm
  obtain ⟨a2, rfl, -, -, w2⟩ := open_int Try.underlying3 (hval 2 3 v2 rfl rfl) h2
  have k3 := h3
  have lt3 : ∀ x ∈ p3, x.block < W.heap.size := by obtain ⟨m, hm⟩ := k3; exact DataW.trod_lt m _ _ _ hm
  obtain ⟨a3, rfl, w3⟩ := open_bat (hval 3 26 v3 rfl rfl) h3 (fun n hn => by have z := List.all_eq_true.1 hsz n (DataW.weights_mem_each (j := 3) (t := 26) (d := d3) rfl rfl n hn); have z2 : n ≤ reachBytes := of_decide_eq_true z; simpa [reachBytes] using z2)
  have k4 := h4
  have lt4 : ∀ x ∈ p4, x.block < W.heap.size := by obtain ⟨m, hm⟩ := k4; exact DataW.trod_lt m _ _ _ hm
  obtain ⟨a4, rfl, w4⟩ := open_cert (hval 4 33 v4 rfl rfl) h4 (fun n hn => by have z := List.all_eq_true.1 hsz n (DataW.weights_mem_each (j := 4) (t := 33) (d := d4) rfl rfl n hn); have z2 : n ≤ reachBytes := of_decide_eq_true z; simpa [reachBytes] using z2)
  clear hA0 hval0 hsz0 hsz
  refine (walk_SlotTells W a0 w0 a1 w1 a2 w2 a3 w3 a4 w4).mono fun e W' ⟨he, bel⟩ => ?_
  subst he
  exact ⟨_, rfl, _, _, _, [], _, [], hW', trodAll_mk1 (shut_bool Try.underlying4 _), (trodAll_cons_mk (Below.trod laidOut (by kernel_rfl) (of_decide_eq_true (by kernel_rfl)) k0 bel lt0) (trodAll_cons_mk (Below.trod laidOut (by kernel_rfl) (of_decide_eq_true (by kernel_rfl)) k1 bel lt1) (trodAll_cons_mk (Below.trod laidOut (by kernel_rfl) (of_decide_eq_true (by kernel_rfl)) k2 bel lt2) (trodAll_cons_mk (Below.trod laidOut (by kernel_rfl) (of_decide_eq_true (by kernel_rfl)) k3 bel lt3) (trodAll_cons_mk (Below.trod laidOut (by kernel_rfl) (of_decide_eq_true (by kernel_rfl)) k4 bel lt4) trodAll_mk0))))), rfl, bel.frame _, fun h => by cases h⟩
theorem over : Rows.slotTellsRow.holds Try.pinned (OpenSpec.ofChange Rows.slotTellsSpec) :=
  OpenClaim.holds_of_wide 4 Try.f4 rfl rfl rfl rfl rfl rfl rfl ⟨rfl, rfl, rfl, rfl, rfl⟩ rfl rfl rfl rfl rfl (by kernel_rfl) Try.func4 (by kernel_rfl)
    (of_decide_eq_true (by kernel_rfl)) (by unfold Func.isWrapper; first | (rw [if_pos (by decide +kernel)]; kernel_rfl) | (rw [if_neg (by decide +kernel)]; exact ⟨rfl, rfl⟩))
    (fun os started H enc _ => lifted os started H enc)
/-- The statement. -/
theorem proved : Rows.SlotTellsSaid := over
#print axioms proved
end Go.Proofs.Ytmacgmmjgdmleaa.slotTells
