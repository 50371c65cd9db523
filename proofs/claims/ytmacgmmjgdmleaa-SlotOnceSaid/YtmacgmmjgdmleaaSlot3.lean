/-
  What a slot does: Accept, Hold, Decide, Known, by the program and by the document.
-/
import Derived.Test.YtmacgmmjgdmleaaSlot1
import Derived.Test.YtmacgmmjgdmleaaBat5
namespace Go.Proofs.Ytmacgmmjgdmleaa
open Go Go.RowKit
set_option linter.unusedSimpArgs false
set_option linter.unusedVariables false

set_option maxRecDepth 100000
def bDig (b : BatV) : List UInt8 := batDig b.noop b.reqs
theorem bDig_length (b : BatV) : (bDig b).length = 32 := batDig_length _ _
def SlotV.accept (s : SlotV) (view : Int) (b : BatV) : SlotV × Nat :=
  if view < 0 ∨ s.is = true ∧ view < s.view then (zeroSlot, 180)
  else if s.is = true ∧ s.view = view then (if bDig s.bat = bDig b then (s, 0) else (zeroSlot, 181))
  else ({ s with is := true, view := view, bat := b }, 0)
def SlotV.hold (s : SlotV) (c : CertV) : SlotV × Nat :=
  if c.vote.kind ≠ 1 then (zeroSlot, 181)
  else if ¬ (s.is = true ∧ s.view = c.vote.view) then (zeroSlot, 180)
  else if c.vote.dig ≠ bDig s.bat then (zeroSlot, 181)
  else if s.holds = true ∧ c.vote.view ≤ s.hcert.vote.view then (s, 0)
  else ({ s with holds := true, hbat := s.bat, hcert := c }, 0)
def SlotV.decide (s : SlotV) (b : BatV) (c : CertV) : SlotV × Nat :=
  if c.vote.kind ≠ 2 ∨ c.vote.dig ≠ bDig b then (zeroSlot, 181)
  else if s.decided = true then (if bDig s.ebat = bDig b then (s, 0) else (zeroSlot, 181))
  else ({ s with decided := true, eslot := c.vote.slot, ebat := b, ecert := c }, 0)
def SlotV.known (s : SlotV) (d : List UInt8) : BatV × Bool :=
  if s.decided = true ∧ bDig s.ebat = d then (s.ebat, true)
  else if s.is = true ∧ bDig s.bat = d then (s.bat, true)
  else if s.holds = true ∧ bDig s.hbat = d then (s.hbat, true)
  else (zeroBat, false)
/-- A slot and a code are told. -/
def RetSlot (w : World) (r : SlotV × Nat) (e : Ending) (w' : World) : Prop := e = .returned (.tuple #[.agg r.1.cells.toArray, .int .i64 (r.2 : Nat)]) ∧ Same w w'
def rowAt (B : Nat) (cs : List Value) (T : TypeId) : World → Prop := fun w => w.heap[B]? = some (.cells cs.toArray T (0, 0))
def isRA (B : Nat) (cs : List Value) (T : TypeId) : Value → World → Prop := fun _ w => rowAt B cs T w
theorem isRA_stable (B : Nat) (cs : List Value) (T : TypeId) : Stable Same (isRA B cs T) := fun _ _ _ k h => k.at h
set_option maxRecDepth 100000 in
set_option maxHeartbeats 800000 in
theorem slotIn_any (s : SlotV) (v : Int) (w : World) (h : s.wf) :
    Calls Try.prog 90 #[.agg s.cells.toArray, .int .i64 v] w fun e w' => e = .returned (.bool (s.is && Decidable.decide (s.view = v))) ∧ Same w w' := by
  have hinf := Lib.hid (slot_info h)
  obtain ⟨E, hE⟩ : ∃ E, E = Decidable.decide (s.view = v) := ⟨_, rfl⟩
  have g1 : (s.view == v) = E := by rw [hE, Bool.eq_iff_iff]; simp
  rw [← hE]
  clear hE
  obtain ⟨i, hi⟩ : ∃ i, i = s.is := ⟨_, rfl⟩
  rw [← hi]
  replace hi := Lib.hid hi
  cases i
  · go_enter Try.func90, Try.ntmps90
    go_wp2_with (refine box_row rfl _ _ rfl _ rfl hinf.out ?_; intro w0 hbx hs0; have c0 := sl_view hbx; have c3 := sl_is hbx; rw [← hi.out] at c3; clear hbx; replace hs0 := Lib.hid hs0)
    go_ret
    exact ⟨rfl, hs0.out⟩
  · go_enter Try.func90, Try.ntmps90
    go_wp2_with (refine box_row rfl _ _ rfl _ rfl hinf.out ?_; intro w0 hbx hs0; have c0 := sl_view hbx; have c3 := sl_is hbx; rw [← hi.out] at c3; clear hbx; replace hs0 := Lib.hid hs0)
    go_ret
    exact ⟨rfl, hs0.out⟩
theorem accept_cases (s : SlotV) (view : Int) (b : BatV) : (view < 0 ∧ s.accept view b = (zeroSlot, 180)) ∨ (0 ≤ view ∧ s.is = true ∧ view < s.view ∧ s.accept view b = (zeroSlot, 180)) ∨
    (0 ≤ view ∧ s.is = true ∧ s.view = view ∧ s.accept view b = (if bDig s.bat = bDig b then (s, 0) else (zeroSlot, 181))) ∨
    (0 ≤ view ∧ (s.is = false ∨ s.is = true ∧ s.view < view) ∧ s.accept view b = ({ s with is := true, view := view, bat := b }, 0)) := by
  unfold SlotV.accept
  by_cases h1 : view < 0
  · exact .inl ⟨h1, by rw [if_pos (.inl h1)]⟩
  · have h1' : 0 ≤ view := by omega
    cases hi : s.is
    · refine .inr (.inr (.inr ⟨h1', .inl rfl, ?_⟩))
      rw [if_neg (by simp [h1]), if_neg (by simp)]
    · by_cases h2 : view < s.view
      · exact .inr (.inl ⟨h1', rfl, h2, by rw [if_pos (.inr ⟨rfl, h2⟩)]⟩)
      · by_cases h3 : s.view = view
        · exact .inr (.inr (.inl ⟨h1', rfl, h3, by rw [if_neg (by simp; omega), if_pos ⟨rfl, h3⟩]⟩))
        · exact .inr (.inr (.inr ⟨h1', .inr ⟨rfl, by omega⟩, by rw [if_neg (by simp; omega), if_neg (by simp; omega)]⟩))
set_option maxRecDepth 100000 in
set_option maxHeartbeats 3200000 in
theorem acc_any (s : SlotV) (view : Int) (b : BatV) (w : World) (hs : s.at w) (hb : b.at w) (hsm : s.bat.small) (hbm : b.small) :
    Calls Try.prog 16 #[.agg s.cells.toArray, .int .i64 view, .agg b.cells.toArray] w (RetSlot w (s.accept view b)) := by
  have hwf := hs.wf
  have hinf := Lib.hid (slot_info hwf)
  have hinfZ := Lib.hid (slot_info zeroSlot_wf)
  have hinfB := Lib.hid (bat_info b)
  have hinfb := Lib.hid (bat_infoL s.bat)
  have hlen := Lib.hid (SlotV.len hwf)
  have hIn := Lib.hid (fun w => slotIn_any s view w hwf)
  have hd1 := Lib.hid (fun w h => bdig_any s.bat w h hsm)
  have hd2 := Lib.hid (fun w h => bdig_any b w h hbm)
  rcases accept_cases s view b with ⟨h1, h⟩ | ⟨h1, h2, h3, h⟩ | ⟨h1, h2, h3, h⟩ | ⟨h1, h2, h⟩
  · rw [h]
    clear h hIn hd1 hd2 hsm hbm
    replace hwf := Lib.hid hwf
    replace hs := Lib.hid hs
    replace hb := Lib.hid hb
    go_enter Try.func16, Try.ntmps16
    go_upto_region 1 with (first | (refine box_row rfl _ _ rfl s.cells.toArray rfl hinf.out ?_; intro w0 hbs hs0; have l0 := blk_lt hbs; replace hbs := Lib.hid hbs; replace hs0 := Lib.hid hs0) | (refine box_row rfl _ _ rfl b.cells.toArray rfl hinfB.out ?_; intro w1 hbb hs1; have l1 := blk_lt hbb; replace hbb := Lib.hid hbb; replace hs1 := Lib.hid hs1) | (refine alloc_new rfl 42 rfl zeroSlot.cells.toArray (by kernel_rfl) ?_; intro w2 hbz hs2; have l2 := blk_lt hbz; replace hbz := Lib.hid hbz; replace hs2 := Lib.hid hs2))
    have r0 := Lib.hid ((hs1.out.trans hs2.out).at hbs.out)
    have r1 := Lib.hid (hs2.out.at hbb.out)
    have hw2 := Lib.hid (hs0.out.trans (hs1.out.trans hs2.out))
    have z0 := hs0.out.size
    have z1 := hs1.out.size
    have z2 := hs2.out.size
    have c0 := sl_view r0.out
    have c3 := sl_is r0.out
    clear hbs hbb hs0 hs1 hs2
    go_wp2_with (first | (refine build_const (ty := 42) (.agg zeroSlot.cells.toArray) rfl rfl (by kernel_rfl) ?_) | (refine store_row rfl _ _ _ rfl w1.heap.size zeroSlot.cells.toArray rfl rfl _ _ hbz.out hinfZ.out rfl (slot_one _) ?_; intro w9 hb9 hk9; replace hb9 := Lib.hid hb9; replace hk9 := Lib.hid hk9))
    refine bodyPost_ret (v := .tuple #[.agg zeroSlot.cells.toArray, .int .i64 180]) (results_row2 (p := 6) (q := 7) (ty := 42) rfl _ _ w1.heap.size _ _ _ _ _ rfl rfl hb9.out Try.underlying42 rfl hinfZ.out) rfl ?_
    exact ⟨rfl, hw2.out.keep hk9.out (fun x hx hv => by omega)⟩
  · rw [h]
    clear h hIn hd1 hd2 hsm hbm
    replace hwf := Lib.hid hwf
    replace hs := Lib.hid hs
    replace hb := Lib.hid hb
    go_enter Try.func16, Try.ntmps16
    go_upto_region 1 with (first | (refine box_row rfl _ _ rfl s.cells.toArray rfl hinf.out ?_; intro w0 hbs hs0; have l0 := blk_lt hbs; replace hbs := Lib.hid hbs; replace hs0 := Lib.hid hs0) | (refine box_row rfl _ _ rfl b.cells.toArray rfl hinfB.out ?_; intro w1 hbb hs1; have l1 := blk_lt hbb; replace hbb := Lib.hid hbb; replace hs1 := Lib.hid hs1) | (refine alloc_new rfl 42 rfl zeroSlot.cells.toArray (by kernel_rfl) ?_; intro w2 hbz hs2; have l2 := blk_lt hbz; replace hbz := Lib.hid hbz; replace hs2 := Lib.hid hs2))
    have r0 := Lib.hid ((hs1.out.trans hs2.out).at hbs.out)
    have r1 := Lib.hid (hs2.out.at hbb.out)
    have hw2 := Lib.hid (hs0.out.trans (hs1.out.trans hs2.out))
    have z0 := hs0.out.size
    have z1 := hs1.out.size
    have z2 := hs2.out.size
    have c0 := sl_view r0.out
    have c3 := sl_is r0.out
    clear hbs hbb hs0 hs1 hs2
    rw [h2] at c3
    go_wp2_with (first | (refine build_const (ty := 42) (.agg zeroSlot.cells.toArray) rfl rfl (by kernel_rfl) ?_) | (refine store_row rfl _ _ _ rfl w1.heap.size zeroSlot.cells.toArray rfl rfl _ _ hbz.out hinfZ.out rfl (slot_one _) ?_; intro w9 hb9 hk9; replace hb9 := Lib.hid hb9; replace hk9 := Lib.hid hk9))
    refine bodyPost_ret (v := .tuple #[.agg zeroSlot.cells.toArray, .int .i64 180]) (results_row2 (p := 6) (q := 7) (ty := 42) rfl _ _ w1.heap.size _ _ _ _ _ rfl rfl hb9.out Try.underlying42 rfl hinfZ.out) rfl ?_
    exact ⟨rfl, hw2.out.keep hk9.out (fun x hx hv => by omega)⟩
  · have hq := dig_neq (bDig s.bat) (bDig b) (bDig_length _) (bDig_length _)
    have hgd := dig_guard
    have hin2 : ∀ w, Calls Try.prog 90 #[.agg s.cells.toArray, .int .i64 view] w fun e w' => e = .returned (.bool true) ∧ Same w w' := by
      intro w
      have := hIn.out w
      rw [h2, h3] at this
      simpa using this
    rw [h]
    clear h hIn
    obtain ⟨D1, hD1⟩ : ∃ D, D = bDig s.bat := ⟨_, rfl⟩
    obtain ⟨D2, hD2⟩ : ∃ D, D = bDig b := ⟨_, rfl⟩
    have hd1' : ∀ w, s.bat.at w → Calls Try.prog 88 #[.agg s.bat.cells.toArray] w fun e w' => e = .returned (.agg (bv D1).toArray) ∧ Same w w' := by rw [hD1]; exact hd1.out
    have hd2' : ∀ w, b.at w → Calls Try.prog 88 #[.agg b.cells.toArray] w fun e w' => e = .returned (.agg (bv D2).toArray) ∧ Same w w' := by rw [hD2]; exact hd2.out
    rw [← hD1, ← hD2] at hq ⊢
    clear hd1 hd2 hsm hbm hD1 hD2
    replace hin2 := Lib.hid hin2
    replace hd1' := Lib.hid hd1'
    replace hd2' := Lib.hid hd2'
    replace hq := Lib.hid hq
    replace hgd := Lib.hid hgd
    replace hwf := Lib.hid hwf
    replace hs := Lib.hid hs
    replace hb := Lib.hid hb
    obtain ⟨q, hqe⟩ : ∃ q, q = (D1 != D2) := ⟨_, rfl⟩
    have hif : (if D1 = D2 then (s, 0) else (zeroSlot, 181)) = if q = true then (zeroSlot, 181) else (s, 0) := by
      rw [hqe]
      by_cases e : D1 = D2 <;> simp [e]
    rw [hif]
    rw [← hqe] at hq
    clear hif hqe
    obtain ⟨R, hR⟩ : ∃ R, R = if q = true then (zeroSlot, 181) else (s, 0) := ⟨_, rfl⟩
    rw [← hR]
    have hRf : q = false → R = (s, 0) := by rintro rfl; rw [hR]; rfl
    have hRt : q = true → R = (zeroSlot, 181) := by rintro rfl; rw [hR]; rfl
    clear hR
    replace hRf := Lib.hid hRf
    replace hRt := Lib.hid hRt
    go_enter Try.func16, Try.ntmps16
    go_upto_region 1 with (first | (refine box_row rfl _ _ rfl s.cells.toArray rfl hinf.out ?_; intro w0 hbs hs0; have l0 := blk_lt hbs; replace hbs := Lib.hid hbs; replace hs0 := Lib.hid hs0) | (refine box_row rfl _ _ rfl b.cells.toArray rfl hinfB.out ?_; intro w1 hbb hs1; have l1 := blk_lt hbb; replace hbb := Lib.hid hbb; replace hs1 := Lib.hid hs1) | (refine alloc_new rfl 42 rfl zeroSlot.cells.toArray (by kernel_rfl) ?_; intro w2 hbz hs2; have l2 := blk_lt hbz; replace hbz := Lib.hid hbz; replace hs2 := Lib.hid hs2))
    have r0 := Lib.hid ((hs1.out.trans hs2.out).at hbs.out)
    have r1 := Lib.hid (hs2.out.at hbb.out)
    have hw2 := Lib.hid (hs0.out.trans (hs1.out.trans hs2.out))
    have z0 := hs0.out.size
    have z1 := hs1.out.size
    have z2 := hs2.out.size
    have c0 := sl_view r0.out
    have c3 := sl_is r0.out
    clear hbs hbb hs0 hs1 hs2
    rw [h2] at c3
    rw [h3] at c0
    go_wp2_with (refine load_row rfl _ _ rfl w.heap.size rfl _ _ _ _ r0.out Try.underlying42 rfl hinf.out ?_)
    refine (hin2.out _).mono ?_
    rintro e w3 ⟨rfl, hs3⟩
    have r03 := Lib.hid (hs3.at r0.out)
    have r13 := Lib.hid (hs3.at r1.out)
    have r23 := Lib.hid (hs3.at hbz.out)
    have hw3 := Lib.hid (hw2.out.trans hs3)
    have z3 := hs3.size
    clear hs3 r0 r1 hbz hw2 c0 c3
    go_upto_region 4 with fail
    refine wp_region_facts (by kernel_rfl) [(26, 0), (27, 1), (28, 2), (29, 3), (30, 4), (31, 5), (25, 6)] Same (Same _) [isV (.pointer (some ⟨w.heap.size, 1, none⟩)), isV (.agg s.bat.cells.toArray), isV (.agg (bv D1).toArray), isV (.agg b.cells.toArray), isV (.agg (bv D2).toArray), isV (.bool q), isV (.bool q)] Same.refl.drew (fun _ _ h k => h.trans k) (by simp [isV_stable, isB_stable, isAny_stable]) (by decide) (by decide) ?_ ?_
    · refine ⟨?_, ?_, ?_, ?_, ?_, ?_, ?_, trivial⟩
      all_goals (intro u wx hI hp; simp only [mkAct, List.foldl_cons, List.foldl_nil, List.setIfInBounds_toArray, List.set_cons_succ, List.set_cons_zero])
      · -- operation 0
        go_wp2
        refine stq_v rfl Same.refl ?_
        first | (simp only [mkAct, List.foldl_cons, List.foldl_nil, List.setIfInBounds_toArray, List.set_cons_succ, List.set_cons_zero, upd, reduceIte, Nat.reduceEqDiff, Nat.reduceAdd, str]; done) | (simp [mkAct, upd, str, *]; done)
      · -- operation 1
        obtain ⟨f0, -⟩ := hp
        replace f0 : u 0 = (.pointer (some ⟨w.heap.size, 1, none⟩)) := f0
        try simp only [f0, str]
        go_wp2_with (refine load_mid rfl _ _ rfl w.heap.size 1 rfl s.bat.cells _ (hI.range (sl_bat r03.out)) Try.underlying26 rfl hinfb.out ?_)
        refine stq_v rfl Same.refl ?_
        first | (simp only [mkAct, List.foldl_cons, List.foldl_nil, List.setIfInBounds_toArray, List.set_cons_succ, List.set_cons_zero, upd, reduceIte, Nat.reduceEqDiff, Nat.reduceAdd, f0, str]; done) | (simp [mkAct, upd, f0, str, *]; done)
      · -- operation 2
        obtain ⟨f1, -⟩ := hp
        replace f1 : u 1 = (.agg s.bat.cells.toArray) := f1
        try simp only [f1, str]
        go_wp2_with fail
        refine (hd1'.out _ (BatV.same hs.out.2.2.1 (hw3.out.trans hI))).mono ?_
        rintro e w1 ⟨rfl, hs'⟩
        go_wp2
        refine stq_v rfl hs' ?_
        first | (simp only [mkAct, List.foldl_cons, List.foldl_nil, List.setIfInBounds_toArray, List.set_cons_succ, List.set_cons_zero, upd, reduceIte, Nat.reduceEqDiff, Nat.reduceAdd, f1, str]; done) | (simp [mkAct, upd, f1, str, *]; done)
      · -- operation 3
        go_wp2_with (refine load_row rfl _ _ rfl w0.heap.size rfl _ _ _ _ (hI.at r13.out) Try.underlying26 rfl hinfB.out ?_)
        refine stq_v rfl Same.refl ?_
        first | (simp only [mkAct, List.foldl_cons, List.foldl_nil, List.setIfInBounds_toArray, List.set_cons_succ, List.set_cons_zero, upd, reduceIte, Nat.reduceEqDiff, Nat.reduceAdd, str]; done) | (simp [mkAct, upd, str, *]; done)
      · -- operation 4
        obtain ⟨f3, -, -⟩ := hp
        replace f3 : u 3 = (.agg b.cells.toArray) := f3
        try simp only [f3, str]
        go_wp2_with fail
        refine (hd2'.out _ (BatV.same hb.out (hw3.out.trans hI))).mono ?_
        rintro e w1 ⟨rfl, hs'⟩
        go_wp2
        refine stq_v rfl hs' ?_
        first | (simp only [mkAct, List.foldl_cons, List.foldl_nil, List.setIfInBounds_toArray, List.set_cons_succ, List.set_cons_zero, upd, reduceIte, Nat.reduceEqDiff, Nat.reduceAdd, f3, str]; done) | (simp [mkAct, upd, f3, str, *]; done)
      · -- operation 5
        obtain ⟨f2, f4, -⟩ := hp
        replace f2 : u 2 = (.agg (bv D1).toArray) := f2
        replace f4 : u 4 = (.agg (bv D2).toArray) := f4
        try simp only [f2, f4, str]
        have hqo := hq.out
        have hgo := hgd.out
        go_wp2
        refine stq_v rfl Same.refl ?_
        first | (simp only [mkAct, List.foldl_cons, List.foldl_nil, List.setIfInBounds_toArray, List.set_cons_succ, List.set_cons_zero, upd, reduceIte, Nat.reduceEqDiff, Nat.reduceAdd, f2, f4, str]; done) | (simp [mkAct, upd, f2, f4, str, *]; done)
      · -- operation 6
        obtain ⟨f5, -, -⟩ := hp
        replace f5 : u 5 = (.bool q) := f5
        try simp only [f5, str]
        go_wp2
        refine stq_v rfl Same.refl ?_
        first | (simp only [mkAct, List.foldl_cons, List.foldl_nil, List.setIfInBounds_toArray, List.set_cons_succ, List.set_cons_zero, upd, reduceIte, Nat.reduceEqDiff, Nat.reduceAdd, f5, str]; done) | (simp [mkAct, upd, f5, str, *]; done)
    · intro u wx hI hR
      obtain ⟨r0, r1, r2, r3, r4, r5, r6, -⟩ := hR
      replace r0 : u 0 = (.pointer (some ⟨w.heap.size, 1, none⟩)) := r0
      replace r1 : u 1 = (.agg s.bat.cells.toArray) := r1
      replace r2 : u 2 = (.agg (bv D1).toArray) := r2
      replace r3 : u 3 = (.agg b.cells.toArray) := r3
      replace r4 : u 4 = (.agg (bv D2).toArray) := r4
      replace r5 : u 5 = (.bool q) := r5
      replace r6 : u 6 = (.bool q) := r6
      simp only [mkAct, List.foldl_cons, List.foldl_nil, List.setIfInBounds_toArray, List.set_cons_succ, List.set_cons_zero]
      try simp only [str, r0, r1, r2, r3, r4, r5, r6]
      have r04 := Lib.hid (hI.at r03.out)
      have r24 := Lib.hid (hI.at r23.out)
      have hw4 := Lib.hid (hw3.out.trans hI)
      clear hI r0 r1 r2 r3 r4 r5 r03 r13 r23 hw3
      cases q
      · have hRe := hRf.out rfl
        clear hRf hRt
        subst hRe
        go_wp2_with (first | (refine load_row rfl _ _ rfl w.heap.size rfl _ _ _ _ r04.out Try.underlying42 rfl hinf.out ?_) | (refine store_row rfl _ _ _ rfl w1.heap.size s.cells.toArray rfl rfl _ _ r24.out hinf.out (slot_size zeroSlot_wf hwf.out) (slot_one _) ?_; intro w9 hb9 hk9; replace hb9 := Lib.hid hb9; replace hk9 := Lib.hid hk9))
        refine bodyPost_ret (v := .tuple #[.agg s.cells.toArray, .int .i64 0]) (results_row2 (p := 6) (q := 7) (ty := 42) rfl _ _ w1.heap.size _ _ _ _ _ rfl rfl hb9.out Try.underlying42 rfl hinf.out) rfl ?_
        exact ⟨rfl, hw4.out.keep hk9.out (fun x hx hv => by omega)⟩
      · have hRe := hRt.out rfl
        clear hRf hRt
        subst hRe
        go_wp2_with (first | (refine build_const (ty := 42) (.agg zeroSlot.cells.toArray) rfl rfl (by kernel_rfl) ?_) | (refine store_row rfl _ _ _ rfl w1.heap.size zeroSlot.cells.toArray rfl rfl _ _ r24.out hinfZ.out rfl (slot_one _) ?_; intro w9 hb9 hk9; replace hb9 := Lib.hid hb9; replace hk9 := Lib.hid hk9))
        refine bodyPost_ret (v := .tuple #[.agg zeroSlot.cells.toArray, .int .i64 181]) (results_row2 (p := 6) (q := 7) (ty := 42) rfl _ _ w1.heap.size _ _ _ _ _ rfl rfl hb9.out Try.underlying42 rfl hinfZ.out) rfl ?_
        exact ⟨rfl, hw4.out.keep hk9.out (fun x hx hv => by omega)⟩
  · have hin2 : ∀ w, Calls Try.prog 90 #[.agg s.cells.toArray, .int .i64 view] w fun e w' => e = .returned (.bool false) ∧ Same w w' := by
      intro w
      have := hIn.out w
      rcases h2 with h2 | ⟨h2, h3⟩
      · rw [h2] at this
        simpa using this
      · rw [h2, show Decidable.decide (s.view = view) = false from decide_eq_false (by omega)] at this
        simpa using this
    rw [h]
    clear h hIn hd1 hd2 hsm hbm
    replace hin2 := Lib.hid hin2
    replace hwf := Lib.hid hwf
    replace hs := Lib.hid hs
    replace hb := Lib.hid hb
    obtain ⟨s1, hs1e⟩ : ∃ x, x = { s with is := true } := ⟨_, rfl⟩
    obtain ⟨s2, hs2e⟩ : ∃ x, x = { s1 with view := view } := ⟨_, rfl⟩
    obtain ⟨s3, hs3e⟩ : ∃ x, x = { s2 with bat := b } := ⟨_, rfl⟩
    have hfin : ({ s with is := true, view := view, bat := b } : SlotV) = s3 := by rw [hs3e, hs2e, hs1e]
    rw [hfin]
    have hl1 : s1.cells.length = 85 := by rw [hs1e]; exact SlotV.len (s := { s with is := true }) hwf.out
    have hl2 : s2.cells.length = 85 := by rw [hs2e, hs1e]; exact SlotV.len (s := { s with is := true, view := view }) hwf.out
    have hw3f : s3.wf := by rw [hs3e, hs2e, hs1e]; exact hwf.out
    have st1 : s.cells.take 3 ++ ([.bool true] ++ s.cells.drop 4) = s1.cells := by rw [hs1e]; exact set_is s true
    have st2 : s1.cells.take 0 ++ ([.int .i64 view] ++ s1.cells.drop 1) = s2.cells := by rw [hs2e]; exact set_view s1 view
    have st3 : s2.cells.take 1 ++ (b.cells ++ s2.cells.drop (1 + b.cells.length)) = s3.cells := by rw [hs3e]; exact set_bat s2 b
    have hinf3 := Lib.hid (slot_info hw3f)
    have hsz3 := Lib.hid (slot_size zeroSlot_wf hw3f)
    have hinfbb := Lib.hid (bat_infoL b)
    clear hs1e hs2e hs3e hfin
    replace hl1 := Lib.hid hl1
    replace hl2 := Lib.hid hl2
    replace st1 := Lib.hid st1
    replace st2 := Lib.hid st2
    replace st3 := Lib.hid st3
    have key : ∀ (hc : ∃ i : Bool, s.is = i ∧ (i = false ∨ i = true ∧ s.view < view)), Calls Try.prog 16 #[.agg s.cells.toArray, .int .i64 view, .agg b.cells.toArray] w (RetSlot w (s3, 0)) := by
      rintro ⟨i, hi, hc⟩
      clear h2
      replace hi := Lib.hid hi
      rcases hc with rfl | ⟨rfl, h3⟩
      all_goals
        go_enter Try.func16, Try.ntmps16
        go_upto_region 1 with (first | (refine box_row rfl _ _ rfl s.cells.toArray rfl hinf.out ?_; intro w0 hbs hs0; have l0 := blk_lt hbs; replace hbs := Lib.hid hbs; replace hs0 := Lib.hid hs0) | (refine box_row rfl _ _ rfl b.cells.toArray rfl hinfB.out ?_; intro w1 hbb hs1; have l1 := blk_lt hbb; replace hbb := Lib.hid hbb; replace hs1 := Lib.hid hs1) | (refine alloc_new rfl 42 rfl zeroSlot.cells.toArray (by kernel_rfl) ?_; intro w2 hbz hs2; have l2 := blk_lt hbz; replace hbz := Lib.hid hbz; replace hs2 := Lib.hid hs2))
        have r0 := Lib.hid ((hs1.out.trans hs2.out).at hbs.out)
        have r1 := Lib.hid (hs2.out.at hbb.out)
        have hw2 := Lib.hid (hs0.out.trans (hs1.out.trans hs2.out))
        have z0 := hs0.out.size
        have z1 := hs1.out.size
        have z2 := hs2.out.size
        have c0 := sl_view r0.out
        have c3 := sl_is r0.out
        clear hbs hbb hs0 hs1 hs2
        rw [hi.out] at c3
        go_wp2_with (refine load_row rfl _ _ rfl w.heap.size rfl _ _ _ _ r0.out Try.underlying42 rfl hinf.out ?_)
        refine (hin2.out _).mono ?_
        rintro e w3 ⟨rfl, hs3⟩
        have r03 := Lib.hid (hs3.at r0.out)
        have r13 := Lib.hid (hs3.at r1.out)
        have r23 := Lib.hid (hs3.at hbz.out)
        have hw3 := Lib.hid (hw2.out.trans hs3)
        have z3 := hs3.size
        clear hs3 r0 r1 hbz hw2 c0 c3
        go_upto_region 6 with fail
        refine wp_region_mut (by kernel_rfl) [(33, 0), (34, 1), (35, 2), (36, 4), (37, 6)] [(3, (Keep (· = w.heap.size))), (5, (Keep (· = w.heap.size))), (7, (Keep (· = w.heap.size)))] [(3, [3, 5, 7]), (5, [3, 5, 7]), (7, [3, 5, 7]), (1000, [3, 5, 7])] [0, 1, 2, 4, 6, 7] [[], [], [], [2, 1000], [], [4, 0, 3], [], [6, 1, 5]] Same (Keep (· = w.heap.size) w3) [(rowAt w.heap.size s.cells 42)] [isV (.int .i64 view), isV (.agg b.cells.toArray), isV (.pointer (some ⟨w.heap.size, 3, none⟩)), isRA w.heap.size s1.cells 42, isV (.pointer (some ⟨w.heap.size, 0, none⟩)), isRA w.heap.size s2.cells 42, isV (.pointer (some ⟨w.heap.size, 1, none⟩)), isRA w.heap.size s3.cells 42] (Keep.drew) (by intro g hg; simp only [List.mem_cons, List.not_mem_nil, or_false] at hg; obtain rfl := hg; exact r03.out) (fun _ _ h k => h.trans (Keep.of_same k) (fun _ _ hq => hq)) (by intro g hg; simp only [List.mem_cons, List.not_mem_nil, or_false] at hg; rcases hg with rfl | rfl | rfl; exact (fun _ _ h k => h.trans k (fun _ _ hq => hq)); exact (fun _ _ h k => h.trans k (fun _ _ hq => hq)); exact (fun _ _ h k => h.trans k (fun _ _ hq => hq))) (by simp [isV_stable, isB_stable, isAny_stable, isRA_stable]) (by intro g hg; simp only [List.mem_cons, List.not_mem_nil, or_false] at hg; obtain rfl := hg; exact (fun _ _ k h => k.at h)) (by simp [killsOf, List.zipIdx_cons, isV_stable, isAny_stable]) (by simp [killsOf, List.zipIdx_cons]) (by decide) (l := [_, _, _, _, _, _, _, _]) rfl (by decide) (by kernel_rfl) (by kernel_rfl) (by kernel_rfl) (by decide) ?_ ?_
        · refine ⟨?_, ?_, ?_, ?_, ?_, ?_, ?_, ?_, trivial⟩
          all_goals (intro u wx hI hp; simp only [mkAct, List.foldl_cons, List.foldl_nil, List.setIfInBounds_toArray, List.set_cons_succ, List.set_cons_zero])
          · -- operation 0
            go_wp2
            refine stg_v (x := (.int .i64 view)) rfl Same.refl ?_
            first | (simp only [mkAct, List.foldl_cons, List.foldl_nil, List.setIfInBounds_toArray, List.set_cons_succ, List.set_cons_zero, upd, reduceIte, Nat.reduceEqDiff, Nat.reduceAdd, str]; done) | (simp [mkAct, upd, str, *]; done)
          · -- operation 1
            go_wp2_with (refine load_row rfl _ _ rfl w0.heap.size rfl _ _ _ _ ((hI.block _ (by omega) (by omega)).trans r13.out) Try.underlying26 rfl hinfB.out ?_)
            refine stg_v (x := (.agg b.cells.toArray)) rfl Same.refl ?_
            first | (simp only [mkAct, List.foldl_cons, List.foldl_nil, List.setIfInBounds_toArray, List.set_cons_succ, List.set_cons_zero, upd, reduceIte, Nat.reduceEqDiff, Nat.reduceAdd, str]; done) | (simp [mkAct, upd, str, *]; done)
          · -- operation 2
            go_wp2
            refine stg_v (x := (.pointer (some ⟨w.heap.size, 3, none⟩))) rfl Same.refl ?_
            first | (simp only [mkAct, List.foldl_cons, List.foldl_nil, List.setIfInBounds_toArray, List.set_cons_succ, List.set_cons_zero, upd, reduceIte, Nat.reduceEqDiff, Nat.reduceAdd, str]; done) | (simp [mkAct, upd, str, *]; done)
          · -- operation 3
            obtain ⟨f2, fG0, -⟩ := hp
            replace f2 : u 2 = (.pointer (some ⟨w.heap.size, 3, none⟩)) := f2
            try simp only [f2, str]
            go_wp2_with (refine store_one rfl _ _ _ rfl w.heap.size 3 (.bool true) rfl rfl rfl rfl _ _ fG0 (by kernel_rfl) (by rw [hlen.out]; decide) ?_; intro w4 hb4 hk4)
            refine stg_v (x := undef) (by show rowAt _ _ _ _; unfold rowAt; rw [← st1.out]; exact hb4) hk4 ?_
            first | (simp only [mkAct, List.foldl_cons, List.foldl_nil, List.setIfInBounds_toArray, List.set_cons_succ, List.set_cons_zero, upd, reduceIte, Nat.reduceEqDiff, Nat.reduceAdd, f2, str]; done) | (simp [mkAct, upd, f2, str, *]; done)
          · -- operation 4
            go_wp2
            refine stg_v (x := (.pointer (some ⟨w.heap.size, 0, none⟩))) rfl Same.refl ?_
            first | (simp only [mkAct, List.foldl_cons, List.foldl_nil, List.setIfInBounds_toArray, List.set_cons_succ, List.set_cons_zero, upd, reduceIte, Nat.reduceEqDiff, Nat.reduceAdd, str]; done) | (simp [mkAct, upd, str, *]; done)
          · -- operation 5
            obtain ⟨f4, f0, f3, -⟩ := hp
            replace f4 : u 4 = (.pointer (some ⟨w.heap.size, 0, none⟩)) := f4
            replace f0 : u 0 = (.int .i64 view) := f0
            try simp only [f4, f0, str]
            go_wp2_with (refine store_one rfl _ _ _ rfl w.heap.size 0 (.int .i64 view) rfl rfl rfl rfl _ _ f3 (by kernel_rfl) (by rw [hl1.out]; decide) ?_; intro w4 hb4 hk4)
            refine stg_v (x := undef) (by show rowAt _ _ _ _; unfold rowAt; rw [← st2.out]; exact hb4) hk4 ?_
            first | (simp only [mkAct, List.foldl_cons, List.foldl_nil, List.setIfInBounds_toArray, List.set_cons_succ, List.set_cons_zero, upd, reduceIte, Nat.reduceEqDiff, Nat.reduceAdd, f4, f0, str]; done) | (simp [mkAct, upd, f4, f0, str, *]; done)
          · -- operation 6
            go_wp2
            refine stg_v (x := (.pointer (some ⟨w.heap.size, 1, none⟩))) rfl Same.refl ?_
            first | (simp only [mkAct, List.foldl_cons, List.foldl_nil, List.setIfInBounds_toArray, List.set_cons_succ, List.set_cons_zero, upd, reduceIte, Nat.reduceEqDiff, Nat.reduceAdd, str]; done) | (simp [mkAct, upd, str, *]; done)
          · -- operation 7
            obtain ⟨f6, f1, f5, -⟩ := hp
            replace f6 : u 6 = (.pointer (some ⟨w.heap.size, 1, none⟩)) := f6
            replace f1 : u 1 = (.agg b.cells.toArray) := f1
            try simp only [f6, f1, str]
            go_wp2_with (refine store_mid rfl _ _ _ rfl w.heap.size 1 b.cells rfl rfl _ _ f5 hinfbb.out (by rw [hl2.out, bat_len]; decide) (bat_oneL b) ?_; intro w4 hb4 hk4)
            refine stg_v (x := undef) (by show rowAt _ _ _ _; unfold rowAt; rw [← st3.out]; exact hb4) hk4 ?_
            first | (simp only [mkAct, List.foldl_cons, List.foldl_nil, List.setIfInBounds_toArray, List.set_cons_succ, List.set_cons_zero, upd, reduceIte, Nat.reduceEqDiff, Nat.reduceAdd, f6, f1, str]; done) | (simp [mkAct, upd, f6, f1, str, *]; done)
        · intro u wx hI hR
          obtain ⟨r0, r1, r2, r4, r6, r7, -⟩ := hR
          replace r0 : u 0 = (.int .i64 view) := r0
          replace r1 : u 1 = (.agg b.cells.toArray) := r1
          replace r2 : u 2 = (.pointer (some ⟨w.heap.size, 3, none⟩)) := r2
          replace r4 : u 4 = (.pointer (some ⟨w.heap.size, 0, none⟩)) := r4
          replace r6 : u 6 = (.pointer (some ⟨w.heap.size, 1, none⟩)) := r6
          simp only [mkAct, List.foldl_cons, List.foldl_nil, List.setIfInBounds_toArray, List.set_cons_succ, List.set_cons_zero]
          try simp only [str, r0, r1, r2, r4, r6]
          have r04 : wx.heap[w.heap.size]? = some (.cells s3.cells.toArray 42 (0, 0)) := r7
          have r24 := Lib.hid ((hI.block _ (by omega) (by omega)).trans r23.out)
          have hw4 := Lib.hid (hw3.out.keep hI (fun x hx hv => by omega))
          clear hI r03 r13 r23 hw3 r7
          replace r04 := Lib.hid r04
          go_wp2_with (first | (refine load_row rfl _ _ rfl w.heap.size rfl _ _ _ _ r04.out Try.underlying42 rfl hinf3.out ?_) | (refine store_row rfl _ _ _ rfl w1.heap.size s3.cells.toArray rfl rfl _ _ r24.out hinf3.out hsz3.out (slot_one _) ?_; intro w9 hb9 hk9; replace hb9 := Lib.hid hb9; replace hk9 := Lib.hid hk9))
          refine bodyPost_ret (v := .tuple #[.agg s3.cells.toArray, .int .i64 0]) (results_row2 (p := 6) (q := 7) (ty := 42) rfl _ _ w1.heap.size _ _ _ _ _ rfl rfl hb9.out Try.underlying42 rfl hinf3.out) rfl ?_
          exact ⟨rfl, hw4.out.keep hk9.out (fun x hx hv => by omega)⟩
    refine key ?_
    rcases h2 with h2 | ⟨h2, h3⟩
    · exact ⟨_, h2, .inl rfl⟩
    · exact ⟨_, h2, .inr ⟨rfl, h3⟩⟩
end Go.Proofs.Ytmacgmmjgdmleaa
namespace Go.Proofs.Ytmacgmmjgdmleaa
open Go Go.RowKit
set_option linter.unusedSimpArgs false
set_option linter.unusedVariables false
set_option maxRecDepth 100000

theorem hold_cases (s : SlotV) (c : CertV) : (c.vote.kind ≠ 1 ∧ s.hold c = (zeroSlot, 181)) ∨ (c.vote.kind = 1 ∧ (s.is && Decidable.decide (s.view = c.vote.view)) = false ∧ s.hold c = (zeroSlot, 180)) ∨
    (c.vote.kind = 1 ∧ (s.is && Decidable.decide (s.view = c.vote.view)) = true ∧ c.vote.dig ≠ bDig s.bat ∧ s.hold c = (zeroSlot, 181)) ∨
    (c.vote.kind = 1 ∧ (s.is && Decidable.decide (s.view = c.vote.view)) = true ∧ c.vote.dig = bDig s.bat ∧ s.holds = true ∧ c.vote.view ≤ s.hcert.vote.view ∧ s.hold c = (s, 0)) ∨
    (c.vote.kind = 1 ∧ (s.is && Decidable.decide (s.view = c.vote.view)) = true ∧ c.vote.dig = bDig s.bat ∧ (s.holds = false ∨ s.holds = true ∧ s.hcert.vote.view < c.vote.view) ∧ s.hold c = ({ s with holds := true, hbat := s.bat, hcert := c }, 0)) := by
  unfold SlotV.hold
  by_cases h1 : c.vote.kind = 1
  · cases hi : (s.is && Decidable.decide (s.view = c.vote.view))
    · have hn : ¬ (s.is = true ∧ s.view = c.vote.view) := by
        rintro ⟨h2, h3⟩
        rw [h2, h3] at hi
        simp at hi
      exact .inr (.inl ⟨h1, rfl, by rw [if_neg (by simp [h1]), if_pos hn]⟩)
    · have hn : s.is = true ∧ s.view = c.vote.view := by simpa using hi
      by_cases h4 : c.vote.dig = bDig s.bat
      · cases h5 : s.holds
        · exact .inr (.inr (.inr (.inr ⟨h1, rfl, h4, .inl rfl, by rw [if_neg (by simp [h1]), if_neg (by simp [hn.1, hn.2]), if_neg (by simp [h4]), if_neg (by simp)]⟩)))
        · by_cases h6 : c.vote.view ≤ s.hcert.vote.view
          · exact .inr (.inr (.inr (.inl ⟨h1, rfl, h4, rfl, h6, by rw [if_neg (by simp [h1]), if_neg (by simp [hn.1, hn.2]), if_neg (by simp [h4]), if_pos ⟨rfl, h6⟩]⟩)))
          · exact .inr (.inr (.inr (.inr ⟨h1, rfl, h4, .inr ⟨rfl, by omega⟩, by rw [if_neg (by simp [h1]), if_neg (by simp [hn.1, hn.2]), if_neg (by simp [h4]), if_neg (fun h => h6 h.2)]⟩)))
      · exact .inr (.inr (.inl ⟨h1, rfl, h4, by rw [if_neg (by simp [h1]), if_neg (by simp [hn.1, hn.2]), if_pos h4]⟩))
  · exact .inl ⟨h1, by rw [if_pos h1]⟩
set_option maxRecDepth 100000 in
set_option maxHeartbeats 6400000 in
theorem hold_any (s : SlotV) (c : CertV) (w : World) (hs : s.at w) (hc : c.at w) (hsm : s.bat.small) :
    Calls Try.prog 17 #[.agg s.cells.toArray, .agg c.cells.toArray] w (RetSlot w (s.hold c)) := by
  have hwf := hs.wf
  have hinf := Lib.hid (slot_info hwf)
  have hinfZ := Lib.hid (slot_info zeroSlot_wf)
  have hinfC := Lib.hid (cert_info hc.1)
  have hinfb := Lib.hid (bat_infoL s.bat)
  have hlen := Lib.hid (SlotV.len hwf)
  have hIn := Lib.hid (fun w => slotIn_any s c.vote.view w hwf)
  have hd1 := Lib.hid (fun w h => bdig_any s.bat w h hsm)
  have hq := fun w => dig_neq c.vote.dig (bDig s.bat) hc.1.1 (bDig_length _) w
  have hgd := dig_guard
  have hDl := hc.1.1
  have hinfD : (Try.prog.info? 28).map (·.size) = some (bv c.vote.dig).length := by rw [bv_length, hDl]; kernel_rfl
  have hcs := hold_cases s c
  obtain ⟨R, hR⟩ : ∃ R, R = s.hold c := ⟨_, rfl⟩
  rw [← hR] at hcs ⊢
  obtain ⟨J, hJ⟩ : ∃ J, J = (s.is && Decidable.decide (s.view = c.vote.view)) := ⟨_, rfl⟩
  rw [← hJ] at hIn hcs
  obtain ⟨D1, hD1⟩ : ∃ D, D = c.vote.dig := ⟨_, rfl⟩
  obtain ⟨D2, hD2⟩ : ∃ D, D = bDig s.bat := ⟨_, rfl⟩
  rw [show batDig s.bat.noop s.bat.reqs = D2 from hD2.symm] at hd1
  rw [← hD1, ← hD2] at hq hcs
  rw [← hD1] at hinfD
  obtain ⟨q, hqe⟩ : ∃ q, q = (D1 != D2) := ⟨_, rfl⟩
  rw [← hqe] at hq
  have hq1 : D1 = D2 → q = false := fun h => by rw [hqe, h]; simp
  have hq2 : D1 ≠ D2 → q = true := fun h => by rw [hqe]; simp [h]
  clear hR hJ hD2 hqe hsm hDl
  replace hinfD := Lib.hid hinfD
  replace hD1 := Lib.hid hD1
  replace hq := Lib.hid hq
  replace hgd := Lib.hid hgd
  replace hwf := Lib.hid hwf
  replace hs := Lib.hid hs
  replace hc := Lib.hid hc
  rcases hcs with ⟨h1, h⟩ | ⟨h1, rfl, h⟩ | ⟨h1, rfl, h3, h⟩ | ⟨h1, rfl, h3, h4, h5, h⟩ | ⟨h1, rfl, h3, h4, h⟩
  · subst h
    have h1' : (c.vote.kind != 1) = true := by simpa using h1
    clear hq hgd hq1 hq2 hIn hd1
    go_enter Try.func17, Try.ntmps17
    go_upto_region 1 with (first | (refine box_row rfl _ _ rfl s.cells.toArray rfl hinf.out ?_; intro w0 hbs hs0; have l0 := blk_lt hbs; replace hbs := Lib.hid hbs; replace hs0 := Lib.hid hs0) | (refine box_row rfl _ _ rfl c.cells.toArray rfl hinfC.out ?_; intro w1 hbb hs1; have l1 := blk_lt hbb; replace hbb := Lib.hid hbb; replace hs1 := Lib.hid hs1) | (refine alloc_new rfl 42 rfl zeroSlot.cells.toArray (by kernel_rfl) ?_; intro w2 hbz hs2; have l2 := blk_lt hbz; replace hbz := Lib.hid hbz; replace hs2 := Lib.hid hs2))
    have r0 := Lib.hid ((hs1.out.trans hs2.out).at hbs.out)
    have r1 := Lib.hid (hs2.out.at hbb.out)
    have hw2 := Lib.hid (hs0.out.trans (hs1.out.trans hs2.out))
    have z0 := hs0.out.size
    have z1 := hs1.out.size
    have z2 := hs2.out.size
    have k0 := ce_kind r1.out
    have k2 := ce_view r1.out
    clear hbs hbb hs0 hs1 hs2
    go_wp2_with (first | (refine build_const (ty := 42) (.agg zeroSlot.cells.toArray) rfl rfl (by kernel_rfl) ?_) | (refine store_row rfl _ _ _ rfl w1.heap.size zeroSlot.cells.toArray rfl rfl _ _ hbz.out hinfZ.out rfl (slot_one _) ?_; intro w9 hb9 hk9; replace hb9 := Lib.hid hb9; replace hk9 := Lib.hid hk9))
    refine bodyPost_ret (v := .tuple #[.agg zeroSlot.cells.toArray, .int .i64 181]) (results_row2 (p := 4) (q := 5) (ty := 42) rfl _ _ w1.heap.size _ _ _ _ _ rfl rfl hb9.out Try.underlying42 rfl hinfZ.out) rfl ?_
    exact ⟨rfl, hw2.out.keep hk9.out (fun x hx hv => by omega)⟩
  · subst h
    clear hq hgd hq1 hq2 hd1
    go_enter Try.func17, Try.ntmps17
    go_upto_region 1 with (first | (refine box_row rfl _ _ rfl s.cells.toArray rfl hinf.out ?_; intro w0 hbs hs0; have l0 := blk_lt hbs; replace hbs := Lib.hid hbs; replace hs0 := Lib.hid hs0) | (refine box_row rfl _ _ rfl c.cells.toArray rfl hinfC.out ?_; intro w1 hbb hs1; have l1 := blk_lt hbb; replace hbb := Lib.hid hbb; replace hs1 := Lib.hid hs1) | (refine alloc_new rfl 42 rfl zeroSlot.cells.toArray (by kernel_rfl) ?_; intro w2 hbz hs2; have l2 := blk_lt hbz; replace hbz := Lib.hid hbz; replace hs2 := Lib.hid hs2))
    have r0 := Lib.hid ((hs1.out.trans hs2.out).at hbs.out)
    have r1 := Lib.hid (hs2.out.at hbb.out)
    have hw2 := Lib.hid (hs0.out.trans (hs1.out.trans hs2.out))
    have z0 := hs0.out.size
    have z1 := hs1.out.size
    have z2 := hs2.out.size
    have k0 := ce_kind r1.out
    have k2 := ce_view r1.out
    clear hbs hbb hs0 hs1 hs2
    rw [h1] at k0
    go_wp2_with (refine load_row rfl _ _ rfl w.heap.size rfl _ _ _ _ r0.out Try.underlying42 rfl hinf.out ?_)
    refine (hIn.out _).mono ?_
    rintro e w3 ⟨rfl, hs3⟩
    have r23 := Lib.hid (hs3.at hbz.out)
    have hw3 := Lib.hid (hw2.out.trans hs3)
    have z3 := hs3.size
    clear hs3 r0 r1 hbz hw2 k0 k2
    go_wp2_with (first | (refine build_const (ty := 42) (.agg zeroSlot.cells.toArray) rfl rfl (by kernel_rfl) ?_) | (refine store_row rfl _ _ _ rfl w1.heap.size zeroSlot.cells.toArray rfl rfl _ _ r23.out hinfZ.out rfl (slot_one _) ?_; intro w9 hb9 hk9; replace hb9 := Lib.hid hb9; replace hk9 := Lib.hid hk9))
    refine bodyPost_ret (v := .tuple #[.agg zeroSlot.cells.toArray, .int .i64 180]) (results_row2 (p := 4) (q := 5) (ty := 42) rfl _ _ w1.heap.size _ _ _ _ _ rfl rfl hb9.out Try.underlying42 rfl hinfZ.out) rfl ?_
    exact ⟨rfl, hw3.out.keep hk9.out (fun x hx hv => by omega)⟩
  · subst h
    obtain rfl := hq2 h3
    clear hq1 hq2 h3
    go_enter Try.func17, Try.ntmps17
    go_upto_region 1 with (first | (refine box_row rfl _ _ rfl s.cells.toArray rfl hinf.out ?_; intro w0 hbs hs0; have l0 := blk_lt hbs; replace hbs := Lib.hid hbs; replace hs0 := Lib.hid hs0) | (refine box_row rfl _ _ rfl c.cells.toArray rfl hinfC.out ?_; intro w1 hbb hs1; have l1 := blk_lt hbb; replace hbb := Lib.hid hbb; replace hs1 := Lib.hid hs1) | (refine alloc_new rfl 42 rfl zeroSlot.cells.toArray (by kernel_rfl) ?_; intro w2 hbz hs2; have l2 := blk_lt hbz; replace hbz := Lib.hid hbz; replace hs2 := Lib.hid hs2))
    have r0 := Lib.hid ((hs1.out.trans hs2.out).at hbs.out)
    have r1 := Lib.hid (hs2.out.at hbb.out)
    have hw2 := Lib.hid (hs0.out.trans (hs1.out.trans hs2.out))
    have z0 := hs0.out.size
    have z1 := hs1.out.size
    have z2 := hs2.out.size
    have k0 := ce_kind r1.out
    have k2 := ce_view r1.out
    clear hbs hbb hs0 hs1 hs2
    rw [h1] at k0
    go_wp2_with (refine load_row rfl _ _ rfl w.heap.size rfl _ _ _ _ r0.out Try.underlying42 rfl hinf.out ?_)
    refine (hIn.out _).mono ?_
    rintro e w3 ⟨rfl, hs3⟩
    have r03 := Lib.hid (hs3.at r0.out)
    have hdr : w3.rangeAt w0.heap.size 4 (bv D1) := by rw [hD1.out]; exact ce_dig (hs3.at r1.out)
    have r23 := Lib.hid (hs3.at hbz.out)
    have hw3 := Lib.hid (hw2.out.trans hs3)
    have z3 := hs3.size
    replace hdr := Lib.hid hdr
    clear hs3 r0 r1 hbz hw2 k0 k2
    go_upto_region 5 with fail
    refine wp_region_facts (by kernel_rfl) [(21, 0), (22, 1), (23, 2), (24, 3), (25, 4), (26, 5), (27, 6), (20, 7)] Same (Same _) [isV (.pointer (some ⟨w0.heap.size, 0, none⟩)), isV (.pointer (some ⟨w0.heap.size, 4, none⟩)), isV (.agg (bv D1).toArray), isV (.pointer (some ⟨w.heap.size, 1, none⟩)), isV (.agg s.bat.cells.toArray), isV (.agg (bv D2).toArray), isV (.bool true), isV (.bool true)] Same.refl.drew (fun _ _ h k => h.trans k) (by simp [isV_stable, isB_stable, isAny_stable]) (by decide) (by decide) ?_ ?_
    · refine ⟨?_, ?_, ?_, ?_, ?_, ?_, ?_, ?_, trivial⟩
      all_goals (intro u wx hI hp; simp only [mkAct, List.foldl_cons, List.foldl_nil, List.setIfInBounds_toArray, List.set_cons_succ, List.set_cons_zero])
      · -- operation 0
        go_wp2
        refine stq_v rfl Same.refl ?_
        first | (simp only [mkAct, List.foldl_cons, List.foldl_nil, List.setIfInBounds_toArray, List.set_cons_succ, List.set_cons_zero, upd, reduceIte, Nat.reduceEqDiff, Nat.reduceAdd, str]; done) | (simp [mkAct, upd, str, *]; done)
      · -- operation 1
        obtain ⟨f0, -⟩ := hp
        replace f0 : u 0 = (.pointer (some ⟨w0.heap.size, 0, none⟩)) := f0
        try simp only [f0, str]
        go_wp2
        refine stq_v rfl Same.refl ?_
        first | (simp only [mkAct, List.foldl_cons, List.foldl_nil, List.setIfInBounds_toArray, List.set_cons_succ, List.set_cons_zero, upd, reduceIte, Nat.reduceEqDiff, Nat.reduceAdd, f0, str]; done) | (simp [mkAct, upd, f0, str, *]; done)
      · -- operation 2
        obtain ⟨f1, -⟩ := hp
        replace f1 : u 1 = (.pointer (some ⟨w0.heap.size, 4, none⟩)) := f1
        try simp only [f1, str]
        go_wp2_with (refine load_mid rfl _ _ rfl w0.heap.size 4 rfl (bv D1) _ (hI.range hdr.out) Try.underlying28 rfl hinfD.out ?_)
        refine stq_v rfl Same.refl ?_
        first | (simp only [mkAct, List.foldl_cons, List.foldl_nil, List.setIfInBounds_toArray, List.set_cons_succ, List.set_cons_zero, upd, reduceIte, Nat.reduceEqDiff, Nat.reduceAdd, f1, str]; done) | (simp [mkAct, upd, f1, str, *]; done)
      · -- operation 3
        go_wp2
        refine stq_v rfl Same.refl ?_
        first | (simp only [mkAct, List.foldl_cons, List.foldl_nil, List.setIfInBounds_toArray, List.set_cons_succ, List.set_cons_zero, upd, reduceIte, Nat.reduceEqDiff, Nat.reduceAdd, str]; done) | (simp [mkAct, upd, str, *]; done)
      · -- operation 4
        obtain ⟨f3, -⟩ := hp
        replace f3 : u 3 = (.pointer (some ⟨w.heap.size, 1, none⟩)) := f3
        try simp only [f3, str]
        go_wp2_with (refine load_mid rfl _ _ rfl w.heap.size 1 rfl s.bat.cells _ (hI.range (sl_bat r03.out)) Try.underlying26 rfl hinfb.out ?_)
        refine stq_v rfl Same.refl ?_
        first | (simp only [mkAct, List.foldl_cons, List.foldl_nil, List.setIfInBounds_toArray, List.set_cons_succ, List.set_cons_zero, upd, reduceIte, Nat.reduceEqDiff, Nat.reduceAdd, f3, str]; done) | (simp [mkAct, upd, f3, str, *]; done)
      · -- operation 5
        obtain ⟨f4, -⟩ := hp
        replace f4 : u 4 = (.agg s.bat.cells.toArray) := f4
        try simp only [f4, str]
        go_wp2_with fail
        refine (hd1.out _ (BatV.same hs.out.2.2.1 (hw3.out.trans hI))).mono ?_
        rintro e w1 ⟨rfl, hs'⟩
        go_wp2
        refine stq_v rfl hs' ?_
        first | (simp only [mkAct, List.foldl_cons, List.foldl_nil, List.setIfInBounds_toArray, List.set_cons_succ, List.set_cons_zero, upd, reduceIte, Nat.reduceEqDiff, Nat.reduceAdd, f4, str]; done) | (simp [mkAct, upd, f4, str, *]; done)
      · -- operation 6
        obtain ⟨f2, f5, -⟩ := hp
        replace f2 : u 2 = (.agg (bv D1).toArray) := f2
        replace f5 : u 5 = (.agg (bv D2).toArray) := f5
        try simp only [f2, f5, str]
        have hqo := hq.out
        have hgo := hgd.out
        go_wp2
        refine stq_v rfl Same.refl ?_
        first | (simp only [mkAct, List.foldl_cons, List.foldl_nil, List.setIfInBounds_toArray, List.set_cons_succ, List.set_cons_zero, upd, reduceIte, Nat.reduceEqDiff, Nat.reduceAdd, f2, f5, str]; done) | (simp [mkAct, upd, f2, f5, str, *]; done)
      · -- operation 7
        obtain ⟨f6, -, -⟩ := hp
        replace f6 : u 6 = (.bool true) := f6
        try simp only [f6, str]
        go_wp2
        refine stq_v rfl Same.refl ?_
        first | (simp only [mkAct, List.foldl_cons, List.foldl_nil, List.setIfInBounds_toArray, List.set_cons_succ, List.set_cons_zero, upd, reduceIte, Nat.reduceEqDiff, Nat.reduceAdd, f6, str]; done) | (simp [mkAct, upd, f6, str, *]; done)
    · intro u wx hI hR
      obtain ⟨r0, r1, r2, r3, r4, r5, r6, r7, -⟩ := hR
      replace r0 : u 0 = (.pointer (some ⟨w0.heap.size, 0, none⟩)) := r0
      replace r1 : u 1 = (.pointer (some ⟨w0.heap.size, 4, none⟩)) := r1
      replace r2 : u 2 = (.agg (bv D1).toArray) := r2
      replace r3 : u 3 = (.pointer (some ⟨w.heap.size, 1, none⟩)) := r3
      replace r4 : u 4 = (.agg s.bat.cells.toArray) := r4
      replace r5 : u 5 = (.agg (bv D2).toArray) := r5
      replace r6 : u 6 = (.bool true) := r6
      replace r7 : u 7 = (.bool true) := r7
      simp only [mkAct, List.foldl_cons, List.foldl_nil, List.setIfInBounds_toArray, List.set_cons_succ, List.set_cons_zero]
      try simp only [str, r0, r1, r2, r3, r4, r5, r6, r7]
      have r24 := Lib.hid (hI.at r23.out)
      have hw4 := Lib.hid (hw3.out.trans hI)
      clear hI r0 r1 r2 r3 r4 r5 r6 r03 r23 hw3
      go_wp2_with (first | (refine build_const (ty := 42) (.agg zeroSlot.cells.toArray) rfl rfl (by kernel_rfl) ?_) | (refine store_row rfl _ _ _ rfl w1.heap.size zeroSlot.cells.toArray rfl rfl _ _ r24.out hinfZ.out rfl (slot_one _) ?_; intro w9 hb9 hk9; replace hb9 := Lib.hid hb9; replace hk9 := Lib.hid hk9))
      refine bodyPost_ret (v := .tuple #[.agg zeroSlot.cells.toArray, .int .i64 181]) (results_row2 (p := 4) (q := 5) (ty := 42) rfl _ _ w1.heap.size _ _ _ _ _ rfl rfl hb9.out Try.underlying42 rfl hinfZ.out) rfl ?_
      exact ⟨rfl, hw4.out.keep hk9.out (fun x hx hv => by omega)⟩
  · subst h
    obtain rfl := hq1 h3
    clear hq1 hq2 h3
    have h5' : Decidable.decide (s.hcert.vote.view < c.vote.view) = false := decide_eq_false (by omega)
    go_enter Try.func17, Try.ntmps17
    go_upto_region 1 with (first | (refine box_row rfl _ _ rfl s.cells.toArray rfl hinf.out ?_; intro w0 hbs hs0; have l0 := blk_lt hbs; replace hbs := Lib.hid hbs; replace hs0 := Lib.hid hs0) | (refine box_row rfl _ _ rfl c.cells.toArray rfl hinfC.out ?_; intro w1 hbb hs1; have l1 := blk_lt hbb; replace hbb := Lib.hid hbb; replace hs1 := Lib.hid hs1) | (refine alloc_new rfl 42 rfl zeroSlot.cells.toArray (by kernel_rfl) ?_; intro w2 hbz hs2; have l2 := blk_lt hbz; replace hbz := Lib.hid hbz; replace hs2 := Lib.hid hs2))
    have r0 := Lib.hid ((hs1.out.trans hs2.out).at hbs.out)
    have r1 := Lib.hid (hs2.out.at hbb.out)
    have hw2 := Lib.hid (hs0.out.trans (hs1.out.trans hs2.out))
    have z0 := hs0.out.size
    have z1 := hs1.out.size
    have z2 := hs2.out.size
    have k0 := ce_kind r1.out
    have k2 := ce_view r1.out
    clear hbs hbb hs0 hs1 hs2
    rw [h1] at k0
    go_wp2_with (refine load_row rfl _ _ rfl w.heap.size rfl _ _ _ _ r0.out Try.underlying42 rfl hinf.out ?_)
    refine (hIn.out _).mono ?_
    rintro e w3 ⟨rfl, hs3⟩
    have r03 := Lib.hid (hs3.at r0.out)
    have r13 := Lib.hid (hs3.at r1.out)
    have hdr : w3.rangeAt w0.heap.size 4 (bv D1) := by rw [hD1.out]; exact ce_dig (hs3.at r1.out)
    have r23 := Lib.hid (hs3.at hbz.out)
    have hw3 := Lib.hid (hw2.out.trans hs3)
    have z3 := hs3.size
    replace hdr := Lib.hid hdr
    clear hs3 r0 r1 hbz hw2 k0 k2
    go_upto_region 5 with fail
    refine wp_region_facts (by kernel_rfl) [(21, 0), (22, 1), (23, 2), (24, 3), (25, 4), (26, 5), (27, 6), (20, 7)] Same (Same _) [isV (.pointer (some ⟨w0.heap.size, 0, none⟩)), isV (.pointer (some ⟨w0.heap.size, 4, none⟩)), isV (.agg (bv D1).toArray), isV (.pointer (some ⟨w.heap.size, 1, none⟩)), isV (.agg s.bat.cells.toArray), isV (.agg (bv D2).toArray), isV (.bool false), isV (.bool false)] Same.refl.drew (fun _ _ h k => h.trans k) (by simp [isV_stable, isB_stable, isAny_stable]) (by decide) (by decide) ?_ ?_
    · refine ⟨?_, ?_, ?_, ?_, ?_, ?_, ?_, ?_, trivial⟩
      all_goals (intro u wx hI hp; simp only [mkAct, List.foldl_cons, List.foldl_nil, List.setIfInBounds_toArray, List.set_cons_succ, List.set_cons_zero])
      · -- operation 0
        go_wp2
        refine stq_v rfl Same.refl ?_
        first | (simp only [mkAct, List.foldl_cons, List.foldl_nil, List.setIfInBounds_toArray, List.set_cons_succ, List.set_cons_zero, upd, reduceIte, Nat.reduceEqDiff, Nat.reduceAdd, str]; done) | (simp [mkAct, upd, str, *]; done)
      · -- operation 1
        obtain ⟨f0, -⟩ := hp
        replace f0 : u 0 = (.pointer (some ⟨w0.heap.size, 0, none⟩)) := f0
        try simp only [f0, str]
        go_wp2
        refine stq_v rfl Same.refl ?_
        first | (simp only [mkAct, List.foldl_cons, List.foldl_nil, List.setIfInBounds_toArray, List.set_cons_succ, List.set_cons_zero, upd, reduceIte, Nat.reduceEqDiff, Nat.reduceAdd, f0, str]; done) | (simp [mkAct, upd, f0, str, *]; done)
      · -- operation 2
        obtain ⟨f1, -⟩ := hp
        replace f1 : u 1 = (.pointer (some ⟨w0.heap.size, 4, none⟩)) := f1
        try simp only [f1, str]
        go_wp2_with (refine load_mid rfl _ _ rfl w0.heap.size 4 rfl (bv D1) _ (hI.range hdr.out) Try.underlying28 rfl hinfD.out ?_)
        refine stq_v rfl Same.refl ?_
        first | (simp only [mkAct, List.foldl_cons, List.foldl_nil, List.setIfInBounds_toArray, List.set_cons_succ, List.set_cons_zero, upd, reduceIte, Nat.reduceEqDiff, Nat.reduceAdd, f1, str]; done) | (simp [mkAct, upd, f1, str, *]; done)
      · -- operation 3
        go_wp2
        refine stq_v rfl Same.refl ?_
        first | (simp only [mkAct, List.foldl_cons, List.foldl_nil, List.setIfInBounds_toArray, List.set_cons_succ, List.set_cons_zero, upd, reduceIte, Nat.reduceEqDiff, Nat.reduceAdd, str]; done) | (simp [mkAct, upd, str, *]; done)
      · -- operation 4
        obtain ⟨f3, -⟩ := hp
        replace f3 : u 3 = (.pointer (some ⟨w.heap.size, 1, none⟩)) := f3
        try simp only [f3, str]
        go_wp2_with (refine load_mid rfl _ _ rfl w.heap.size 1 rfl s.bat.cells _ (hI.range (sl_bat r03.out)) Try.underlying26 rfl hinfb.out ?_)
        refine stq_v rfl Same.refl ?_
        first | (simp only [mkAct, List.foldl_cons, List.foldl_nil, List.setIfInBounds_toArray, List.set_cons_succ, List.set_cons_zero, upd, reduceIte, Nat.reduceEqDiff, Nat.reduceAdd, f3, str]; done) | (simp [mkAct, upd, f3, str, *]; done)
      · -- operation 5
        obtain ⟨f4, -⟩ := hp
        replace f4 : u 4 = (.agg s.bat.cells.toArray) := f4
        try simp only [f4, str]
        go_wp2_with fail
        refine (hd1.out _ (BatV.same hs.out.2.2.1 (hw3.out.trans hI))).mono ?_
        rintro e w1 ⟨rfl, hs'⟩
        go_wp2
        refine stq_v rfl hs' ?_
        first | (simp only [mkAct, List.foldl_cons, List.foldl_nil, List.setIfInBounds_toArray, List.set_cons_succ, List.set_cons_zero, upd, reduceIte, Nat.reduceEqDiff, Nat.reduceAdd, f4, str]; done) | (simp [mkAct, upd, f4, str, *]; done)
      · -- operation 6
        obtain ⟨f2, f5, -⟩ := hp
        replace f2 : u 2 = (.agg (bv D1).toArray) := f2
        replace f5 : u 5 = (.agg (bv D2).toArray) := f5
        try simp only [f2, f5, str]
        have hqo := hq.out
        have hgo := hgd.out
        go_wp2
        refine stq_v rfl Same.refl ?_
        first | (simp only [mkAct, List.foldl_cons, List.foldl_nil, List.setIfInBounds_toArray, List.set_cons_succ, List.set_cons_zero, upd, reduceIte, Nat.reduceEqDiff, Nat.reduceAdd, f2, f5, str]; done) | (simp [mkAct, upd, f2, f5, str, *]; done)
      · -- operation 7
        obtain ⟨f6, -, -⟩ := hp
        replace f6 : u 6 = (.bool false) := f6
        try simp only [f6, str]
        go_wp2
        refine stq_v rfl Same.refl ?_
        first | (simp only [mkAct, List.foldl_cons, List.foldl_nil, List.setIfInBounds_toArray, List.set_cons_succ, List.set_cons_zero, upd, reduceIte, Nat.reduceEqDiff, Nat.reduceAdd, f6, str]; done) | (simp [mkAct, upd, f6, str, *]; done)
    · intro u wx hI hR
      obtain ⟨r0, r1, r2, r3, r4, r5, r6, r7, -⟩ := hR
      replace r0 : u 0 = (.pointer (some ⟨w0.heap.size, 0, none⟩)) := r0
      replace r1 : u 1 = (.pointer (some ⟨w0.heap.size, 4, none⟩)) := r1
      replace r2 : u 2 = (.agg (bv D1).toArray) := r2
      replace r3 : u 3 = (.pointer (some ⟨w.heap.size, 1, none⟩)) := r3
      replace r4 : u 4 = (.agg s.bat.cells.toArray) := r4
      replace r5 : u 5 = (.agg (bv D2).toArray) := r5
      replace r6 : u 6 = (.bool false) := r6
      replace r7 : u 7 = (.bool false) := r7
      simp only [mkAct, List.foldl_cons, List.foldl_nil, List.setIfInBounds_toArray, List.set_cons_succ, List.set_cons_zero]
      try simp only [str, r0, r1, r2, r3, r4, r5, r6, r7]
      have r04 := Lib.hid (hI.at r03.out)
      have k2 := ce_view (hI.at r13.out)
      have r24 := Lib.hid (hI.at r23.out)
      have hw4 := Lib.hid (hw3.out.trans hI)
      have c43 := sl_holds r04.out hwf.out
      rw [h4] at c43
      have c8 := sl_hview r04.out
      clear hI r0 r1 r2 r3 r4 r5 r6 r03 r13 r23 hw3
      go_wp2_with (first | (refine load_row rfl _ _ rfl w.heap.size rfl _ _ _ _ r04.out Try.underlying42 rfl hinf.out ?_) | (refine store_row rfl _ _ _ rfl w1.heap.size s.cells.toArray rfl rfl _ _ r24.out hinf.out (slot_size zeroSlot_wf hwf.out) (slot_one _) ?_; intro w9 hb9 hk9; replace hb9 := Lib.hid hb9; replace hk9 := Lib.hid hk9))
      refine bodyPost_ret (v := .tuple #[.agg s.cells.toArray, .int .i64 0]) (results_row2 (p := 4) (q := 5) (ty := 42) rfl _ _ w1.heap.size _ _ _ _ _ rfl rfl hb9.out Try.underlying42 rfl hinf.out) rfl ?_
      exact ⟨rfl, hw4.out.keep hk9.out (fun x hx hv => by omega)⟩
  · subst h
    obtain rfl := hq1 h3
    clear hq1 hq2 h3
    obtain ⟨s1, hs1e⟩ : ∃ x, x = { s with holds := true } := ⟨_, rfl⟩
    obtain ⟨s2, hs2e⟩ : ∃ x, x = { s1 with hbat := s.bat, hcert := c } := ⟨_, rfl⟩
    have hfin : ({ s with holds := true, hbat := s.bat, hcert := c } : SlotV) = s2 := by rw [hs2e, hs1e]
    rw [hfin]
    have hw1f : s1.wf := by rw [hs1e]; exact hwf.out
    have hl1 : s1.cells.length = 85 := SlotV.len hw1f
    have hw2f : s2.wf := by rw [hs2e, hs1e]; exact ⟨hc.out.1, hwf.out.2⟩
    have st1 : s.cells.take 43 ++ ([.bool true] ++ s.cells.drop 44) = s1.cells := by rw [hs1e]; exact set_holds hwf.out true
    have st2 : s1.cells.take 4 ++ (heldCells s.bat c ++ s1.cells.drop (4 + (heldCells s.bat c).length)) = s2.cells := by rw [hs2e]; exact set_held hw1f s.bat c hc.out.1
    have hinf3 := Lib.hid (slot_info hw2f)
    have hinfH := Lib.hid (held_infoL (b := s.bat) hc.out.1)
    have hlH := Lib.hid (held_len (b := s.bat) hc.out.1)
    have hbH := Lib.hid (held_built s.bat c hc.out.1)
    clear hs1e hs2e hfin
    replace hw2f := Lib.hid hw2f
    replace hw1f := Lib.hid hw1f
    replace hl1 := Lib.hid hl1
    replace st1 := Lib.hid st1
    replace st2 := Lib.hid st2
    have key : ∀ (hx : ∃ i : Bool, s.holds = i ∧ (i = false ∨ i = true ∧ s.hcert.vote.view < c.vote.view)), Calls Try.prog 17 #[.agg s.cells.toArray, .agg c.cells.toArray] w (RetSlot w (s2, 0)) := by
      rintro ⟨i, hi, hx⟩
      clear h4
      replace hi := Lib.hid hi
      rcases hx with rfl | ⟨rfl, h5⟩
      all_goals
        go_enter Try.func17, Try.ntmps17
        go_upto_region 1 with (first | (refine box_row rfl _ _ rfl s.cells.toArray rfl hinf.out ?_; intro w0 hbs hs0; have l0 := blk_lt hbs; replace hbs := Lib.hid hbs; replace hs0 := Lib.hid hs0) | (refine box_row rfl _ _ rfl c.cells.toArray rfl hinfC.out ?_; intro w1 hbb hs1; have l1 := blk_lt hbb; replace hbb := Lib.hid hbb; replace hs1 := Lib.hid hs1) | (refine alloc_new rfl 42 rfl zeroSlot.cells.toArray (by kernel_rfl) ?_; intro w2 hbz hs2; have l2 := blk_lt hbz; replace hbz := Lib.hid hbz; replace hs2 := Lib.hid hs2))
        have r0 := Lib.hid ((hs1.out.trans hs2.out).at hbs.out)
        have r1 := Lib.hid (hs2.out.at hbb.out)
        have hw2 := Lib.hid (hs0.out.trans (hs1.out.trans hs2.out))
        have z0 := hs0.out.size
        have z1 := hs1.out.size
        have z2 := hs2.out.size
        have k0 := ce_kind r1.out
        have k2 := ce_view r1.out
        clear hbs hbb hs0 hs1 hs2
        rw [h1] at k0
        go_wp2_with (refine load_row rfl _ _ rfl w.heap.size rfl _ _ _ _ r0.out Try.underlying42 rfl hinf.out ?_)
        refine (hIn.out _).mono ?_
        rintro e w3 ⟨rfl, hs3⟩
        have r03 := Lib.hid (hs3.at r0.out)
        have r13 := Lib.hid (hs3.at r1.out)
        have hdr : w3.rangeAt w0.heap.size 4 (bv D1) := by rw [hD1.out]; exact ce_dig (hs3.at r1.out)
        have r23 := Lib.hid (hs3.at hbz.out)
        have hw3 := Lib.hid (hw2.out.trans hs3)
        have z3 := hs3.size
        replace hdr := Lib.hid hdr
        clear hs3 r0 r1 hbz hw2 k0 k2
        go_upto_region 5 with fail
        refine wp_region_facts (by kernel_rfl) [(21, 0), (22, 1), (23, 2), (24, 3), (25, 4), (26, 5), (27, 6), (20, 7)] Same (Same _) [isV (.pointer (some ⟨w0.heap.size, 0, none⟩)), isV (.pointer (some ⟨w0.heap.size, 4, none⟩)), isV (.agg (bv D1).toArray), isV (.pointer (some ⟨w.heap.size, 1, none⟩)), isV (.agg s.bat.cells.toArray), isV (.agg (bv D2).toArray), isV (.bool false), isV (.bool false)] Same.refl.drew (fun _ _ h k => h.trans k) (by simp [isV_stable, isB_stable, isAny_stable]) (by decide) (by decide) ?_ ?_
        · refine ⟨?_, ?_, ?_, ?_, ?_, ?_, ?_, ?_, trivial⟩
          all_goals (intro u wx hI hp; simp only [mkAct, List.foldl_cons, List.foldl_nil, List.setIfInBounds_toArray, List.set_cons_succ, List.set_cons_zero])
          · -- operation 0
            go_wp2
            refine stq_v rfl Same.refl ?_
            first | (simp only [mkAct, List.foldl_cons, List.foldl_nil, List.setIfInBounds_toArray, List.set_cons_succ, List.set_cons_zero, upd, reduceIte, Nat.reduceEqDiff, Nat.reduceAdd, str]; done) | (simp [mkAct, upd, str, *]; done)
          · -- operation 1
            obtain ⟨f0, -⟩ := hp
            replace f0 : u 0 = (.pointer (some ⟨w0.heap.size, 0, none⟩)) := f0
            try simp only [f0, str]
            go_wp2
            refine stq_v rfl Same.refl ?_
            first | (simp only [mkAct, List.foldl_cons, List.foldl_nil, List.setIfInBounds_toArray, List.set_cons_succ, List.set_cons_zero, upd, reduceIte, Nat.reduceEqDiff, Nat.reduceAdd, f0, str]; done) | (simp [mkAct, upd, f0, str, *]; done)
          · -- operation 2
            obtain ⟨f1, -⟩ := hp
            replace f1 : u 1 = (.pointer (some ⟨w0.heap.size, 4, none⟩)) := f1
            try simp only [f1, str]
            go_wp2_with (refine load_mid rfl _ _ rfl w0.heap.size 4 rfl (bv D1) _ (hI.range hdr.out) Try.underlying28 rfl hinfD.out ?_)
            refine stq_v rfl Same.refl ?_
            first | (simp only [mkAct, List.foldl_cons, List.foldl_nil, List.setIfInBounds_toArray, List.set_cons_succ, List.set_cons_zero, upd, reduceIte, Nat.reduceEqDiff, Nat.reduceAdd, f1, str]; done) | (simp [mkAct, upd, f1, str, *]; done)
          · -- operation 3
            go_wp2
            refine stq_v rfl Same.refl ?_
            first | (simp only [mkAct, List.foldl_cons, List.foldl_nil, List.setIfInBounds_toArray, List.set_cons_succ, List.set_cons_zero, upd, reduceIte, Nat.reduceEqDiff, Nat.reduceAdd, str]; done) | (simp [mkAct, upd, str, *]; done)
          · -- operation 4
            obtain ⟨f3, -⟩ := hp
            replace f3 : u 3 = (.pointer (some ⟨w.heap.size, 1, none⟩)) := f3
            try simp only [f3, str]
            go_wp2_with (refine load_mid rfl _ _ rfl w.heap.size 1 rfl s.bat.cells _ (hI.range (sl_bat r03.out)) Try.underlying26 rfl hinfb.out ?_)
            refine stq_v rfl Same.refl ?_
            first | (simp only [mkAct, List.foldl_cons, List.foldl_nil, List.setIfInBounds_toArray, List.set_cons_succ, List.set_cons_zero, upd, reduceIte, Nat.reduceEqDiff, Nat.reduceAdd, f3, str]; done) | (simp [mkAct, upd, f3, str, *]; done)
          · -- operation 5
            obtain ⟨f4, -⟩ := hp
            replace f4 : u 4 = (.agg s.bat.cells.toArray) := f4
            try simp only [f4, str]
            go_wp2_with fail
            refine (hd1.out _ (BatV.same hs.out.2.2.1 (hw3.out.trans hI))).mono ?_
            rintro e w1 ⟨rfl, hs'⟩
            go_wp2
            refine stq_v rfl hs' ?_
            first | (simp only [mkAct, List.foldl_cons, List.foldl_nil, List.setIfInBounds_toArray, List.set_cons_succ, List.set_cons_zero, upd, reduceIte, Nat.reduceEqDiff, Nat.reduceAdd, f4, str]; done) | (simp [mkAct, upd, f4, str, *]; done)
          · -- operation 6
            obtain ⟨f2, f5, -⟩ := hp
            replace f2 : u 2 = (.agg (bv D1).toArray) := f2
            replace f5 : u 5 = (.agg (bv D2).toArray) := f5
            try simp only [f2, f5, str]
            have hqo := hq.out
            have hgo := hgd.out
            go_wp2
            refine stq_v rfl Same.refl ?_
            first | (simp only [mkAct, List.foldl_cons, List.foldl_nil, List.setIfInBounds_toArray, List.set_cons_succ, List.set_cons_zero, upd, reduceIte, Nat.reduceEqDiff, Nat.reduceAdd, f2, f5, str]; done) | (simp [mkAct, upd, f2, f5, str, *]; done)
          · -- operation 7
            obtain ⟨f6, -, -⟩ := hp
            replace f6 : u 6 = (.bool false) := f6
            try simp only [f6, str]
            go_wp2
            refine stq_v rfl Same.refl ?_
            first | (simp only [mkAct, List.foldl_cons, List.foldl_nil, List.setIfInBounds_toArray, List.set_cons_succ, List.set_cons_zero, upd, reduceIte, Nat.reduceEqDiff, Nat.reduceAdd, f6, str]; done) | (simp [mkAct, upd, f6, str, *]; done)
        · intro u wx hI hR
          obtain ⟨r0, r1, r2, r3, r4, r5, r6, r7, -⟩ := hR
          replace r0 : u 0 = (.pointer (some ⟨w0.heap.size, 0, none⟩)) := r0
          replace r1 : u 1 = (.pointer (some ⟨w0.heap.size, 4, none⟩)) := r1
          replace r2 : u 2 = (.agg (bv D1).toArray) := r2
          replace r3 : u 3 = (.pointer (some ⟨w.heap.size, 1, none⟩)) := r3
          replace r4 : u 4 = (.agg s.bat.cells.toArray) := r4
          replace r5 : u 5 = (.agg (bv D2).toArray) := r5
          replace r6 : u 6 = (.bool false) := r6
          replace r7 : u 7 = (.bool false) := r7
          simp only [mkAct, List.foldl_cons, List.foldl_nil, List.setIfInBounds_toArray, List.set_cons_succ, List.set_cons_zero]
          try simp only [str, r0, r1, r2, r3, r4, r5, r6, r7]
          have r04 := Lib.hid (hI.at r03.out)
          have r14 := Lib.hid (hI.at r13.out)
          have k2 := ce_view r14.out
          have r24 := Lib.hid (hI.at r23.out)
          have hw4 := Lib.hid (hw3.out.trans hI)
          have z4 := hI.size
          have c43 := sl_holds r04.out hwf.out
          rw [hi.out] at c43
          have c8 := sl_hview r04.out
          clear hI r0 r1 r2 r3 r4 r5 r6 r03 r13 r23 hw3
          obtain ⟨w4, hw4e⟩ : ∃ x, x = wx := ⟨_, rfl⟩
          subst hw4e
          go_upto_region 8 with fail
          clear k2 c43 c8
          refine wp_region_mut (by kernel_rfl) [(44, 0), (45, 1), (46, 2), (47, 3), (48, 4), (49, 6)] [(5, (Keep (· = w.heap.size))), (7, (Keep (· = w.heap.size)))] [(5, [5, 7]), (7, [5, 7]), (1000, [5, 7])] [0, 1, 2, 3, 4, 6, 7] [[], [0, 1000], [], [1, 2], [], [4, 1000], [], [6, 3, 5]] Same (Keep (· = w.heap.size) w4) [(rowAt w.heap.size s.cells 42)] [isV (.pointer (some ⟨w.heap.size, 1, none⟩)), isV (.agg s.bat.cells.toArray), isV (.agg c.cells.toArray), isV (.agg (heldCells s.bat c).toArray), isV (.pointer (some ⟨w.heap.size, 43, none⟩)), isRA w.heap.size s1.cells 42, isV (.pointer (some ⟨w.heap.size, 4, none⟩)), isRA w.heap.size s2.cells 42] (Keep.drew) (by intro g hg; simp only [List.mem_cons, List.not_mem_nil, or_false] at hg; obtain rfl := hg; exact r04.out) (fun _ _ h k => h.trans (Keep.of_same k) (fun _ _ hq => hq)) (by intro g hg; simp only [List.mem_cons, List.not_mem_nil, or_false] at hg; rcases hg with rfl | rfl; exact (fun _ _ h k => h.trans k (fun _ _ hq => hq)); exact (fun _ _ h k => h.trans k (fun _ _ hq => hq))) (by simp [isV_stable, isB_stable, isAny_stable, isRA_stable]) (by intro g hg; simp only [List.mem_cons, List.not_mem_nil, or_false] at hg; obtain rfl := hg; exact (fun _ _ k h => k.at h)) (by simp [killsOf, List.zipIdx_cons, isV_stable, isAny_stable]) (by simp [killsOf, List.zipIdx_cons]) (by decide) (l := [_, _, _, _, _, _, _, _]) rfl (by decide) (by kernel_rfl) (by kernel_rfl) (by kernel_rfl) (by decide) ?_ ?_
          · refine ⟨?_, ?_, ?_, ?_, ?_, ?_, ?_, ?_, trivial⟩
            all_goals (intro u wx hI hp; simp only [mkAct, List.foldl_cons, List.foldl_nil, List.setIfInBounds_toArray, List.set_cons_succ, List.set_cons_zero])
            · -- operation 0
              go_wp2
              refine stg_v (x := (.pointer (some ⟨w.heap.size, 1, none⟩))) rfl Same.refl ?_
              first | (simp only [mkAct, List.foldl_cons, List.foldl_nil, List.setIfInBounds_toArray, List.set_cons_succ, List.set_cons_zero, upd, reduceIte, Nat.reduceEqDiff, Nat.reduceAdd, str]; done) | (simp [mkAct, upd, str, *]; done)
            · -- operation 1
              obtain ⟨f0, fG0, -⟩ := hp
              replace f0 : u 0 = (.pointer (some ⟨w.heap.size, 1, none⟩)) := f0
              try simp only [f0, str]
              go_wp2_with (refine load_mid rfl _ _ rfl w.heap.size 1 rfl s.bat.cells _ (sl_bat fG0) Try.underlying26 rfl hinfb.out ?_)
              refine stg_v (x := (.agg s.bat.cells.toArray)) rfl Same.refl ?_
              first | (simp only [mkAct, List.foldl_cons, List.foldl_nil, List.setIfInBounds_toArray, List.set_cons_succ, List.set_cons_zero, upd, reduceIte, Nat.reduceEqDiff, Nat.reduceAdd, f0, str]; done) | (simp [mkAct, upd, f0, str, *]; done)
            · -- operation 2
              go_wp2_with (refine load_row rfl _ _ rfl w0.heap.size rfl _ _ _ _ ((hI.block _ (by omega) (by omega)).trans r14.out) Try.underlying33 rfl hinfC.out ?_)
              refine stg_v (x := (.agg c.cells.toArray)) rfl Same.refl ?_
              first | (simp only [mkAct, List.foldl_cons, List.foldl_nil, List.setIfInBounds_toArray, List.set_cons_succ, List.set_cons_zero, upd, reduceIte, Nat.reduceEqDiff, Nat.reduceAdd, str]; done) | (simp [mkAct, upd, str, *]; done)
            · -- operation 3
              obtain ⟨f1, f2, -⟩ := hp
              replace f1 : u 1 = (.agg s.bat.cells.toArray) := f1
              replace f2 : u 2 = (.agg c.cells.toArray) := f2
              try simp only [f1, f2, str]
              go_wp2_with (refine build_struct rfl _ _ rfl [(0, .agg s.bat.cells.toArray), (1, .agg c.cells.toArray)] rfl _ hbH.out ?_)
              refine stg_v (x := (.agg (heldCells s.bat c).toArray)) rfl Same.refl ?_
              first | (simp only [mkAct, List.foldl_cons, List.foldl_nil, List.setIfInBounds_toArray, List.set_cons_succ, List.set_cons_zero, upd, reduceIte, Nat.reduceEqDiff, Nat.reduceAdd, f1, f2, str]; done) | (simp [mkAct, upd, f1, f2, str, *]; done)
            · -- operation 4
              go_wp2
              refine stg_v (x := (.pointer (some ⟨w.heap.size, 43, none⟩))) rfl Same.refl ?_
              first | (simp only [mkAct, List.foldl_cons, List.foldl_nil, List.setIfInBounds_toArray, List.set_cons_succ, List.set_cons_zero, upd, reduceIte, Nat.reduceEqDiff, Nat.reduceAdd, str]; done) | (simp [mkAct, upd, str, *]; done)
            · -- operation 5
              obtain ⟨f4, fG0, -⟩ := hp
              replace f4 : u 4 = (.pointer (some ⟨w.heap.size, 43, none⟩)) := f4
              try simp only [f4, str]
              go_wp2_with (refine store_one rfl _ _ _ rfl w.heap.size 43 (.bool true) rfl rfl rfl rfl _ _ fG0 (by kernel_rfl) (by rw [hlen.out]; decide) ?_; intro w5 hb4 hk4)
              refine stg_v (x := undef) (by show rowAt _ _ _ _; unfold rowAt; rw [← st1.out]; exact hb4) hk4 ?_
              first | (simp only [mkAct, List.foldl_cons, List.foldl_nil, List.setIfInBounds_toArray, List.set_cons_succ, List.set_cons_zero, upd, reduceIte, Nat.reduceEqDiff, Nat.reduceAdd, f4, str]; done) | (simp [mkAct, upd, f4, str, *]; done)
            · -- operation 6
              go_wp2
              refine stg_v (x := (.pointer (some ⟨w.heap.size, 4, none⟩))) rfl Same.refl ?_
              first | (simp only [mkAct, List.foldl_cons, List.foldl_nil, List.setIfInBounds_toArray, List.set_cons_succ, List.set_cons_zero, upd, reduceIte, Nat.reduceEqDiff, Nat.reduceAdd, str]; done) | (simp [mkAct, upd, str, *]; done)
            · -- operation 7
              obtain ⟨f6, f3, f5, -⟩ := hp
              replace f6 : u 6 = (.pointer (some ⟨w.heap.size, 4, none⟩)) := f6
              replace f3 : u 3 = (.agg (heldCells s.bat c).toArray) := f3
              try simp only [f6, f3, str]
              go_wp2_with (refine store_mid rfl _ _ _ rfl w.heap.size 4 (heldCells s.bat c) rfl rfl _ _ f5 hinfH.out (by rw [hl1.out, hlH.out]; decide) (held_oneL _ _) ?_; intro w5 hb4 hk4)
              refine stg_v (x := undef) (by show rowAt _ _ _ _; unfold rowAt; rw [← st2.out]; exact hb4) hk4 ?_
              first | (simp only [mkAct, List.foldl_cons, List.foldl_nil, List.setIfInBounds_toArray, List.set_cons_succ, List.set_cons_zero, upd, reduceIte, Nat.reduceEqDiff, Nat.reduceAdd, f6, f3, str]; done) | (simp [mkAct, upd, f6, f3, str, *]; done)
          · intro u wx hI hR
            obtain ⟨r0, r1, r2, r3, r4, r6, r7, -⟩ := hR
            replace r0 : u 0 = (.pointer (some ⟨w.heap.size, 1, none⟩)) := r0
            replace r1 : u 1 = (.agg s.bat.cells.toArray) := r1
            replace r2 : u 2 = (.agg c.cells.toArray) := r2
            replace r3 : u 3 = (.agg (heldCells s.bat c).toArray) := r3
            replace r4 : u 4 = (.pointer (some ⟨w.heap.size, 43, none⟩)) := r4
            replace r6 : u 6 = (.pointer (some ⟨w.heap.size, 4, none⟩)) := r6
            simp only [mkAct, List.foldl_cons, List.foldl_nil, List.setIfInBounds_toArray, List.set_cons_succ, List.set_cons_zero]
            try simp only [str, r0, r1, r2, r3, r4, r6]
            have r05 : wx.heap[w.heap.size]? = some (.cells s2.cells.toArray 42 (0, 0)) := r7
            have r25 := Lib.hid ((hI.block _ (by omega) (by omega)).trans r24.out)
            have hw5 := Lib.hid (hw4.out.keep hI (fun x hx hv => by omega))
            clear hI r04 r14 r24 hw4 r7
            replace r05 := Lib.hid r05
            go_wp2_with (first | (refine load_row rfl _ _ rfl w.heap.size rfl _ _ _ _ r05.out Try.underlying42 rfl hinf3.out ?_) | (refine store_row rfl _ _ _ rfl w1.heap.size s2.cells.toArray rfl rfl _ _ r25.out hinf3.out (slot_size zeroSlot_wf hw2f.out) (slot_one _) ?_; intro w9 hb9 hk9; replace hb9 := Lib.hid hb9; replace hk9 := Lib.hid hk9))
            refine bodyPost_ret (v := .tuple #[.agg s2.cells.toArray, .int .i64 0]) (results_row2 (p := 4) (q := 5) (ty := 42) rfl _ _ w1.heap.size _ _ _ _ _ rfl rfl hb9.out Try.underlying42 rfl hinf3.out) rfl ?_
            exact ⟨rfl, hw5.out.keep hk9.out (fun x hx hv => by omega)⟩
    refine key ?_
    rcases h4 with h4 | ⟨h4, h5⟩
    · exact ⟨_, h4, .inl rfl⟩
    · exact ⟨_, h4, .inr ⟨rfl, h5⟩⟩
end Go.Proofs.Ytmacgmmjgdmleaa
namespace Go.Proofs.Ytmacgmmjgdmleaa
open Go Go.RowKit
set_option linter.unusedSimpArgs false
set_option linter.unusedVariables false
set_option maxRecDepth 100000

theorem decide_cases (s : SlotV) (b : BatV) (c : CertV) : (c.vote.kind ≠ 2 ∧ s.decide b c = (zeroSlot, 181)) ∨ (c.vote.kind = 2 ∧ c.vote.dig ≠ bDig b ∧ s.decide b c = (zeroSlot, 181)) ∨
    (c.vote.kind = 2 ∧ c.vote.dig = bDig b ∧ s.decided = true ∧ bDig s.ebat ≠ bDig b ∧ s.decide b c = (zeroSlot, 181)) ∨
    (c.vote.kind = 2 ∧ c.vote.dig = bDig b ∧ s.decided = true ∧ bDig s.ebat = bDig b ∧ s.decide b c = (s, 0)) ∨
    (c.vote.kind = 2 ∧ c.vote.dig = bDig b ∧ s.decided = false ∧ s.decide b c = ({ s with decided := true, eslot := c.vote.slot, ebat := b, ecert := c }, 0)) := by
  unfold SlotV.decide
  by_cases h1 : c.vote.kind = 2
  · by_cases h2 : c.vote.dig = bDig b
    · cases h3 : s.decided
      · exact .inr (.inr (.inr (.inr ⟨h1, h2, rfl, by rw [if_neg (by simp [h1, h2]), if_neg (by simp)]⟩)))
      · by_cases h4 : bDig s.ebat = bDig b
        · exact .inr (.inr (.inr (.inl ⟨h1, h2, rfl, h4, by rw [if_neg (by simp [h1, h2]), if_pos rfl, if_pos h4]⟩)))
        · exact .inr (.inr (.inl ⟨h1, h2, rfl, h4, by rw [if_neg (by simp [h1, h2]), if_pos rfl, if_neg h4]⟩))
    · exact .inr (.inl ⟨h1, h2, by rw [if_pos (.inr h2)]⟩)
  · exact .inl ⟨h1, by rw [if_pos (.inl h1)]⟩
set_option maxRecDepth 100000 in
set_option maxHeartbeats 6400000 in
theorem decide_any (s : SlotV) (b : BatV) (c : CertV) (w : World) (hs : s.at w) (hb : b.at w) (hc : c.at w) (hsm : s.ebat.small) (hbm : b.small) :
    Calls Try.prog 18 #[.agg s.cells.toArray, .agg b.cells.toArray, .agg c.cells.toArray] w (RetSlot w (s.decide b c)) := by
  have hwf := hs.wf
  have hinf := Lib.hid (slot_info hwf)
  have hinfZ := Lib.hid (slot_info zeroSlot_wf)
  have hinfC := Lib.hid (cert_info hc.1)
  have hinfB := Lib.hid (bat_info b)
  have hinfe := Lib.hid (bat_infoL s.ebat)
  have hlen := Lib.hid (SlotV.len hwf)
  have hd1 := Lib.hid (fun w h => bdig_any s.ebat w h hsm)
  have hd2 := Lib.hid (fun w h => bdig_any b w h hbm)
  have hq := fun w => dig_neq c.vote.dig (bDig b) hc.1.1 (bDig_length _) w
  have hq' := fun w => dig_neq (bDig s.ebat) (bDig b) (bDig_length _) (bDig_length _) w
  have hgd := dig_guard
  have hDl0 := hc.1.1
  have hDl := bDig_length b
  have hinfD : (Try.prog.info? 28).map (·.size) = some (bv c.vote.dig).length := by rw [bv_length, hDl0]; kernel_rfl
  have hinfd := dig_info hDl
  have hcs := decide_cases s b c
  obtain ⟨R, hR⟩ : ∃ R, R = s.decide b c := ⟨_, rfl⟩
  rw [← hR] at hcs ⊢
  obtain ⟨D1, hD1⟩ : ∃ D, D = c.vote.dig := ⟨_, rfl⟩
  obtain ⟨D2, hD2⟩ : ∃ D, D = bDig b := ⟨_, rfl⟩
  obtain ⟨D3, hD3⟩ : ∃ D, D = bDig s.ebat := ⟨_, rfl⟩
  rw [show batDig s.ebat.noop s.ebat.reqs = D3 from hD3.symm] at hd1
  rw [show batDig b.noop b.reqs = D2 from hD2.symm] at hd2
  rw [← hD1, ← hD2] at hq
  rw [← hD3, ← hD2] at hq'
  rw [← hD1, ← hD2, ← hD3] at hcs
  rw [← hD1] at hinfD
  rw [← hD2] at hinfd hDl
  obtain ⟨q, hqe⟩ : ∃ q, q = (D1 != D2) := ⟨_, rfl⟩
  obtain ⟨q', hqe'⟩ : ∃ q, q = (D3 != D2) := ⟨_, rfl⟩
  rw [← hqe] at hq
  rw [← hqe'] at hq'
  have hq1 : D1 = D2 → q = false := fun h => by rw [hqe, h]; simp
  have hq2 : D1 ≠ D2 → q = true := fun h => by rw [hqe]; simp [h]
  have hq3 : D3 = D2 → q' = false := fun h => by rw [hqe', h]; simp
  have hq4 : D3 ≠ D2 → q' = true := fun h => by rw [hqe']; simp [h]
  clear hR hD2 hD3 hqe hqe' hsm hbm hDl0
  replace hinfD := Lib.hid hinfD
  replace hinfd := Lib.hid hinfd
  replace hDl := Lib.hid hDl
  replace hD1 := Lib.hid hD1
  replace hq := Lib.hid hq
  replace hq' := Lib.hid hq'
  replace hgd := Lib.hid hgd
  replace hwf := Lib.hid hwf
  replace hs := Lib.hid hs
  replace hb := Lib.hid hb
  replace hc := Lib.hid hc
  rcases hcs with ⟨h1, h⟩ | ⟨h1, h2, h⟩ | ⟨h1, h2, h3, h4, h⟩ | ⟨h1, h2, h3, h4, h⟩ | ⟨h1, h2, h3, h⟩
  · subst h
    have h1' : (c.vote.kind != 2) = true := by simpa using h1
    clear hq hq' hgd hq1 hq2 hq3 hq4 hd1
    go_enter Try.func18, Try.ntmps18
    go_upto_region 1 with (first | (refine box_row rfl _ _ rfl s.cells.toArray rfl hinf.out ?_; intro w0 hbs hs0; have l0 := blk_lt hbs; replace hbs := Lib.hid hbs; replace hs0 := Lib.hid hs0) | (refine box_row rfl _ _ rfl b.cells.toArray rfl hinfB.out ?_; intro w1 hbb hs1; have l1 := blk_lt hbb; replace hbb := Lib.hid hbb; replace hs1 := Lib.hid hs1) | (refine box_row rfl _ _ rfl c.cells.toArray rfl hinfC.out ?_; intro w2 hbc hs2; have l2 := blk_lt hbc; replace hbc := Lib.hid hbc; replace hs2 := Lib.hid hs2) | (refine alloc_new rfl 42 rfl zeroSlot.cells.toArray (by kernel_rfl) ?_; intro w3 hbz hs3; have l3 := blk_lt hbz; replace hbz := Lib.hid hbz; replace hs3 := Lib.hid hs3))
    have r0 := Lib.hid ((hs1.out.trans (hs2.out.trans hs3.out)).at hbs.out)
    have r1 := Lib.hid ((hs2.out.trans hs3.out).at hbb.out)
    have r2 := Lib.hid (hs3.out.at hbc.out)
    have hw3 := Lib.hid (hs0.out.trans (hs1.out.trans (hs2.out.trans hs3.out)))
    have z0 := hs0.out.size
    have z1 := hs1.out.size
    have z2 := hs2.out.size
    have z3 := hs3.out.size
    clear hbs hbb hbc hs0 hs1 hs2 hs3
    go_wp2_with (refine load_row rfl _ _ rfl w0.heap.size rfl _ _ _ _ r1.out Try.underlying26 rfl hinfB.out ?_)
    refine (hd2.out _ (BatV.same hb.out hw3.out)).mono ?_
    rintro e w4 ⟨rfl, hs4⟩
    have r04 := Lib.hid (hs4.at r0.out)
    have r14 := Lib.hid (hs4.at r1.out)
    have r24 := Lib.hid (hs4.at r2.out)
    have r34 := Lib.hid (hs4.at hbz.out)
    have hw4 := Lib.hid (hw3.out.trans hs4)
    have z4 := hs4.size
    clear hs4 r0 r1 r2 hbz hw3
    go_upto_region 2 with (first | (refine alloc_new rfl 28 rfl (bv (List.replicate 32 0)).toArray (by kernel_rfl) ?_; intro w5 hbd hs5; have l5 := blk_lt hbd; replace hbd := Lib.hid hbd; replace hs5 := Lib.hid hs5) | (refine store_row rfl _ _ _ rfl w4.heap.size (bv D2).toArray rfl rfl _ _ hbd.out hinfd.out (by rw [List.size_toArray, List.size_toArray, bv_length, bv_length, hDl.out]; rfl) (all_of bv_cell) ?_; intro w6 rd hk6; replace rd := Lib.hid rd; replace hk6 := Lib.hid hk6))
    have hs6 : Same w4 w6 := hs5.out.keep hk6.out (fun x hx hv => by omega)
    have r06 := Lib.hid (hs6.at r04.out)
    have r16 := Lib.hid (hs6.at r14.out)
    have r26 := Lib.hid (hs6.at r24.out)
    have r36 := Lib.hid (hs6.at r34.out)
    have hw6 := Lib.hid (hw4.out.trans hs6)
    have z6 := hs6.size
    have k0 := ce_kind r26.out
    have hdr := Lib.hid (ce_dig r26.out)
    have c84 := sl_decided r06.out hwf.out
    clear hs5 hk6 hs6 r04 r14 r24 r34 hbd hw4
    rw [← hD1.out] at hdr
    go_wp2_with (first | (refine build_const (ty := 42) (.agg zeroSlot.cells.toArray) rfl rfl (by kernel_rfl) ?_) | (refine store_row rfl _ _ _ rfl w2.heap.size zeroSlot.cells.toArray rfl rfl _ _ r36.out hinfZ.out rfl (slot_one _) ?_; intro w9 hb9 hk9; replace hb9 := Lib.hid hb9; replace hk9 := Lib.hid hk9))
    refine bodyPost_ret (v := .tuple #[.agg zeroSlot.cells.toArray, .int .i64 181]) (results_row2 (p := 6) (q := 7) (ty := 42) rfl _ _ w2.heap.size _ _ _ _ _ rfl rfl hb9.out Try.underlying42 rfl hinfZ.out) rfl ?_
    exact ⟨rfl, hw6.out.keep hk9.out (fun x hx hv => by omega)⟩
  · subst h
    obtain rfl := hq2 h2
    clear hq1 hq2 hq3 hq4 hd1 h2 hq'
    go_enter Try.func18, Try.ntmps18
    go_upto_region 1 with (first | (refine box_row rfl _ _ rfl s.cells.toArray rfl hinf.out ?_; intro w0 hbs hs0; have l0 := blk_lt hbs; replace hbs := Lib.hid hbs; replace hs0 := Lib.hid hs0) | (refine box_row rfl _ _ rfl b.cells.toArray rfl hinfB.out ?_; intro w1 hbb hs1; have l1 := blk_lt hbb; replace hbb := Lib.hid hbb; replace hs1 := Lib.hid hs1) | (refine box_row rfl _ _ rfl c.cells.toArray rfl hinfC.out ?_; intro w2 hbc hs2; have l2 := blk_lt hbc; replace hbc := Lib.hid hbc; replace hs2 := Lib.hid hs2) | (refine alloc_new rfl 42 rfl zeroSlot.cells.toArray (by kernel_rfl) ?_; intro w3 hbz hs3; have l3 := blk_lt hbz; replace hbz := Lib.hid hbz; replace hs3 := Lib.hid hs3))
    have r0 := Lib.hid ((hs1.out.trans (hs2.out.trans hs3.out)).at hbs.out)
    have r1 := Lib.hid ((hs2.out.trans hs3.out).at hbb.out)
    have r2 := Lib.hid (hs3.out.at hbc.out)
    have hw3 := Lib.hid (hs0.out.trans (hs1.out.trans (hs2.out.trans hs3.out)))
    have z0 := hs0.out.size
    have z1 := hs1.out.size
    have z2 := hs2.out.size
    have z3 := hs3.out.size
    clear hbs hbb hbc hs0 hs1 hs2 hs3
    go_wp2_with (refine load_row rfl _ _ rfl w0.heap.size rfl _ _ _ _ r1.out Try.underlying26 rfl hinfB.out ?_)
    refine (hd2.out _ (BatV.same hb.out hw3.out)).mono ?_
    rintro e w4 ⟨rfl, hs4⟩
    have r04 := Lib.hid (hs4.at r0.out)
    have r14 := Lib.hid (hs4.at r1.out)
    have r24 := Lib.hid (hs4.at r2.out)
    have r34 := Lib.hid (hs4.at hbz.out)
    have hw4 := Lib.hid (hw3.out.trans hs4)
    have z4 := hs4.size
    clear hs4 r0 r1 r2 hbz hw3
    go_upto_region 2 with (first | (refine alloc_new rfl 28 rfl (bv (List.replicate 32 0)).toArray (by kernel_rfl) ?_; intro w5 hbd hs5; have l5 := blk_lt hbd; replace hbd := Lib.hid hbd; replace hs5 := Lib.hid hs5) | (refine store_row rfl _ _ _ rfl w4.heap.size (bv D2).toArray rfl rfl _ _ hbd.out hinfd.out (by rw [List.size_toArray, List.size_toArray, bv_length, bv_length, hDl.out]; rfl) (all_of bv_cell) ?_; intro w6 rd hk6; replace rd := Lib.hid rd; replace hk6 := Lib.hid hk6))
    have hs6 : Same w4 w6 := hs5.out.keep hk6.out (fun x hx hv => by omega)
    have r06 := Lib.hid (hs6.at r04.out)
    have r16 := Lib.hid (hs6.at r14.out)
    have r26 := Lib.hid (hs6.at r24.out)
    have r36 := Lib.hid (hs6.at r34.out)
    have hw6 := Lib.hid (hw4.out.trans hs6)
    have z6 := hs6.size
    have k0 := ce_kind r26.out
    have hdr := Lib.hid (ce_dig r26.out)
    have c84 := sl_decided r06.out hwf.out
    clear hs5 hk6 hs6 r04 r14 r24 r34 hbd hw4
    rw [← hD1.out] at hdr
    rw [h1] at k0
    have hqo := hq.out
    have hgo := hgd.out
    go_wp2_with (first | (refine load_mid rfl _ _ rfl w1.heap.size 4 rfl (bv D1) _ hdr.out Try.underlying28 rfl hinfD.out ?_) | (refine load_row rfl _ _ rfl w4.heap.size rfl _ _ _ _ rd.out Try.underlying28 rfl hinfd.out ?_) | (refine build_const (ty := 42) (.agg zeroSlot.cells.toArray) rfl rfl (by kernel_rfl) ?_) | (refine store_row rfl _ _ _ rfl w2.heap.size zeroSlot.cells.toArray rfl rfl _ _ r36.out hinfZ.out rfl (slot_one _) ?_; intro w9 hb9 hk9; replace hb9 := Lib.hid hb9; replace hk9 := Lib.hid hk9))
    refine bodyPost_ret (v := .tuple #[.agg zeroSlot.cells.toArray, .int .i64 181]) (results_row2 (p := 6) (q := 7) (ty := 42) rfl _ _ w2.heap.size _ _ _ _ _ rfl rfl hb9.out Try.underlying42 rfl hinfZ.out) rfl ?_
    exact ⟨rfl, hw6.out.keep hk9.out (fun x hx hv => by omega)⟩
  · subst h
    obtain rfl := hq1 h2
    obtain rfl := hq4 h4
    clear hq1 hq2 hq3 hq4 h2 h4
    go_enter Try.func18, Try.ntmps18
    go_upto_region 1 with (first | (refine box_row rfl _ _ rfl s.cells.toArray rfl hinf.out ?_; intro w0 hbs hs0; have l0 := blk_lt hbs; replace hbs := Lib.hid hbs; replace hs0 := Lib.hid hs0) | (refine box_row rfl _ _ rfl b.cells.toArray rfl hinfB.out ?_; intro w1 hbb hs1; have l1 := blk_lt hbb; replace hbb := Lib.hid hbb; replace hs1 := Lib.hid hs1) | (refine box_row rfl _ _ rfl c.cells.toArray rfl hinfC.out ?_; intro w2 hbc hs2; have l2 := blk_lt hbc; replace hbc := Lib.hid hbc; replace hs2 := Lib.hid hs2) | (refine alloc_new rfl 42 rfl zeroSlot.cells.toArray (by kernel_rfl) ?_; intro w3 hbz hs3; have l3 := blk_lt hbz; replace hbz := Lib.hid hbz; replace hs3 := Lib.hid hs3))
    have r0 := Lib.hid ((hs1.out.trans (hs2.out.trans hs3.out)).at hbs.out)
    have r1 := Lib.hid ((hs2.out.trans hs3.out).at hbb.out)
    have r2 := Lib.hid (hs3.out.at hbc.out)
    have hw3 := Lib.hid (hs0.out.trans (hs1.out.trans (hs2.out.trans hs3.out)))
    have z0 := hs0.out.size
    have z1 := hs1.out.size
    have z2 := hs2.out.size
    have z3 := hs3.out.size
    clear hbs hbb hbc hs0 hs1 hs2 hs3
    go_wp2_with (refine load_row rfl _ _ rfl w0.heap.size rfl _ _ _ _ r1.out Try.underlying26 rfl hinfB.out ?_)
    refine (hd2.out _ (BatV.same hb.out hw3.out)).mono ?_
    rintro e w4 ⟨rfl, hs4⟩
    have r04 := Lib.hid (hs4.at r0.out)
    have r14 := Lib.hid (hs4.at r1.out)
    have r24 := Lib.hid (hs4.at r2.out)
    have r34 := Lib.hid (hs4.at hbz.out)
    have hw4 := Lib.hid (hw3.out.trans hs4)
    have z4 := hs4.size
    clear hs4 r0 r1 r2 hbz hw3
    go_upto_region 2 with (first | (refine alloc_new rfl 28 rfl (bv (List.replicate 32 0)).toArray (by kernel_rfl) ?_; intro w5 hbd hs5; have l5 := blk_lt hbd; replace hbd := Lib.hid hbd; replace hs5 := Lib.hid hs5) | (refine store_row rfl _ _ _ rfl w4.heap.size (bv D2).toArray rfl rfl _ _ hbd.out hinfd.out (by rw [List.size_toArray, List.size_toArray, bv_length, bv_length, hDl.out]; rfl) (all_of bv_cell) ?_; intro w6 rd hk6; replace rd := Lib.hid rd; replace hk6 := Lib.hid hk6))
    have hs6 : Same w4 w6 := hs5.out.keep hk6.out (fun x hx hv => by omega)
    have r06 := Lib.hid (hs6.at r04.out)
    have r16 := Lib.hid (hs6.at r14.out)
    have r26 := Lib.hid (hs6.at r24.out)
    have r36 := Lib.hid (hs6.at r34.out)
    have hw6 := Lib.hid (hw4.out.trans hs6)
    have z6 := hs6.size
    have k0 := ce_kind r26.out
    have hdr := Lib.hid (ce_dig r26.out)
    have c84 := sl_decided r06.out hwf.out
    clear hs5 hk6 hs6 r04 r14 r24 r34 hbd hw4
    rw [← hD1.out] at hdr
    rw [h1] at k0
    rw [h3] at c84
    have hqo := hq.out
    have hgo := hgd.out
    go_upto_region 3 with (first | (refine load_mid rfl _ _ rfl w1.heap.size 4 rfl (bv D1) _ hdr.out Try.underlying28 rfl hinfD.out ?_) | (refine load_row rfl _ _ rfl w4.heap.size rfl _ _ _ _ rd.out Try.underlying28 rfl hinfd.out ?_))
    replace c84 := Lib.hid c84
    clear hqo hgo k0
    refine wp_region_facts (by kernel_rfl) [(24, 0), (25, 1), (26, 2), (27, 3), (28, 4), (29, 5), (30, 6), (31, 7), (32, 8), (33, 9), (23, 10)] Same (Same _) [isV (.pointer (some ⟨w.heap.size, 84, none⟩)), isV (.bool true), isV (.bool true), isV (.pointer (some ⟨w.heap.size, 44, none⟩)), isV (.pointer (some ⟨w.heap.size, 45, none⟩)), isV (.agg s.ebat.cells.toArray), isV (.agg (bv D3).toArray), isV (.agg (bv D2).toArray), isV (.bool true), isV (.bool true), isV (.bool true)] Same.refl.drew (fun _ _ h k => h.trans k) (by simp [isV_stable, isB_stable, isAny_stable]) (by decide) (by decide) ?_ ?_
    · refine ⟨?_, ?_, ?_, ?_, ?_, ?_, ?_, ?_, ?_, ?_, ?_, trivial⟩
      all_goals (intro u wx hI hp; simp only [mkAct, List.foldl_cons, List.foldl_nil, List.setIfInBounds_toArray, List.set_cons_succ, List.set_cons_zero])
      · -- operation 0
        go_wp2
        refine stq_v rfl Same.refl ?_
        first | (simp only [mkAct, List.foldl_cons, List.foldl_nil, List.setIfInBounds_toArray, List.set_cons_succ, List.set_cons_zero, upd, reduceIte, Nat.reduceEqDiff, Nat.reduceAdd, str]; done) | (simp [mkAct, upd, str, *]; done)
      · -- operation 1
        obtain ⟨f0, -⟩ := hp
        replace f0 : u 0 = (.pointer (some ⟨w.heap.size, 84, none⟩)) := f0
        try simp only [f0, str]
        have cx := hI.cell (c84.out)
        go_wp2
        refine stq_v rfl Same.refl ?_
        first | (simp only [mkAct, List.foldl_cons, List.foldl_nil, List.setIfInBounds_toArray, List.set_cons_succ, List.set_cons_zero, upd, reduceIte, Nat.reduceEqDiff, Nat.reduceAdd, f0, str]; done) | (simp [mkAct, upd, f0, str, *]; done)
      · -- operation 2
        obtain ⟨f1, -⟩ := hp
        replace f1 : u 1 = (.bool true) := f1
        try simp only [f1, str]
        go_wp2
        refine stq_v rfl Same.refl ?_
        first | (simp only [mkAct, List.foldl_cons, List.foldl_nil, List.setIfInBounds_toArray, List.set_cons_succ, List.set_cons_zero, upd, reduceIte, Nat.reduceEqDiff, Nat.reduceAdd, f1, str]; done) | (simp [mkAct, upd, f1, str, *]; done)
      · -- operation 3
        obtain ⟨f2, -⟩ := hp
        replace f2 : u 2 = (.bool true) := f2
        try simp only [f2, str]
        go_wp2
        refine stq_v rfl Same.refl ?_
        first | (simp only [mkAct, List.foldl_cons, List.foldl_nil, List.setIfInBounds_toArray, List.set_cons_succ, List.set_cons_zero, upd, reduceIte, Nat.reduceEqDiff, Nat.reduceAdd, f2, str]; done) | (simp [mkAct, upd, f2, str, *]; done)
      · -- operation 4
        obtain ⟨f3, f2, -⟩ := hp
        replace f3 : u 3 = (.pointer (some ⟨w.heap.size, 44, none⟩)) := f3
        replace f2 : u 2 = (.bool true) := f2
        try simp only [f3, f2, str]
        go_wp2
        refine stq_v rfl Same.refl ?_
        first | (simp only [mkAct, List.foldl_cons, List.foldl_nil, List.setIfInBounds_toArray, List.set_cons_succ, List.set_cons_zero, upd, reduceIte, Nat.reduceEqDiff, Nat.reduceAdd, f3, f2, str]; done) | (simp [mkAct, upd, f3, f2, str, *]; done)
      · -- operation 5
        obtain ⟨f4, f2, -⟩ := hp
        replace f4 : u 4 = (.pointer (some ⟨w.heap.size, 45, none⟩)) := f4
        replace f2 : u 2 = (.bool true) := f2
        try simp only [f4, f2, str]
        go_wp2_with (refine load_mid rfl _ _ rfl w.heap.size 45 rfl s.ebat.cells _ (hI.range (sl_ebat r06.out hwf.out)) Try.underlying26 rfl hinfe.out ?_)
        refine stq_v rfl Same.refl ?_
        first | (simp only [mkAct, List.foldl_cons, List.foldl_nil, List.setIfInBounds_toArray, List.set_cons_succ, List.set_cons_zero, upd, reduceIte, Nat.reduceEqDiff, Nat.reduceAdd, f4, f2, str]; done) | (simp [mkAct, upd, f4, f2, str, *]; done)
      · -- operation 6
        obtain ⟨f5, -, f2, -⟩ := hp
        replace f5 : u 5 = (.agg s.ebat.cells.toArray) := f5
        replace f2 : u 2 = (.bool true) := f2
        try simp only [f5, f2, str]
        go_wp2_with fail
        refine (hd1.out _ (BatV.same hs.out.2.2.2.2.2.1 (hw6.out.trans hI))).mono ?_
        rintro e w1 ⟨rfl, hs'⟩
        go_wp2
        refine stq_v rfl hs' ?_
        first | (simp only [mkAct, List.foldl_cons, List.foldl_nil, List.setIfInBounds_toArray, List.set_cons_succ, List.set_cons_zero, upd, reduceIte, Nat.reduceEqDiff, Nat.reduceAdd, f5, f2, str]; done) | (simp [mkAct, upd, f5, f2, str, *]; done)
      · -- operation 7
        obtain ⟨f2, -⟩ := hp
        replace f2 : u 2 = (.bool true) := f2
        try simp only [f2, str]
        go_wp2_with (refine load_row rfl _ _ rfl w4.heap.size rfl _ _ _ _ (hI.at rd.out) Try.underlying28 rfl hinfd.out ?_)
        refine stq_v rfl Same.refl ?_
        first | (simp only [mkAct, List.foldl_cons, List.foldl_nil, List.setIfInBounds_toArray, List.set_cons_succ, List.set_cons_zero, upd, reduceIte, Nat.reduceEqDiff, Nat.reduceAdd, f2, str]; done) | (simp [mkAct, upd, f2, str, *]; done)
      · -- operation 8
        obtain ⟨f6, f7, f2, -⟩ := hp
        replace f6 : u 6 = (.agg (bv D3).toArray) := f6
        replace f7 : u 7 = (.agg (bv D2).toArray) := f7
        replace f2 : u 2 = (.bool true) := f2
        try simp only [f6, f7, f2, str]
        have hqo := hq'.out
        have hgo := hgd.out
        go_wp2
        refine stq_v rfl Same.refl ?_
        first | (simp only [mkAct, List.foldl_cons, List.foldl_nil, List.setIfInBounds_toArray, List.set_cons_succ, List.set_cons_zero, upd, reduceIte, Nat.reduceEqDiff, Nat.reduceAdd, f6, f7, f2, str]; done) | (simp [mkAct, upd, f6, f7, f2, str, *]; done)
      · -- operation 9
        obtain ⟨f2, f8, -⟩ := hp
        replace f2 : u 2 = (.bool true) := f2
        replace f8 : u 8 = (.bool true) := f8
        try simp only [f2, f8, str]
        go_wp2
        refine stq_v rfl Same.refl ?_
        first | (simp only [mkAct, List.foldl_cons, List.foldl_nil, List.setIfInBounds_toArray, List.set_cons_succ, List.set_cons_zero, upd, reduceIte, Nat.reduceEqDiff, Nat.reduceAdd, f2, f8, str]; done) | (simp [mkAct, upd, f2, f8, str, *]; done)
      · -- operation 10
        obtain ⟨f9, -, -⟩ := hp
        replace f9 : u 9 = (.bool true) := f9
        try simp only [f9, str]
        go_wp2
        refine stq_v rfl Same.refl ?_
        first | (simp only [mkAct, List.foldl_cons, List.foldl_nil, List.setIfInBounds_toArray, List.set_cons_succ, List.set_cons_zero, upd, reduceIte, Nat.reduceEqDiff, Nat.reduceAdd, f9, str]; done) | (simp [mkAct, upd, f9, str, *]; done)
    · intro u wx hI hR
      obtain ⟨r0, r1, r2, r3, r4, r5, r6, r7, r8, r9, r10, -⟩ := hR
      replace r0 : u 0 = (.pointer (some ⟨w.heap.size, 84, none⟩)) := r0
      replace r1 : u 1 = (.bool true) := r1
      replace r2 : u 2 = (.bool true) := r2
      replace r3 : u 3 = (.pointer (some ⟨w.heap.size, 44, none⟩)) := r3
      replace r4 : u 4 = (.pointer (some ⟨w.heap.size, 45, none⟩)) := r4
      replace r5 : u 5 = (.agg s.ebat.cells.toArray) := r5
      replace r6 : u 6 = (.agg (bv D3).toArray) := r6
      replace r7 : u 7 = (.agg (bv D2).toArray) := r7
      replace r8 : u 8 = (.bool true) := r8
      replace r9 : u 9 = (.bool true) := r9
      replace r10 : u 10 = (.bool true) := r10
      simp only [mkAct, List.foldl_cons, List.foldl_nil, List.setIfInBounds_toArray, List.set_cons_succ, List.set_cons_zero]
      try simp only [str, r0, r1, r2, r3, r4, r5, r6, r7, r8, r9, r10]
      have r37 := Lib.hid (hI.at r36.out)
      have hw7 := Lib.hid (hw6.out.trans hI)
      have z7 := hI.size
      clear hI r0 r1 r2 r3 r4 r5 r6 r7 r8 r9 r06 r16 r26 r36 hw6
      go_wp2_with (first | (refine build_const (ty := 42) (.agg zeroSlot.cells.toArray) rfl rfl (by kernel_rfl) ?_) | (refine store_row rfl _ _ _ rfl w2.heap.size zeroSlot.cells.toArray rfl rfl _ _ r37.out hinfZ.out rfl (slot_one _) ?_; intro w9 hb9 hk9; replace hb9 := Lib.hid hb9; replace hk9 := Lib.hid hk9))
      refine bodyPost_ret (v := .tuple #[.agg zeroSlot.cells.toArray, .int .i64 181]) (results_row2 (p := 6) (q := 7) (ty := 42) rfl _ _ w2.heap.size _ _ _ _ _ rfl rfl hb9.out Try.underlying42 rfl hinfZ.out) rfl ?_
      exact ⟨rfl, hw7.out.keep hk9.out (fun x hx hv => by omega)⟩
  · subst h
    obtain rfl := hq1 h2
    obtain rfl := hq3 h4
    clear hq1 hq2 hq3 hq4 h2 h4
    go_enter Try.func18, Try.ntmps18
    go_upto_region 1 with (first | (refine box_row rfl _ _ rfl s.cells.toArray rfl hinf.out ?_; intro w0 hbs hs0; have l0 := blk_lt hbs; replace hbs := Lib.hid hbs; replace hs0 := Lib.hid hs0) | (refine box_row rfl _ _ rfl b.cells.toArray rfl hinfB.out ?_; intro w1 hbb hs1; have l1 := blk_lt hbb; replace hbb := Lib.hid hbb; replace hs1 := Lib.hid hs1) | (refine box_row rfl _ _ rfl c.cells.toArray rfl hinfC.out ?_; intro w2 hbc hs2; have l2 := blk_lt hbc; replace hbc := Lib.hid hbc; replace hs2 := Lib.hid hs2) | (refine alloc_new rfl 42 rfl zeroSlot.cells.toArray (by kernel_rfl) ?_; intro w3 hbz hs3; have l3 := blk_lt hbz; replace hbz := Lib.hid hbz; replace hs3 := Lib.hid hs3))
    have r0 := Lib.hid ((hs1.out.trans (hs2.out.trans hs3.out)).at hbs.out)
    have r1 := Lib.hid ((hs2.out.trans hs3.out).at hbb.out)
    have r2 := Lib.hid (hs3.out.at hbc.out)
    have hw3 := Lib.hid (hs0.out.trans (hs1.out.trans (hs2.out.trans hs3.out)))
    have z0 := hs0.out.size
    have z1 := hs1.out.size
    have z2 := hs2.out.size
    have z3 := hs3.out.size
    clear hbs hbb hbc hs0 hs1 hs2 hs3
    go_wp2_with (refine load_row rfl _ _ rfl w0.heap.size rfl _ _ _ _ r1.out Try.underlying26 rfl hinfB.out ?_)
    refine (hd2.out _ (BatV.same hb.out hw3.out)).mono ?_
    rintro e w4 ⟨rfl, hs4⟩
    have r04 := Lib.hid (hs4.at r0.out)
    have r14 := Lib.hid (hs4.at r1.out)
    have r24 := Lib.hid (hs4.at r2.out)
    have r34 := Lib.hid (hs4.at hbz.out)
    have hw4 := Lib.hid (hw3.out.trans hs4)
    have z4 := hs4.size
    clear hs4 r0 r1 r2 hbz hw3
    go_upto_region 2 with (first | (refine alloc_new rfl 28 rfl (bv (List.replicate 32 0)).toArray (by kernel_rfl) ?_; intro w5 hbd hs5; have l5 := blk_lt hbd; replace hbd := Lib.hid hbd; replace hs5 := Lib.hid hs5) | (refine store_row rfl _ _ _ rfl w4.heap.size (bv D2).toArray rfl rfl _ _ hbd.out hinfd.out (by rw [List.size_toArray, List.size_toArray, bv_length, bv_length, hDl.out]; rfl) (all_of bv_cell) ?_; intro w6 rd hk6; replace rd := Lib.hid rd; replace hk6 := Lib.hid hk6))
    have hs6 : Same w4 w6 := hs5.out.keep hk6.out (fun x hx hv => by omega)
    have r06 := Lib.hid (hs6.at r04.out)
    have r16 := Lib.hid (hs6.at r14.out)
    have r26 := Lib.hid (hs6.at r24.out)
    have r36 := Lib.hid (hs6.at r34.out)
    have hw6 := Lib.hid (hw4.out.trans hs6)
    have z6 := hs6.size
    have k0 := ce_kind r26.out
    have hdr := Lib.hid (ce_dig r26.out)
    have c84 := sl_decided r06.out hwf.out
    clear hs5 hk6 hs6 r04 r14 r24 r34 hbd hw4
    rw [← hD1.out] at hdr
    rw [h1] at k0
    rw [h3] at c84
    have hqo := hq.out
    have hgo := hgd.out
    go_upto_region 3 with (first | (refine load_mid rfl _ _ rfl w1.heap.size 4 rfl (bv D1) _ hdr.out Try.underlying28 rfl hinfD.out ?_) | (refine load_row rfl _ _ rfl w4.heap.size rfl _ _ _ _ rd.out Try.underlying28 rfl hinfd.out ?_))
    replace c84 := Lib.hid c84
    clear hqo hgo k0
    refine wp_region_facts (by kernel_rfl) [(24, 0), (25, 1), (26, 2), (27, 3), (28, 4), (29, 5), (30, 6), (31, 7), (32, 8), (33, 9), (23, 10)] Same (Same _) [isV (.pointer (some ⟨w.heap.size, 84, none⟩)), isV (.bool true), isV (.bool true), isV (.pointer (some ⟨w.heap.size, 44, none⟩)), isV (.pointer (some ⟨w.heap.size, 45, none⟩)), isV (.agg s.ebat.cells.toArray), isV (.agg (bv D3).toArray), isV (.agg (bv D2).toArray), isV (.bool false), isV (.bool false), isV (.bool false)] Same.refl.drew (fun _ _ h k => h.trans k) (by simp [isV_stable, isB_stable, isAny_stable]) (by decide) (by decide) ?_ ?_
    · refine ⟨?_, ?_, ?_, ?_, ?_, ?_, ?_, ?_, ?_, ?_, ?_, trivial⟩
      all_goals (intro u wx hI hp; simp only [mkAct, List.foldl_cons, List.foldl_nil, List.setIfInBounds_toArray, List.set_cons_succ, List.set_cons_zero])
      · -- operation 0
        go_wp2
        refine stq_v rfl Same.refl ?_
        first | (simp only [mkAct, List.foldl_cons, List.foldl_nil, List.setIfInBounds_toArray, List.set_cons_succ, List.set_cons_zero, upd, reduceIte, Nat.reduceEqDiff, Nat.reduceAdd, str]; done) | (simp [mkAct, upd, str, *]; done)
      · -- operation 1
        obtain ⟨f0, -⟩ := hp
        replace f0 : u 0 = (.pointer (some ⟨w.heap.size, 84, none⟩)) := f0
        try simp only [f0, str]
        have cx := hI.cell (c84.out)
        go_wp2
        refine stq_v rfl Same.refl ?_
        first | (simp only [mkAct, List.foldl_cons, List.foldl_nil, List.setIfInBounds_toArray, List.set_cons_succ, List.set_cons_zero, upd, reduceIte, Nat.reduceEqDiff, Nat.reduceAdd, f0, str]; done) | (simp [mkAct, upd, f0, str, *]; done)
      · -- operation 2
        obtain ⟨f1, -⟩ := hp
        replace f1 : u 1 = (.bool true) := f1
        try simp only [f1, str]
        go_wp2
        refine stq_v rfl Same.refl ?_
        first | (simp only [mkAct, List.foldl_cons, List.foldl_nil, List.setIfInBounds_toArray, List.set_cons_succ, List.set_cons_zero, upd, reduceIte, Nat.reduceEqDiff, Nat.reduceAdd, f1, str]; done) | (simp [mkAct, upd, f1, str, *]; done)
      · -- operation 3
        obtain ⟨f2, -⟩ := hp
        replace f2 : u 2 = (.bool true) := f2
        try simp only [f2, str]
        go_wp2
        refine stq_v rfl Same.refl ?_
        first | (simp only [mkAct, List.foldl_cons, List.foldl_nil, List.setIfInBounds_toArray, List.set_cons_succ, List.set_cons_zero, upd, reduceIte, Nat.reduceEqDiff, Nat.reduceAdd, f2, str]; done) | (simp [mkAct, upd, f2, str, *]; done)
      · -- operation 4
        obtain ⟨f3, f2, -⟩ := hp
        replace f3 : u 3 = (.pointer (some ⟨w.heap.size, 44, none⟩)) := f3
        replace f2 : u 2 = (.bool true) := f2
        try simp only [f3, f2, str]
        go_wp2
        refine stq_v rfl Same.refl ?_
        first | (simp only [mkAct, List.foldl_cons, List.foldl_nil, List.setIfInBounds_toArray, List.set_cons_succ, List.set_cons_zero, upd, reduceIte, Nat.reduceEqDiff, Nat.reduceAdd, f3, f2, str]; done) | (simp [mkAct, upd, f3, f2, str, *]; done)
      · -- operation 5
        obtain ⟨f4, f2, -⟩ := hp
        replace f4 : u 4 = (.pointer (some ⟨w.heap.size, 45, none⟩)) := f4
        replace f2 : u 2 = (.bool true) := f2
        try simp only [f4, f2, str]
        go_wp2_with (refine load_mid rfl _ _ rfl w.heap.size 45 rfl s.ebat.cells _ (hI.range (sl_ebat r06.out hwf.out)) Try.underlying26 rfl hinfe.out ?_)
        refine stq_v rfl Same.refl ?_
        first | (simp only [mkAct, List.foldl_cons, List.foldl_nil, List.setIfInBounds_toArray, List.set_cons_succ, List.set_cons_zero, upd, reduceIte, Nat.reduceEqDiff, Nat.reduceAdd, f4, f2, str]; done) | (simp [mkAct, upd, f4, f2, str, *]; done)
      · -- operation 6
        obtain ⟨f5, -, f2, -⟩ := hp
        replace f5 : u 5 = (.agg s.ebat.cells.toArray) := f5
        replace f2 : u 2 = (.bool true) := f2
        try simp only [f5, f2, str]
        go_wp2_with fail
        refine (hd1.out _ (BatV.same hs.out.2.2.2.2.2.1 (hw6.out.trans hI))).mono ?_
        rintro e w1 ⟨rfl, hs'⟩
        go_wp2
        refine stq_v rfl hs' ?_
        first | (simp only [mkAct, List.foldl_cons, List.foldl_nil, List.setIfInBounds_toArray, List.set_cons_succ, List.set_cons_zero, upd, reduceIte, Nat.reduceEqDiff, Nat.reduceAdd, f5, f2, str]; done) | (simp [mkAct, upd, f5, f2, str, *]; done)
      · -- operation 7
        obtain ⟨f2, -⟩ := hp
        replace f2 : u 2 = (.bool true) := f2
        try simp only [f2, str]
        go_wp2_with (refine load_row rfl _ _ rfl w4.heap.size rfl _ _ _ _ (hI.at rd.out) Try.underlying28 rfl hinfd.out ?_)
        refine stq_v rfl Same.refl ?_
        first | (simp only [mkAct, List.foldl_cons, List.foldl_nil, List.setIfInBounds_toArray, List.set_cons_succ, List.set_cons_zero, upd, reduceIte, Nat.reduceEqDiff, Nat.reduceAdd, f2, str]; done) | (simp [mkAct, upd, f2, str, *]; done)
      · -- operation 8
        obtain ⟨f6, f7, f2, -⟩ := hp
        replace f6 : u 6 = (.agg (bv D3).toArray) := f6
        replace f7 : u 7 = (.agg (bv D2).toArray) := f7
        replace f2 : u 2 = (.bool true) := f2
        try simp only [f6, f7, f2, str]
        have hqo := hq'.out
        have hgo := hgd.out
        go_wp2
        refine stq_v rfl Same.refl ?_
        first | (simp only [mkAct, List.foldl_cons, List.foldl_nil, List.setIfInBounds_toArray, List.set_cons_succ, List.set_cons_zero, upd, reduceIte, Nat.reduceEqDiff, Nat.reduceAdd, f6, f7, f2, str]; done) | (simp [mkAct, upd, f6, f7, f2, str, *]; done)
      · -- operation 9
        obtain ⟨f2, f8, -⟩ := hp
        replace f2 : u 2 = (.bool true) := f2
        replace f8 : u 8 = (.bool false) := f8
        try simp only [f2, f8, str]
        go_wp2
        refine stq_v rfl Same.refl ?_
        first | (simp only [mkAct, List.foldl_cons, List.foldl_nil, List.setIfInBounds_toArray, List.set_cons_succ, List.set_cons_zero, upd, reduceIte, Nat.reduceEqDiff, Nat.reduceAdd, f2, f8, str]; done) | (simp [mkAct, upd, f2, f8, str, *]; done)
      · -- operation 10
        obtain ⟨f9, -, -⟩ := hp
        replace f9 : u 9 = (.bool false) := f9
        try simp only [f9, str]
        go_wp2
        refine stq_v rfl Same.refl ?_
        first | (simp only [mkAct, List.foldl_cons, List.foldl_nil, List.setIfInBounds_toArray, List.set_cons_succ, List.set_cons_zero, upd, reduceIte, Nat.reduceEqDiff, Nat.reduceAdd, f9, str]; done) | (simp [mkAct, upd, f9, str, *]; done)
    · intro u wx hI hR
      obtain ⟨r0, r1, r2, r3, r4, r5, r6, r7, r8, r9, r10, -⟩ := hR
      replace r0 : u 0 = (.pointer (some ⟨w.heap.size, 84, none⟩)) := r0
      replace r1 : u 1 = (.bool true) := r1
      replace r2 : u 2 = (.bool true) := r2
      replace r3 : u 3 = (.pointer (some ⟨w.heap.size, 44, none⟩)) := r3
      replace r4 : u 4 = (.pointer (some ⟨w.heap.size, 45, none⟩)) := r4
      replace r5 : u 5 = (.agg s.ebat.cells.toArray) := r5
      replace r6 : u 6 = (.agg (bv D3).toArray) := r6
      replace r7 : u 7 = (.agg (bv D2).toArray) := r7
      replace r8 : u 8 = (.bool false) := r8
      replace r9 : u 9 = (.bool false) := r9
      replace r10 : u 10 = (.bool false) := r10
      simp only [mkAct, List.foldl_cons, List.foldl_nil, List.setIfInBounds_toArray, List.set_cons_succ, List.set_cons_zero]
      try simp only [str, r0, r1, r2, r3, r4, r5, r6, r7, r8, r9, r10]
      have r07 := Lib.hid (hI.at r06.out)
      have r37 := Lib.hid (hI.at r36.out)
      have hw7 := Lib.hid (hw6.out.trans hI)
      have z7 := hI.size
      have c84' := hI.cell c84.out
      clear hI r0 r1 r2 r3 r4 r5 r6 r7 r8 r9 r06 r16 r26 r36 hw6
      go_wp2_with (first | (refine load_row rfl _ _ rfl w.heap.size rfl _ _ _ _ r07.out Try.underlying42 rfl hinf.out ?_) | (refine store_row rfl _ _ _ rfl w2.heap.size s.cells.toArray rfl rfl _ _ r37.out hinf.out (slot_size zeroSlot_wf hwf.out) (slot_one _) ?_; intro w9 hb9 hk9; replace hb9 := Lib.hid hb9; replace hk9 := Lib.hid hk9))
      refine bodyPost_ret (v := .tuple #[.agg s.cells.toArray, .int .i64 0]) (results_row2 (p := 6) (q := 7) (ty := 42) rfl _ _ w2.heap.size _ _ _ _ _ rfl rfl hb9.out Try.underlying42 rfl hinf.out) rfl ?_
      exact ⟨rfl, hw7.out.keep hk9.out (fun x hx hv => by omega)⟩
  · subst h
    obtain rfl := hq1 h2
    clear hq1 hq2 hq3 hq4 h2 hq' hd1
    obtain ⟨s1, hs1e⟩ : ∃ x, x = { s with decided := true } := ⟨_, rfl⟩
    obtain ⟨s2, hs2e⟩ : ∃ x, x = { s1 with eslot := c.vote.slot, ebat := b, ecert := c } := ⟨_, rfl⟩
    have hfin : ({ s with decided := true, eslot := c.vote.slot, ebat := b, ecert := c } : SlotV) = s2 := by rw [hs2e, hs1e]
    rw [hfin]
    have hw1f : s1.wf := by rw [hs1e]; exact hwf.out
    have hl1 : s1.cells.length = 85 := SlotV.len hw1f
    have hw2f : s2.wf := by rw [hs2e, hs1e]; exact ⟨hwf.out.1, hc.out.1⟩
    have st1 : s.cells.take 84 ++ ([.bool true] ++ s.cells.drop 85) = s1.cells := by rw [hs1e]; exact set_decided hwf.out true
    have st2 : s1.cells.take 44 ++ (entCells c.vote.slot b c ++ s1.cells.drop (44 + (entCells c.vote.slot b c).length)) = s2.cells := by rw [hs2e]; exact set_ent hw1f c.vote.slot b c hc.out.1
    have hinf3 := Lib.hid (slot_info hw2f)
    have hinfH := Lib.hid (ent_infoL (s := c.vote.slot) (b := b) hc.out.1)
    have hlH := Lib.hid (ent_len (s := c.vote.slot) (b := b) hc.out.1)
    have hbH := Lib.hid (ent_built c.vote.slot b c hc.out.1)
    clear hs1e hs2e hfin
    replace hw2f := Lib.hid hw2f
    replace hw1f := Lib.hid hw1f
    replace hl1 := Lib.hid hl1
    replace st1 := Lib.hid st1
    replace st2 := Lib.hid st2
    go_enter Try.func18, Try.ntmps18
    go_upto_region 1 with (first | (refine box_row rfl _ _ rfl s.cells.toArray rfl hinf.out ?_; intro w0 hbs hs0; have l0 := blk_lt hbs; replace hbs := Lib.hid hbs; replace hs0 := Lib.hid hs0) | (refine box_row rfl _ _ rfl b.cells.toArray rfl hinfB.out ?_; intro w1 hbb hs1; have l1 := blk_lt hbb; replace hbb := Lib.hid hbb; replace hs1 := Lib.hid hs1) | (refine box_row rfl _ _ rfl c.cells.toArray rfl hinfC.out ?_; intro w2 hbc hs2; have l2 := blk_lt hbc; replace hbc := Lib.hid hbc; replace hs2 := Lib.hid hs2) | (refine alloc_new rfl 42 rfl zeroSlot.cells.toArray (by kernel_rfl) ?_; intro w3 hbz hs3; have l3 := blk_lt hbz; replace hbz := Lib.hid hbz; replace hs3 := Lib.hid hs3))
    have r0 := Lib.hid ((hs1.out.trans (hs2.out.trans hs3.out)).at hbs.out)
    have r1 := Lib.hid ((hs2.out.trans hs3.out).at hbb.out)
    have r2 := Lib.hid (hs3.out.at hbc.out)
    have hw3 := Lib.hid (hs0.out.trans (hs1.out.trans (hs2.out.trans hs3.out)))
    have z0 := hs0.out.size
    have z1 := hs1.out.size
    have z2 := hs2.out.size
    have z3 := hs3.out.size
    clear hbs hbb hbc hs0 hs1 hs2 hs3
    go_wp2_with (refine load_row rfl _ _ rfl w0.heap.size rfl _ _ _ _ r1.out Try.underlying26 rfl hinfB.out ?_)
    refine (hd2.out _ (BatV.same hb.out hw3.out)).mono ?_
    rintro e w4 ⟨rfl, hs4⟩
    have r04 := Lib.hid (hs4.at r0.out)
    have r14 := Lib.hid (hs4.at r1.out)
    have r24 := Lib.hid (hs4.at r2.out)
    have r34 := Lib.hid (hs4.at hbz.out)
    have hw4 := Lib.hid (hw3.out.trans hs4)
    have z4 := hs4.size
    clear hs4 r0 r1 r2 hbz hw3
    go_upto_region 2 with (first | (refine alloc_new rfl 28 rfl (bv (List.replicate 32 0)).toArray (by kernel_rfl) ?_; intro w5 hbd hs5; have l5 := blk_lt hbd; replace hbd := Lib.hid hbd; replace hs5 := Lib.hid hs5) | (refine store_row rfl _ _ _ rfl w4.heap.size (bv D2).toArray rfl rfl _ _ hbd.out hinfd.out (by rw [List.size_toArray, List.size_toArray, bv_length, bv_length, hDl.out]; rfl) (all_of bv_cell) ?_; intro w6 rd hk6; replace rd := Lib.hid rd; replace hk6 := Lib.hid hk6))
    have hs6 : Same w4 w6 := hs5.out.keep hk6.out (fun x hx hv => by omega)
    have r06 := Lib.hid (hs6.at r04.out)
    have r16 := Lib.hid (hs6.at r14.out)
    have r26 := Lib.hid (hs6.at r24.out)
    have r36 := Lib.hid (hs6.at r34.out)
    have hw6 := Lib.hid (hw4.out.trans hs6)
    have z6 := hs6.size
    have k0 := ce_kind r26.out
    have hdr := Lib.hid (ce_dig r26.out)
    have c84 := sl_decided r06.out hwf.out
    clear hs5 hk6 hs6 r04 r14 r24 r34 hbd hw4
    rw [← hD1.out] at hdr
    rw [h1] at k0
    rw [h3] at c84
    have hqo := hq.out
    have hgo := hgd.out
    go_upto_region 3 with (first | (refine load_mid rfl _ _ rfl w1.heap.size 4 rfl (bv D1) _ hdr.out Try.underlying28 rfl hinfD.out ?_) | (refine load_row rfl _ _ rfl w4.heap.size rfl _ _ _ _ rd.out Try.underlying28 rfl hinfd.out ?_))
    replace c84 := Lib.hid c84
    clear hqo hgo k0
    refine wp_region_facts (by kernel_rfl) [(24, 0), (25, 1), (26, 2), (27, 3), (28, 4), (29, 5), (30, 6), (31, 7), (32, 8), (33, 9), (23, 10)] Same (Same _) [isV (.pointer (some ⟨w.heap.size, 84, none⟩)), isV (.bool false), isV (.bool false), isV undef, isV undef, isV undef, isV undef, isV undef, isV undef, isV (.bool false), isV (.bool false)] Same.refl.drew (fun _ _ h k => h.trans k) (by simp [isV_stable, isB_stable, isAny_stable]) (by decide) (by decide) ?_ ?_
    · refine ⟨?_, ?_, ?_, ?_, ?_, ?_, ?_, ?_, ?_, ?_, ?_, trivial⟩
      all_goals (intro u wx hI hp; simp only [mkAct, List.foldl_cons, List.foldl_nil, List.setIfInBounds_toArray, List.set_cons_succ, List.set_cons_zero])
      · -- operation 0
        go_wp2
        refine stq_v rfl Same.refl ?_
        first | (simp only [mkAct, List.foldl_cons, List.foldl_nil, List.setIfInBounds_toArray, List.set_cons_succ, List.set_cons_zero, upd, reduceIte, Nat.reduceEqDiff, Nat.reduceAdd, str]; done) | (simp [mkAct, upd, str, *]; done)
      · -- operation 1
        obtain ⟨f0, -⟩ := hp
        replace f0 : u 0 = (.pointer (some ⟨w.heap.size, 84, none⟩)) := f0
        try simp only [f0, str]
        have cx := hI.cell (c84.out)
        go_wp2
        refine stq_v rfl Same.refl ?_
        first | (simp only [mkAct, List.foldl_cons, List.foldl_nil, List.setIfInBounds_toArray, List.set_cons_succ, List.set_cons_zero, upd, reduceIte, Nat.reduceEqDiff, Nat.reduceAdd, f0, str]; done) | (simp [mkAct, upd, f0, str, *]; done)
      · -- operation 2
        obtain ⟨f1, -⟩ := hp
        replace f1 : u 1 = (.bool false) := f1
        try simp only [f1, str]
        go_wp2
        refine stq_v rfl Same.refl ?_
        first | (simp only [mkAct, List.foldl_cons, List.foldl_nil, List.setIfInBounds_toArray, List.set_cons_succ, List.set_cons_zero, upd, reduceIte, Nat.reduceEqDiff, Nat.reduceAdd, f1, str]; done) | (simp [mkAct, upd, f1, str, *]; done)
      · -- operation 3
        obtain ⟨f2, -⟩ := hp
        replace f2 : u 2 = (.bool false) := f2
        try simp only [f2, str]
        go_wp2
        refine stq_v rfl Same.refl ?_
        first | (simp only [mkAct, List.foldl_cons, List.foldl_nil, List.setIfInBounds_toArray, List.set_cons_succ, List.set_cons_zero, upd, reduceIte, Nat.reduceEqDiff, Nat.reduceAdd, f2, str]; done) | (simp [mkAct, upd, f2, str, *]; done)
      · -- operation 4
        obtain ⟨f3, f2, -⟩ := hp
        replace f3 : u 3 = undef := f3
        replace f2 : u 2 = (.bool false) := f2
        try simp only [f3, f2, str]
        go_wp2
        refine stq_v rfl Same.refl ?_
        first | (simp only [mkAct, List.foldl_cons, List.foldl_nil, List.setIfInBounds_toArray, List.set_cons_succ, List.set_cons_zero, upd, reduceIte, Nat.reduceEqDiff, Nat.reduceAdd, f3, f2, str]; done) | (simp [mkAct, upd, f3, f2, str, *]; done)
      · -- operation 5
        obtain ⟨f4, f2, -⟩ := hp
        replace f4 : u 4 = undef := f4
        replace f2 : u 2 = (.bool false) := f2
        try simp only [f4, f2, str]
        go_wp2
        refine stq_v rfl Same.refl ?_
        first | (simp only [mkAct, List.foldl_cons, List.foldl_nil, List.setIfInBounds_toArray, List.set_cons_succ, List.set_cons_zero, upd, reduceIte, Nat.reduceEqDiff, Nat.reduceAdd, f4, f2, str]; done) | (simp [mkAct, upd, f4, f2, str, *]; done)
      · -- operation 6
        obtain ⟨f5, -, f2, -⟩ := hp
        replace f5 : u 5 = undef := f5
        replace f2 : u 2 = (.bool false) := f2
        try simp only [f5, f2, str]
        go_wp2
        refine stq_v rfl Same.refl ?_
        first | (simp only [mkAct, List.foldl_cons, List.foldl_nil, List.setIfInBounds_toArray, List.set_cons_succ, List.set_cons_zero, upd, reduceIte, Nat.reduceEqDiff, Nat.reduceAdd, f5, f2, str]; done) | (simp [mkAct, upd, f5, f2, str, *]; done)
      · -- operation 7
        obtain ⟨f2, -⟩ := hp
        replace f2 : u 2 = (.bool false) := f2
        try simp only [f2, str]
        go_wp2
        refine stq_v rfl Same.refl ?_
        first | (simp only [mkAct, List.foldl_cons, List.foldl_nil, List.setIfInBounds_toArray, List.set_cons_succ, List.set_cons_zero, upd, reduceIte, Nat.reduceEqDiff, Nat.reduceAdd, f2, str]; done) | (simp [mkAct, upd, f2, str, *]; done)
      · -- operation 8
        obtain ⟨f6, f7, f2, -⟩ := hp
        replace f6 : u 6 = undef := f6
        replace f7 : u 7 = undef := f7
        replace f2 : u 2 = (.bool false) := f2
        try simp only [f6, f7, f2, str]
        go_wp2
        refine stq_v rfl Same.refl ?_
        first | (simp only [mkAct, List.foldl_cons, List.foldl_nil, List.setIfInBounds_toArray, List.set_cons_succ, List.set_cons_zero, upd, reduceIte, Nat.reduceEqDiff, Nat.reduceAdd, f6, f7, f2, str]; done) | (simp [mkAct, upd, f6, f7, f2, str, *]; done)
      · -- operation 9
        obtain ⟨f2, f8, -⟩ := hp
        replace f2 : u 2 = (.bool false) := f2
        replace f8 : u 8 = undef := f8
        try simp only [f2, f8, str]
        go_wp2
        refine stq_v rfl Same.refl ?_
        first | (simp only [mkAct, List.foldl_cons, List.foldl_nil, List.setIfInBounds_toArray, List.set_cons_succ, List.set_cons_zero, upd, reduceIte, Nat.reduceEqDiff, Nat.reduceAdd, f2, f8, str]; done) | (simp [mkAct, upd, f2, f8, str, *]; done)
      · -- operation 10
        obtain ⟨f9, -, -⟩ := hp
        replace f9 : u 9 = (.bool false) := f9
        try simp only [f9, str]
        go_wp2
        refine stq_v rfl Same.refl ?_
        first | (simp only [mkAct, List.foldl_cons, List.foldl_nil, List.setIfInBounds_toArray, List.set_cons_succ, List.set_cons_zero, upd, reduceIte, Nat.reduceEqDiff, Nat.reduceAdd, f9, str]; done) | (simp [mkAct, upd, f9, str, *]; done)
    · intro u wx hI hR
      obtain ⟨r0, r1, r2, r3, r4, r5, r6, r7, r8, r9, r10, -⟩ := hR
      replace r0 : u 0 = (.pointer (some ⟨w.heap.size, 84, none⟩)) := r0
      replace r1 : u 1 = (.bool false) := r1
      replace r2 : u 2 = (.bool false) := r2
      replace r3 : u 3 = undef := r3
      replace r4 : u 4 = undef := r4
      replace r5 : u 5 = undef := r5
      replace r6 : u 6 = undef := r6
      replace r7 : u 7 = undef := r7
      replace r8 : u 8 = undef := r8
      replace r9 : u 9 = (.bool false) := r9
      replace r10 : u 10 = (.bool false) := r10
      simp only [mkAct, List.foldl_cons, List.foldl_nil, List.setIfInBounds_toArray, List.set_cons_succ, List.set_cons_zero]
      try simp only [str, r0, r1, r2, r3, r4, r5, r6, r7, r8, r9, r10]
      have r07 := Lib.hid (hI.at r06.out)
      have r17 := Lib.hid (hI.at r16.out)
      have r27 := Lib.hid (hI.at r26.out)
      have r37 := Lib.hid (hI.at r36.out)
      have hw7 := Lib.hid (hw6.out.trans hI)
      have z7 := hI.size
      have c84' := hI.cell c84.out
      clear hI r0 r1 r2 r9 r06 r16 r26 r36 hw6
      obtain ⟨w7, hw7e⟩ : ∃ x, x = wx := ⟨_, rfl⟩
      subst hw7e
      go_upto_region 6 with fail
      clear c84'
      refine wp_region_mut (by kernel_rfl) [(39, 0), (40, 1), (41, 2), (42, 3), (43, 4), (44, 5), (45, 6), (46, 8)] [(7, (Keep (· = w.heap.size))), (9, (Keep (· = w.heap.size)))] [(7, [7, 9]), (9, [7, 9]), (1000, [7, 9])] [0, 1, 2, 3, 4, 5, 6, 8, 9] [[], [0], [1], [], [], [2, 3, 4], [], [6, 1000], [], [8, 5, 7]] Same (Keep (· = w.heap.size) w7) [(rowAt w.heap.size s.cells 42)] [isV (.pointer (some ⟨w1.heap.size, 0, none⟩)), isV (.pointer (some ⟨w1.heap.size, 3, none⟩)), isV (.int .i64 c.vote.slot), isV (.agg b.cells.toArray), isV (.agg c.cells.toArray), isV (.agg (entCells c.vote.slot b c).toArray), isV (.pointer (some ⟨w.heap.size, 84, none⟩)), isRA w.heap.size s1.cells 42, isV (.pointer (some ⟨w.heap.size, 44, none⟩)), isRA w.heap.size s2.cells 42] (Keep.drew) (by intro g hg; simp only [List.mem_cons, List.not_mem_nil, or_false] at hg; obtain rfl := hg; exact r07.out) (fun _ _ h k => h.trans (Keep.of_same k) (fun _ _ hq => hq)) (by intro g hg; simp only [List.mem_cons, List.not_mem_nil, or_false] at hg; rcases hg with rfl | rfl; exact (fun _ _ h k => h.trans k (fun _ _ hq => hq)); exact (fun _ _ h k => h.trans k (fun _ _ hq => hq))) (by simp [isV_stable, isB_stable, isAny_stable, isRA_stable]) (by intro g hg; simp only [List.mem_cons, List.not_mem_nil, or_false] at hg; obtain rfl := hg; exact (fun _ _ k h => k.at h)) (by simp [killsOf, List.zipIdx_cons, isV_stable, isAny_stable]) (by simp [killsOf, List.zipIdx_cons]) (by decide) (l := [_, _, _, _, _, _, _, _, _, _]) rfl (by decide) (by kernel_rfl) (by kernel_rfl) (by kernel_rfl) (by decide) ?_ ?_
      · refine ⟨?_, ?_, ?_, ?_, ?_, ?_, ?_, ?_, ?_, ?_, trivial⟩
        all_goals (intro u wx hI hp; simp only [mkAct, List.foldl_cons, List.foldl_nil, List.setIfInBounds_toArray, List.set_cons_succ, List.set_cons_zero])
        · -- operation 0
          go_wp2
          refine stg_v (x := (.pointer (some ⟨w1.heap.size, 0, none⟩))) rfl Same.refl ?_
          first | (simp only [mkAct, List.foldl_cons, List.foldl_nil, List.setIfInBounds_toArray, List.set_cons_succ, List.set_cons_zero, upd, reduceIte, Nat.reduceEqDiff, Nat.reduceAdd, str]; done) | (simp [mkAct, upd, str, *]; done)
        · -- operation 1
          obtain ⟨f0, -⟩ := hp
          replace f0 : u 0 = (.pointer (some ⟨w1.heap.size, 0, none⟩)) := f0
          try simp only [f0, str]
          go_wp2
          refine stg_v (x := (.pointer (some ⟨w1.heap.size, 3, none⟩))) rfl Same.refl ?_
          first | (simp only [mkAct, List.foldl_cons, List.foldl_nil, List.setIfInBounds_toArray, List.set_cons_succ, List.set_cons_zero, upd, reduceIte, Nat.reduceEqDiff, Nat.reduceAdd, f0, str]; done) | (simp [mkAct, upd, f0, str, *]; done)
        · -- operation 2
          obtain ⟨f1, -⟩ := hp
          replace f1 : u 1 = (.pointer (some ⟨w1.heap.size, 3, none⟩)) := f1
          try simp only [f1, str]
          have cx := ce_slot ((hI.block _ (by omega) (by omega)).trans r27.out)
          go_wp2
          refine stg_v (x := (.int .i64 c.vote.slot)) rfl Same.refl ?_
          first | (simp only [mkAct, List.foldl_cons, List.foldl_nil, List.setIfInBounds_toArray, List.set_cons_succ, List.set_cons_zero, upd, reduceIte, Nat.reduceEqDiff, Nat.reduceAdd, f1, str]; done) | (simp [mkAct, upd, f1, str, *]; done)
        · -- operation 3
          go_wp2_with (refine load_row rfl _ _ rfl w0.heap.size rfl _ _ _ _ ((hI.block _ (by omega) (by omega)).trans r17.out) Try.underlying26 rfl hinfB.out ?_)
          refine stg_v (x := (.agg b.cells.toArray)) rfl Same.refl ?_
          first | (simp only [mkAct, List.foldl_cons, List.foldl_nil, List.setIfInBounds_toArray, List.set_cons_succ, List.set_cons_zero, upd, reduceIte, Nat.reduceEqDiff, Nat.reduceAdd, str]; done) | (simp [mkAct, upd, str, *]; done)
        · -- operation 4
          go_wp2_with (refine load_row rfl _ _ rfl w1.heap.size rfl _ _ _ _ ((hI.block _ (by omega) (by omega)).trans r27.out) Try.underlying33 rfl hinfC.out ?_)
          refine stg_v (x := (.agg c.cells.toArray)) rfl Same.refl ?_
          first | (simp only [mkAct, List.foldl_cons, List.foldl_nil, List.setIfInBounds_toArray, List.set_cons_succ, List.set_cons_zero, upd, reduceIte, Nat.reduceEqDiff, Nat.reduceAdd, str]; done) | (simp [mkAct, upd, str, *]; done)
        · -- operation 5
          obtain ⟨f2, f3, f4, -⟩ := hp
          replace f2 : u 2 = (.int .i64 c.vote.slot) := f2
          replace f3 : u 3 = (.agg b.cells.toArray) := f3
          replace f4 : u 4 = (.agg c.cells.toArray) := f4
          try simp only [f2, f3, f4, str]
          go_wp2_with (refine build_struct rfl _ _ rfl [(0, .int .i64 c.vote.slot), (1, .agg b.cells.toArray), (2, .agg c.cells.toArray)] rfl _ hbH.out ?_)
          refine stg_v (x := (.agg (entCells c.vote.slot b c).toArray)) rfl Same.refl ?_
          first | (simp only [mkAct, List.foldl_cons, List.foldl_nil, List.setIfInBounds_toArray, List.set_cons_succ, List.set_cons_zero, upd, reduceIte, Nat.reduceEqDiff, Nat.reduceAdd, f2, f3, f4, str]; done) | (simp [mkAct, upd, f2, f3, f4, str, *]; done)
        · -- operation 6
          go_wp2
          refine stg_v (x := (.pointer (some ⟨w.heap.size, 84, none⟩))) rfl Same.refl ?_
          first | (simp only [mkAct, List.foldl_cons, List.foldl_nil, List.setIfInBounds_toArray, List.set_cons_succ, List.set_cons_zero, upd, reduceIte, Nat.reduceEqDiff, Nat.reduceAdd, str]; done) | (simp [mkAct, upd, str, *]; done)
        · -- operation 7
          obtain ⟨f6, fG0, -⟩ := hp
          replace f6 : u 6 = (.pointer (some ⟨w.heap.size, 84, none⟩)) := f6
          try simp only [f6, str]
          go_wp2_with (refine store_one rfl _ _ _ rfl w.heap.size 84 (.bool true) rfl rfl rfl rfl _ _ fG0 (by kernel_rfl) (by rw [hlen.out]; decide) ?_; intro w8 hb4 hk4)
          refine stg_v (x := undef) (by show rowAt _ _ _ _; unfold rowAt; rw [← st1.out]; exact hb4) hk4 ?_
          first | (simp only [mkAct, List.foldl_cons, List.foldl_nil, List.setIfInBounds_toArray, List.set_cons_succ, List.set_cons_zero, upd, reduceIte, Nat.reduceEqDiff, Nat.reduceAdd, f6, str]; done) | (simp [mkAct, upd, f6, str, *]; done)
        · -- operation 8
          go_wp2
          refine stg_v (x := (.pointer (some ⟨w.heap.size, 44, none⟩))) rfl Same.refl ?_
          first | (simp only [mkAct, List.foldl_cons, List.foldl_nil, List.setIfInBounds_toArray, List.set_cons_succ, List.set_cons_zero, upd, reduceIte, Nat.reduceEqDiff, Nat.reduceAdd, str]; done) | (simp [mkAct, upd, str, *]; done)
        · -- operation 9
          obtain ⟨f8, f5, f7, -⟩ := hp
          replace f8 : u 8 = (.pointer (some ⟨w.heap.size, 44, none⟩)) := f8
          replace f5 : u 5 = (.agg (entCells c.vote.slot b c).toArray) := f5
          try simp only [f8, f5, str]
          go_wp2_with (refine store_mid rfl _ _ _ rfl w.heap.size 44 (entCells c.vote.slot b c) rfl rfl _ _ f7 hinfH.out (by rw [hl1.out, hlH.out]; decide) (ent_oneL _ _ _) ?_; intro w8 hb4 hk4)
          refine stg_v (x := undef) (by show rowAt _ _ _ _; unfold rowAt; rw [← st2.out]; exact hb4) hk4 ?_
          first | (simp only [mkAct, List.foldl_cons, List.foldl_nil, List.setIfInBounds_toArray, List.set_cons_succ, List.set_cons_zero, upd, reduceIte, Nat.reduceEqDiff, Nat.reduceAdd, f8, f5, str]; done) | (simp [mkAct, upd, f8, f5, str, *]; done)
      · intro u wx hI hR
        obtain ⟨r0, r1, r2, r3, r4, r5, r6, r8, r9, -⟩ := hR
        replace r0 : u 0 = (.pointer (some ⟨w1.heap.size, 0, none⟩)) := r0
        replace r1 : u 1 = (.pointer (some ⟨w1.heap.size, 3, none⟩)) := r1
        replace r2 : u 2 = (.int .i64 c.vote.slot) := r2
        replace r3 : u 3 = (.agg b.cells.toArray) := r3
        replace r4 : u 4 = (.agg c.cells.toArray) := r4
        replace r5 : u 5 = (.agg (entCells c.vote.slot b c).toArray) := r5
        replace r6 : u 6 = (.pointer (some ⟨w.heap.size, 84, none⟩)) := r6
        replace r8 : u 8 = (.pointer (some ⟨w.heap.size, 44, none⟩)) := r8
        simp only [mkAct, List.foldl_cons, List.foldl_nil, List.setIfInBounds_toArray, List.set_cons_succ, List.set_cons_zero]
        try simp only [str, r0, r1, r2, r3, r4, r5, r6, r8]
        have r05 : wx.heap[w.heap.size]? = some (.cells s2.cells.toArray 42 (0, 0)) := r9
        have r38 := Lib.hid ((hI.block _ (by omega) (by omega)).trans r37.out)
        have hw8 := Lib.hid (hw7.out.keep hI (fun x hx hv => by omega))
        clear hI r07 r17 r27 r37 hw7 r9
        replace r05 := Lib.hid r05
        go_wp2_with (first | (refine load_row rfl _ _ rfl w.heap.size rfl _ _ _ _ r05.out Try.underlying42 rfl hinf3.out ?_) | (refine store_row rfl _ _ _ rfl w2.heap.size s2.cells.toArray rfl rfl _ _ r38.out hinf3.out (slot_size zeroSlot_wf hw2f.out) (slot_one _) ?_; intro w9 hb9 hk9; replace hb9 := Lib.hid hb9; replace hk9 := Lib.hid hk9))
        refine bodyPost_ret (v := .tuple #[.agg s2.cells.toArray, .int .i64 0]) (results_row2 (p := 6) (q := 7) (ty := 42) rfl _ _ w2.heap.size _ _ _ _ _ rfl rfl hb9.out Try.underlying42 rfl hinf3.out) rfl ?_
        exact ⟨rfl, hw8.out.keep hk9.out (fun x hx hv => by omega)⟩
end Go.Proofs.Ytmacgmmjgdmleaa
