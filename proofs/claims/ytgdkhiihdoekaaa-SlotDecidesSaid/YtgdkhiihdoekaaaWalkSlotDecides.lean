/-
  The walk of the law SlotDecides: what a cert of commits decides is known by its digest, and stays; another batch is refused then.
-/
-- @law rep slot, rep bat, rep bat, rep cert
import Derived.Test.YtgdkhiihdoekaaaSlot4
import Derived.Test.YtgdkhiihdoekaaaMut
namespace Go.Proofs.Ytgdkhiihdoekaaa
open Go Go.RowKit
set_option linter.unusedSimpArgs false
set_option linter.unusedVariables false

def hopsS (P : Program) (ops : Array Oper) (Q : Exit → Act → World → Prop) (a : Act) (ds : List (Nat × Nat)) (rel : World → World → Prop) (I : World → Prop) (R : Nat → Value → World → Prop) : Nat → List (List Nat) → List Oper → Prop
  | _, _, [] => True
  | i, A, o :: l => (∀ u w, I w → onAll R u w (A.headD []) → wpList P ops (StQ Q a ds rel R u i w) [o] (mkAct a ds u) w) ∧ hopsS P ops Q a ds rel I R (i + 1) A.tail l
def seqOk : Nat → List (List Nat) → List Oper → Bool
  | _, _, [] => true
  | i, A, _ :: l => (A.headD []).all (fun k => Nat.blt k i) && seqOk (i + 1) A.tail l
section
variable {P : Program} {ops : Array Oper} {Q : Exit → Act → World → Prop} {a : Act} {ds : List (Nat × Nat)} {rel : World → World → Prop} {I : World → Prop} {R : Nat → Value → World → Prop}
theorem wpList_then {o : Oper} {rest : List Oper} {Q' : Exit → Act → World → Prop} {a : Act} {w : World} (h : wpList P ops Q' [o] a w) (hn : ∀ a w, Q' .normal a w → wpList P ops Q rest a w) (hq : ∀ e a w, e ≠ .normal → Q' e a w → Q e a w) : wpList P ops Q (o :: rest) a w := by
  unfold wpList at h ⊢
  have hout : LetsOut Q' → LetsOut Q := fun ⟨a, w, h⟩ => ⟨a, w, hq _ _ _ (by simp) h⟩
  by_cases hw : Region.wanted o (yielded ops a.tmps) = true
  · simp only [hw, if_true] at h ⊢
    rcases h with h | ⟨h1, h2⟩
    · refine .inl ?_
      unfold Oper.wp at h ⊢
      generalize (execOp a.eval o).run P w = r at *
      cases r with
      | ok n w' =>
        cases n <;> simp only [Oper.upon] at h ⊢ <;>
          first
            | exact hn _ _ h
            | exact Calls.mono h (fun e w'' he => by cases e <;> first | exact hn _ _ he | exact hq _ _ _ (by simp) he | exact hout he)
            | exact Rows.mono h (fun _ _ he => hn _ _ he)
      | halt x w' => cases x <;> simp only [Oper.upon] at h ⊢ <;> exact hq _ _ _ (by simp) h
    · exact .inr ⟨h1, hout h2⟩
  · simp only [hw, if_false, Bool.false_eq_true] at h ⊢
    exact hn _ _ h
theorem wp_seq (hR : ∀ i v w w', rel w w' → R i v w → R i v w') (hrel : ∀ w w', I w → rel w w' → I w') : ∀ (l : List Oper) (i : Nat) (A : List (List Nat)) (u : Nat → Value) (w : World), seqOk i A l = true → (∀ k, k < i → R k (u k) w) → I w → hopsS P ops Q a ds rel I R i A l →
    (∀ u w, I w → (∀ k, k < i + l.length → R k (u k) w) → Q .normal (mkAct a ds u) w) → wpList P ops Q l (mkAct a ds u) w := by
  intro l
  induction l with
  | nil => intro i A u w _ hf hI _ hend; exact hend u w hI hf
  | cons o l ih =>
    intro i A u w hok hf hI hop hend
    simp only [seqOk, Bool.and_eq_true, List.all_eq_true] at hok
    refine wpList_then (hop.1 u w hI (onAll_of _ fun k hk => hf k (Nat.le_of_ble_eq_true (hok.1 k hk)))) ?_ ?_
    · rintro a' w' ⟨v, rfl, hv, hr⟩
      refine ih (i + 1) A.tail (upd u i v) w' hok.2 ?_ (hrel _ _ hI hr) hop.2 ?_
      · intro k hk
        by_cases e : k = i
        · subst e
          rw [upd_same]
          exact hv
        · rw [upd_other _ _ e]
          exact hR _ _ _ _ hr (hf k (by omega))
      · intro u w hI hf
        exact hend u w hI (fun k hk => hf k (by simp only [List.length_cons] at hk; omega))
    · intro e a' w' he h
      cases e <;> first | exact absurd rfl he | exact h
theorem wp_region_seq {id : Nat} {w : World} (ds : List (Nat × Nat)) (A : List (List Nat)) (rel : World → World → Prop) (I : World → Prop) (L : List (Value → World → Prop)) (hI : I w) (hrel : ∀ w w', I w → rel w w' → I w') (hL : ∀ p ∈ L, Stable rel p) (hnd : (ds.map Prod.snd).Nodup)
    {l : List Oper} (hl : ops.toList = l) (hA : seqOk 0 A l = true) (hop : hopsS P ops Q a ds rel I (factAt L) 0 A l) (hend : ∀ u w, I w → allR (factAt L) u w 0 l.length → wpList P ops Q [] (mkAct a ds u) w) : (Code.region id ops false).wp P Q a w := by
  refine wp_region_list ?_
  rw [hl, mkAct_own a ds hnd]
  have key := wp_seq (P := P) (ops := ops) (Q := Q) (a := a) (ds := ds) (facts_stable hL) hrel l 0 A (ownU a ds) w hA (fun k hk => by omega) hI
  rw [← mkAct_own a ds hnd] at key ⊢
  refine key hop ?_
  intro u w hI hf
  exact hend u w hI (allR_of _ _ fun j h1 h2 => hf j h2)
end
end Go.Proofs.Ytgdkhiihdoekaaa
namespace Go.Proofs.Ytgdkhiihdoekaaa
open Go Go.RowKit
set_option linter.unusedSimpArgs false
set_option linter.unusedVariables false

set_option maxRecDepth 100000
def CertV.kinded (c : CertV) (k : Int) : CertV := { c with vote := { c.vote with kind := k } }
def CertV.digged (c : CertV) (d : List UInt8) : CertV := { c with vote := { c.vote with dig := d } }
theorem set_kind (c : CertV) (k : Int) : c.cells.take 0 ++ ([.int .i64 k] ++ c.cells.drop 1) = (c.kinded k).cells := rfl
theorem set_dig {c : CertV} (h : c.vote.wf) {d : List UInt8} (hd : d.length = 32) : c.cells.take 4 ++ (bv d ++ c.cells.drop (4 + (bv d).length)) = (c.digged d).cells := by
  have e : c.cells = [.int .i64 c.vote.kind, .int .i64 c.vote.epoch, .int .i64 c.vote.view, .int .i64 c.vote.slot] ++ (bv c.vote.dig ++ [.slice c.so c.signs.length c.sc]) := by simp only [CertV.cells, VoteV.cells, List.append_assoc]
  rw [e, splice (n := 4) rfl (by rw [bv_length, bv_length, hd, h.1]) rfl]
  simp only [CertV.cells, VoteV.cells, CertV.digged, List.append_assoc]
theorem kinded_at {w : World} {c : CertV} (h : c.at w) {k : Int} (hk : (Lit.int .i64 k).wf = true) : (c.kinded k).at w := ⟨⟨h.1.1, hk, h.1.2.2⟩, h.2⟩
theorem digged_at {w : World} {c : CertV} (h : c.at w) {d : List UInt8} (hd : d.length = 32) : (c.digged d).at w := ⟨⟨hd, h.1.2⟩, h.2⟩
/-- The slot behind the decision. -/
def decS (s : SlotV) (b : BatV) (c : CertV) : SlotV := { s with decided := true, eslot := c.vote.slot, ebat := b, ecert := c }
theorem decS_first (s : SlotV) (b : BatV) (c : CertV) (h1 : c.vote.kind = 2) (h2 : c.vote.dig = bDig b) (h3 : s.decided = false) : s.decide b c = (decS s b c, 0) := by
  unfold SlotV.decide
  rw [if_neg (by simp [h1, h2]), if_neg (by simp [h3])]
  rfl
theorem decS_again (s : SlotV) (b o : BatV) (c d : CertV) (h1 : d.vote.kind = 2) (h2 : d.vote.dig = bDig o) : (decS s b c).decide o d = if bDig b = bDig o then (decS s b c, 0) else (zeroSlot, 181) := by
  unfold SlotV.decide
  rw [if_neg (by simp [h1, h2]), if_pos (by simp [decS])]
  rfl
theorem decS_known (s : SlotV) (b : BatV) (c : CertV) : (decS s b c).known (bDig b) = (b, true) := by
  unfold SlotV.known
  rw [if_pos ⟨rfl, rfl⟩]
  rfl
theorem decS_at {w : World} {s : SlotV} {b : BatV} {c : CertV} (hs : s.at w) (hb : b.at w) (hc : c.at w) : (decS s b c).at w := ⟨hs.1, hc.1.2.2.2.2, hs.2.2.1, hs.2.2.2.1, hs.2.2.2.2.1, hb, hc⟩
theorem ssv_one {w : World} {b : Nat} {s : SlotV} {T : TypeId} (h : w.heap[b]? = some (.cells s.cells.toArray T (0, 0))) (hw : s.wf) : Sl w 85 (some ⟨b, 0, none⟩) 1 1 (ssv [s]) :=
  ⟨by simp [ssv, SlotV.len hw], Nat.le_refl _, by unfold maxLen; omega, (fun e => by cases e), fun x hx j u hu => by
    injection hx with hx
    subst hx
    rw [add0, blk_cell h, List.getElem?_toArray]
    simpa [ssv] using hu⟩
set_option maxRecDepth 100000 in
set_option maxHeartbeats 12800000 in
theorem walk_SlotDecides (w : World) (s : SlotV) (hs : s.at w) (b : BatV) (hb : b.at w) (o : BatV) (ho : o.at w) (c : CertV) (hc : c.at w) :
    Calls Try.prog 6 #[.agg s.cells.toArray, .agg b.cells.toArray, .agg o.cells.toArray, .agg c.cells.toArray] w fun e w' => e = .returned (.bool true) ∧ Same w w' := by
  have hl := Lib.hid lives18
  have hwf := Lib.hid hs.wf
  have hinfA := Lib.hid (slot_info hwf.out)
  have hinfB := Lib.hid (bat_info b)
  have hinfO := Lib.hid (bat_info o)
  have hinfC := Lib.hid (cert_info hc.1)
  have zA : (Try.prog.info? 40).map (fun i => (i.zero, i.size)) = some (some (.agg zeroSlot.cells.toArray), s.cells.length) := by rw [SlotV.len hwf.out]; kernel_rfl
  have lenA := SlotV.len hwf.out
  obtain ⟨n, hn⟩ : ∃ n, n = c.signs.length := ⟨_, rfl⟩
  obtain ⟨dc, hdc⟩ : ∃ d, d = s.decided := ⟨_, rfl⟩
  replace hdc := Lib.hid hdc
  replace zA := Lib.hid zA
  replace lenA := Lib.hid lenA
  replace hn := Lib.hid hn
  replace hs := Lib.hid hs
  replace hb := Lib.hid hb
  replace ho := Lib.hid ho
  replace hc := Lib.hid hc
  go_enter Try.func6, Try.ntmps6
  go_upto_region 1 with (first | (refine box_row rfl _ _ rfl s.cells.toArray rfl hinfA.out ?_; intro w0 hba hs0; have l0 := blk_lt hba; replace hba := Lib.hid hba; replace hs0 := Lib.hid hs0) | (refine box_row rfl _ _ rfl b.cells.toArray rfl hinfB.out ?_; intro w1 hbb hs1; have l1 := blk_lt hbb; replace hbb := Lib.hid hbb; replace hs1 := Lib.hid hs1) | (refine box_row rfl _ _ rfl o.cells.toArray rfl hinfO.out ?_; intro w2 hbo hs2; have l2 := blk_lt hbo; replace hbo := Lib.hid hbo; replace hs2 := Lib.hid hs2) | (refine box_row rfl _ _ rfl c.cells.toArray rfl hinfC.out ?_; intro w3 hbc hs3; have l3 := blk_lt hbc; replace hbc := Lib.hid hbc; replace hs3 := Lib.hid hs3))
  have s0 := Lib.hid (hs0.out.trans (hs1.out.trans (hs2.out.trans hs3.out)))
  have sa := Lib.hid (hs1.out.trans (hs2.out.trans hs3.out))
  have sb := Lib.hid (hs2.out.trans hs3.out)
  have so := hs3
  have sc := Lib.hid (Same.refl (w := w3))
  clear hs0 hs1 hs2 hs3
  go_wp2_with (first | (refine load_row rfl _ _ rfl w.heap.size rfl _ _ _ _ (sa.out.at hba.out) Try.underlying40 rfl hinfA.out ?_) | (refine build_slice1 rfl _ 40 _ rfl s.cells rfl Try.underlying155 _ zA.out (by rw [lenA.out]; decide) (by rw [lenA.out]; decide) ?_; intro w4 hA4 hs4; replace hA4 := Lib.hid hA4; replace hs4 := Lib.hid hs4))
  refine (light18_any w3.heap.size 1 [s] w4 rfl (by decide) (ssv_one hA4.out hwf.out) (by
    intro x hx
    simp only [List.mem_cons, List.not_mem_nil, or_false] at hx
    subst hx
    exact SlotV.same' hs.out (s0.out.trans hs4.out))).mono ?_
  rintro e w5 ⟨L, rfl, hL, hs'⟩
  have hs5 : Same w3 w5 := hs4.out.trans hs'
  clear hs' hs4 hA4
  replace s0 := Lib.hid (s0.out.trans hs5)
  replace sa := Lib.hid (sa.out.trans hs5)
  replace sb := Lib.hid (sb.out.trans hs5)
  replace so := Lib.hid (so.out.trans hs5)
  replace sc := Lib.hid (sc.out.trans hs5)
  clear hs5
  replace hL := Lib.hid hL
  cases L
  · clear hL
    go_upto_region 2 with fail
    go_wp2_with fail
    refine (hl.out _).mono ?_
    rintro e w6 ⟨rfl, hs⟩
    replace s0 := Lib.hid (s0.out.trans hs)
    replace sa := Lib.hid (sa.out.trans hs)
    replace sb := Lib.hid (sb.out.trans hs)
    replace so := Lib.hid (so.out.trans hs)
    replace sc := Lib.hid (sc.out.trans hs)
    clear hs
    go_wp2
    go_ret
    exact ⟨rfl, s0.out⟩
  · have sms := Lib.hid (hL.out rfl s (by simp))
    clear hL
    go_wp2_with (first | (refine load_row rfl _ _ rfl w0.heap.size rfl _ _ _ _ (sb.out.at hbb.out) Try.underlying24 rfl hinfB.out ?_) | (refine load_row rfl _ _ rfl w1.heap.size rfl _ _ _ _ (so.out.at hbo.out) Try.underlying24 rfl hinfO.out ?_) | (refine build_sl (W' := w5.alloc (.cells (bvs [b, o]).toArray 24)) (.slice (some ⟨w5.heap.size, 0, none⟩) 2 2) rfl rfl (by kernel_rfl) ?_))
    have hlt := light7_any (some ⟨w5.heap.size, 0, none⟩) 2 2 [b, o] (w5.alloc (.cells (bvs [b, o]).toArray 24)) (bvs_box [b, o] 2 rfl (by unfold maxLen; omega)) rfl (by
      intro x hx
      have hw : Same w (w5.alloc (.cells (bvs [b, o]).toArray 24)) := s0.out.trans (Same.refl.alloc _)
      simp only [List.mem_cons, List.not_mem_nil, or_false] at hx
      rcases hx with rfl | rfl
      · exact BatV.same hb.out hw
      · exact BatV.same ho.out hw)
    refine hlt.mono ?_
    rintro e w6 ⟨L2, rfl, hL2, hs'⟩
    have hs : Same w5 w6 := (Same.refl.alloc _).trans hs'
    clear hs' hlt
    replace s0 := Lib.hid (s0.out.trans hs)
    replace sa := Lib.hid (sa.out.trans hs)
    replace sb := Lib.hid (sb.out.trans hs)
    replace so := Lib.hid (so.out.trans hs)
    replace sc := Lib.hid (sc.out.trans hs)
    clear hs
    replace hL2 := Lib.hid hL2
    cases L2
    · clear hL2
      go_upto_region 2 with fail
      go_wp2_with fail
      refine (hl.out _).mono ?_
      rintro e w7 ⟨rfl, hs⟩
      replace s0 := Lib.hid (s0.out.trans hs)
      replace sa := Lib.hid (sa.out.trans hs)
      replace sb := Lib.hid (sb.out.trans hs)
      replace so := Lib.hid (so.out.trans hs)
      replace sc := Lib.hid (sc.out.trans hs)
      clear hs
      go_wp2
      go_ret
      exact ⟨rfl, s0.out⟩
    · have smb := Lib.hid (hL2.out rfl b (by simp))
      have smo := Lib.hid (hL2.out rfl o (by simp))
      clear hL2
      have c36 := ce_signs (sc.out.at hbc.out) hc.out.1
      rw [← hn.out] at c36
      have c84 := sl_decided (sa.out.at hba.out) hwf.out
      rw [← hdc.out] at c84
      by_cases h100 : (n : Int) ≤ 100
      · have h100' : Decidable.decide (100 < (n : Int)) = false := decide_eq_false (by omega)
        cases dc
        · have hS3 := Lib.hid (SlotV.same' hs.out s0.out)
          go_wp2_with (refine load_row rfl _ _ rfl w0.heap.size rfl _ _ _ _ (sb.out.at hbb.out) Try.underlying24 rfl hinfB.out ?_)
          clear c36 c84
          have hlen37 := Lib.hid (CertV.len hc.out.1)
          have hdb := fun w h => rbdig_any b w h smb.out
          have hdo := fun w h => rbdig_any o w h smo.out
          have hDb := bDig_length b
          have hDo := bDig_length o
          have hC2 : ((c.kinded 2).digged (bDig b)).at w := digged_at (kinded_at hc.out (by decide)) hDb
          have hD2 : (((c.kinded 2).digged (bDig b)).digged (bDig o)).at w := digged_at hC2 hDo
          have hdec1 := fun (w : World) h1 h2 h3 => decide_any s b ((c.kinded 2).digged (bDig b)) w h1 h2 h3 sms.out.2.2 smb.out
          rw [decS_first s b _ rfl rfl hdc.out.symm] at hdec1
          have hXat : ∀ w', Same w w' → (decS s b ((c.kinded 2).digged (bDig b))).at w' := fun w' k => decS_at (SlotV.same' hs.out k) (BatV.same hb.out k) (CertV.same' hC2 k)
          have hkn := fun (w : World) h => known_any (decS s b ((c.kinded 2).digged (bDig b))) (bDig b) hDb w h smb.out sms.out.1 sms.out.2.1
          rw [decS_known] at hkn
          have hdec2 := fun (w : World) h1 h2 h3 => decide_any (decS s b ((c.kinded 2).digged (bDig b))) o (((c.kinded 2).digged (bDig b)).digged (bDig o)) w h1 h2 h3 smb.out smo.out
          rw [decS_again s b o _ _ rfl rfl] at hdec2
          have hXf : (decS s b ((c.kinded 2).digged (bDig b))).decided = true ∧ (decS s b ((c.kinded 2).digged (bDig b))).eslot = c.vote.slot ∧ (decS s b ((c.kinded 2).digged (bDig b))).is = s.is ∧ (decS s b ((c.kinded 2).digged (bDig b))).holds = s.holds := ⟨rfl, rfl, rfl, rfl⟩
          have hCs : ((c.kinded 2).digged (bDig b)).vote.slot = c.vote.slot := rfl
          have hCd : ((c.kinded 2).digged (bDig b)).vote.dig = bDig b := rfl
          have hDd : (((c.kinded 2).digged (bDig b)).digged (bDig o)).vote.dig = bDig o := rfl
          have st1 := set_kind c 2
          have st2 := set_dig (c := c.kinded 2) (kinded_at hc.out (by decide)).1 hDb
          have st3 := set_dig (c := (c.kinded 2).digged (bDig b)) hC2.1 hDo
          have l1' : (c.kinded 2).cells.length = 37 := CertV.len (kinded_at hc.out (by decide)).1
          have l2' : ((c.kinded 2).digged (bDig b)).cells.length = 37 := CertV.len hC2.1
          obtain ⟨C, hCe⟩ : ∃ x, x = (c.kinded 2).digged (bDig b) := ⟨_, rfl⟩
          rw [← hCe] at hC2 hD2 hdec1 hXat hkn hdec2 hXf hCs hCd hDd st2 st3 l2'
          obtain ⟨Z, hZe⟩ : ∃ x, x = C.digged (bDig o) := ⟨_, rfl⟩
          rw [← hZe] at hD2 hdec2 hDd st3
          obtain ⟨X, hXe⟩ : ∃ x, x = decS s b C := ⟨_, rfl⟩
          rw [← hXe] at hdec1 hXat hkn hdec2 hXf
          have hXw := (hXat w Same.refl).wf
          have hinfX := slot_info hXw
          have szX := slot_size zeroSlot_wf hXw
          have hinfCC := cert_info hC2.1
          have hinfZZ := cert_info hD2.1
          have hinfZ := slot_info zeroSlot_wf
          have hZ0 : zeroSlot.cells.toArray = Try.zeroCells40 := by kernel_rfl
          have oZ := slot_one zeroSlot
          obtain ⟨Db, hDbe⟩ : ∃ D, D = bDig b := ⟨_, rfl⟩
          obtain ⟨Do, hDoe⟩ : ∃ D, D = bDig o := ⟨_, rfl⟩
          rw [show batDig b.noop b.reqs = Db from hDbe.symm] at hdb
          rw [show batDig o.noop o.reqs = Do from hDoe.symm] at hdo
          rw [← hDbe] at hkn hdec2 hCd st2 hDb
          rw [← hDoe] at hdec2 hDd st3 hDo
          have hinfD : (Try.prog.info? 29).map (·.size) = some (bv Db).length := by rw [bv_length, hDb]; kernel_rfl
          have hinfE : (Try.prog.info? 29).map (·.size) = some (bv Do).length := by rw [bv_length, hDo]; kernel_rfl
          have lD : (bv Db).length = 32 := by rw [bv_length, hDb]
          have lE : (bv Do).length = 32 := by rw [bv_length, hDo]
          have heqD := fun w => dig_eql Do Db hDo hDb w
          have hgd := dig_guard
          obtain ⟨q, hq⟩ : ∃ q, q = (Do == Db) := ⟨_, rfl⟩
          rw [← hq] at heqD
          have hsame := fun w h1 h2 => rbsame_any b b w h1 h2
          rw [batSame_self] at hsame
          have hss := fun w h1 h2 => rslotSame_any X X w h1 h2
          rw [slotSame_self] at hss
          have hof := fun w => slotOf_any X w hXw
          unfold RetSlot at hdec1 hdec2
          simp only at hdec1 hkn
          have hq1 : q = true → Db = Do := fun h => by rw [hq] at h; simpa using (beq_iff_eq.1 h).symm
          have hq2 : q = false → Db ≠ Do := fun h e => by rw [hq, e] at h; simp at h
          clear hDbe hDoe hq hXe hZe hCe hDb hDo
          replace hdb := Lib.hid hdb
          replace hdo := Lib.hid hdo
          replace hC2 := Lib.hid hC2
          replace hD2 := Lib.hid hD2
          replace hdec1 := Lib.hid hdec1
          replace hdec2 := Lib.hid hdec2
          replace hXat := Lib.hid hXat
          replace hkn := Lib.hid hkn
          replace hXf := Lib.hid hXf
          replace hCs := Lib.hid hCs
          replace hCd := Lib.hid hCd
          replace hDd := Lib.hid hDd
          replace st1 := Lib.hid st1
          replace st2 := Lib.hid st2
          replace st3 := Lib.hid st3
          replace l1' := Lib.hid l1'
          replace l2' := Lib.hid l2'
          replace hXw := Lib.hid hXw
          replace hinfX := Lib.hid hinfX
          replace szX := Lib.hid szX
          replace hinfCC := Lib.hid hinfCC
          replace hinfZZ := Lib.hid hinfZZ
          replace hinfZ := Lib.hid hinfZ
          replace hZ0 := Lib.hid hZ0
          replace oZ := Lib.hid oZ
          replace hinfD := Lib.hid hinfD
          replace hinfE := Lib.hid hinfE
          replace lD := Lib.hid lD
          replace lE := Lib.hid lE
          replace heqD := Lib.hid heqD
          replace hgd := Lib.hid hgd
          replace hsame := Lib.hid hsame
          replace hss := Lib.hid hss
          replace hof := Lib.hid hof
          replace hq1 := Lib.hid hq1
          replace hq2 := Lib.hid hq2
          go_wp2_with fail
          refine (hdb.out _ (BatV.same hb.out s0.out)).mono ?_
          rintro e w7 ⟨rfl, hs⟩
          replace s0 := Lib.hid (s0.out.trans hs)
          replace sa := Lib.hid (sa.out.trans hs)
          replace sb := Lib.hid (sb.out.trans hs)
          replace so := Lib.hid (so.out.trans hs)
          replace sc := Lib.hid (sc.out.trans hs)
          clear hs
          clear hS3
          go_upto_region 4 with (first | (refine store_one rfl _ _ _ rfl w2.heap.size 0 (.int .i64 2) rfl rfl rfl rfl _ _ (sc.out.at hbc.out) (by kernel_rfl) (by rw [hlen37.out]; decide) ?_; intro w8 rc1 hk8; rw [st1.out] at rc1; replace rc1 := Lib.hid rc1; replace hk8 := Lib.hid hk8) | (refine store_mid rfl _ _ _ rfl w2.heap.size 4 (bv Db) rfl rfl _ _ rc1.out hinfD.out (by rw [l1'.out, lD.out]; decide) bv_cell ?_; intro w9 rc hk9; rw [st2.out] at rc; replace rc := Lib.hid rc; replace hk9 := Lib.hid hk9))
          have hk : Keep (· = w2.heap.size) w7 w9 := hk8.out.trans hk9.out (fun _ _ h => h)
          replace s0 := Lib.hid (s0.out.keep hk (fun x hx hv => by omega))
          replace sa := Lib.hid (sa.out.keep hk (fun x hx hv => by omega))
          replace sb := Lib.hid (sb.out.keep hk (fun x hx hv => by omega))
          replace so := Lib.hid (so.out.keep hk (fun x hx hv => by omega))
          have sc' := Lib.hid (Same.refl (w := w9))
          clear hk hk8 hk9 rc1 sc hbc
          go_simp
          go_wp2_with (first | (refine load_row rfl _ _ rfl w.heap.size rfl _ _ _ _ (sa.out.at hba.out) Try.underlying40 rfl hinfA.out ?_) | (refine load_row rfl _ _ rfl w0.heap.size rfl _ _ _ _ (sb.out.at hbb.out) Try.underlying24 rfl hinfB.out ?_) | (refine load_row rfl _ _ rfl w2.heap.size rfl _ _ _ _ rc.out Try.underlying34 rfl hinfCC.out ?_))
          refine (hdec1.out _ (SlotV.same' hs.out s0.out) (BatV.same hb.out s0.out) (CertV.same' hC2.out s0.out)).mono ?_
          rintro e w10 ⟨rfl, hs'⟩
          replace s0 := Lib.hid (s0.out.trans hs')
          replace sa := Lib.hid (sa.out.trans hs')
          replace sb := Lib.hid (sb.out.trans hs')
          replace so := Lib.hid (so.out.trans hs')
          replace sc' := Lib.hid (sc'.out.trans hs')
          clear hs' hdec1
          go_upto_region 5 with (first | (refine alloc_new rfl 40 rfl Try.zeroCells40 (by kernel_rfl) ?_; intro w11 hz hs11; have l11 := blk_lt hz; replace hz := Lib.hid hz; replace hs11 := Lib.hid hs11) | (refine store_row rfl _ _ _ rfl w10.heap.size X.cells.toArray rfl rfl _ _ hz.out hinfX.out (by rw [← hZ0.out]; exact szX.out) (slot_one X) ?_; intro w12 rX hk12; replace rX := Lib.hid rX; replace hk12 := Lib.hid hk12))
          have hs' : Same w10 w12 := hs11.out.keep hk12.out (fun x hx hv => by omega)
          replace s0 := Lib.hid (s0.out.trans hs')
          replace sa := Lib.hid (sa.out.trans hs')
          replace sb := Lib.hid (sb.out.trans hs')
          replace so := Lib.hid (so.out.trans hs')
          replace sc' := Lib.hid (sc'.out.trans hs')
          clear hs' hk12 hs11 hz
          have sX := Lib.hid (Same.refl (w := w12))
          have x84 : w12.cell? ⟨w10.heap.size, 84, none⟩ = some (.bool true) := by have := sl_decided rX.out hXw.out; rw [hXf.out.1] at this; exact this
          have x44 : w12.cell? ⟨w10.heap.size, 44, none⟩ = some (.int .i64 c.vote.slot) := by have := sl_eslot rX.out hXw.out; rw [hXf.out.2.1] at this; exact this
          have x3 : w12.cell? ⟨w10.heap.size, 3, none⟩ = some (.bool s.is) := by have := sl_is rX.out; rw [hXf.out.2.2.1] at this; exact this
          have x43 : w12.cell? ⟨w10.heap.size, 43, none⟩ = some (.bool s.holds) := by have := sl_holds rX.out hXw.out; rw [hXf.out.2.2.2] at this; exact this
          have y3 := sl_is (sa.out.at hba.out)
          have y43 := sl_holds (sa.out.at hba.out) hwf.out
          have y2 : w12.cell? ⟨w2.heap.size, 3, none⟩ = some (.int .i64 c.vote.slot) := by have := ce_slot (sc'.out.at rc.out); rw [hCs.out] at this; exact this
          have n1 : (c.vote.slot != c.vote.slot) = false := by simp
          have n2 : (s.is != s.is) = false := by simp
          have n3 : (s.holds != s.holds) = false := by simp
          have ydig : w12.rangeAt w2.heap.size 4 (bv Db) := by have := ce_dig (sc'.out.at rc.out); rw [hCd.out] at this; exact this
          replace ydig := Lib.hid ydig
          go_wp2_with (first | (refine load_row rfl _ _ rfl w10.heap.size rfl _ _ _ _ rX.out Try.underlying40 rfl hinfX.out ?_) | (refine load_mid rfl _ _ rfl w2.heap.size 4 rfl (bv Db) _ ydig.out Try.underlying29 rfl hinfD.out ?_))
          refine (hkn.out _ (hXat.out _ s0.out)).mono ?_
          rintro e w13 ⟨rfl, hs'⟩
          replace s0 := Lib.hid (s0.out.trans hs')
          replace sa := Lib.hid (sa.out.trans hs')
          replace sb := Lib.hid (sb.out.trans hs')
          replace so := Lib.hid (so.out.trans hs')
          replace sc' := Lib.hid (sc'.out.trans hs')
          replace sX := Lib.hid (sX.out.trans hs')
          clear hs' hkn x84 x44 x3 x43 y3 y43 y2 n1 n2 n3
          go_upto_region 8 with (first | (refine alloc_new rfl 24 rfl #[.bool false, .slice none 0 0] (by kernel_rfl) ?_; intro w14 hz hs14; have l14 := blk_lt hz; replace hz := Lib.hid hz; replace hs14 := Lib.hid hs14) | (refine store_row rfl _ _ _ rfl w13.heap.size b.cells.toArray rfl rfl _ _ hz.out hinfB.out rfl (bat_one _) ?_; intro w15 rK hk15; replace rK := Lib.hid rK; replace hk15 := Lib.hid hk15))
          have hs' : Same w13 w15 := hs14.out.keep hk15.out (fun x hx hv => by omega)
          replace s0 := Lib.hid (s0.out.trans hs')
          replace sa := Lib.hid (sa.out.trans hs')
          replace sb := Lib.hid (sb.out.trans hs')
          replace so := Lib.hid (so.out.trans hs')
          replace sc' := Lib.hid (sc'.out.trans hs')
          replace sX := Lib.hid (sX.out.trans hs')
          clear hs' hk15 hs14 hz ydig
          have g0 := s0.out.size
          have g1 := sa.out.size
          have g2 := sb.out.size
          have g3 := so.out.size
          have g4 := sc'.out.size
          have g5 := sX.out.size
          have sK := Lib.hid (Same.refl (w := w15))
          go_upto_region 9 with (first | (refine load_row rfl _ _ rfl w2.heap.size rfl _ _ _ _ (sc'.out.at rc.out) Try.underlying34 rfl hinfCC.out ?_) | (refine alloc_new rfl 34 rfl zeroCert.cells.toArray (by kernel_rfl) ?_; intro w16 hz hs16; have l16 := blk_lt hz; replace hz := Lib.hid hz; replace hs16 := Lib.hid hs16) | (refine store_row rfl _ _ _ rfl w15.heap.size C.cells.toArray rfl rfl _ _ hz.out hinfCC.out (by rw [List.size_toArray, List.size_toArray, l2'.out, CertV.len zeroVote_wf]) (cert_one _) ?_; intro w17 rd0 hk17; replace rd0 := Lib.hid rd0; replace hk17 := Lib.hid hk17))
          have hs' : Same w15 w17 := hs16.out.keep hk17.out (fun x hx hv => by omega)
          replace s0 := Lib.hid (s0.out.trans hs')
          replace sa := Lib.hid (sa.out.trans hs')
          replace sb := Lib.hid (sb.out.trans hs')
          replace so := Lib.hid (so.out.trans hs')
          replace sc' := Lib.hid (sc'.out.trans hs')
          replace sX := Lib.hid (sX.out.trans hs')
          replace sK := Lib.hid (sK.out.trans hs')
          clear hs' hk17 hs16 hz
          go_wp2_with (refine load_row rfl _ _ rfl w1.heap.size rfl _ _ _ _ (so.out.at hbo.out) Try.underlying24 rfl hinfO.out ?_)
          refine (hdo.out _ (BatV.same ho.out s0.out)).mono ?_
          rintro e w18 ⟨rfl, hs'⟩
          have rd1 := Lib.hid (hs'.at rd0.out)
          have z18 := hs'.size
          replace s0 := Lib.hid (s0.out.trans hs')
          replace sa := Lib.hid (sa.out.trans hs')
          replace sb := Lib.hid (sb.out.trans hs')
          replace so := Lib.hid (so.out.trans hs')
          replace sc' := Lib.hid (sc'.out.trans hs')
          replace sX := Lib.hid (sX.out.trans hs')
          replace sK := Lib.hid (sK.out.trans hs')
          clear hs' rd0
          have zz := sK.out.size
          have zx := sX.out.size
          go_upto_region 10 with (refine store_mid rfl _ _ _ rfl w15.heap.size 4 (bv Do) rfl rfl _ _ rd1.out hinfE.out (by rw [l2'.out, lE.out]; decide) bv_cell ?_; intro w19 rd hk19; rw [st3.out] at rd; replace rd := Lib.hid rd; replace hk19 := Lib.hid hk19)
          clear rd1
          replace s0 := Lib.hid (s0.out.keep hk19.out (fun x hx hv => by omega))
          replace sa := Lib.hid (sa.out.keep hk19.out (fun x hx hv => by omega))
          replace sb := Lib.hid (sb.out.keep hk19.out (fun x hx hv => by omega))
          replace so := Lib.hid (so.out.keep hk19.out (fun x hx hv => by omega))
          replace sc' := Lib.hid (sc'.out.keep hk19.out (fun x hx hv => by omega))
          replace sX := Lib.hid (sX.out.keep hk19.out (fun x hx hv => by omega))
          replace sK := Lib.hid (sK.out.keep hk19.out (fun x hx hv => by omega))
          clear hk19
          have sD := Lib.hid (Same.refl (w := w19))
          go_simp
          cases q
          · have hdec3 : ∀ (w : World), X.at w → o.at w → Z.at w → Calls Try.prog 25 #[.agg X.cells.toArray, .agg o.cells.toArray, .agg Z.cells.toArray] w fun e w' => e = .returned (.tuple #[.agg Try.zeroCells40, .int .i64 181]) ∧ Same w w' := by
              intro w h1 h2 h3
              have := hdec2.out w h1 h2 h3
              rw [if_neg (hq2.out rfl)] at this
              simp only at this
              rw [hZ0.out] at this
              exact this
            clear hdec2 hq1 hq2
            replace hdec3 := Lib.hid hdec3
            go_wp2_with (first | (refine load_row rfl _ _ rfl w10.heap.size rfl _ _ _ _ (sX.out.at rX.out) Try.underlying40 rfl hinfX.out ?_) | (refine load_row rfl _ _ rfl w1.heap.size rfl _ _ _ _ (so.out.at hbo.out) Try.underlying24 rfl hinfO.out ?_) | (refine load_row rfl _ _ rfl w15.heap.size rfl _ _ _ _ rd.out Try.underlying34 rfl hinfZZ.out ?_))
            refine (hdec3.out _ (hXat.out _ s0.out) (BatV.same ho.out s0.out) (CertV.same' hD2.out s0.out)).mono ?_
            rintro e w20 ⟨rfl, hs'⟩
            replace s0 := Lib.hid (s0.out.trans hs')
            replace sa := Lib.hid (sa.out.trans hs')
            replace sb := Lib.hid (sb.out.trans hs')
            replace so := Lib.hid (so.out.trans hs')
            replace sc' := Lib.hid (sc'.out.trans hs')
            replace sX := Lib.hid (sX.out.trans hs')
            replace sK := Lib.hid (sK.out.trans hs')
            replace sD := Lib.hid (sD.out.trans hs')
            clear hs' hdec3
            have zD : w20.rangeAt w15.heap.size 4 (bv Do) := by have := ce_dig (sD.out.at rd.out); rw [hDd.out] at this; exact this
            have zC : w20.rangeAt w2.heap.size 4 (bv Db) := by have := ce_dig (sc'.out.at rc.out); rw [hCd.out] at this; exact this
            replace zD := Lib.hid zD
            replace zC := Lib.hid zC
            go_upto_region 11 with (first | (refine alloc_new rfl 40 rfl Try.zeroCells40 (by kernel_rfl) ?_; intro w21 hz hs21; have l21 := blk_lt hz; replace hz := Lib.hid hz; replace hs21 := Lib.hid hs21) | (refine store_row rfl _ _ _ rfl w20.heap.size Try.zeroCells40 rfl rfl _ _ hz.out (by have := hinfZ.out; rw [hZ0.out] at this; exact this) rfl (by have := oZ.out; rw [hZ0.out] at this; exact this) ?_; intro w22 rY hk22; replace rY := Lib.hid rY; replace hk22 := Lib.hid hk22))
            have hs' : Same w20 w22 := hs21.out.keep hk22.out (fun x hx hv => by omega)
            replace s0 := Lib.hid (s0.out.trans hs')
            replace sa := Lib.hid (sa.out.trans hs')
            replace sb := Lib.hid (sb.out.trans hs')
            replace so := Lib.hid (so.out.trans hs')
            replace sc' := Lib.hid (sc'.out.trans hs')
            replace sX := Lib.hid (sX.out.trans hs')
            replace sK := Lib.hid (sK.out.trans hs')
            replace sD := Lib.hid (sD.out.trans hs')
            have zD2 := Lib.hid (hs'.range zD.out)
            have zC2 := Lib.hid (hs'.range zC.out)
            clear hs' hk22 hs21 hz zD zC
            refine wp_region_seq [(102, 0), (103, 1), (104, 2), (105, 3), (106, 4), (107, 5), (108, 6), (16, 7)] [[], [0], [1], [], [3], [4], [2, 5], [6]] Same (Same _) [isV (.pointer (some ⟨w15.heap.size, 0, none⟩)), isV (.pointer (some ⟨w15.heap.size, 4, none⟩)), isV (.agg (bv Do).toArray), isV (.pointer (some ⟨w2.heap.size, 0, none⟩)), isV (.pointer (some ⟨w2.heap.size, 4, none⟩)), isV (.agg (bv Db).toArray), isV (.bool false), isV (.bool false)] Same.refl (fun _ _ h k => h.trans k) (by simp [isV_stable, isB_stable, isAny_stable]) (by decide +kernel) (l := [_, _, _, _, _, _, _, _]) rfl (by kernel_rfl) ?_ ?_
            · refine ⟨?_, ?_, ?_, ?_, ?_, ?_, ?_, ?_, trivial⟩
              all_goals (intro u wx hI hp; simp only [mkAct, List.foldl_cons, List.foldl_nil, List.setIfInBounds_toArray, List.set_cons_succ, List.set_cons_zero])
              · -- operation 0
                go_wp2
                refine stq_v rfl Same.refl ?_
                first | (simp only [mkAct, List.foldl_cons, List.foldl_nil, List.setIfInBounds_toArray, List.set_cons_succ, List.set_cons_zero, upd, reduceIte, Nat.reduceEqDiff, Nat.reduceAdd, str]; done) | (simp [mkAct, upd, str, *]; done)
              · -- operation 1
                obtain ⟨f0, -⟩ := hp
                replace f0 : u 0 = (.pointer (some ⟨w15.heap.size, 0, none⟩)) := f0
                try simp only [f0, str]
                go_wp2
                refine stq_v rfl Same.refl ?_
                first | (simp only [mkAct, List.foldl_cons, List.foldl_nil, List.setIfInBounds_toArray, List.set_cons_succ, List.set_cons_zero, upd, reduceIte, Nat.reduceEqDiff, Nat.reduceAdd, f0, str]; done) | (simp [mkAct, upd, f0, str, *]; done)
              · -- operation 2
                obtain ⟨f1, -⟩ := hp
                replace f1 : u 1 = (.pointer (some ⟨w15.heap.size, 4, none⟩)) := f1
                try simp only [f1, str]
                go_wp2_with (refine load_mid rfl _ _ rfl w15.heap.size 4 rfl (bv Do) _ (hI.range zD2.out) Try.underlying29 rfl hinfE.out ?_)
                refine stq_v rfl Same.refl ?_
                first | (simp only [mkAct, List.foldl_cons, List.foldl_nil, List.setIfInBounds_toArray, List.set_cons_succ, List.set_cons_zero, upd, reduceIte, Nat.reduceEqDiff, Nat.reduceAdd, f1, str]; done) | (simp [mkAct, upd, f1, str, *]; done)
              · -- operation 3
                go_wp2
                refine stq_v rfl Same.refl ?_
                first | (simp only [mkAct, List.foldl_cons, List.foldl_nil, List.setIfInBounds_toArray, List.set_cons_succ, List.set_cons_zero, upd, reduceIte, Nat.reduceEqDiff, Nat.reduceAdd, str]; done) | (simp [mkAct, upd, str, *]; done)
              · -- operation 4
                obtain ⟨f3, -⟩ := hp
                replace f3 : u 3 = (.pointer (some ⟨w2.heap.size, 0, none⟩)) := f3
                try simp only [f3, str]
                go_wp2
                refine stq_v rfl Same.refl ?_
                first | (simp only [mkAct, List.foldl_cons, List.foldl_nil, List.setIfInBounds_toArray, List.set_cons_succ, List.set_cons_zero, upd, reduceIte, Nat.reduceEqDiff, Nat.reduceAdd, f3, str]; done) | (simp [mkAct, upd, f3, str, *]; done)
              · -- operation 5
                obtain ⟨f4, -⟩ := hp
                replace f4 : u 4 = (.pointer (some ⟨w2.heap.size, 4, none⟩)) := f4
                try simp only [f4, str]
                go_wp2_with (refine load_mid rfl _ _ rfl w2.heap.size 4 rfl (bv Db) _ (hI.range zC2.out) Try.underlying29 rfl hinfD.out ?_)
                refine stq_v rfl Same.refl ?_
                first | (simp only [mkAct, List.foldl_cons, List.foldl_nil, List.setIfInBounds_toArray, List.set_cons_succ, List.set_cons_zero, upd, reduceIte, Nat.reduceEqDiff, Nat.reduceAdd, f4, str]; done) | (simp [mkAct, upd, f4, str, *]; done)
              · -- operation 6
                obtain ⟨f2, f5, -⟩ := hp
                replace f2 : u 2 = (.agg (bv Do).toArray) := f2
                replace f5 : u 5 = (.agg (bv Db).toArray) := f5
                try simp only [f2, f5, str]
                have hx := heqD.out
                have hg := hgd.out
                go_wp2
                refine stq_v rfl Same.refl ?_
                first | (simp only [mkAct, List.foldl_cons, List.foldl_nil, List.setIfInBounds_toArray, List.set_cons_succ, List.set_cons_zero, upd, reduceIte, Nat.reduceEqDiff, Nat.reduceAdd, f2, f5, str]; done) | (simp [mkAct, upd, f2, f5, str, *]; done)
              · -- operation 7
                obtain ⟨f6, -⟩ := hp
                replace f6 : u 6 = (.bool false) := f6
                try simp only [f6, str]
                go_wp2
                refine stq_v rfl Same.refl ?_
                first | (simp only [mkAct, List.foldl_cons, List.foldl_nil, List.setIfInBounds_toArray, List.set_cons_succ, List.set_cons_zero, upd, reduceIte, Nat.reduceEqDiff, Nat.reduceAdd, f6, str]; done) | (simp [mkAct, upd, f6, str, *]; done)
            · intro u wx hI hR
              obtain ⟨r0, r1, r2, r3, r4, r5, r6, r7, -⟩ := hR
              replace r0 : u 0 = (.pointer (some ⟨w15.heap.size, 0, none⟩)) := r0
              replace r1 : u 1 = (.pointer (some ⟨w15.heap.size, 4, none⟩)) := r1
              replace r2 : u 2 = (.agg (bv Do).toArray) := r2
              replace r3 : u 3 = (.pointer (some ⟨w2.heap.size, 0, none⟩)) := r3
              replace r4 : u 4 = (.pointer (some ⟨w2.heap.size, 4, none⟩)) := r4
              replace r5 : u 5 = (.agg (bv Db).toArray) := r5
              replace r6 : u 6 = (.bool false) := r6
              replace r7 : u 7 = (.bool false) := r7
              simp only [mkAct, List.foldl_cons, List.foldl_nil, List.setIfInBounds_toArray, List.set_cons_succ, List.set_cons_zero]
              try simp only [str, r0, r1, r2, r3, r4, r5, r6, r7]
              replace s0 := Lib.hid (s0.out.trans hI)
              replace sa := Lib.hid (sa.out.trans hI)
              replace sb := Lib.hid (sb.out.trans hI)
              replace so := Lib.hid (so.out.trans hI)
              replace sc' := Lib.hid (sc'.out.trans hI)
              replace sX := Lib.hid (sX.out.trans hI)
              replace sK := Lib.hid (sK.out.trans hI)
              replace sD := Lib.hid (sD.out.trans hI)
              have rY2 := Lib.hid (hI.at rY.out)
              clear hI
              go_upto_region 12 with fail
              have hb7 := Lib.hid (BatV.same hb.out s0.out)
              have hX7 := Lib.hid (hXat.out _ s0.out)
              have rK7 := Lib.hid (sK.out.at rK.out)
              have rX7 := Lib.hid (sX.out.at rX.out)
              refine wp_region_last (by kernel_rfl) [(109, 0), (110, 1), (111, 2), (112, 3), (113, 4), (114, 5), (115, 6), (116, 7), (117, 8), (118, 9), (119, 10), (120, 11), (121, 12), (122, 13), (123, 14), (124, 15), (125, 16), (126, 17), (127, 18), (128, 19), (129, 20), (130, 21), (131, 22), (132, 23), (133, 24), (134, 25), (8, 26)] Same (Same _) [isV (.bool true), isV (.bool true), isV (.agg b.cells.toArray), isV (.agg b.cells.toArray), isV (.bool true), isV (.bool true), isV (.bool true), isV (.int .i64 181), isV (.bool false), isV (.bool false), isV (.bool true), isV (.bool true), isV (.bool true), isV (.bool false), isV (.bool true), isV (.bool true), isV undef, isV undef, isV undef, isV undef, isV undef, isV (.bool true), isV (.bool true), isV (.bool true), isV (.bool true), isV (.bool true)] Same.refl.drew (fun _ _ h k => h.trans k) (by simp [isV_stable, isB_stable, isAny_stable]) (by decide) (l := [_, _, _, _, _, _, _, _, _, _, _, _, _, _, _, _, _, _, _, _, _, _, _, _, _, _]) rfl (by decide) (by decide) ?_ ?_
              · refine ⟨?_, ?_, ?_, ?_, ?_, ?_, ?_, ?_, ?_, ?_, ?_, ?_, ?_, ?_, ?_, ?_, ?_, ?_, ?_, ?_, ?_, ?_, ?_, ?_, ?_, ?_, trivial⟩
                all_goals (intro u wx hI hp; simp only [mkAct, List.foldl_cons, List.foldl_nil, List.setIfInBounds_toArray, List.set_cons_succ, List.set_cons_zero])
                · -- operation 0
                  go_wp2
                  refine stq_v rfl Same.refl ?_
                  first | (simp only [mkAct, List.foldl_cons, List.foldl_nil, List.setIfInBounds_toArray, List.set_cons_succ, List.set_cons_zero, upd, reduceIte, Nat.reduceEqDiff, Nat.reduceAdd, str]; done) | (simp [mkAct, upd, str, *]; done)
                · -- operation 1
                  obtain ⟨f0, -⟩ := hp
                  replace f0 : u 0 = (.bool true) := f0
                  try simp only [f0, str]
                  go_wp2
                  refine stq_v rfl Same.refl ?_
                  first | (simp only [mkAct, List.foldl_cons, List.foldl_nil, List.setIfInBounds_toArray, List.set_cons_succ, List.set_cons_zero, upd, reduceIte, Nat.reduceEqDiff, Nat.reduceAdd, f0, str]; done) | (simp [mkAct, upd, f0, str, *]; done)
                · -- operation 2
                  obtain ⟨f1, -⟩ := hp
                  replace f1 : u 1 = (.bool true) := f1
                  try simp only [f1, str]
                  go_wp2_with (refine load_row rfl _ _ rfl w13.heap.size rfl _ _ _ _ (hI.at rK7.out) Try.underlying24 rfl hinfB.out ?_)
                  refine stq_v rfl Same.refl ?_
                  first | (simp only [mkAct, List.foldl_cons, List.foldl_nil, List.setIfInBounds_toArray, List.set_cons_succ, List.set_cons_zero, upd, reduceIte, Nat.reduceEqDiff, Nat.reduceAdd, f1, str]; done) | (simp [mkAct, upd, f1, str, *]; done)
                · -- operation 3
                  obtain ⟨f1, -⟩ := hp
                  replace f1 : u 1 = (.bool true) := f1
                  try simp only [f1, str]
                  go_wp2_with (refine load_row rfl _ _ rfl w0.heap.size rfl _ _ _ _ (hI.at (sb.out.at hbb.out)) Try.underlying24 rfl hinfB.out ?_)
                  refine stq_v rfl Same.refl ?_
                  first | (simp only [mkAct, List.foldl_cons, List.foldl_nil, List.setIfInBounds_toArray, List.set_cons_succ, List.set_cons_zero, upd, reduceIte, Nat.reduceEqDiff, Nat.reduceAdd, f1, str]; done) | (simp [mkAct, upd, f1, str, *]; done)
                · -- operation 4
                  obtain ⟨f2, f3, -, f1, -⟩ := hp
                  replace f2 : u 2 = (.agg b.cells.toArray) := f2
                  replace f3 : u 3 = (.agg b.cells.toArray) := f3
                  replace f1 : u 1 = (.bool true) := f1
                  try simp only [f2, f3, f1, str]
                  go_wp2_with fail
                  refine (hsame.out _ (BatV.same hb7.out hI) (BatV.same hb7.out hI)).mono ?_
                  rintro e w1 ⟨rfl, hs'⟩
                  go_wp2
                  refine stq_v rfl hs' ?_
                  first | (simp only [mkAct, List.foldl_cons, List.foldl_nil, List.setIfInBounds_toArray, List.set_cons_succ, List.set_cons_zero, upd, reduceIte, Nat.reduceEqDiff, Nat.reduceAdd, f2, f3, f1, str]; done) | (simp [mkAct, upd, f2, f3, f1, str, *]; done)
                · -- operation 5
                  obtain ⟨f1, f4, -⟩ := hp
                  replace f1 : u 1 = (.bool true) := f1
                  replace f4 : u 4 = (.bool true) := f4
                  try simp only [f1, f4, str]
                  go_wp2
                  refine stq_v rfl Same.refl ?_
                  first | (simp only [mkAct, List.foldl_cons, List.foldl_nil, List.setIfInBounds_toArray, List.set_cons_succ, List.set_cons_zero, upd, reduceIte, Nat.reduceEqDiff, Nat.reduceAdd, f1, f4, str]; done) | (simp [mkAct, upd, f1, f4, str, *]; done)
                · -- operation 6
                  obtain ⟨f5, -, -⟩ := hp
                  replace f5 : u 5 = (.bool true) := f5
                  try simp only [f5, str]
                  go_wp2
                  refine stq_v rfl Same.refl ?_
                  first | (simp only [mkAct, List.foldl_cons, List.foldl_nil, List.setIfInBounds_toArray, List.set_cons_succ, List.set_cons_zero, upd, reduceIte, Nat.reduceEqDiff, Nat.reduceAdd, f5, str]; done) | (simp [mkAct, upd, f5, str, *]; done)
                · -- operation 7
                  obtain ⟨f6, -⟩ := hp
                  replace f6 : u 6 = (.bool true) := f6
                  try simp only [f6, str]
                  go_wp2
                  refine stq_v rfl Same.refl ?_
                  first | (simp only [mkAct, List.foldl_cons, List.foldl_nil, List.setIfInBounds_toArray, List.set_cons_succ, List.set_cons_zero, upd, reduceIte, Nat.reduceEqDiff, Nat.reduceAdd, f6, str]; done) | (simp [mkAct, upd, f6, str, *]; done)
                · -- operation 8
                  obtain ⟨f7, f6, -⟩ := hp
                  replace f7 : u 7 = (.int .i64 181) := f7
                  replace f6 : u 6 = (.bool true) := f6
                  try simp only [f7, f6, str]
                  go_wp2
                  refine stq_v rfl Same.refl ?_
                  first | (simp only [mkAct, List.foldl_cons, List.foldl_nil, List.setIfInBounds_toArray, List.set_cons_succ, List.set_cons_zero, upd, reduceIte, Nat.reduceEqDiff, Nat.reduceAdd, f7, f6, str]; done) | (simp [mkAct, upd, f7, f6, str, *]; done)
                · -- operation 9
                  obtain ⟨f6, -⟩ := hp
                  replace f6 : u 6 = (.bool true) := f6
                  try simp only [f6, str]
                  go_wp2
                  refine stq_v rfl Same.refl ?_
                  first | (simp only [mkAct, List.foldl_cons, List.foldl_nil, List.setIfInBounds_toArray, List.set_cons_succ, List.set_cons_zero, upd, reduceIte, Nat.reduceEqDiff, Nat.reduceAdd, f6, str]; done) | (simp [mkAct, upd, f6, str, *]; done)
                · -- operation 10
                  obtain ⟨f8, f9, f6, -⟩ := hp
                  replace f8 : u 8 = (.bool false) := f8
                  replace f9 : u 9 = (.bool false) := f9
                  replace f6 : u 6 = (.bool true) := f6
                  try simp only [f8, f9, f6, str]
                  go_wp2
                  refine stq_v rfl Same.refl ?_
                  first | (simp only [mkAct, List.foldl_cons, List.foldl_nil, List.setIfInBounds_toArray, List.set_cons_succ, List.set_cons_zero, upd, reduceIte, Nat.reduceEqDiff, Nat.reduceAdd, f8, f9, f6, str]; done) | (simp [mkAct, upd, f8, f9, f6, str, *]; done)
                · -- operation 11
                  obtain ⟨f6, f10, -⟩ := hp
                  replace f6 : u 6 = (.bool true) := f6
                  replace f10 : u 10 = (.bool true) := f10
                  try simp only [f6, f10, str]
                  go_wp2
                  refine stq_v rfl Same.refl ?_
                  first | (simp only [mkAct, List.foldl_cons, List.foldl_nil, List.setIfInBounds_toArray, List.set_cons_succ, List.set_cons_zero, upd, reduceIte, Nat.reduceEqDiff, Nat.reduceAdd, f6, f10, str]; done) | (simp [mkAct, upd, f6, f10, str, *]; done)
                · -- operation 12
                  obtain ⟨f11, -, -⟩ := hp
                  replace f11 : u 11 = (.bool true) := f11
                  try simp only [f11, str]
                  go_wp2
                  refine stq_v rfl Same.refl ?_
                  first | (simp only [mkAct, List.foldl_cons, List.foldl_nil, List.setIfInBounds_toArray, List.set_cons_succ, List.set_cons_zero, upd, reduceIte, Nat.reduceEqDiff, Nat.reduceAdd, f11, str]; done) | (simp [mkAct, upd, f11, str, *]; done)
                · -- operation 13
                  obtain ⟨f12, -⟩ := hp
                  replace f12 : u 12 = (.bool true) := f12
                  try simp only [f12, str]
                  go_wp2
                  refine stq_v rfl Same.refl ?_
                  first | (simp only [mkAct, List.foldl_cons, List.foldl_nil, List.setIfInBounds_toArray, List.set_cons_succ, List.set_cons_zero, upd, reduceIte, Nat.reduceEqDiff, Nat.reduceAdd, f12, str]; done) | (simp [mkAct, upd, f12, str, *]; done)
                · -- operation 14
                  obtain ⟨f13, f12, -⟩ := hp
                  replace f13 : u 13 = (.bool false) := f13
                  replace f12 : u 12 = (.bool true) := f12
                  try simp only [f13, f12, str]
                  go_wp2
                  refine stq_v rfl Same.refl ?_
                  first | (simp only [mkAct, List.foldl_cons, List.foldl_nil, List.setIfInBounds_toArray, List.set_cons_succ, List.set_cons_zero, upd, reduceIte, Nat.reduceEqDiff, Nat.reduceAdd, f13, f12, str]; done) | (simp [mkAct, upd, f13, f12, str, *]; done)
                · -- operation 15
                  obtain ⟨f14, -, f12, -⟩ := hp
                  replace f14 : u 14 = (.bool true) := f14
                  replace f12 : u 12 = (.bool true) := f12
                  try simp only [f14, f12, str]
                  go_wp2
                  refine stq_v rfl Same.refl ?_
                  first | (simp only [mkAct, List.foldl_cons, List.foldl_nil, List.setIfInBounds_toArray, List.set_cons_succ, List.set_cons_zero, upd, reduceIte, Nat.reduceEqDiff, Nat.reduceAdd, f14, f12, str]; done) | (simp [mkAct, upd, f14, f12, str, *]; done)
                · -- operation 16
                  obtain ⟨f15, -⟩ := hp
                  replace f15 : u 15 = (.bool true) := f15
                  try simp only [f15, str]
                  go_wp2
                  refine stq_v rfl Same.refl ?_
                  first | (simp only [mkAct, List.foldl_cons, List.foldl_nil, List.setIfInBounds_toArray, List.set_cons_succ, List.set_cons_zero, upd, reduceIte, Nat.reduceEqDiff, Nat.reduceAdd, f15, str]; done) | (simp [mkAct, upd, f15, str, *]; done)
                · -- operation 17
                  obtain ⟨f16, -, f15, -⟩ := hp
                  replace f16 : u 16 = undef := f16
                  replace f15 : u 15 = (.bool true) := f15
                  try simp only [f16, f15, str]
                  go_wp2
                  refine stq_v rfl Same.refl ?_
                  first | (simp only [mkAct, List.foldl_cons, List.foldl_nil, List.setIfInBounds_toArray, List.set_cons_succ, List.set_cons_zero, upd, reduceIte, Nat.reduceEqDiff, Nat.reduceAdd, f16, f15, str]; done) | (simp [mkAct, upd, f16, f15, str, *]; done)
                · -- operation 18
                  obtain ⟨f15, -⟩ := hp
                  replace f15 : u 15 = (.bool true) := f15
                  try simp only [f15, str]
                  go_wp2
                  refine stq_v rfl Same.refl ?_
                  first | (simp only [mkAct, List.foldl_cons, List.foldl_nil, List.setIfInBounds_toArray, List.set_cons_succ, List.set_cons_zero, upd, reduceIte, Nat.reduceEqDiff, Nat.reduceAdd, f15, str]; done) | (simp [mkAct, upd, f15, str, *]; done)
                · -- operation 19
                  obtain ⟨f18, -, f15, -⟩ := hp
                  replace f18 : u 18 = undef := f18
                  replace f15 : u 15 = (.bool true) := f15
                  try simp only [f18, f15, str]
                  go_wp2
                  refine stq_v rfl Same.refl ?_
                  first | (simp only [mkAct, List.foldl_cons, List.foldl_nil, List.setIfInBounds_toArray, List.set_cons_succ, List.set_cons_zero, upd, reduceIte, Nat.reduceEqDiff, Nat.reduceAdd, f18, f15, str]; done) | (simp [mkAct, upd, f18, f15, str, *]; done)
                · -- operation 20
                  obtain ⟨f17, f19, -, f15, -⟩ := hp
                  replace f17 : u 17 = undef := f17
                  replace f19 : u 19 = undef := f19
                  replace f15 : u 15 = (.bool true) := f15
                  try simp only [f17, f19, f15, str]
                  go_wp2
                  refine stq_v rfl Same.refl ?_
                  first | (simp only [mkAct, List.foldl_cons, List.foldl_nil, List.setIfInBounds_toArray, List.set_cons_succ, List.set_cons_zero, upd, reduceIte, Nat.reduceEqDiff, Nat.reduceAdd, f17, f19, f15, str]; done) | (simp [mkAct, upd, f17, f19, f15, str, *]; done)
                · -- operation 21
                  obtain ⟨f15, f20, f12, -⟩ := hp
                  replace f15 : u 15 = (.bool true) := f15
                  replace f20 : u 20 = undef := f20
                  replace f12 : u 12 = (.bool true) := f12
                  try simp only [f15, f20, f12, str]
                  go_wp2
                  refine stq_v rfl Same.refl ?_
                  first | (simp only [mkAct, List.foldl_cons, List.foldl_nil, List.setIfInBounds_toArray, List.set_cons_succ, List.set_cons_zero, upd, reduceIte, Nat.reduceEqDiff, Nat.reduceAdd, f15, f20, f12, str]; done) | (simp [mkAct, upd, f15, f20, f12, str, *]; done)
                · -- operation 22
                  obtain ⟨f12, f21, -⟩ := hp
                  replace f12 : u 12 = (.bool true) := f12
                  replace f21 : u 21 = (.bool true) := f21
                  try simp only [f12, f21, str]
                  go_wp2
                  refine stq_v rfl Same.refl ?_
                  first | (simp only [mkAct, List.foldl_cons, List.foldl_nil, List.setIfInBounds_toArray, List.set_cons_succ, List.set_cons_zero, upd, reduceIte, Nat.reduceEqDiff, Nat.reduceAdd, f12, f21, str]; done) | (simp [mkAct, upd, f12, f21, str, *]; done)
                · -- operation 23
                  obtain ⟨f22, -, -⟩ := hp
                  replace f22 : u 22 = (.bool true) := f22
                  try simp only [f22, str]
                  go_wp2
                  refine stq_v rfl Same.refl ?_
                  first | (simp only [mkAct, List.foldl_cons, List.foldl_nil, List.setIfInBounds_toArray, List.set_cons_succ, List.set_cons_zero, upd, reduceIte, Nat.reduceEqDiff, Nat.reduceAdd, f22, str]; done) | (simp [mkAct, upd, f22, str, *]; done)
                · -- operation 24
                  obtain ⟨-, f23, -⟩ := hp
                  replace f23 : u 23 = (.bool true) := f23
                  try simp only [f23, str]
                  go_wp2_with fail
                  refine (hl.out _).mono ?_
                  rintro e w1 ⟨rfl, hs'⟩
                  go_wp2
                  refine stq_v rfl hs' ?_
                  first | (simp only [mkAct, List.foldl_cons, List.foldl_nil, List.setIfInBounds_toArray, List.set_cons_succ, List.set_cons_zero, upd, reduceIte, Nat.reduceEqDiff, Nat.reduceAdd, f23, str]; done) | (simp [mkAct, upd, f23, str, *]; done)
                · -- operation 25
                  obtain ⟨f23, f24, -⟩ := hp
                  replace f23 : u 23 = (.bool true) := f23
                  replace f24 : u 24 = (.bool true) := f24
                  try simp only [f23, f24, str]
                  go_wp2
                  refine stq_v rfl Same.refl ?_
                  first | (simp only [mkAct, List.foldl_cons, List.foldl_nil, List.setIfInBounds_toArray, List.set_cons_succ, List.set_cons_zero, upd, reduceIte, Nat.reduceEqDiff, Nat.reduceAdd, f23, f24, str]; done) | (simp [mkAct, upd, f23, f24, str, *]; done)
              · intro u wx hI hR
                obtain ⟨r0, r1, r2, r3, r4, r5, r6, r7, r8, r9, r10, r11, r12, r13, r14, r15, r16, r17, r18, r19, r20, r21, r22, r23, r24, r25, -⟩ := hR
                replace r0 : u 0 = (.bool true) := r0
                replace r1 : u 1 = (.bool true) := r1
                replace r2 : u 2 = (.agg b.cells.toArray) := r2
                replace r3 : u 3 = (.agg b.cells.toArray) := r3
                replace r4 : u 4 = (.bool true) := r4
                replace r5 : u 5 = (.bool true) := r5
                replace r6 : u 6 = (.bool true) := r6
                replace r7 : u 7 = (.int .i64 181) := r7
                replace r8 : u 8 = (.bool false) := r8
                replace r9 : u 9 = (.bool false) := r9
                replace r10 : u 10 = (.bool true) := r10
                replace r11 : u 11 = (.bool true) := r11
                replace r12 : u 12 = (.bool true) := r12
                replace r13 : u 13 = (.bool false) := r13
                replace r14 : u 14 = (.bool true) := r14
                replace r15 : u 15 = (.bool true) := r15
                replace r16 : u 16 = undef := r16
                replace r17 : u 17 = undef := r17
                replace r18 : u 18 = undef := r18
                replace r19 : u 19 = undef := r19
                replace r20 : u 20 = undef := r20
                replace r21 : u 21 = (.bool true) := r21
                replace r22 : u 22 = (.bool true) := r22
                replace r23 : u 23 = (.bool true) := r23
                replace r24 : u 24 = (.bool true) := r24
                replace r25 : u 25 = (.bool true) := r25
                simp only [mkAct, List.foldl_cons, List.foldl_nil, List.setIfInBounds_toArray, List.set_cons_succ, List.set_cons_zero]
                try simp only [str, r0, r1, r2, r3, r4, r5, r6, r7, r8, r9, r10, r11, r12, r13, r14, r15, r16, r17, r18, r19, r20, r21, r22, r23, r24, r25]
                go_wp2
                go_ret
                exact ⟨rfl, s0.out.trans hI⟩
          · have hdec3 : ∀ (w : World), X.at w → o.at w → Z.at w → Calls Try.prog 25 #[.agg X.cells.toArray, .agg o.cells.toArray, .agg Z.cells.toArray] w fun e w' => e = .returned (.tuple #[.agg X.cells.toArray, .int .i64 0]) ∧ Same w w' := by
              intro w h1 h2 h3
              have := hdec2.out w h1 h2 h3
              rw [if_pos (hq1.out rfl)] at this
              exact this
            clear hdec2 hq1 hq2
            replace hdec3 := Lib.hid hdec3
            go_wp2_with (first | (refine load_row rfl _ _ rfl w10.heap.size rfl _ _ _ _ (sX.out.at rX.out) Try.underlying40 rfl hinfX.out ?_) | (refine load_row rfl _ _ rfl w1.heap.size rfl _ _ _ _ (so.out.at hbo.out) Try.underlying24 rfl hinfO.out ?_) | (refine load_row rfl _ _ rfl w15.heap.size rfl _ _ _ _ rd.out Try.underlying34 rfl hinfZZ.out ?_))
            refine (hdec3.out _ (hXat.out _ s0.out) (BatV.same ho.out s0.out) (CertV.same' hD2.out s0.out)).mono ?_
            rintro e w20 ⟨rfl, hs'⟩
            replace s0 := Lib.hid (s0.out.trans hs')
            replace sa := Lib.hid (sa.out.trans hs')
            replace sb := Lib.hid (sb.out.trans hs')
            replace so := Lib.hid (so.out.trans hs')
            replace sc' := Lib.hid (sc'.out.trans hs')
            replace sX := Lib.hid (sX.out.trans hs')
            replace sK := Lib.hid (sK.out.trans hs')
            replace sD := Lib.hid (sD.out.trans hs')
            clear hs' hdec3
            have zD : w20.rangeAt w15.heap.size 4 (bv Do) := by have := ce_dig (sD.out.at rd.out); rw [hDd.out] at this; exact this
            have zC : w20.rangeAt w2.heap.size 4 (bv Db) := by have := ce_dig (sc'.out.at rc.out); rw [hCd.out] at this; exact this
            replace zD := Lib.hid zD
            replace zC := Lib.hid zC
            go_upto_region 11 with (first | (refine alloc_new rfl 40 rfl Try.zeroCells40 (by kernel_rfl) ?_; intro w21 hz hs21; have l21 := blk_lt hz; replace hz := Lib.hid hz; replace hs21 := Lib.hid hs21) | (refine store_row rfl _ _ _ rfl w20.heap.size X.cells.toArray rfl rfl _ _ hz.out hinfX.out (by rw [← hZ0.out]; exact szX.out) (slot_one X) ?_; intro w22 rY hk22; replace rY := Lib.hid rY; replace hk22 := Lib.hid hk22))
            have hs' : Same w20 w22 := hs21.out.keep hk22.out (fun x hx hv => by omega)
            replace s0 := Lib.hid (s0.out.trans hs')
            replace sa := Lib.hid (sa.out.trans hs')
            replace sb := Lib.hid (sb.out.trans hs')
            replace so := Lib.hid (so.out.trans hs')
            replace sc' := Lib.hid (sc'.out.trans hs')
            replace sX := Lib.hid (sX.out.trans hs')
            replace sK := Lib.hid (sK.out.trans hs')
            replace sD := Lib.hid (sD.out.trans hs')
            have zD2 := Lib.hid (hs'.range zD.out)
            have zC2 := Lib.hid (hs'.range zC.out)
            clear hs' hk22 hs21 hz zD zC
            refine wp_region_seq [(102, 0), (103, 1), (104, 2), (105, 3), (106, 4), (107, 5), (108, 6), (16, 7)] [[], [0], [1], [], [3], [4], [2, 5], [6]] Same (Same _) [isV (.pointer (some ⟨w15.heap.size, 0, none⟩)), isV (.pointer (some ⟨w15.heap.size, 4, none⟩)), isV (.agg (bv Do).toArray), isV (.pointer (some ⟨w2.heap.size, 0, none⟩)), isV (.pointer (some ⟨w2.heap.size, 4, none⟩)), isV (.agg (bv Db).toArray), isV (.bool true), isV (.bool true)] Same.refl (fun _ _ h k => h.trans k) (by simp [isV_stable, isB_stable, isAny_stable]) (by decide +kernel) (l := [_, _, _, _, _, _, _, _]) rfl (by kernel_rfl) ?_ ?_
            · refine ⟨?_, ?_, ?_, ?_, ?_, ?_, ?_, ?_, trivial⟩
              all_goals (intro u wx hI hp; simp only [mkAct, List.foldl_cons, List.foldl_nil, List.setIfInBounds_toArray, List.set_cons_succ, List.set_cons_zero])
              · -- operation 0
                go_wp2
                refine stq_v rfl Same.refl ?_
                first | (simp only [mkAct, List.foldl_cons, List.foldl_nil, List.setIfInBounds_toArray, List.set_cons_succ, List.set_cons_zero, upd, reduceIte, Nat.reduceEqDiff, Nat.reduceAdd, str]; done) | (simp [mkAct, upd, str, *]; done)
              · -- operation 1
                obtain ⟨f0, -⟩ := hp
                replace f0 : u 0 = (.pointer (some ⟨w15.heap.size, 0, none⟩)) := f0
                try simp only [f0, str]
                go_wp2
                refine stq_v rfl Same.refl ?_
                first | (simp only [mkAct, List.foldl_cons, List.foldl_nil, List.setIfInBounds_toArray, List.set_cons_succ, List.set_cons_zero, upd, reduceIte, Nat.reduceEqDiff, Nat.reduceAdd, f0, str]; done) | (simp [mkAct, upd, f0, str, *]; done)
              · -- operation 2
                obtain ⟨f1, -⟩ := hp
                replace f1 : u 1 = (.pointer (some ⟨w15.heap.size, 4, none⟩)) := f1
                try simp only [f1, str]
                go_wp2_with (refine load_mid rfl _ _ rfl w15.heap.size 4 rfl (bv Do) _ (hI.range zD2.out) Try.underlying29 rfl hinfE.out ?_)
                refine stq_v rfl Same.refl ?_
                first | (simp only [mkAct, List.foldl_cons, List.foldl_nil, List.setIfInBounds_toArray, List.set_cons_succ, List.set_cons_zero, upd, reduceIte, Nat.reduceEqDiff, Nat.reduceAdd, f1, str]; done) | (simp [mkAct, upd, f1, str, *]; done)
              · -- operation 3
                go_wp2
                refine stq_v rfl Same.refl ?_
                first | (simp only [mkAct, List.foldl_cons, List.foldl_nil, List.setIfInBounds_toArray, List.set_cons_succ, List.set_cons_zero, upd, reduceIte, Nat.reduceEqDiff, Nat.reduceAdd, str]; done) | (simp [mkAct, upd, str, *]; done)
              · -- operation 4
                obtain ⟨f3, -⟩ := hp
                replace f3 : u 3 = (.pointer (some ⟨w2.heap.size, 0, none⟩)) := f3
                try simp only [f3, str]
                go_wp2
                refine stq_v rfl Same.refl ?_
                first | (simp only [mkAct, List.foldl_cons, List.foldl_nil, List.setIfInBounds_toArray, List.set_cons_succ, List.set_cons_zero, upd, reduceIte, Nat.reduceEqDiff, Nat.reduceAdd, f3, str]; done) | (simp [mkAct, upd, f3, str, *]; done)
              · -- operation 5
                obtain ⟨f4, -⟩ := hp
                replace f4 : u 4 = (.pointer (some ⟨w2.heap.size, 4, none⟩)) := f4
                try simp only [f4, str]
                go_wp2_with (refine load_mid rfl _ _ rfl w2.heap.size 4 rfl (bv Db) _ (hI.range zC2.out) Try.underlying29 rfl hinfD.out ?_)
                refine stq_v rfl Same.refl ?_
                first | (simp only [mkAct, List.foldl_cons, List.foldl_nil, List.setIfInBounds_toArray, List.set_cons_succ, List.set_cons_zero, upd, reduceIte, Nat.reduceEqDiff, Nat.reduceAdd, f4, str]; done) | (simp [mkAct, upd, f4, str, *]; done)
              · -- operation 6
                obtain ⟨f2, f5, -⟩ := hp
                replace f2 : u 2 = (.agg (bv Do).toArray) := f2
                replace f5 : u 5 = (.agg (bv Db).toArray) := f5
                try simp only [f2, f5, str]
                have hx := heqD.out
                have hg := hgd.out
                go_wp2
                refine stq_v rfl Same.refl ?_
                first | (simp only [mkAct, List.foldl_cons, List.foldl_nil, List.setIfInBounds_toArray, List.set_cons_succ, List.set_cons_zero, upd, reduceIte, Nat.reduceEqDiff, Nat.reduceAdd, f2, f5, str]; done) | (simp [mkAct, upd, f2, f5, str, *]; done)
              · -- operation 7
                obtain ⟨f6, -⟩ := hp
                replace f6 : u 6 = (.bool true) := f6
                try simp only [f6, str]
                go_wp2
                refine stq_v rfl Same.refl ?_
                first | (simp only [mkAct, List.foldl_cons, List.foldl_nil, List.setIfInBounds_toArray, List.set_cons_succ, List.set_cons_zero, upd, reduceIte, Nat.reduceEqDiff, Nat.reduceAdd, f6, str]; done) | (simp [mkAct, upd, f6, str, *]; done)
            · intro u wx hI hR
              obtain ⟨r0, r1, r2, r3, r4, r5, r6, r7, -⟩ := hR
              replace r0 : u 0 = (.pointer (some ⟨w15.heap.size, 0, none⟩)) := r0
              replace r1 : u 1 = (.pointer (some ⟨w15.heap.size, 4, none⟩)) := r1
              replace r2 : u 2 = (.agg (bv Do).toArray) := r2
              replace r3 : u 3 = (.pointer (some ⟨w2.heap.size, 0, none⟩)) := r3
              replace r4 : u 4 = (.pointer (some ⟨w2.heap.size, 4, none⟩)) := r4
              replace r5 : u 5 = (.agg (bv Db).toArray) := r5
              replace r6 : u 6 = (.bool true) := r6
              replace r7 : u 7 = (.bool true) := r7
              simp only [mkAct, List.foldl_cons, List.foldl_nil, List.setIfInBounds_toArray, List.set_cons_succ, List.set_cons_zero]
              try simp only [str, r0, r1, r2, r3, r4, r5, r6, r7]
              replace s0 := Lib.hid (s0.out.trans hI)
              replace sa := Lib.hid (sa.out.trans hI)
              replace sb := Lib.hid (sb.out.trans hI)
              replace so := Lib.hid (so.out.trans hI)
              replace sc' := Lib.hid (sc'.out.trans hI)
              replace sX := Lib.hid (sX.out.trans hI)
              replace sK := Lib.hid (sK.out.trans hI)
              replace sD := Lib.hid (sD.out.trans hI)
              have rY2 := Lib.hid (hI.at rY.out)
              clear hI
              go_upto_region 12 with fail
              have hb7 := Lib.hid (BatV.same hb.out s0.out)
              have hX7 := Lib.hid (hXat.out _ s0.out)
              have rK7 := Lib.hid (sK.out.at rK.out)
              have rX7 := Lib.hid (sX.out.at rX.out)
              refine wp_region_last (by kernel_rfl) [(109, 0), (110, 1), (111, 2), (112, 3), (113, 4), (114, 5), (115, 6), (116, 7), (117, 8), (118, 9), (119, 10), (120, 11), (121, 12), (122, 13), (123, 14), (124, 15), (125, 16), (126, 17), (127, 18), (128, 19), (129, 20), (130, 21), (131, 22), (132, 23), (133, 24), (134, 25), (8, 26)] Same (Same _) [isV (.bool true), isV (.bool true), isV (.agg b.cells.toArray), isV (.agg b.cells.toArray), isV (.bool true), isV (.bool true), isV (.bool true), isV (.int .i64 0), isV (.bool true), isV (.bool true), isV (.bool true), isV (.bool true), isV (.bool true), isV (.bool true), isV (.bool false), isV (.bool false), isV (.agg X.cells.toArray), isV (.agg X.cells.toArray), isV (.agg X.cells.toArray), isV (.agg X.cells.toArray), isV (.bool true), isV (.bool true), isV (.bool true), isV (.bool true), isV (.bool true), isV (.bool true)] Same.refl.drew (fun _ _ h k => h.trans k) (by simp [isV_stable, isB_stable, isAny_stable]) (by decide) (l := [_, _, _, _, _, _, _, _, _, _, _, _, _, _, _, _, _, _, _, _, _, _, _, _, _, _]) rfl (by decide) (by decide) ?_ ?_
              · refine ⟨?_, ?_, ?_, ?_, ?_, ?_, ?_, ?_, ?_, ?_, ?_, ?_, ?_, ?_, ?_, ?_, ?_, ?_, ?_, ?_, ?_, ?_, ?_, ?_, ?_, ?_, trivial⟩
                all_goals (intro u wx hI hp; simp only [mkAct, List.foldl_cons, List.foldl_nil, List.setIfInBounds_toArray, List.set_cons_succ, List.set_cons_zero])
                · -- operation 0
                  go_wp2
                  refine stq_v rfl Same.refl ?_
                  first | (simp only [mkAct, List.foldl_cons, List.foldl_nil, List.setIfInBounds_toArray, List.set_cons_succ, List.set_cons_zero, upd, reduceIte, Nat.reduceEqDiff, Nat.reduceAdd, str]; done) | (simp [mkAct, upd, str, *]; done)
                · -- operation 1
                  obtain ⟨f0, -⟩ := hp
                  replace f0 : u 0 = (.bool true) := f0
                  try simp only [f0, str]
                  go_wp2
                  refine stq_v rfl Same.refl ?_
                  first | (simp only [mkAct, List.foldl_cons, List.foldl_nil, List.setIfInBounds_toArray, List.set_cons_succ, List.set_cons_zero, upd, reduceIte, Nat.reduceEqDiff, Nat.reduceAdd, f0, str]; done) | (simp [mkAct, upd, f0, str, *]; done)
                · -- operation 2
                  obtain ⟨f1, -⟩ := hp
                  replace f1 : u 1 = (.bool true) := f1
                  try simp only [f1, str]
                  go_wp2_with (refine load_row rfl _ _ rfl w13.heap.size rfl _ _ _ _ (hI.at rK7.out) Try.underlying24 rfl hinfB.out ?_)
                  refine stq_v rfl Same.refl ?_
                  first | (simp only [mkAct, List.foldl_cons, List.foldl_nil, List.setIfInBounds_toArray, List.set_cons_succ, List.set_cons_zero, upd, reduceIte, Nat.reduceEqDiff, Nat.reduceAdd, f1, str]; done) | (simp [mkAct, upd, f1, str, *]; done)
                · -- operation 3
                  obtain ⟨f1, -⟩ := hp
                  replace f1 : u 1 = (.bool true) := f1
                  try simp only [f1, str]
                  go_wp2_with (refine load_row rfl _ _ rfl w0.heap.size rfl _ _ _ _ (hI.at (sb.out.at hbb.out)) Try.underlying24 rfl hinfB.out ?_)
                  refine stq_v rfl Same.refl ?_
                  first | (simp only [mkAct, List.foldl_cons, List.foldl_nil, List.setIfInBounds_toArray, List.set_cons_succ, List.set_cons_zero, upd, reduceIte, Nat.reduceEqDiff, Nat.reduceAdd, f1, str]; done) | (simp [mkAct, upd, f1, str, *]; done)
                · -- operation 4
                  obtain ⟨f2, f3, -, f1, -⟩ := hp
                  replace f2 : u 2 = (.agg b.cells.toArray) := f2
                  replace f3 : u 3 = (.agg b.cells.toArray) := f3
                  replace f1 : u 1 = (.bool true) := f1
                  try simp only [f2, f3, f1, str]
                  go_wp2_with fail
                  refine (hsame.out _ (BatV.same hb7.out hI) (BatV.same hb7.out hI)).mono ?_
                  rintro e w1 ⟨rfl, hs'⟩
                  go_wp2
                  refine stq_v rfl hs' ?_
                  first | (simp only [mkAct, List.foldl_cons, List.foldl_nil, List.setIfInBounds_toArray, List.set_cons_succ, List.set_cons_zero, upd, reduceIte, Nat.reduceEqDiff, Nat.reduceAdd, f2, f3, f1, str]; done) | (simp [mkAct, upd, f2, f3, f1, str, *]; done)
                · -- operation 5
                  obtain ⟨f1, f4, -⟩ := hp
                  replace f1 : u 1 = (.bool true) := f1
                  replace f4 : u 4 = (.bool true) := f4
                  try simp only [f1, f4, str]
                  go_wp2
                  refine stq_v rfl Same.refl ?_
                  first | (simp only [mkAct, List.foldl_cons, List.foldl_nil, List.setIfInBounds_toArray, List.set_cons_succ, List.set_cons_zero, upd, reduceIte, Nat.reduceEqDiff, Nat.reduceAdd, f1, f4, str]; done) | (simp [mkAct, upd, f1, f4, str, *]; done)
                · -- operation 6
                  obtain ⟨f5, -, -⟩ := hp
                  replace f5 : u 5 = (.bool true) := f5
                  try simp only [f5, str]
                  go_wp2
                  refine stq_v rfl Same.refl ?_
                  first | (simp only [mkAct, List.foldl_cons, List.foldl_nil, List.setIfInBounds_toArray, List.set_cons_succ, List.set_cons_zero, upd, reduceIte, Nat.reduceEqDiff, Nat.reduceAdd, f5, str]; done) | (simp [mkAct, upd, f5, str, *]; done)
                · -- operation 7
                  obtain ⟨f6, -⟩ := hp
                  replace f6 : u 6 = (.bool true) := f6
                  try simp only [f6, str]
                  go_wp2
                  refine stq_v rfl Same.refl ?_
                  first | (simp only [mkAct, List.foldl_cons, List.foldl_nil, List.setIfInBounds_toArray, List.set_cons_succ, List.set_cons_zero, upd, reduceIte, Nat.reduceEqDiff, Nat.reduceAdd, f6, str]; done) | (simp [mkAct, upd, f6, str, *]; done)
                · -- operation 8
                  obtain ⟨f7, f6, -⟩ := hp
                  replace f7 : u 7 = (.int .i64 0) := f7
                  replace f6 : u 6 = (.bool true) := f6
                  try simp only [f7, f6, str]
                  go_wp2
                  refine stq_v rfl Same.refl ?_
                  first | (simp only [mkAct, List.foldl_cons, List.foldl_nil, List.setIfInBounds_toArray, List.set_cons_succ, List.set_cons_zero, upd, reduceIte, Nat.reduceEqDiff, Nat.reduceAdd, f7, f6, str]; done) | (simp [mkAct, upd, f7, f6, str, *]; done)
                · -- operation 9
                  obtain ⟨f6, -⟩ := hp
                  replace f6 : u 6 = (.bool true) := f6
                  try simp only [f6, str]
                  go_wp2
                  refine stq_v rfl Same.refl ?_
                  first | (simp only [mkAct, List.foldl_cons, List.foldl_nil, List.setIfInBounds_toArray, List.set_cons_succ, List.set_cons_zero, upd, reduceIte, Nat.reduceEqDiff, Nat.reduceAdd, f6, str]; done) | (simp [mkAct, upd, f6, str, *]; done)
                · -- operation 10
                  obtain ⟨f8, f9, f6, -⟩ := hp
                  replace f8 : u 8 = (.bool true) := f8
                  replace f9 : u 9 = (.bool true) := f9
                  replace f6 : u 6 = (.bool true) := f6
                  try simp only [f8, f9, f6, str]
                  go_wp2
                  refine stq_v rfl Same.refl ?_
                  first | (simp only [mkAct, List.foldl_cons, List.foldl_nil, List.setIfInBounds_toArray, List.set_cons_succ, List.set_cons_zero, upd, reduceIte, Nat.reduceEqDiff, Nat.reduceAdd, f8, f9, f6, str]; done) | (simp [mkAct, upd, f8, f9, f6, str, *]; done)
                · -- operation 11
                  obtain ⟨f6, f10, -⟩ := hp
                  replace f6 : u 6 = (.bool true) := f6
                  replace f10 : u 10 = (.bool true) := f10
                  try simp only [f6, f10, str]
                  go_wp2
                  refine stq_v rfl Same.refl ?_
                  first | (simp only [mkAct, List.foldl_cons, List.foldl_nil, List.setIfInBounds_toArray, List.set_cons_succ, List.set_cons_zero, upd, reduceIte, Nat.reduceEqDiff, Nat.reduceAdd, f6, f10, str]; done) | (simp [mkAct, upd, f6, f10, str, *]; done)
                · -- operation 12
                  obtain ⟨f11, -, -⟩ := hp
                  replace f11 : u 11 = (.bool true) := f11
                  try simp only [f11, str]
                  go_wp2
                  refine stq_v rfl Same.refl ?_
                  first | (simp only [mkAct, List.foldl_cons, List.foldl_nil, List.setIfInBounds_toArray, List.set_cons_succ, List.set_cons_zero, upd, reduceIte, Nat.reduceEqDiff, Nat.reduceAdd, f11, str]; done) | (simp [mkAct, upd, f11, str, *]; done)
                · -- operation 13
                  obtain ⟨f12, -⟩ := hp
                  replace f12 : u 12 = (.bool true) := f12
                  try simp only [f12, str]
                  go_wp2
                  refine stq_v rfl Same.refl ?_
                  first | (simp only [mkAct, List.foldl_cons, List.foldl_nil, List.setIfInBounds_toArray, List.set_cons_succ, List.set_cons_zero, upd, reduceIte, Nat.reduceEqDiff, Nat.reduceAdd, f12, str]; done) | (simp [mkAct, upd, f12, str, *]; done)
                · -- operation 14
                  obtain ⟨f13, f12, -⟩ := hp
                  replace f13 : u 13 = (.bool true) := f13
                  replace f12 : u 12 = (.bool true) := f12
                  try simp only [f13, f12, str]
                  go_wp2
                  refine stq_v rfl Same.refl ?_
                  first | (simp only [mkAct, List.foldl_cons, List.foldl_nil, List.setIfInBounds_toArray, List.set_cons_succ, List.set_cons_zero, upd, reduceIte, Nat.reduceEqDiff, Nat.reduceAdd, f13, f12, str]; done) | (simp [mkAct, upd, f13, f12, str, *]; done)
                · -- operation 15
                  obtain ⟨f14, -, f12, -⟩ := hp
                  replace f14 : u 14 = (.bool false) := f14
                  replace f12 : u 12 = (.bool true) := f12
                  try simp only [f14, f12, str]
                  go_wp2
                  refine stq_v rfl Same.refl ?_
                  first | (simp only [mkAct, List.foldl_cons, List.foldl_nil, List.setIfInBounds_toArray, List.set_cons_succ, List.set_cons_zero, upd, reduceIte, Nat.reduceEqDiff, Nat.reduceAdd, f14, f12, str]; done) | (simp [mkAct, upd, f14, f12, str, *]; done)
                · -- operation 16
                  obtain ⟨f15, -⟩ := hp
                  replace f15 : u 15 = (.bool false) := f15
                  try simp only [f15, str]
                  go_wp2_with (refine load_row rfl _ _ rfl w20.heap.size rfl _ _ _ _ (hI.at rY2.out) Try.underlying40 rfl hinfX.out ?_)
                  refine stq_v rfl Same.refl ?_
                  first | (simp only [mkAct, List.foldl_cons, List.foldl_nil, List.setIfInBounds_toArray, List.set_cons_succ, List.set_cons_zero, upd, reduceIte, Nat.reduceEqDiff, Nat.reduceAdd, f15, str]; done) | (simp [mkAct, upd, f15, str, *]; done)
                · -- operation 17
                  obtain ⟨f16, -, f15, -⟩ := hp
                  replace f16 : u 16 = (.agg X.cells.toArray) := f16
                  replace f15 : u 15 = (.bool false) := f15
                  try simp only [f16, f15, str]
                  go_wp2_with fail
                  refine (hof.out _).mono ?_
                  rintro e w1 ⟨rfl, hs'⟩
                  go_wp2
                  refine stq_v rfl hs' ?_
                  first | (simp only [mkAct, List.foldl_cons, List.foldl_nil, List.setIfInBounds_toArray, List.set_cons_succ, List.set_cons_zero, upd, reduceIte, Nat.reduceEqDiff, Nat.reduceAdd, f16, f15, str]; done) | (simp [mkAct, upd, f16, f15, str, *]; done)
                · -- operation 18
                  obtain ⟨f15, -⟩ := hp
                  replace f15 : u 15 = (.bool false) := f15
                  try simp only [f15, str]
                  go_wp2_with (refine load_row rfl _ _ rfl w10.heap.size rfl _ _ _ _ (hI.at rX7.out) Try.underlying40 rfl hinfX.out ?_)
                  refine stq_v rfl Same.refl ?_
                  first | (simp only [mkAct, List.foldl_cons, List.foldl_nil, List.setIfInBounds_toArray, List.set_cons_succ, List.set_cons_zero, upd, reduceIte, Nat.reduceEqDiff, Nat.reduceAdd, f15, str]; done) | (simp [mkAct, upd, f15, str, *]; done)
                · -- operation 19
                  obtain ⟨f18, -, f15, -⟩ := hp
                  replace f18 : u 18 = (.agg X.cells.toArray) := f18
                  replace f15 : u 15 = (.bool false) := f15
                  try simp only [f18, f15, str]
                  go_wp2_with fail
                  refine (hof.out _).mono ?_
                  rintro e w1 ⟨rfl, hs'⟩
                  go_wp2
                  refine stq_v rfl hs' ?_
                  first | (simp only [mkAct, List.foldl_cons, List.foldl_nil, List.setIfInBounds_toArray, List.set_cons_succ, List.set_cons_zero, upd, reduceIte, Nat.reduceEqDiff, Nat.reduceAdd, f18, f15, str]; done) | (simp [mkAct, upd, f18, f15, str, *]; done)
                · -- operation 20
                  obtain ⟨f17, f19, -, f15, -⟩ := hp
                  replace f17 : u 17 = (.agg X.cells.toArray) := f17
                  replace f19 : u 19 = (.agg X.cells.toArray) := f19
                  replace f15 : u 15 = (.bool false) := f15
                  try simp only [f17, f19, f15, str]
                  go_wp2_with fail
                  refine (hss.out _ (SlotV.same' hX7.out hI) (SlotV.same' hX7.out hI)).mono ?_
                  rintro e w1 ⟨rfl, hs'⟩
                  go_wp2
                  refine stq_v rfl hs' ?_
                  first | (simp only [mkAct, List.foldl_cons, List.foldl_nil, List.setIfInBounds_toArray, List.set_cons_succ, List.set_cons_zero, upd, reduceIte, Nat.reduceEqDiff, Nat.reduceAdd, f17, f19, f15, str]; done) | (simp [mkAct, upd, f17, f19, f15, str, *]; done)
                · -- operation 21
                  obtain ⟨f15, f20, f12, -⟩ := hp
                  replace f15 : u 15 = (.bool false) := f15
                  replace f20 : u 20 = (.bool true) := f20
                  replace f12 : u 12 = (.bool true) := f12
                  try simp only [f15, f20, f12, str]
                  go_wp2
                  refine stq_v rfl Same.refl ?_
                  first | (simp only [mkAct, List.foldl_cons, List.foldl_nil, List.setIfInBounds_toArray, List.set_cons_succ, List.set_cons_zero, upd, reduceIte, Nat.reduceEqDiff, Nat.reduceAdd, f15, f20, f12, str]; done) | (simp [mkAct, upd, f15, f20, f12, str, *]; done)
                · -- operation 22
                  obtain ⟨f12, f21, -⟩ := hp
                  replace f12 : u 12 = (.bool true) := f12
                  replace f21 : u 21 = (.bool true) := f21
                  try simp only [f12, f21, str]
                  go_wp2
                  refine stq_v rfl Same.refl ?_
                  first | (simp only [mkAct, List.foldl_cons, List.foldl_nil, List.setIfInBounds_toArray, List.set_cons_succ, List.set_cons_zero, upd, reduceIte, Nat.reduceEqDiff, Nat.reduceAdd, f12, f21, str]; done) | (simp [mkAct, upd, f12, f21, str, *]; done)
                · -- operation 23
                  obtain ⟨f22, -, -⟩ := hp
                  replace f22 : u 22 = (.bool true) := f22
                  try simp only [f22, str]
                  go_wp2
                  refine stq_v rfl Same.refl ?_
                  first | (simp only [mkAct, List.foldl_cons, List.foldl_nil, List.setIfInBounds_toArray, List.set_cons_succ, List.set_cons_zero, upd, reduceIte, Nat.reduceEqDiff, Nat.reduceAdd, f22, str]; done) | (simp [mkAct, upd, f22, str, *]; done)
                · -- operation 24
                  obtain ⟨-, f23, -⟩ := hp
                  replace f23 : u 23 = (.bool true) := f23
                  try simp only [f23, str]
                  go_wp2_with fail
                  refine (hl.out _).mono ?_
                  rintro e w1 ⟨rfl, hs'⟩
                  go_wp2
                  refine stq_v rfl hs' ?_
                  first | (simp only [mkAct, List.foldl_cons, List.foldl_nil, List.setIfInBounds_toArray, List.set_cons_succ, List.set_cons_zero, upd, reduceIte, Nat.reduceEqDiff, Nat.reduceAdd, f23, str]; done) | (simp [mkAct, upd, f23, str, *]; done)
                · -- operation 25
                  obtain ⟨f23, f24, -⟩ := hp
                  replace f23 : u 23 = (.bool true) := f23
                  replace f24 : u 24 = (.bool true) := f24
                  try simp only [f23, f24, str]
                  go_wp2
                  refine stq_v rfl Same.refl ?_
                  first | (simp only [mkAct, List.foldl_cons, List.foldl_nil, List.setIfInBounds_toArray, List.set_cons_succ, List.set_cons_zero, upd, reduceIte, Nat.reduceEqDiff, Nat.reduceAdd, f23, f24, str]; done) | (simp [mkAct, upd, f23, f24, str, *]; done)
              · intro u wx hI hR
                obtain ⟨r0, r1, r2, r3, r4, r5, r6, r7, r8, r9, r10, r11, r12, r13, r14, r15, r16, r17, r18, r19, r20, r21, r22, r23, r24, r25, -⟩ := hR
                replace r0 : u 0 = (.bool true) := r0
                replace r1 : u 1 = (.bool true) := r1
                replace r2 : u 2 = (.agg b.cells.toArray) := r2
                replace r3 : u 3 = (.agg b.cells.toArray) := r3
                replace r4 : u 4 = (.bool true) := r4
                replace r5 : u 5 = (.bool true) := r5
                replace r6 : u 6 = (.bool true) := r6
                replace r7 : u 7 = (.int .i64 0) := r7
                replace r8 : u 8 = (.bool true) := r8
                replace r9 : u 9 = (.bool true) := r9
                replace r10 : u 10 = (.bool true) := r10
                replace r11 : u 11 = (.bool true) := r11
                replace r12 : u 12 = (.bool true) := r12
                replace r13 : u 13 = (.bool true) := r13
                replace r14 : u 14 = (.bool false) := r14
                replace r15 : u 15 = (.bool false) := r15
                replace r16 : u 16 = (.agg X.cells.toArray) := r16
                replace r17 : u 17 = (.agg X.cells.toArray) := r17
                replace r18 : u 18 = (.agg X.cells.toArray) := r18
                replace r19 : u 19 = (.agg X.cells.toArray) := r19
                replace r20 : u 20 = (.bool true) := r20
                replace r21 : u 21 = (.bool true) := r21
                replace r22 : u 22 = (.bool true) := r22
                replace r23 : u 23 = (.bool true) := r23
                replace r24 : u 24 = (.bool true) := r24
                replace r25 : u 25 = (.bool true) := r25
                simp only [mkAct, List.foldl_cons, List.foldl_nil, List.setIfInBounds_toArray, List.set_cons_succ, List.set_cons_zero]
                try simp only [str, r0, r1, r2, r3, r4, r5, r6, r7, r8, r9, r10, r11, r12, r13, r14, r15, r16, r17, r18, r19, r20, r21, r22, r23, r24, r25]
                go_wp2
                go_ret
                exact ⟨rfl, s0.out.trans hI⟩
        · go_upto_region 2 with fail
          clear c84 c36
          go_wp2_with fail
          refine (hl.out _).mono ?_
          rintro e w7 ⟨rfl, hs⟩
          replace s0 := Lib.hid (s0.out.trans hs)
          replace sa := Lib.hid (sa.out.trans hs)
          replace sb := Lib.hid (sb.out.trans hs)
          replace so := Lib.hid (so.out.trans hs)
          replace sc := Lib.hid (sc.out.trans hs)
          clear hs
          go_wp2
          go_ret
          exact ⟨rfl, s0.out⟩
      · have h100' : Decidable.decide (100 < (n : Int)) = true := decide_eq_true (by omega)
        go_upto_region 2 with fail
        clear c84 c36
        go_wp2_with fail
        refine (hl.out _).mono ?_
        rintro e w7 ⟨rfl, hs⟩
        replace s0 := Lib.hid (s0.out.trans hs)
        replace sa := Lib.hid (sa.out.trans hs)
        replace sb := Lib.hid (sb.out.trans hs)
        replace so := Lib.hid (so.out.trans hs)
        replace sc := Lib.hid (sc.out.trans hs)
        clear hs
        go_wp2
        go_ret
        exact ⟨rfl, s0.out⟩
end Go.Proofs.Ytgdkhiihdoekaaa
