/-
  The program's batch.Same and slot.Same; regions that do not draw, walked once an operation (merged for the limit of files out of XBatG, XSeq, XSlotS).
-/
import Derived.Test.YtmacgmmjgdmleaaSlot4
import Derived.Test.YtmacgmmjgdmleaaMut
import Derived.Test.YtmacgmmjgdmleaaReq5
import Derived.Test.YtmacgmmjgdmleaaBatH
import Derived.Deep.DeepCutAuto
namespace Go.Proofs.Ytmacgmmjgdmleaa
open Go Go.RowKit
set_option linter.unusedSimpArgs false
set_option linter.unusedVariables false

set_option maxRecDepth 100000
set_option maxRecDepth 100000 in
set_option maxHeartbeats 1600000 in
theorem bsameL_any (a b : BatV) (w : World) (ha : a.at w) (hb : b.at w) :
    Calls Try.prog 151 #[.slice a.ao a.reqs.length a.c, .slice b.ao b.reqs.length b.c] w fun e w' => e = .returned (.bool (decide (a.reqs = b.reqs))) ∧ Same w w' := by
  have hcap := ha.1.cap
  have hmost := ha.1.most
  have hcapb := hb.1.cap
  unfold maxLen at hmost
  obtain ⟨R, hR⟩ : ∃ R, R = decide (a.reqs = b.reqs) := ⟨_, rfl⟩
  rw [← hR]
  obtain ⟨n, hn⟩ : ∃ n, n = a.reqs.length := ⟨_, rfl⟩
  obtain ⟨m, hm⟩ : ∃ m, m = b.reqs.length := ⟨_, rfl⟩
  rw [← hn] at hcap ⊢
  rw [← hm] at hcapb ⊢
  obtain ⟨aa, haa⟩ : ∃ ao, ao = a.ao := ⟨_, rfl⟩
  obtain ⟨ab, hab⟩ : ∃ ao, ao = b.ao := ⟨_, rfl⟩
  rw [← haa, ← hab]
  have hbad : a.reqs ≠ b.reqs → R = false := fun h => by rw [hR, decide_eq_false h]
  have hgood : a.reqs = b.reqs → R = true := fun h => by rw [hR, decide_eq_true h]
  clear hR
  replace ha := Lib.hid ha
  replace hb := Lib.hid hb
  replace hn := Lib.hid hn
  replace hm := Lib.hid hm
  replace haa := Lib.hid haa
  replace hab := Lib.hid hab
  replace hbad := Lib.hid hbad
  replace hgood := Lib.hid hgood
  by_cases hnm : n = m
  · subst hnm
    have hnn : ((n : Int) != (n : Int)) = false := by simp
    go_enter Try.func151, Try.ntmps151
    go_wp2
    go_loopw [13] (fun i wr => ∃ k : Nat, k ≤ n ∧ i = .int .i64 k ∧ a.reqs.take k = b.reqs.take k ∧ Same w wr) (fun i _ => n - (intOf i).toNat)
    case atStart => exact ⟨0, by omega, rfl, rfl, Same.refl⟩
    case round =>
      obtain ⟨k, hk, rfl, htk, hs⟩ := hrel
      by_cases hlt : k < n
      · obtain ⟨bk, off, hao, hbl, hrange⟩ := BatV.range (w := w) (b := a) ha.out (i := k) (by rw [← hn.out]; exact hlt)
        obtain ⟨bk2, off2, hao2, hbl2, hrange2⟩ := BatV.range (w := w) (b := b) hb.out (i := k) (by rw [← hm.out]; exact hlt)
        have hra := hs.range hrange
        have hrb := hs.range hrange2
        have hwa := (ha.out.2 _ (reqAt_mem (l := a.reqs) (i := k) (by rw [← hn.out]; exact hlt))).1
        have hwb := (hb.out.2 _ (reqAt_mem (l := b.reqs) (i := k) (by rw [← hm.out]; exact hlt))).1
        have hnx := take_eq_next (l := a.reqs) (m := b.reqs) (k := k) (by rw [← hn.out]; exact hlt) (by rw [← hm.out]; exact hlt) htk
        have hne : reqAt a.reqs k ≠ reqAt b.reqs k → a.reqs ≠ b.reqs := fun h1 h2 => h1 (by rw [h2])
        obtain ⟨X, hX⟩ : ∃ X, X = reqAt a.reqs k := ⟨_, rfl⟩
        obtain ⟨Y, hY⟩ : ∃ Y, Y = reqAt b.reqs k := ⟨_, rfl⟩
        rw [← hX] at hra hwa hnx hne
        rw [← hY] at hrb hwb hnx hne
        have heq := fun w => req_neq X Y hwa hwb w
        have hgd := req_guard
        have hinfX := Lib.hid (req_infoL hwa.1)
        have hinfY := Lib.hid (req_infoL hwb.1)
        rw [← haa.out] at hao
        rw [← hab.out] at hao2
        have hsame := Req.same_iff X Y
        obtain ⟨t, ht⟩ : ∃ t, t = Req.same X Y := ⟨_, rfl⟩
        rw [← ht] at heq hsame
        have q0 : 0 ≤ (k : Int) := by omega
        have q1 : (k : Int) < (n : Int) := by omega
        clear hrange hrange2 hbl hbl2 hX hY ht htk hwa hwb haa hab
        replace hra := Lib.hid hra
        replace hrb := Lib.hid hrb
        replace hnx := Lib.hid hnx
        replace hne := Lib.hid hne
        replace hsame := Lib.hid hsame
        replace hs := Lib.hid hs
        replace heq := Lib.hid heq
        replace hgd := Lib.hid hgd
        subst hao
        subst hao2
        go_upto_region 6 with fail
        go_cut [24] (fun v wx => v = .bool (!t) ∧ Same wr wx)
        case first =>
          refine wp_region_facts (by kernel_rfl) [(16, 0), (17, 1), (18, 2), (19, 3), (20, 4), (21, 5), (22, 6), (23, 7), (24, 8)] Same (Same _) [isV (.slice (some ⟨bk, off, none⟩) n a.c), isV (.int .i64 (k : Int)), isV (.pointer (some ⟨bk, off + k * 19, none⟩)), isV (.agg X.cells.toArray), isV (.slice (some ⟨bk2, off2, none⟩) n b.c), isV (.int .i64 (k : Int)), isV (.pointer (some ⟨bk2, off2 + k * 19, none⟩)), isV (.agg Y.cells.toArray), isV (.bool (!t))] Same.refl.drew (fun _ _ h k => h.trans k) (by simp [isV_stable, isB_stable, isAny_stable]) (by decide) (by decide) ?_ ?_
          · refine ⟨?_, ?_, ?_, ?_, ?_, ?_, ?_, ?_, ?_, trivial⟩
            all_goals (intro u wx hI hp; simp only [mkAct, List.foldl_cons, List.foldl_nil, List.setIfInBounds_toArray, List.set_cons_succ, List.set_cons_zero])
            · -- operation 0
              go_wp2
              refine stq_v rfl Same.refl ?_
              first | (simp only [mkAct, List.foldl_cons, List.foldl_nil, List.setIfInBounds_toArray, List.set_cons_succ, List.set_cons_zero, upd, reduceIte, Nat.reduceEqDiff, Nat.reduceAdd, str]; done) | (simp [mkAct, upd, str, *]; done)
            · -- operation 1
              go_wp2
              refine stq_v rfl Same.refl ?_
              first | (simp only [mkAct, List.foldl_cons, List.foldl_nil, List.setIfInBounds_toArray, List.set_cons_succ, List.set_cons_zero, upd, reduceIte, Nat.reduceEqDiff, Nat.reduceAdd, str]; done) | (simp [mkAct, upd, str, *]; done)
            · -- operation 2
              obtain ⟨f0, f1, -⟩ := hp
              replace f0 : u 0 = (.slice (some ⟨bk, off, none⟩) n a.c) := f0
              replace f1 : u 1 = (.int .i64 (k : Int)) := f1
              try simp only [f0, f1, str]
              go_wp2
              refine stq_v rfl Same.refl ?_
              first | (simp only [mkAct, List.foldl_cons, List.foldl_nil, List.setIfInBounds_toArray, List.set_cons_succ, List.set_cons_zero, upd, reduceIte, Nat.reduceEqDiff, Nat.reduceAdd, f0, f1, str]; done) | (simp [mkAct, upd, f0, f1, str, *]; done)
            · -- operation 3
              obtain ⟨f2, -⟩ := hp
              replace f2 : u 2 = (.pointer (some ⟨bk, off + k * 19, none⟩)) := f2
              try simp only [f2, str]
              go_wp2_with (refine load_mid rfl _ _ rfl bk (off + k * 19) rfl X.cells _ (hI.range hra.out) Try.underlying90 rfl hinfX.out ?_)
              refine stq_v rfl Same.refl ?_
              first | (simp only [mkAct, List.foldl_cons, List.foldl_nil, List.setIfInBounds_toArray, List.set_cons_succ, List.set_cons_zero, upd, reduceIte, Nat.reduceEqDiff, Nat.reduceAdd, f2, str]; done) | (simp [mkAct, upd, f2, str, *]; done)
            · -- operation 4
              go_wp2
              refine stq_v rfl Same.refl ?_
              first | (simp only [mkAct, List.foldl_cons, List.foldl_nil, List.setIfInBounds_toArray, List.set_cons_succ, List.set_cons_zero, upd, reduceIte, Nat.reduceEqDiff, Nat.reduceAdd, str]; done) | (simp [mkAct, upd, str, *]; done)
            · -- operation 5
              go_wp2
              refine stq_v rfl Same.refl ?_
              first | (simp only [mkAct, List.foldl_cons, List.foldl_nil, List.setIfInBounds_toArray, List.set_cons_succ, List.set_cons_zero, upd, reduceIte, Nat.reduceEqDiff, Nat.reduceAdd, str]; done) | (simp [mkAct, upd, str, *]; done)
            · -- operation 6
              obtain ⟨f4, f5, -⟩ := hp
              replace f4 : u 4 = (.slice (some ⟨bk2, off2, none⟩) n b.c) := f4
              replace f5 : u 5 = (.int .i64 (k : Int)) := f5
              try simp only [f4, f5, str]
              go_wp2
              refine stq_v rfl Same.refl ?_
              first | (simp only [mkAct, List.foldl_cons, List.foldl_nil, List.setIfInBounds_toArray, List.set_cons_succ, List.set_cons_zero, upd, reduceIte, Nat.reduceEqDiff, Nat.reduceAdd, f4, f5, str]; done) | (simp [mkAct, upd, f4, f5, str, *]; done)
            · -- operation 7
              obtain ⟨f6, -⟩ := hp
              replace f6 : u 6 = (.pointer (some ⟨bk2, off2 + k * 19, none⟩)) := f6
              try simp only [f6, str]
              go_wp2_with (refine load_mid rfl _ _ rfl bk2 (off2 + k * 19) rfl Y.cells _ (hI.range hrb.out) Try.underlying90 rfl hinfY.out ?_)
              refine stq_v rfl Same.refl ?_
              first | (simp only [mkAct, List.foldl_cons, List.foldl_nil, List.setIfInBounds_toArray, List.set_cons_succ, List.set_cons_zero, upd, reduceIte, Nat.reduceEqDiff, Nat.reduceAdd, f6, str]; done) | (simp [mkAct, upd, f6, str, *]; done)
            · -- operation 8
              obtain ⟨f3, f7, -⟩ := hp
              replace f3 : u 3 = (.agg X.cells.toArray) := f3
              replace f7 : u 7 = (.agg Y.cells.toArray) := f7
              try simp only [f3, f7, str]
              have heq := heq.out
              have hgd := hgd.out
              go_wp2
              refine stq_v rfl Same.refl ?_
              first | (simp only [mkAct, List.foldl_cons, List.foldl_nil, List.setIfInBounds_toArray, List.set_cons_succ, List.set_cons_zero, upd, reduceIte, Nat.reduceEqDiff, Nat.reduceAdd, f3, f7, str]; done) | (simp [mkAct, upd, f3, f7, str, *]; done)
          · intro u wx hI hR
            obtain ⟨r0, r1, r2, r3, r4, r5, r6, r7, r8, -⟩ := hR
            replace r0 : u 0 = (.slice (some ⟨bk, off, none⟩) n a.c) := r0
            replace r1 : u 1 = (.int .i64 (k : Int)) := r1
            replace r2 : u 2 = (.pointer (some ⟨bk, off + k * 19, none⟩)) := r2
            replace r3 : u 3 = (.agg X.cells.toArray) := r3
            replace r4 : u 4 = (.slice (some ⟨bk2, off2, none⟩) n b.c) := r4
            replace r5 : u 5 = (.int .i64 (k : Int)) := r5
            replace r6 : u 6 = (.pointer (some ⟨bk2, off2 + k * 19, none⟩)) := r6
            replace r7 : u 7 = (.agg Y.cells.toArray) := r7
            replace r8 : u 8 = (.bool (!t)) := r8
            simp only [mkAct, List.foldl_cons, List.foldl_nil, List.setIfInBounds_toArray, List.set_cons_succ, List.set_cons_zero]
            try simp only [str, r0, r1, r2, r3, r4, r5, r6, r7, r8]
            go_wp2
            go_meet
            exact ⟨rfl, hI⟩
        case rest =>
          obtain ⟨rfl, hs3⟩ := hcut
          cases ht : t
          · have hR2 := hbad.out (hne.out (fun h => by have := hsame.out.2 h; rw [ht] at this; cases this))
            clear hsame heq
            replace hR2 := Lib.hid hR2
            go_wp2
            go_ret
            exact ⟨by rw [hR2.out]; rfl, hs.out.trans hs3⟩
          · have hnx2 := hnx.out (hsame.out.1 ht)
            clear hsame heq
            replace hnx2 := Lib.hid hnx2
            go_wp2
            go_roundw
            case rel => exact ⟨k + 1, by omega, by go_num, hnx2.out, hs.out.trans hs3⟩
            case measure => simp [intOf]; omega
      · obtain rfl : k = n := by omega
        have hall : a.reqs = b.reqs := by
          rw [List.take_of_length_le (by rw [← hn.out]; exact Nat.le_refl _), List.take_of_length_le (by rw [← hm.out]; exact Nat.le_refl _)] at htk
          exact htk
        have hR2 := hgood.out hall
        clear htk hall
        replace hs := Lib.hid hs
        replace hR2 := Lib.hid hR2
        go_wp2
        go_ret
        exact ⟨by rw [hR2.out]; rfl, hs.out⟩
  · have hR2 := hbad.out (fun h => hnm (by rw [hn.out, hm.out, h]))
    have hnn : ((n : Int) != (m : Int)) = true := by simp; omega
    clear hnm
    replace hR2 := Lib.hid hR2
    go_enter Try.func151, Try.ntmps151
    go_wp2
    go_ret
    exact ⟨by rw [hR2.out]; rfl, Same.refl⟩
set_option maxRecDepth 100000 in
set_option maxHeartbeats 800000 in
theorem bsame_any (a b : BatV) (w : World) (ha : a.at w) (hb : b.at w) :
    Calls Try.prog 95 #[.agg a.cells.toArray, .agg b.cells.toArray] w fun e w' => e = .returned (.bool (batSame a b)) ∧ Same w w' := by
  have hinfA := Lib.hid (bat_info a)
  have hinfB := Lib.hid (bat_info b)
  have hL := fun w h1 h2 => bsameL_any a b w h1 h2
  obtain ⟨R, hR⟩ : ∃ R, R = decide (a.reqs = b.reqs) := ⟨_, rfl⟩
  obtain ⟨E, hE⟩ : ∃ E, E = decide (a.noop = b.noop) := ⟨_, rfl⟩
  have hE2 : (a.noop == b.noop) = E := by rw [hE]; cases a.noop <;> cases b.noop <;> rfl
  unfold batSame
  rw [← hE, ← hR]
  simp only [← hR] at hL
  obtain ⟨n, hn⟩ : ∃ n, n = a.reqs.length := ⟨_, rfl⟩
  obtain ⟨m, hm⟩ : ∃ m, m = b.reqs.length := ⟨_, rfl⟩
  obtain ⟨p, hp⟩ : ∃ p, p = a.noop := ⟨_, rfl⟩
  obtain ⟨q, hq⟩ : ∃ q, q = b.noop := ⟨_, rfl⟩
  rw [← hp, ← hq] at hE2
  rw [← hn, ← hm] at hL
  replace ha := Lib.hid ha
  replace hb := Lib.hid hb
  replace hn := Lib.hid hn
  replace hm := Lib.hid hm
  replace hp := Lib.hid hp
  replace hq := Lib.hid hq
  replace hL := Lib.hid hL
  replace hR := Lib.hid hR
  replace hE := Lib.hid hE
  replace hE2 := Lib.hid hE2
  go_enter Try.func95, Try.ntmps95
  go_upto_region 1 with (first | (refine box_row rfl _ _ rfl a.cells.toArray rfl hinfA.out ?_; intro w0 hbx hs0; have hbxl := blk_lt hbx; replace hbx := Lib.hid hbx; replace hs0 := Lib.hid hs0) | (refine box_row rfl _ _ rfl b.cells.toArray rfl hinfB.out ?_; intro w1 hby hs1; replace hby := Lib.hid hby; replace hs1 := Lib.hid hs1))
  have hbx1 := hs1.out.at hbx.out
  have c0 := bat_noop hbx1
  have c1 := bat_reqs hbx1
  have d0 := bat_noop hby.out
  have d1 := bat_reqs hby.out
  rw [← hn.out] at c1
  rw [← hm.out] at d1
  rw [← hp.out] at c0
  rw [← hq.out] at d0
  have hw1 := Lib.hid (hs0.out.trans hs1.out)
  clear hbx hby hs0 hs1 hbx1
  cases E
  · have hEx := hE2.out
    go_wp2
    go_ret
    exact ⟨rfl, hw1.out⟩
  · have hEx := hE2.out
    go_wp2_with fail
    refine (hL.out _ (BatV.same ha.out hw1.out) (BatV.same hb.out hw1.out)).mono ?_
    rintro e w2 ⟨rfl, hs2⟩
    have hw2 := Lib.hid (hw1.out.trans hs2)
    clear hs2 hEx
    go_wp2
    go_ret
    exact ⟨rfl, hw2.out⟩
end Go.Proofs.Ytmacgmmjgdmleaa
namespace Go.Proofs.Ytmacgmmjgdmleaa
open Go Go.RowKit
set_option linter.unusedSimpArgs false
set_option linter.unusedVariables false

def hopsS (P : Program) (ops : Array Oper) (Q : Exit → Act → World → Prop) (a : Act) (ds : List (Nat × Nat)) (rel : World → World → Prop) (I : World → Prop) (R : Nat → Value → World → Prop) : Nat → List (List Nat) → List Oper → Prop
  | _, _, [] => True
  | i, A, o :: l => (∀ u w, I w → onAll R u w (A.headD []) → wpList P ops (StQ Q a ds rel R u i w) [o] (mkAct a ds u) w) ∧ hopsS P ops Q a ds rel I R (i + 1) A.tail l
def seqOk : Nat → List (List Nat) → List Oper → Bool
  | _, _, [] => true
  | i, A, _ :: l => (A.headD []).all (fun k => Nat.blt k i) && seqOk (i + 1) A.tail l
section
variable {P : Program} {ops : Array Oper} {Q : Exit → Act → World → Prop} {a : Act} {ds : List (Nat × Nat)} {rel : World → World → Prop} {I : World → Prop} {R : Nat → Value → World → Prop}
theorem wpList_then {o : Oper} {rest : List Oper} {Q' : Exit → Act → World → Prop} {a : Act} {w : World} (h : wpList P ops Q' [o] a w) (hn : ∀ a w, Q' .normal a w → wpList P ops Q rest a w) (hq : ∀ e a w, e ≠ .normal → Q' e a w → Q e a w) : wpList P ops Q (o :: rest) a w := by
  unfold wpList at h ⊢
  have hout : LetsOut Q' → LetsOut Q := fun ⟨a, w, h⟩ => ⟨a, w, hq _ _ _ (by simp) h⟩
  by_cases hw : Region.wanted o (yielded ops a.tmps) = true
  · simp only [hw, if_true] at h ⊢
    rcases h with h | ⟨h1, h2⟩
    · refine .inl ?_
      unfold Oper.wp at h ⊢
      generalize (execOp a.eval o).run P w = r at *
      cases r with
      | ok n w' =>
        cases n <;> simp only [Oper.upon] at h ⊢ <;>
          first
            | exact hn _ _ h
            | exact Calls.mono h (fun e w'' he => by cases e <;> first | exact hn _ _ he | exact hq _ _ _ (by simp) he | exact hout he)
            | exact Rows.mono h (fun _ _ he => hn _ _ he)
      | halt x w' => cases x <;> simp only [Oper.upon] at h ⊢ <;> exact hq _ _ _ (by simp) h
    · exact .inr ⟨h1, hout h2⟩
  · simp only [hw, if_false, Bool.false_eq_true] at h ⊢
    exact hn _ _ h
theorem wp_seq (hR : ∀ i v w w', rel w w' → R i v w → R i v w') (hrel : ∀ w w', I w → rel w w' → I w') : ∀ (l : List Oper) (i : Nat) (A : List (List Nat)) (u : Nat → Value) (w : World), seqOk i A l = true → (∀ k, k < i → R k (u k) w) → I w → hopsS P ops Q a ds rel I R i A l →
    (∀ u w, I w → (∀ k, k < i + l.length → R k (u k) w) → Q .normal (mkAct a ds u) w) → wpList P ops Q l (mkAct a ds u) w := by
  intro l
  induction l with
  | nil => intro i A u w _ hf hI _ hend; exact hend u w hI hf
  | cons o l ih =>
    intro i A u w hok hf hI hop hend
    simp only [seqOk, Bool.and_eq_true, List.all_eq_true] at hok
    refine wpList_then (hop.1 u w hI (onAll_of _ fun k hk => hf k (Nat.le_of_ble_eq_true (hok.1 k hk)))) ?_ ?_
    · rintro a' w' ⟨v, rfl, hv, hr⟩
      refine ih (i + 1) A.tail (upd u i v) w' hok.2 ?_ (hrel _ _ hI hr) hop.2 ?_
      · intro k hk
        by_cases e : k = i
        · subst e
          rw [upd_same]
          exact hv
        · rw [upd_other _ _ e]
          exact hR _ _ _ _ hr (hf k (by omega))
      · intro u w hI hf
        exact hend u w hI (fun k hk => hf k (by simp only [List.length_cons] at hk; omega))
    · intro e a' w' he h
      cases e <;> first | exact absurd rfl he | exact h
theorem wp_region_seq {id : Nat} {w : World} (ds : List (Nat × Nat)) (A : List (List Nat)) (rel : World → World → Prop) (I : World → Prop) (L : List (Value → World → Prop)) (hI : I w) (hrel : ∀ w w', I w → rel w w' → I w') (hL : ∀ p ∈ L, Stable rel p) (hnd : (ds.map Prod.snd).Nodup)
    {l : List Oper} (hl : ops.toList = l) (hA : seqOk 0 A l = true) (hop : hopsS P ops Q a ds rel I (factAt L) 0 A l) (hend : ∀ u w, I w → allR (factAt L) u w 0 l.length → wpList P ops Q [] (mkAct a ds u) w) : (Code.region id ops false).wp P Q a w := by
  refine wp_region_list ?_
  rw [hl, mkAct_own a ds hnd]
  have key := wp_seq (P := P) (ops := ops) (Q := Q) (a := a) (ds := ds) (facts_stable hL) hrel l 0 A (ownU a ds) w hA (fun k hk => by omega) hI
  rw [← mkAct_own a ds hnd] at key ⊢
  refine key hop ?_
  intro u w hI hf
  exact hend u w hI (allR_of _ _ fun j h1 h2 => hf j h2)
end
/-- What an operation leaves; the frame as M tells. -/
def StM (Q : Exit → Act → World → Prop) (M : (Nat → Value) → Act) (rel : World → World → Prop) (R : Nat → Value → World → Prop) (u : Nat → Value) (i : Nat) (w : World) : Exit → Act → World → Prop
  | .normal, a', w' => ∃ v, a' = M (upd u i v) ∧ R i v w' ∧ rel w w'
  | e, a', w' => Q e a' w'
def hopsM (P : Program) (ops : Array Oper) (Q : Exit → Act → World → Prop) (M : (Nat → Value) → Act) (rel : World → World → Prop) (I : World → Prop) (R : Nat → Value → World → Prop) : Nat → List Oper → Prop
  | _, [] => True
  | i, o :: l => (∀ u w, I w → preds R u w o.after.toList → wpList P ops (StM Q M rel R u i w) [o] (M u) w) ∧ hopsM P ops Q M rel I R (i + 1) l
section
variable {P : Program} {ops : Array Oper} {Q : Exit → Act → World → Prop} {a : Act} {ds : List (Nat × Nat)} {rel : World → World → Prop} {I : World → Prop} {R : Nat → Value → World → Prop}
theorem hops_of : ∀ (l : List Oper) (i : Nat), hopsM P ops Q (mkAct a ds) rel I R i l → hops P ops Q a ds rel I R i l := by
  intro l
  induction l with
  | nil => intro i _; trivial
  | cons o l ih =>
    intro i h
    refine ⟨fun u w hI hp => ?_, ih _ h.2⟩
    have e : StM Q (mkAct a ds) rel R u i w = StQ Q a ds rel R u i w := by funext e; cases e <;> rfl
    rw [← e]
    exact h.1 u w hI hp
/-- Many operations: the frame is told once, and hidden. -/
theorem wp_region_lastM {id : Nat} {w : World} (hm : P.follows .mixedOrders = true) (ds : List (Nat × Nat)) (rel : World → World → Prop) (I : World → Prop) (L : List (Value → World → Prop))
    (hI : I w.drew) (hrel : ∀ w w', I w → rel w w' → I w') (hL : ∀ p ∈ L, Stable rel p) (hnd : (ds.map Prod.snd).Nodup) {l : List Oper} {o : Oper} (hl : ops.toList = l ++ [o]) (hord : ordOk ops = true) (hlast : lastOk l.length o = true)
    {E : (Nat → Value) → Act} (hE : ∀ u, mkAct a ds u = E u)
    (hop : ∀ M : (Nat → Value) → Act, (∀ u, M u = E u) → hopsM P ops Q M rel I (factAt L) 0 l)
    (hend : ∀ M : (Nat → Value) → Act, (∀ u, M u = E u) → ∀ u w, I w → allR (factAt L) u w 0 l.length → wpList P ops Q [o] (M u) w) : (Code.region id ops true).wp P Q a w :=
  wp_region_last hm ds rel I L hI hrel hL hnd hl hord hlast (hops_of _ _ (hop _ hE)) (hend _ hE)
theorem wpList_act {M E : (Nat → Value) → Act} (h : ∀ u, M u = E u) {l : List Oper} {u : Nat → Value} {w : World} (k : wpList P ops Q l (E u) w) : wpList P ops Q l (M u) w := by
  rw [h]
  exact k
theorem stm_v {M : (Nat → Value) → Act} {L : List (Value → World → Prop)} {u : Nat → Value} {i : Nat} {w w' : World} {a' : Act} {x : Value} (hx : factAt L i = isV x) (hr : rel w w') (ha : a' = M (upd u i x)) : StM Q M rel (factAt L) u i w .normal a' w' :=
  ⟨x, ha, by rw [hx]; rfl, hr⟩
theorem stm_x {M : (Nat → Value) → Act} {L : List (Value → World → Prop)} {u : Nat → Value} {i : Nat} {w w' : World} {a' : Act} (x : Value) {p : Value → World → Prop} (hx : factAt L i = p) (hp : p x w') (hr : rel w w') (ha : a' = M (upd u i x)) : StM Q M rel (factAt L) u i w .normal a' w' :=
  ⟨x, ha, by rw [hx]; exact hp, hr⟩
end
end Go.Proofs.Ytmacgmmjgdmleaa
namespace Go.Proofs.Ytmacgmmjgdmleaa
open Go Go.RowKit
set_option linter.unusedSimpArgs false
set_option linter.unusedVariables false
set_option maxRecDepth 100000

set_option maxRecDepth 100000 in
set_option maxHeartbeats 12800000 in
theorem slotSame_raw (a b : SlotV) (w : World) (ha : a.at w) (hb : b.at w) (E1 E2 E3 E4 E5 G2 G3 G4 G5 G6 G7 G8 G9 R : Bool) (o1 : (a.view == b.view) = E1) (o2 : (a.is == b.is) = E2) (o3 : (a.holds == b.holds) = E3) (o4 : (a.decided == b.decided) = E4) (o5 : (a.eslot == b.eslot) = E5)
    (hG2 : G2 = (E1 && E2)) (hG3 : G3 = (G2 && E3)) (hG4 : G4 = (G3 && E4)) (hG5 : G5 = (G4 && E5)) (hG6 : G6 = (G5 && batSame a.bat b.bat)) (hG7 : G7 = (G6 && batSame a.hbat b.hbat)) (hG8 : G8 = (G7 && batSame a.ebat b.ebat)) (hG9 : G9 = (G8 && CertV.same a.hcert b.hcert)) (hR : R = (G9 && CertV.same a.ecert b.ecert)) :
    Calls Try.prog 30 #[.agg a.cells.toArray, .agg b.cells.toArray] w fun e w' => e = .returned (.bool R) ∧ Same w w' := by
  have hwa := ha.wf
  have hwb := hb.wf
  have hinfA := Lib.hid (slot_info hwa)
  have hinfB := Lib.hid (slot_info hwb)
  have hS1 := Lib.hid (fun w h1 h2 => bsame_any a.bat b.bat w h1 h2)
  have hS2 := Lib.hid (fun w h1 h2 => bsame_any a.hbat b.hbat w h1 h2)
  have hS3 := Lib.hid (fun w h1 h2 => bsame_any a.ebat b.ebat w h1 h2)
  have hK1 := Lib.hid (fun w h1 h2 => certSame_any a.hcert b.hcert w h1 h2)
  have hK2 := Lib.hid (fun w h1 h2 => certSame_any a.ecert b.ecert w h1 h2)
  obtain ⟨B1, hB1⟩ : ∃ x, x = batSame a.bat b.bat := ⟨_, rfl⟩
  obtain ⟨B2, hB2⟩ : ∃ x, x = batSame a.hbat b.hbat := ⟨_, rfl⟩
  obtain ⟨B3, hB3⟩ : ∃ x, x = batSame a.ebat b.ebat := ⟨_, rfl⟩
  obtain ⟨C1, hC1⟩ : ∃ x, x = CertV.same a.hcert b.hcert := ⟨_, rfl⟩
  obtain ⟨C2, hC2⟩ : ∃ x, x = CertV.same a.ecert b.ecert := ⟨_, rfl⟩
  rw [← hB1] at hS1
  rw [← hB2] at hS2
  rw [← hB3] at hS3
  rw [← hC1] at hK1
  rw [← hC2] at hK2
  rw [← hB1] at hG6
  rw [← hB2] at hG7
  rw [← hB3] at hG8
  rw [← hC1] at hG9
  rw [← hC2] at hR
  clear hB1 hB2 hB3 hC1 hC2
  have fb := Lib.hid (bat_infoL a.bat)
  have fb' := Lib.hid (bat_infoL b.bat)
  have fh := Lib.hid (bat_infoL a.hbat)
  have fh' := Lib.hid (bat_infoL b.hbat)
  have fe := Lib.hid (bat_infoL a.ebat)
  have fe' := Lib.hid (bat_infoL b.ebat)
  have fc := Lib.hid (cert_infoL hwa.1)
  have fc' := Lib.hid (cert_infoL hwb.1)
  have fd := Lib.hid (cert_infoL hwa.2)
  have fd' := Lib.hid (cert_infoL hwb.2)
  have fH := Lib.hid (held_infoL (b := a.hbat) hwa.1)
  have fH' := Lib.hid (held_infoL (b := b.hbat) hwb.1)
  have fE := Lib.hid (ent_infoL (s := a.eslot) (b := a.ebat) hwa.2)
  have fE' := Lib.hid (ent_infoL (s := b.eslot) (b := b.ebat) hwb.2)
  replace hwa := Lib.hid hwa
  replace hwb := Lib.hid hwb
  replace ha := Lib.hid ha
  replace hb := Lib.hid hb
  replace o1 := Lib.hid o1
  replace o2 := Lib.hid o2
  replace o3 := Lib.hid o3
  replace o4 := Lib.hid o4
  replace o5 := Lib.hid o5
  replace hG2 := Lib.hid hG2
  replace hG3 := Lib.hid hG3
  replace hG4 := Lib.hid hG4
  replace hG5 := Lib.hid hG5
  replace hG6 := Lib.hid hG6
  replace hG7 := Lib.hid hG7
  replace hG8 := Lib.hid hG8
  replace hG9 := Lib.hid hG9
  replace hR := Lib.hid hR
  go_enter Try.func30, Try.ntmps30
  go_upto_region 1 with (first | (refine box_row rfl _ _ rfl a.cells.toArray rfl hinfA.out ?_; intro w0 hbx hs0; have hbxl := blk_lt hbx; replace hbx := Lib.hid hbx; replace hs0 := Lib.hid hs0) | (refine box_row rfl _ _ rfl b.cells.toArray rfl hinfB.out ?_; intro w1 hby hs1; replace hby := Lib.hid hby; replace hs1 := Lib.hid hs1))
  have hbx1 := Lib.hid (hs1.out.at hbx.out)
  have hw1 := Lib.hid (hs0.out.trans hs1.out)
  have c0 := Lib.hid (sl_view hbx1.out)
  have c3 := Lib.hid (sl_is hbx1.out)
  have c43 := Lib.hid (sl_holds hbx1.out hwa.out)
  have c84 := Lib.hid (sl_decided hbx1.out hwa.out)
  have c44 := Lib.hid (sl_eslot hbx1.out hwa.out)
  have d0 := Lib.hid (sl_view hby.out)
  have d3 := Lib.hid (sl_is hby.out)
  have d43 := Lib.hid (sl_holds hby.out hwb.out)
  have d84 := Lib.hid (sl_decided hby.out hwb.out)
  have d44 := Lib.hid (sl_eslot hby.out hwb.out)
  have rb := Lib.hid (sl_bat hbx1.out)
  have rb' := Lib.hid (sl_bat hby.out)
  have rh := Lib.hid (sl_hbat hbx1.out)
  have rh' := Lib.hid (sl_hbat hby.out)
  have re := Lib.hid (sl_ebat hbx1.out hwa.out)
  have re' := Lib.hid (sl_ebat hby.out hwb.out)
  have rc := Lib.hid (sl_hcert hbx1.out)
  have rc' := Lib.hid (sl_hcert hby.out)
  have rd := Lib.hid (sl_ecert hbx1.out hwa.out)
  have rd' := Lib.hid (sl_ecert hby.out hwb.out)
  have ha1 := Lib.hid (SlotV.same' ha.out hw1.out)
  have hb1 := Lib.hid (SlotV.same' hb.out hw1.out)
  clear hbx hs0 hs1
  refine wp_region_seq [(5, 0), (6, 1), (7, 2), (8, 3), (9, 4), (10, 5), (11, 6), (12, 7), (13, 8), (14, 9), (15, 10), (16, 11), (17, 12), (18, 13), (19, 14), (20, 15), (21, 16), (22, 17), (23, 18), (24, 19), (25, 20), (26, 21), (27, 22), (28, 23), (29, 24), (30, 25), (31, 26), (32, 27), (33, 28), (34, 29), (35, 30), (36, 31), (37, 32), (38, 33), (39, 34), (40, 35), (41, 36), (42, 37), (43, 38), (44, 39), (45, 40), (46, 41), (47, 42), (48, 43), (49, 44), (50, 45), (51, 46), (52, 47), (53, 48), (54, 49), (55, 50), (56, 51), (57, 52), (58, 53), (59, 54), (60, 55), (61, 56), (62, 57), (63, 58), (64, 59), (65, 60), (66, 61), (67, 62), (68, 63), (69, 64), (70, 65), (71, 66), (72, 67), (73, 68), (74, 69), (75, 70), (76, 71), (77, 72), (78, 73), (79, 74), (80, 75), (81, 76), (82, 77), (4, 78)] [[], [0], [], [2], [1, 3], [4], [5], [6, 5], [5], [8, 5], [7, 9, 5], [5, 10], [11], [12], [13, 12], [12], [15, 12], [14, 16, 12], [12, 17], [18], [19], [20, 19], [19], [22, 19], [21, 23, 19], [19, 24], [25], [26], [27, 26], [28, 26], [26], [30, 26], [31, 26], [29, 32, 26], [26, 33], [34], [35], [36, 35], [35], [38, 35], [37, 39, 35], [35, 40], [41], [42], [43, 42], [44, 42], [42], [46, 42], [47, 42], [45, 48, 42], [42, 49], [50], [51], [52, 51], [53, 51], [51], [55, 51], [56, 51], [54, 57, 51], [51, 58], [59], [60], [61, 60], [62, 60], [60], [64, 60], [65, 60], [63, 66, 60], [60, 67], [68], [69], [70, 69], [71, 69], [69], [73, 69], [74, 69], [72, 75, 69], [69, 76], [77]] Same (Same _) [isV (.pointer (some ⟨w.heap.size, 0, none⟩)), isV (.int .i64 a.view), isV (.pointer (some ⟨w0.heap.size, 0, none⟩)), isV (.int .i64 b.view), isV (.bool E1), isV (.bool E1), isV (cond E1 ((.pointer (some ⟨w.heap.size, 3, none⟩))) undef), isV (cond E1 ((.bool a.is)) undef), isV (cond E1 ((.pointer (some ⟨w0.heap.size, 3, none⟩))) undef), isV (cond E1 ((.bool b.is)) undef), isV (cond E1 ((.bool E2)) undef), isV (.bool G2), isV (.bool G2), isV (cond G2 ((.pointer (some ⟨w.heap.size, 43, none⟩))) undef), isV (cond G2 ((.bool a.holds)) undef), isV (cond G2 ((.pointer (some ⟨w0.heap.size, 43, none⟩))) undef), isV (cond G2 ((.bool b.holds)) undef), isV (cond G2 ((.bool E3)) undef), isV (.bool G3), isV (.bool G3), isV (cond G3 ((.pointer (some ⟨w.heap.size, 84, none⟩))) undef), isV (cond G3 ((.bool a.decided)) undef), isV (cond G3 ((.pointer (some ⟨w0.heap.size, 84, none⟩))) undef), isV (cond G3 ((.bool b.decided)) undef), isV (cond G3 ((.bool E4)) undef), isV (.bool G4), isV (.bool G4), isV (cond G4 ((.pointer (some ⟨w.heap.size, 44, none⟩))) undef), isV (cond G4 ((.pointer (some ⟨w.heap.size, 44, none⟩))) undef), isV (cond G4 ((.int .i64 a.eslot)) undef), isV (cond G4 ((.pointer (some ⟨w0.heap.size, 44, none⟩))) undef), isV (cond G4 ((.pointer (some ⟨w0.heap.size, 44, none⟩))) undef), isV (cond G4 ((.int .i64 b.eslot)) undef), isV (cond G4 ((.bool E5)) undef), isV (.bool G5), isV (.bool G5), isV (cond G5 ((.pointer (some ⟨w.heap.size, 1, none⟩))) undef), isV (cond G5 ((.agg a.bat.cells.toArray)) undef), isV (cond G5 ((.pointer (some ⟨w0.heap.size, 1, none⟩))) undef), isV (cond G5 ((.agg b.bat.cells.toArray)) undef), isV (cond G5 ((.bool B1)) undef), isV (.bool G6), isV (.bool G6), isV (cond G6 ((.pointer (some ⟨w.heap.size, 4, none⟩))) undef), isV (cond G6 ((.pointer (some ⟨w.heap.size, 4, none⟩))) undef), isV (cond G6 ((.agg a.hbat.cells.toArray)) undef), isV (cond G6 ((.pointer (some ⟨w0.heap.size, 4, none⟩))) undef), isV (cond G6 ((.pointer (some ⟨w0.heap.size, 4, none⟩))) undef), isV (cond G6 ((.agg b.hbat.cells.toArray)) undef), isV (cond G6 ((.bool B2)) undef), isV (.bool G7), isV (.bool G7), isV (cond G7 ((.pointer (some ⟨w.heap.size, 44, none⟩))) undef), isV (cond G7 ((.pointer (some ⟨w.heap.size, 45, none⟩))) undef), isV (cond G7 ((.agg a.ebat.cells.toArray)) undef), isV (cond G7 ((.pointer (some ⟨w0.heap.size, 44, none⟩))) undef), isV (cond G7 ((.pointer (some ⟨w0.heap.size, 45, none⟩))) undef), isV (cond G7 ((.agg b.ebat.cells.toArray)) undef), isV (cond G7 ((.bool B3)) undef), isV (.bool G8), isV (.bool G8), isV (cond G8 ((.pointer (some ⟨w.heap.size, 4, none⟩))) undef), isV (cond G8 ((.pointer (some ⟨w.heap.size, 6, none⟩))) undef), isV (cond G8 ((.agg a.hcert.cells.toArray)) undef), isV (cond G8 ((.pointer (some ⟨w0.heap.size, 4, none⟩))) undef), isV (cond G8 ((.pointer (some ⟨w0.heap.size, 6, none⟩))) undef), isV (cond G8 ((.agg b.hcert.cells.toArray)) undef), isV (cond G8 ((.bool C1)) undef), isV (.bool G9), isV (.bool G9), isV (cond G9 ((.pointer (some ⟨w.heap.size, 44, none⟩))) undef), isV (cond G9 ((.pointer (some ⟨w.heap.size, 47, none⟩))) undef), isV (cond G9 ((.agg a.ecert.cells.toArray)) undef), isV (cond G9 ((.pointer (some ⟨w0.heap.size, 44, none⟩))) undef), isV (cond G9 ((.pointer (some ⟨w0.heap.size, 47, none⟩))) undef), isV (cond G9 ((.agg b.ecert.cells.toArray)) undef), isV (cond G9 ((.bool C2)) undef), isV (.bool R), isV (.bool R)] Same.refl (fun _ _ h k => h.trans k) (by simp [isV_stable, isB_stable, isAny_stable]) (by decide +kernel) (l := [_, _, _, _, _, _, _, _, _, _, _, _, _, _, _, _, _, _, _, _, _, _, _, _, _, _, _, _, _, _, _, _, _, _, _, _, _, _, _, _, _, _, _, _, _, _, _, _, _, _, _, _, _, _, _, _, _, _, _, _, _, _, _, _, _, _, _, _, _, _, _, _, _, _, _, _, _, _, _]) rfl (by kernel_rfl) ?_ ?_
  · refine ⟨?_, ?_, ?_, ?_, ?_, ?_, ?_, ?_, ?_, ?_, ?_, ?_, ?_, ?_, ?_, ?_, ?_, ?_, ?_, ?_, ?_, ?_, ?_, ?_, ?_, ?_, ?_, ?_, ?_, ?_, ?_, ?_, ?_, ?_, ?_, ?_, ?_, ?_, ?_, ?_, ?_, ?_, ?_, ?_, ?_, ?_, ?_, ?_, ?_, ?_, ?_, ?_, ?_, ?_, ?_, ?_, ?_, ?_, ?_, ?_, ?_, ?_, ?_, ?_, ?_, ?_, ?_, ?_, ?_, ?_, ?_, ?_, ?_, ?_, ?_, ?_, ?_, ?_, ?_, trivial⟩
    all_goals (intro u wx hI hp; simp only [mkAct, List.foldl_cons, List.foldl_nil, List.setIfInBounds_toArray, List.set_cons_succ, List.set_cons_zero])
    · -- operation 0
      go_wp2
      refine stq_v rfl Same.refl ?_
      first | (simp only [mkAct, List.foldl_cons, List.foldl_nil, List.setIfInBounds_toArray, List.set_cons_succ, List.set_cons_zero, upd, reduceIte, Nat.reduceEqDiff, Nat.reduceAdd, str]; done) | (simp [mkAct, upd, str, *]; done)
    · -- operation 1
      obtain ⟨f0, -⟩ := hp
      replace f0 : u 0 = (.pointer (some ⟨w.heap.size, 0, none⟩)) := f0
      try simp only [f0, str]
      have cx := hI.cell (c0.out)
      go_wp2
      refine stq_v rfl Same.refl ?_
      first | (simp only [mkAct, List.foldl_cons, List.foldl_nil, List.setIfInBounds_toArray, List.set_cons_succ, List.set_cons_zero, upd, reduceIte, Nat.reduceEqDiff, Nat.reduceAdd, f0, str]; done) | (simp [mkAct, upd, f0, str, *]; done)
    · -- operation 2
      go_wp2
      refine stq_v rfl Same.refl ?_
      first | (simp only [mkAct, List.foldl_cons, List.foldl_nil, List.setIfInBounds_toArray, List.set_cons_succ, List.set_cons_zero, upd, reduceIte, Nat.reduceEqDiff, Nat.reduceAdd, str]; done) | (simp [mkAct, upd, str, *]; done)
    · -- operation 3
      obtain ⟨f2, -⟩ := hp
      replace f2 : u 2 = (.pointer (some ⟨w0.heap.size, 0, none⟩)) := f2
      try simp only [f2, str]
      have cx := hI.cell (d0.out)
      go_wp2
      refine stq_v rfl Same.refl ?_
      first | (simp only [mkAct, List.foldl_cons, List.foldl_nil, List.setIfInBounds_toArray, List.set_cons_succ, List.set_cons_zero, upd, reduceIte, Nat.reduceEqDiff, Nat.reduceAdd, f2, str]; done) | (simp [mkAct, upd, f2, str, *]; done)
    · -- operation 4
      obtain ⟨f1, f3, -⟩ := hp
      replace f1 : u 1 = (.int .i64 a.view) := f1
      replace f3 : u 3 = (.int .i64 b.view) := f3
      try simp only [f1, f3, str]
      have q := o1.out
      go_wp2
      refine stq_v rfl Same.refl ?_
      first | (simp only [mkAct, List.foldl_cons, List.foldl_nil, List.setIfInBounds_toArray, List.set_cons_succ, List.set_cons_zero, upd, reduceIte, Nat.reduceEqDiff, Nat.reduceAdd, f1, f3, str]; done) | (simp [mkAct, upd, f1, f3, str, *]; done)
    · -- operation 5
      obtain ⟨f4, -⟩ := hp
      replace f4 : u 4 = (.bool E1) := f4
      try simp only [f4, str]
      go_wp2
      refine stq_v rfl Same.refl ?_
      first | (simp only [mkAct, List.foldl_cons, List.foldl_nil, List.setIfInBounds_toArray, List.set_cons_succ, List.set_cons_zero, upd, reduceIte, Nat.reduceEqDiff, Nat.reduceAdd, f4, str]; done) | (simp [mkAct, upd, f4, str, *]; done)
    · -- operation 6
      obtain ⟨f5, -⟩ := hp
      replace f5 : u 5 = (.bool E1) := f5
      cases E1
      · go_wp2
        refine stq_v rfl Same.refl ?_
        first | (simp only [mkAct, List.foldl_cons, List.foldl_nil, List.setIfInBounds_toArray, List.set_cons_succ, List.set_cons_zero, upd, reduceIte, Nat.reduceEqDiff, Nat.reduceAdd, f5, str]; done) | (simp [mkAct, upd, f5, str, *]; done)
      · try simp only [f5, str]
        go_wp2
        refine stq_v rfl Same.refl ?_
        first | (simp only [mkAct, List.foldl_cons, List.foldl_nil, List.setIfInBounds_toArray, List.set_cons_succ, List.set_cons_zero, upd, reduceIte, Nat.reduceEqDiff, Nat.reduceAdd, f5, str]; done) | (simp [mkAct, upd, f5, str, *]; done)
    · -- operation 7
      obtain ⟨f6, f5, -⟩ := hp
      replace f6 : u 6 = (cond E1 ((.pointer (some ⟨w.heap.size, 3, none⟩))) undef) := f6
      replace f5 : u 5 = (.bool E1) := f5
      cases E1
      · go_wp2
        refine stq_v rfl Same.refl ?_
        first | (simp only [mkAct, List.foldl_cons, List.foldl_nil, List.setIfInBounds_toArray, List.set_cons_succ, List.set_cons_zero, upd, reduceIte, Nat.reduceEqDiff, Nat.reduceAdd, f6, f5, str]; done) | (simp [mkAct, upd, f6, f5, str, *]; done)
      · try simp only [cond_true, cond_false] at f6
        try simp only [f6, f5, str]
        have cx := hI.cell (c3.out)
        go_wp2
        refine stq_v rfl Same.refl ?_
        first | (simp only [mkAct, List.foldl_cons, List.foldl_nil, List.setIfInBounds_toArray, List.set_cons_succ, List.set_cons_zero, upd, reduceIte, Nat.reduceEqDiff, Nat.reduceAdd, f6, f5, str]; done) | (simp [mkAct, upd, f6, f5, str, *]; done)
    · -- operation 8
      obtain ⟨f5, -⟩ := hp
      replace f5 : u 5 = (.bool E1) := f5
      cases E1
      · go_wp2
        refine stq_v rfl Same.refl ?_
        first | (simp only [mkAct, List.foldl_cons, List.foldl_nil, List.setIfInBounds_toArray, List.set_cons_succ, List.set_cons_zero, upd, reduceIte, Nat.reduceEqDiff, Nat.reduceAdd, f5, str]; done) | (simp [mkAct, upd, f5, str, *]; done)
      · try simp only [f5, str]
        go_wp2
        refine stq_v rfl Same.refl ?_
        first | (simp only [mkAct, List.foldl_cons, List.foldl_nil, List.setIfInBounds_toArray, List.set_cons_succ, List.set_cons_zero, upd, reduceIte, Nat.reduceEqDiff, Nat.reduceAdd, f5, str]; done) | (simp [mkAct, upd, f5, str, *]; done)
    · -- operation 9
      obtain ⟨f8, f5, -⟩ := hp
      replace f8 : u 8 = (cond E1 ((.pointer (some ⟨w0.heap.size, 3, none⟩))) undef) := f8
      replace f5 : u 5 = (.bool E1) := f5
      cases E1
      · go_wp2
        refine stq_v rfl Same.refl ?_
        first | (simp only [mkAct, List.foldl_cons, List.foldl_nil, List.setIfInBounds_toArray, List.set_cons_succ, List.set_cons_zero, upd, reduceIte, Nat.reduceEqDiff, Nat.reduceAdd, f8, f5, str]; done) | (simp [mkAct, upd, f8, f5, str, *]; done)
      · try simp only [cond_true, cond_false] at f8
        try simp only [f8, f5, str]
        have cx := hI.cell (d3.out)
        go_wp2
        refine stq_v rfl Same.refl ?_
        first | (simp only [mkAct, List.foldl_cons, List.foldl_nil, List.setIfInBounds_toArray, List.set_cons_succ, List.set_cons_zero, upd, reduceIte, Nat.reduceEqDiff, Nat.reduceAdd, f8, f5, str]; done) | (simp [mkAct, upd, f8, f5, str, *]; done)
    · -- operation 10
      obtain ⟨f7, f9, f5, -⟩ := hp
      replace f7 : u 7 = (cond E1 ((.bool a.is)) undef) := f7
      replace f9 : u 9 = (cond E1 ((.bool b.is)) undef) := f9
      replace f5 : u 5 = (.bool E1) := f5
      cases E1
      · go_wp2
        refine stq_v rfl Same.refl ?_
        first | (simp only [mkAct, List.foldl_cons, List.foldl_nil, List.setIfInBounds_toArray, List.set_cons_succ, List.set_cons_zero, upd, reduceIte, Nat.reduceEqDiff, Nat.reduceAdd, f7, f9, f5, str]; done) | (simp [mkAct, upd, f7, f9, f5, str, *]; done)
      · try simp only [cond_true, cond_false] at f7 f9
        try simp only [f7, f9, f5, str]
        have q := o2.out
        go_wp2
        refine stq_v rfl Same.refl ?_
        first | (simp only [mkAct, List.foldl_cons, List.foldl_nil, List.setIfInBounds_toArray, List.set_cons_succ, List.set_cons_zero, upd, reduceIte, Nat.reduceEqDiff, Nat.reduceAdd, f7, f9, f5, str]; done) | (simp [mkAct, upd, f7, f9, f5, str, *]; done)
    · -- operation 11
      obtain ⟨f5, f10, -⟩ := hp
      replace f5 : u 5 = (.bool E1) := f5
      replace f10 : u 10 = (cond E1 ((.bool E2)) undef) := f10
      have hpk := hG2.out
      cases E1
      · simp only [Bool.false_and, Bool.true_and, Bool.false_or, Bool.true_or] at hpk
        subst hpk
        try simp only [cond_true, cond_false] at f10
        try simp only [f5, f10, str]
        go_wp2
        refine stq_v rfl Same.refl ?_
        first | (simp only [mkAct, List.foldl_cons, List.foldl_nil, List.setIfInBounds_toArray, List.set_cons_succ, List.set_cons_zero, upd, reduceIte, Nat.reduceEqDiff, Nat.reduceAdd, f5, f10, str]; done) | (simp [mkAct, upd, f5, f10, str, *]; done)
      · simp only [Bool.false_and, Bool.true_and, Bool.false_or, Bool.true_or] at hpk
        subst hpk
        try simp only [cond_true, cond_false] at f10
        try simp only [f5, f10, str]
        go_wp2
        refine stq_v rfl Same.refl ?_
        first | (simp only [mkAct, List.foldl_cons, List.foldl_nil, List.setIfInBounds_toArray, List.set_cons_succ, List.set_cons_zero, upd, reduceIte, Nat.reduceEqDiff, Nat.reduceAdd, f5, f10, str]; done) | (simp [mkAct, upd, f5, f10, str, *]; done)
    · -- operation 12
      obtain ⟨f11, -⟩ := hp
      replace f11 : u 11 = (.bool G2) := f11
      try simp only [f11, str]
      go_wp2
      refine stq_v rfl Same.refl ?_
      first | (simp only [mkAct, List.foldl_cons, List.foldl_nil, List.setIfInBounds_toArray, List.set_cons_succ, List.set_cons_zero, upd, reduceIte, Nat.reduceEqDiff, Nat.reduceAdd, f11, str]; done) | (simp [mkAct, upd, f11, str, *]; done)
    · -- operation 13
      obtain ⟨f12, -⟩ := hp
      replace f12 : u 12 = (.bool G2) := f12
      cases G2
      · go_wp2
        refine stq_v rfl Same.refl ?_
        first | (simp only [mkAct, List.foldl_cons, List.foldl_nil, List.setIfInBounds_toArray, List.set_cons_succ, List.set_cons_zero, upd, reduceIte, Nat.reduceEqDiff, Nat.reduceAdd, f12, str]; done) | (simp [mkAct, upd, f12, str, *]; done)
      · try simp only [f12, str]
        go_wp2
        refine stq_v rfl Same.refl ?_
        first | (simp only [mkAct, List.foldl_cons, List.foldl_nil, List.setIfInBounds_toArray, List.set_cons_succ, List.set_cons_zero, upd, reduceIte, Nat.reduceEqDiff, Nat.reduceAdd, f12, str]; done) | (simp [mkAct, upd, f12, str, *]; done)
    · -- operation 14
      obtain ⟨f13, f12, -⟩ := hp
      replace f13 : u 13 = (cond G2 ((.pointer (some ⟨w.heap.size, 43, none⟩))) undef) := f13
      replace f12 : u 12 = (.bool G2) := f12
      cases G2
      · go_wp2
        refine stq_v rfl Same.refl ?_
        first | (simp only [mkAct, List.foldl_cons, List.foldl_nil, List.setIfInBounds_toArray, List.set_cons_succ, List.set_cons_zero, upd, reduceIte, Nat.reduceEqDiff, Nat.reduceAdd, f13, f12, str]; done) | (simp [mkAct, upd, f13, f12, str, *]; done)
      · try simp only [cond_true, cond_false] at f13
        try simp only [f13, f12, str]
        have cx := hI.cell (c43.out)
        go_wp2
        refine stq_v rfl Same.refl ?_
        first | (simp only [mkAct, List.foldl_cons, List.foldl_nil, List.setIfInBounds_toArray, List.set_cons_succ, List.set_cons_zero, upd, reduceIte, Nat.reduceEqDiff, Nat.reduceAdd, f13, f12, str]; done) | (simp [mkAct, upd, f13, f12, str, *]; done)
    · -- operation 15
      obtain ⟨f12, -⟩ := hp
      replace f12 : u 12 = (.bool G2) := f12
      cases G2
      · go_wp2
        refine stq_v rfl Same.refl ?_
        first | (simp only [mkAct, List.foldl_cons, List.foldl_nil, List.setIfInBounds_toArray, List.set_cons_succ, List.set_cons_zero, upd, reduceIte, Nat.reduceEqDiff, Nat.reduceAdd, f12, str]; done) | (simp [mkAct, upd, f12, str, *]; done)
      · try simp only [f12, str]
        go_wp2
        refine stq_v rfl Same.refl ?_
        first | (simp only [mkAct, List.foldl_cons, List.foldl_nil, List.setIfInBounds_toArray, List.set_cons_succ, List.set_cons_zero, upd, reduceIte, Nat.reduceEqDiff, Nat.reduceAdd, f12, str]; done) | (simp [mkAct, upd, f12, str, *]; done)
    · -- operation 16
      obtain ⟨f15, f12, -⟩ := hp
      replace f15 : u 15 = (cond G2 ((.pointer (some ⟨w0.heap.size, 43, none⟩))) undef) := f15
      replace f12 : u 12 = (.bool G2) := f12
      cases G2
      · go_wp2
        refine stq_v rfl Same.refl ?_
        first | (simp only [mkAct, List.foldl_cons, List.foldl_nil, List.setIfInBounds_toArray, List.set_cons_succ, List.set_cons_zero, upd, reduceIte, Nat.reduceEqDiff, Nat.reduceAdd, f15, f12, str]; done) | (simp [mkAct, upd, f15, f12, str, *]; done)
      · try simp only [cond_true, cond_false] at f15
        try simp only [f15, f12, str]
        have cx := hI.cell (d43.out)
        go_wp2
        refine stq_v rfl Same.refl ?_
        first | (simp only [mkAct, List.foldl_cons, List.foldl_nil, List.setIfInBounds_toArray, List.set_cons_succ, List.set_cons_zero, upd, reduceIte, Nat.reduceEqDiff, Nat.reduceAdd, f15, f12, str]; done) | (simp [mkAct, upd, f15, f12, str, *]; done)
    · -- operation 17
      obtain ⟨f14, f16, f12, -⟩ := hp
      replace f14 : u 14 = (cond G2 ((.bool a.holds)) undef) := f14
      replace f16 : u 16 = (cond G2 ((.bool b.holds)) undef) := f16
      replace f12 : u 12 = (.bool G2) := f12
      cases G2
      · go_wp2
        refine stq_v rfl Same.refl ?_
        first | (simp only [mkAct, List.foldl_cons, List.foldl_nil, List.setIfInBounds_toArray, List.set_cons_succ, List.set_cons_zero, upd, reduceIte, Nat.reduceEqDiff, Nat.reduceAdd, f14, f16, f12, str]; done) | (simp [mkAct, upd, f14, f16, f12, str, *]; done)
      · try simp only [cond_true, cond_false] at f14 f16
        try simp only [f14, f16, f12, str]
        have q := o3.out
        go_wp2
        refine stq_v rfl Same.refl ?_
        first | (simp only [mkAct, List.foldl_cons, List.foldl_nil, List.setIfInBounds_toArray, List.set_cons_succ, List.set_cons_zero, upd, reduceIte, Nat.reduceEqDiff, Nat.reduceAdd, f14, f16, f12, str]; done) | (simp [mkAct, upd, f14, f16, f12, str, *]; done)
    · -- operation 18
      obtain ⟨f12, f17, -⟩ := hp
      replace f12 : u 12 = (.bool G2) := f12
      replace f17 : u 17 = (cond G2 ((.bool E3)) undef) := f17
      have hpk := hG3.out
      cases G2
      · simp only [Bool.false_and, Bool.true_and, Bool.false_or, Bool.true_or] at hpk
        subst hpk
        try simp only [cond_true, cond_false] at f17
        try simp only [f12, f17, str]
        go_wp2
        refine stq_v rfl Same.refl ?_
        first | (simp only [mkAct, List.foldl_cons, List.foldl_nil, List.setIfInBounds_toArray, List.set_cons_succ, List.set_cons_zero, upd, reduceIte, Nat.reduceEqDiff, Nat.reduceAdd, f12, f17, str]; done) | (simp [mkAct, upd, f12, f17, str, *]; done)
      · simp only [Bool.false_and, Bool.true_and, Bool.false_or, Bool.true_or] at hpk
        subst hpk
        try simp only [cond_true, cond_false] at f17
        try simp only [f12, f17, str]
        go_wp2
        refine stq_v rfl Same.refl ?_
        first | (simp only [mkAct, List.foldl_cons, List.foldl_nil, List.setIfInBounds_toArray, List.set_cons_succ, List.set_cons_zero, upd, reduceIte, Nat.reduceEqDiff, Nat.reduceAdd, f12, f17, str]; done) | (simp [mkAct, upd, f12, f17, str, *]; done)
    · -- operation 19
      obtain ⟨f18, -⟩ := hp
      replace f18 : u 18 = (.bool G3) := f18
      try simp only [f18, str]
      go_wp2
      refine stq_v rfl Same.refl ?_
      first | (simp only [mkAct, List.foldl_cons, List.foldl_nil, List.setIfInBounds_toArray, List.set_cons_succ, List.set_cons_zero, upd, reduceIte, Nat.reduceEqDiff, Nat.reduceAdd, f18, str]; done) | (simp [mkAct, upd, f18, str, *]; done)
    · -- operation 20
      obtain ⟨f19, -⟩ := hp
      replace f19 : u 19 = (.bool G3) := f19
      cases G3
      · go_wp2
        refine stq_v rfl Same.refl ?_
        first | (simp only [mkAct, List.foldl_cons, List.foldl_nil, List.setIfInBounds_toArray, List.set_cons_succ, List.set_cons_zero, upd, reduceIte, Nat.reduceEqDiff, Nat.reduceAdd, f19, str]; done) | (simp [mkAct, upd, f19, str, *]; done)
      · try simp only [f19, str]
        go_wp2
        refine stq_v rfl Same.refl ?_
        first | (simp only [mkAct, List.foldl_cons, List.foldl_nil, List.setIfInBounds_toArray, List.set_cons_succ, List.set_cons_zero, upd, reduceIte, Nat.reduceEqDiff, Nat.reduceAdd, f19, str]; done) | (simp [mkAct, upd, f19, str, *]; done)
    · -- operation 21
      obtain ⟨f20, f19, -⟩ := hp
      replace f20 : u 20 = (cond G3 ((.pointer (some ⟨w.heap.size, 84, none⟩))) undef) := f20
      replace f19 : u 19 = (.bool G3) := f19
      cases G3
      · go_wp2
        refine stq_v rfl Same.refl ?_
        first | (simp only [mkAct, List.foldl_cons, List.foldl_nil, List.setIfInBounds_toArray, List.set_cons_succ, List.set_cons_zero, upd, reduceIte, Nat.reduceEqDiff, Nat.reduceAdd, f20, f19, str]; done) | (simp [mkAct, upd, f20, f19, str, *]; done)
      · try simp only [cond_true, cond_false] at f20
        try simp only [f20, f19, str]
        have cx := hI.cell (c84.out)
        go_wp2
        refine stq_v rfl Same.refl ?_
        first | (simp only [mkAct, List.foldl_cons, List.foldl_nil, List.setIfInBounds_toArray, List.set_cons_succ, List.set_cons_zero, upd, reduceIte, Nat.reduceEqDiff, Nat.reduceAdd, f20, f19, str]; done) | (simp [mkAct, upd, f20, f19, str, *]; done)
    · -- operation 22
      obtain ⟨f19, -⟩ := hp
      replace f19 : u 19 = (.bool G3) := f19
      cases G3
      · go_wp2
        refine stq_v rfl Same.refl ?_
        first | (simp only [mkAct, List.foldl_cons, List.foldl_nil, List.setIfInBounds_toArray, List.set_cons_succ, List.set_cons_zero, upd, reduceIte, Nat.reduceEqDiff, Nat.reduceAdd, f19, str]; done) | (simp [mkAct, upd, f19, str, *]; done)
      · try simp only [f19, str]
        go_wp2
        refine stq_v rfl Same.refl ?_
        first | (simp only [mkAct, List.foldl_cons, List.foldl_nil, List.setIfInBounds_toArray, List.set_cons_succ, List.set_cons_zero, upd, reduceIte, Nat.reduceEqDiff, Nat.reduceAdd, f19, str]; done) | (simp [mkAct, upd, f19, str, *]; done)
    · -- operation 23
      obtain ⟨f22, f19, -⟩ := hp
      replace f22 : u 22 = (cond G3 ((.pointer (some ⟨w0.heap.size, 84, none⟩))) undef) := f22
      replace f19 : u 19 = (.bool G3) := f19
      cases G3
      · go_wp2
        refine stq_v rfl Same.refl ?_
        first | (simp only [mkAct, List.foldl_cons, List.foldl_nil, List.setIfInBounds_toArray, List.set_cons_succ, List.set_cons_zero, upd, reduceIte, Nat.reduceEqDiff, Nat.reduceAdd, f22, f19, str]; done) | (simp [mkAct, upd, f22, f19, str, *]; done)
      · try simp only [cond_true, cond_false] at f22
        try simp only [f22, f19, str]
        have cx := hI.cell (d84.out)
        go_wp2
        refine stq_v rfl Same.refl ?_
        first | (simp only [mkAct, List.foldl_cons, List.foldl_nil, List.setIfInBounds_toArray, List.set_cons_succ, List.set_cons_zero, upd, reduceIte, Nat.reduceEqDiff, Nat.reduceAdd, f22, f19, str]; done) | (simp [mkAct, upd, f22, f19, str, *]; done)
    · -- operation 24
      obtain ⟨f21, f23, f19, -⟩ := hp
      replace f21 : u 21 = (cond G3 ((.bool a.decided)) undef) := f21
      replace f23 : u 23 = (cond G3 ((.bool b.decided)) undef) := f23
      replace f19 : u 19 = (.bool G3) := f19
      cases G3
      · go_wp2
        refine stq_v rfl Same.refl ?_
        first | (simp only [mkAct, List.foldl_cons, List.foldl_nil, List.setIfInBounds_toArray, List.set_cons_succ, List.set_cons_zero, upd, reduceIte, Nat.reduceEqDiff, Nat.reduceAdd, f21, f23, f19, str]; done) | (simp [mkAct, upd, f21, f23, f19, str, *]; done)
      · try simp only [cond_true, cond_false] at f21 f23
        try simp only [f21, f23, f19, str]
        have q := o4.out
        go_wp2
        refine stq_v rfl Same.refl ?_
        first | (simp only [mkAct, List.foldl_cons, List.foldl_nil, List.setIfInBounds_toArray, List.set_cons_succ, List.set_cons_zero, upd, reduceIte, Nat.reduceEqDiff, Nat.reduceAdd, f21, f23, f19, str]; done) | (simp [mkAct, upd, f21, f23, f19, str, *]; done)
    · -- operation 25
      obtain ⟨f19, f24, -⟩ := hp
      replace f19 : u 19 = (.bool G3) := f19
      replace f24 : u 24 = (cond G3 ((.bool E4)) undef) := f24
      have hpk := hG4.out
      cases G3
      · simp only [Bool.false_and, Bool.true_and, Bool.false_or, Bool.true_or] at hpk
        subst hpk
        try simp only [cond_true, cond_false] at f24
        try simp only [f19, f24, str]
        go_wp2
        refine stq_v rfl Same.refl ?_
        first | (simp only [mkAct, List.foldl_cons, List.foldl_nil, List.setIfInBounds_toArray, List.set_cons_succ, List.set_cons_zero, upd, reduceIte, Nat.reduceEqDiff, Nat.reduceAdd, f19, f24, str]; done) | (simp [mkAct, upd, f19, f24, str, *]; done)
      · simp only [Bool.false_and, Bool.true_and, Bool.false_or, Bool.true_or] at hpk
        subst hpk
        try simp only [cond_true, cond_false] at f24
        try simp only [f19, f24, str]
        go_wp2
        refine stq_v rfl Same.refl ?_
        first | (simp only [mkAct, List.foldl_cons, List.foldl_nil, List.setIfInBounds_toArray, List.set_cons_succ, List.set_cons_zero, upd, reduceIte, Nat.reduceEqDiff, Nat.reduceAdd, f19, f24, str]; done) | (simp [mkAct, upd, f19, f24, str, *]; done)
    · -- operation 26
      obtain ⟨f25, -⟩ := hp
      replace f25 : u 25 = (.bool G4) := f25
      try simp only [f25, str]
      go_wp2
      refine stq_v rfl Same.refl ?_
      first | (simp only [mkAct, List.foldl_cons, List.foldl_nil, List.setIfInBounds_toArray, List.set_cons_succ, List.set_cons_zero, upd, reduceIte, Nat.reduceEqDiff, Nat.reduceAdd, f25, str]; done) | (simp [mkAct, upd, f25, str, *]; done)
    · -- operation 27
      obtain ⟨f26, -⟩ := hp
      replace f26 : u 26 = (.bool G4) := f26
      cases G4
      · go_wp2
        refine stq_v rfl Same.refl ?_
        first | (simp only [mkAct, List.foldl_cons, List.foldl_nil, List.setIfInBounds_toArray, List.set_cons_succ, List.set_cons_zero, upd, reduceIte, Nat.reduceEqDiff, Nat.reduceAdd, f26, str]; done) | (simp [mkAct, upd, f26, str, *]; done)
      · try simp only [f26, str]
        go_wp2
        refine stq_v rfl Same.refl ?_
        first | (simp only [mkAct, List.foldl_cons, List.foldl_nil, List.setIfInBounds_toArray, List.set_cons_succ, List.set_cons_zero, upd, reduceIte, Nat.reduceEqDiff, Nat.reduceAdd, f26, str]; done) | (simp [mkAct, upd, f26, str, *]; done)
    · -- operation 28
      obtain ⟨f27, f26, -⟩ := hp
      replace f27 : u 27 = (cond G4 ((.pointer (some ⟨w.heap.size, 44, none⟩))) undef) := f27
      replace f26 : u 26 = (.bool G4) := f26
      cases G4
      · go_wp2
        refine stq_v rfl Same.refl ?_
        first | (simp only [mkAct, List.foldl_cons, List.foldl_nil, List.setIfInBounds_toArray, List.set_cons_succ, List.set_cons_zero, upd, reduceIte, Nat.reduceEqDiff, Nat.reduceAdd, f27, f26, str]; done) | (simp [mkAct, upd, f27, f26, str, *]; done)
      · try simp only [cond_true, cond_false] at f27
        try simp only [f27, f26, str]
        go_wp2
        refine stq_v rfl Same.refl ?_
        first | (simp only [mkAct, List.foldl_cons, List.foldl_nil, List.setIfInBounds_toArray, List.set_cons_succ, List.set_cons_zero, upd, reduceIte, Nat.reduceEqDiff, Nat.reduceAdd, f27, f26, str]; done) | (simp [mkAct, upd, f27, f26, str, *]; done)
    · -- operation 29
      obtain ⟨f28, f26, -⟩ := hp
      replace f28 : u 28 = (cond G4 ((.pointer (some ⟨w.heap.size, 44, none⟩))) undef) := f28
      replace f26 : u 26 = (.bool G4) := f26
      cases G4
      · go_wp2
        refine stq_v rfl Same.refl ?_
        first | (simp only [mkAct, List.foldl_cons, List.foldl_nil, List.setIfInBounds_toArray, List.set_cons_succ, List.set_cons_zero, upd, reduceIte, Nat.reduceEqDiff, Nat.reduceAdd, f28, f26, str]; done) | (simp [mkAct, upd, f28, f26, str, *]; done)
      · try simp only [cond_true, cond_false] at f28
        try simp only [f28, f26, str]
        have cx := hI.cell (c44.out)
        go_wp2
        refine stq_v rfl Same.refl ?_
        first | (simp only [mkAct, List.foldl_cons, List.foldl_nil, List.setIfInBounds_toArray, List.set_cons_succ, List.set_cons_zero, upd, reduceIte, Nat.reduceEqDiff, Nat.reduceAdd, f28, f26, str]; done) | (simp [mkAct, upd, f28, f26, str, *]; done)
    · -- operation 30
      obtain ⟨f26, -⟩ := hp
      replace f26 : u 26 = (.bool G4) := f26
      cases G4
      · go_wp2
        refine stq_v rfl Same.refl ?_
        first | (simp only [mkAct, List.foldl_cons, List.foldl_nil, List.setIfInBounds_toArray, List.set_cons_succ, List.set_cons_zero, upd, reduceIte, Nat.reduceEqDiff, Nat.reduceAdd, f26, str]; done) | (simp [mkAct, upd, f26, str, *]; done)
      · try simp only [f26, str]
        go_wp2
        refine stq_v rfl Same.refl ?_
        first | (simp only [mkAct, List.foldl_cons, List.foldl_nil, List.setIfInBounds_toArray, List.set_cons_succ, List.set_cons_zero, upd, reduceIte, Nat.reduceEqDiff, Nat.reduceAdd, f26, str]; done) | (simp [mkAct, upd, f26, str, *]; done)
    · -- operation 31
      obtain ⟨f30, f26, -⟩ := hp
      replace f30 : u 30 = (cond G4 ((.pointer (some ⟨w0.heap.size, 44, none⟩))) undef) := f30
      replace f26 : u 26 = (.bool G4) := f26
      cases G4
      · go_wp2
        refine stq_v rfl Same.refl ?_
        first | (simp only [mkAct, List.foldl_cons, List.foldl_nil, List.setIfInBounds_toArray, List.set_cons_succ, List.set_cons_zero, upd, reduceIte, Nat.reduceEqDiff, Nat.reduceAdd, f30, f26, str]; done) | (simp [mkAct, upd, f30, f26, str, *]; done)
      · try simp only [cond_true, cond_false] at f30
        try simp only [f30, f26, str]
        go_wp2
        refine stq_v rfl Same.refl ?_
        first | (simp only [mkAct, List.foldl_cons, List.foldl_nil, List.setIfInBounds_toArray, List.set_cons_succ, List.set_cons_zero, upd, reduceIte, Nat.reduceEqDiff, Nat.reduceAdd, f30, f26, str]; done) | (simp [mkAct, upd, f30, f26, str, *]; done)
    · -- operation 32
      obtain ⟨f31, f26, -⟩ := hp
      replace f31 : u 31 = (cond G4 ((.pointer (some ⟨w0.heap.size, 44, none⟩))) undef) := f31
      replace f26 : u 26 = (.bool G4) := f26
      cases G4
      · go_wp2
        refine stq_v rfl Same.refl ?_
        first | (simp only [mkAct, List.foldl_cons, List.foldl_nil, List.setIfInBounds_toArray, List.set_cons_succ, List.set_cons_zero, upd, reduceIte, Nat.reduceEqDiff, Nat.reduceAdd, f31, f26, str]; done) | (simp [mkAct, upd, f31, f26, str, *]; done)
      · try simp only [cond_true, cond_false] at f31
        try simp only [f31, f26, str]
        have cx := hI.cell (d44.out)
        go_wp2
        refine stq_v rfl Same.refl ?_
        first | (simp only [mkAct, List.foldl_cons, List.foldl_nil, List.setIfInBounds_toArray, List.set_cons_succ, List.set_cons_zero, upd, reduceIte, Nat.reduceEqDiff, Nat.reduceAdd, f31, f26, str]; done) | (simp [mkAct, upd, f31, f26, str, *]; done)
    · -- operation 33
      obtain ⟨f29, f32, f26, -⟩ := hp
      replace f29 : u 29 = (cond G4 ((.int .i64 a.eslot)) undef) := f29
      replace f32 : u 32 = (cond G4 ((.int .i64 b.eslot)) undef) := f32
      replace f26 : u 26 = (.bool G4) := f26
      cases G4
      · go_wp2
        refine stq_v rfl Same.refl ?_
        first | (simp only [mkAct, List.foldl_cons, List.foldl_nil, List.setIfInBounds_toArray, List.set_cons_succ, List.set_cons_zero, upd, reduceIte, Nat.reduceEqDiff, Nat.reduceAdd, f29, f32, f26, str]; done) | (simp [mkAct, upd, f29, f32, f26, str, *]; done)
      · try simp only [cond_true, cond_false] at f29 f32
        try simp only [f29, f32, f26, str]
        have q := o5.out
        go_wp2
        refine stq_v rfl Same.refl ?_
        first | (simp only [mkAct, List.foldl_cons, List.foldl_nil, List.setIfInBounds_toArray, List.set_cons_succ, List.set_cons_zero, upd, reduceIte, Nat.reduceEqDiff, Nat.reduceAdd, f29, f32, f26, str]; done) | (simp [mkAct, upd, f29, f32, f26, str, *]; done)
    · -- operation 34
      obtain ⟨f26, f33, -⟩ := hp
      replace f26 : u 26 = (.bool G4) := f26
      replace f33 : u 33 = (cond G4 ((.bool E5)) undef) := f33
      have hpk := hG5.out
      cases G4
      · simp only [Bool.false_and, Bool.true_and, Bool.false_or, Bool.true_or] at hpk
        subst hpk
        try simp only [cond_true, cond_false] at f33
        try simp only [f26, f33, str]
        go_wp2
        refine stq_v rfl Same.refl ?_
        first | (simp only [mkAct, List.foldl_cons, List.foldl_nil, List.setIfInBounds_toArray, List.set_cons_succ, List.set_cons_zero, upd, reduceIte, Nat.reduceEqDiff, Nat.reduceAdd, f26, f33, str]; done) | (simp [mkAct, upd, f26, f33, str, *]; done)
      · simp only [Bool.false_and, Bool.true_and, Bool.false_or, Bool.true_or] at hpk
        subst hpk
        try simp only [cond_true, cond_false] at f33
        try simp only [f26, f33, str]
        go_wp2
        refine stq_v rfl Same.refl ?_
        first | (simp only [mkAct, List.foldl_cons, List.foldl_nil, List.setIfInBounds_toArray, List.set_cons_succ, List.set_cons_zero, upd, reduceIte, Nat.reduceEqDiff, Nat.reduceAdd, f26, f33, str]; done) | (simp [mkAct, upd, f26, f33, str, *]; done)
    · -- operation 35
      obtain ⟨f34, -⟩ := hp
      replace f34 : u 34 = (.bool G5) := f34
      try simp only [f34, str]
      go_wp2
      refine stq_v rfl Same.refl ?_
      first | (simp only [mkAct, List.foldl_cons, List.foldl_nil, List.setIfInBounds_toArray, List.set_cons_succ, List.set_cons_zero, upd, reduceIte, Nat.reduceEqDiff, Nat.reduceAdd, f34, str]; done) | (simp [mkAct, upd, f34, str, *]; done)
    · -- operation 36
      obtain ⟨f35, -⟩ := hp
      replace f35 : u 35 = (.bool G5) := f35
      cases G5
      · go_wp2
        refine stq_v rfl Same.refl ?_
        first | (simp only [mkAct, List.foldl_cons, List.foldl_nil, List.setIfInBounds_toArray, List.set_cons_succ, List.set_cons_zero, upd, reduceIte, Nat.reduceEqDiff, Nat.reduceAdd, f35, str]; done) | (simp [mkAct, upd, f35, str, *]; done)
      · try simp only [f35, str]
        go_wp2
        refine stq_v rfl Same.refl ?_
        first | (simp only [mkAct, List.foldl_cons, List.foldl_nil, List.setIfInBounds_toArray, List.set_cons_succ, List.set_cons_zero, upd, reduceIte, Nat.reduceEqDiff, Nat.reduceAdd, f35, str]; done) | (simp [mkAct, upd, f35, str, *]; done)
    · -- operation 37
      obtain ⟨f36, f35, -⟩ := hp
      replace f36 : u 36 = (cond G5 ((.pointer (some ⟨w.heap.size, 1, none⟩))) undef) := f36
      replace f35 : u 35 = (.bool G5) := f35
      cases G5
      · go_wp2
        refine stq_v rfl Same.refl ?_
        first | (simp only [mkAct, List.foldl_cons, List.foldl_nil, List.setIfInBounds_toArray, List.set_cons_succ, List.set_cons_zero, upd, reduceIte, Nat.reduceEqDiff, Nat.reduceAdd, f36, f35, str]; done) | (simp [mkAct, upd, f36, f35, str, *]; done)
      · try simp only [cond_true, cond_false] at f36
        try simp only [f36, f35, str]
        go_wp2_with (refine load_mid rfl _ _ rfl w.heap.size 1 rfl a.bat.cells _ (hI.range rb.out) Try.underlying26 rfl fb.out ?_)
        refine stq_v rfl Same.refl ?_
        first | (simp only [mkAct, List.foldl_cons, List.foldl_nil, List.setIfInBounds_toArray, List.set_cons_succ, List.set_cons_zero, upd, reduceIte, Nat.reduceEqDiff, Nat.reduceAdd, f36, f35, str]; done) | (simp [mkAct, upd, f36, f35, str, *]; done)
    · -- operation 38
      obtain ⟨f35, -⟩ := hp
      replace f35 : u 35 = (.bool G5) := f35
      cases G5
      · go_wp2
        refine stq_v rfl Same.refl ?_
        first | (simp only [mkAct, List.foldl_cons, List.foldl_nil, List.setIfInBounds_toArray, List.set_cons_succ, List.set_cons_zero, upd, reduceIte, Nat.reduceEqDiff, Nat.reduceAdd, f35, str]; done) | (simp [mkAct, upd, f35, str, *]; done)
      · try simp only [f35, str]
        go_wp2
        refine stq_v rfl Same.refl ?_
        first | (simp only [mkAct, List.foldl_cons, List.foldl_nil, List.setIfInBounds_toArray, List.set_cons_succ, List.set_cons_zero, upd, reduceIte, Nat.reduceEqDiff, Nat.reduceAdd, f35, str]; done) | (simp [mkAct, upd, f35, str, *]; done)
    · -- operation 39
      obtain ⟨f38, f35, -⟩ := hp
      replace f38 : u 38 = (cond G5 ((.pointer (some ⟨w0.heap.size, 1, none⟩))) undef) := f38
      replace f35 : u 35 = (.bool G5) := f35
      cases G5
      · go_wp2
        refine stq_v rfl Same.refl ?_
        first | (simp only [mkAct, List.foldl_cons, List.foldl_nil, List.setIfInBounds_toArray, List.set_cons_succ, List.set_cons_zero, upd, reduceIte, Nat.reduceEqDiff, Nat.reduceAdd, f38, f35, str]; done) | (simp [mkAct, upd, f38, f35, str, *]; done)
      · try simp only [cond_true, cond_false] at f38
        try simp only [f38, f35, str]
        go_wp2_with (refine load_mid rfl _ _ rfl w0.heap.size 1 rfl b.bat.cells _ (hI.range rb'.out) Try.underlying26 rfl fb'.out ?_)
        refine stq_v rfl Same.refl ?_
        first | (simp only [mkAct, List.foldl_cons, List.foldl_nil, List.setIfInBounds_toArray, List.set_cons_succ, List.set_cons_zero, upd, reduceIte, Nat.reduceEqDiff, Nat.reduceAdd, f38, f35, str]; done) | (simp [mkAct, upd, f38, f35, str, *]; done)
    · -- operation 40
      obtain ⟨f37, f39, f35, -⟩ := hp
      replace f37 : u 37 = (cond G5 ((.agg a.bat.cells.toArray)) undef) := f37
      replace f39 : u 39 = (cond G5 ((.agg b.bat.cells.toArray)) undef) := f39
      replace f35 : u 35 = (.bool G5) := f35
      cases G5
      · go_wp2
        refine stq_v rfl Same.refl ?_
        first | (simp only [mkAct, List.foldl_cons, List.foldl_nil, List.setIfInBounds_toArray, List.set_cons_succ, List.set_cons_zero, upd, reduceIte, Nat.reduceEqDiff, Nat.reduceAdd, f37, f39, f35, str]; done) | (simp [mkAct, upd, f37, f39, f35, str, *]; done)
      · try simp only [cond_true, cond_false] at f37 f39
        try simp only [f37, f39, f35, str]
        go_wp2_with fail
        refine (hS1.out _ (BatV.same ha1.out.2.2.1 hI) (BatV.same hb1.out.2.2.1 hI)).mono ?_
        rintro e w1 ⟨rfl, hs'⟩
        go_wp2
        refine stq_v rfl hs' ?_
        first | (simp only [mkAct, List.foldl_cons, List.foldl_nil, List.setIfInBounds_toArray, List.set_cons_succ, List.set_cons_zero, upd, reduceIte, Nat.reduceEqDiff, Nat.reduceAdd, f37, f39, f35, str]; done) | (simp [mkAct, upd, f37, f39, f35, str, *]; done)
    · -- operation 41
      obtain ⟨f35, f40, -⟩ := hp
      replace f35 : u 35 = (.bool G5) := f35
      replace f40 : u 40 = (cond G5 ((.bool B1)) undef) := f40
      have hpk := hG6.out
      cases G5
      · simp only [Bool.false_and, Bool.true_and, Bool.false_or, Bool.true_or] at hpk
        subst hpk
        try simp only [cond_true, cond_false] at f40
        try simp only [f35, f40, str]
        go_wp2
        refine stq_v rfl Same.refl ?_
        first | (simp only [mkAct, List.foldl_cons, List.foldl_nil, List.setIfInBounds_toArray, List.set_cons_succ, List.set_cons_zero, upd, reduceIte, Nat.reduceEqDiff, Nat.reduceAdd, f35, f40, str]; done) | (simp [mkAct, upd, f35, f40, str, *]; done)
      · simp only [Bool.false_and, Bool.true_and, Bool.false_or, Bool.true_or] at hpk
        subst hpk
        try simp only [cond_true, cond_false] at f40
        try simp only [f35, f40, str]
        go_wp2
        refine stq_v rfl Same.refl ?_
        first | (simp only [mkAct, List.foldl_cons, List.foldl_nil, List.setIfInBounds_toArray, List.set_cons_succ, List.set_cons_zero, upd, reduceIte, Nat.reduceEqDiff, Nat.reduceAdd, f35, f40, str]; done) | (simp [mkAct, upd, f35, f40, str, *]; done)
    · -- operation 42
      obtain ⟨f41, -⟩ := hp
      replace f41 : u 41 = (.bool G6) := f41
      try simp only [f41, str]
      go_wp2
      refine stq_v rfl Same.refl ?_
      first | (simp only [mkAct, List.foldl_cons, List.foldl_nil, List.setIfInBounds_toArray, List.set_cons_succ, List.set_cons_zero, upd, reduceIte, Nat.reduceEqDiff, Nat.reduceAdd, f41, str]; done) | (simp [mkAct, upd, f41, str, *]; done)
    · -- operation 43
      obtain ⟨f42, -⟩ := hp
      replace f42 : u 42 = (.bool G6) := f42
      cases G6
      · go_wp2
        refine stq_v rfl Same.refl ?_
        first | (simp only [mkAct, List.foldl_cons, List.foldl_nil, List.setIfInBounds_toArray, List.set_cons_succ, List.set_cons_zero, upd, reduceIte, Nat.reduceEqDiff, Nat.reduceAdd, f42, str]; done) | (simp [mkAct, upd, f42, str, *]; done)
      · try simp only [f42, str]
        go_wp2
        refine stq_v rfl Same.refl ?_
        first | (simp only [mkAct, List.foldl_cons, List.foldl_nil, List.setIfInBounds_toArray, List.set_cons_succ, List.set_cons_zero, upd, reduceIte, Nat.reduceEqDiff, Nat.reduceAdd, f42, str]; done) | (simp [mkAct, upd, f42, str, *]; done)
    · -- operation 44
      obtain ⟨f43, f42, -⟩ := hp
      replace f43 : u 43 = (cond G6 ((.pointer (some ⟨w.heap.size, 4, none⟩))) undef) := f43
      replace f42 : u 42 = (.bool G6) := f42
      cases G6
      · go_wp2
        refine stq_v rfl Same.refl ?_
        first | (simp only [mkAct, List.foldl_cons, List.foldl_nil, List.setIfInBounds_toArray, List.set_cons_succ, List.set_cons_zero, upd, reduceIte, Nat.reduceEqDiff, Nat.reduceAdd, f43, f42, str]; done) | (simp [mkAct, upd, f43, f42, str, *]; done)
      · try simp only [cond_true, cond_false] at f43
        try simp only [f43, f42, str]
        go_wp2
        refine stq_v rfl Same.refl ?_
        first | (simp only [mkAct, List.foldl_cons, List.foldl_nil, List.setIfInBounds_toArray, List.set_cons_succ, List.set_cons_zero, upd, reduceIte, Nat.reduceEqDiff, Nat.reduceAdd, f43, f42, str]; done) | (simp [mkAct, upd, f43, f42, str, *]; done)
    · -- operation 45
      obtain ⟨f44, f42, -⟩ := hp
      replace f44 : u 44 = (cond G6 ((.pointer (some ⟨w.heap.size, 4, none⟩))) undef) := f44
      replace f42 : u 42 = (.bool G6) := f42
      cases G6
      · go_wp2
        refine stq_v rfl Same.refl ?_
        first | (simp only [mkAct, List.foldl_cons, List.foldl_nil, List.setIfInBounds_toArray, List.set_cons_succ, List.set_cons_zero, upd, reduceIte, Nat.reduceEqDiff, Nat.reduceAdd, f44, f42, str]; done) | (simp [mkAct, upd, f44, f42, str, *]; done)
      · try simp only [cond_true, cond_false] at f44
        try simp only [f44, f42, str]
        go_wp2_with (refine load_mid rfl _ _ rfl w.heap.size 4 rfl a.hbat.cells _ (hI.range rh.out) Try.underlying26 rfl fh.out ?_)
        refine stq_v rfl Same.refl ?_
        first | (simp only [mkAct, List.foldl_cons, List.foldl_nil, List.setIfInBounds_toArray, List.set_cons_succ, List.set_cons_zero, upd, reduceIte, Nat.reduceEqDiff, Nat.reduceAdd, f44, f42, str]; done) | (simp [mkAct, upd, f44, f42, str, *]; done)
    · -- operation 46
      obtain ⟨f42, -⟩ := hp
      replace f42 : u 42 = (.bool G6) := f42
      cases G6
      · go_wp2
        refine stq_v rfl Same.refl ?_
        first | (simp only [mkAct, List.foldl_cons, List.foldl_nil, List.setIfInBounds_toArray, List.set_cons_succ, List.set_cons_zero, upd, reduceIte, Nat.reduceEqDiff, Nat.reduceAdd, f42, str]; done) | (simp [mkAct, upd, f42, str, *]; done)
      · try simp only [f42, str]
        go_wp2
        refine stq_v rfl Same.refl ?_
        first | (simp only [mkAct, List.foldl_cons, List.foldl_nil, List.setIfInBounds_toArray, List.set_cons_succ, List.set_cons_zero, upd, reduceIte, Nat.reduceEqDiff, Nat.reduceAdd, f42, str]; done) | (simp [mkAct, upd, f42, str, *]; done)
    · -- operation 47
      obtain ⟨f46, f42, -⟩ := hp
      replace f46 : u 46 = (cond G6 ((.pointer (some ⟨w0.heap.size, 4, none⟩))) undef) := f46
      replace f42 : u 42 = (.bool G6) := f42
      cases G6
      · go_wp2
        refine stq_v rfl Same.refl ?_
        first | (simp only [mkAct, List.foldl_cons, List.foldl_nil, List.setIfInBounds_toArray, List.set_cons_succ, List.set_cons_zero, upd, reduceIte, Nat.reduceEqDiff, Nat.reduceAdd, f46, f42, str]; done) | (simp [mkAct, upd, f46, f42, str, *]; done)
      · try simp only [cond_true, cond_false] at f46
        try simp only [f46, f42, str]
        go_wp2
        refine stq_v rfl Same.refl ?_
        first | (simp only [mkAct, List.foldl_cons, List.foldl_nil, List.setIfInBounds_toArray, List.set_cons_succ, List.set_cons_zero, upd, reduceIte, Nat.reduceEqDiff, Nat.reduceAdd, f46, f42, str]; done) | (simp [mkAct, upd, f46, f42, str, *]; done)
    · -- operation 48
      obtain ⟨f47, f42, -⟩ := hp
      replace f47 : u 47 = (cond G6 ((.pointer (some ⟨w0.heap.size, 4, none⟩))) undef) := f47
      replace f42 : u 42 = (.bool G6) := f42
      cases G6
      · go_wp2
        refine stq_v rfl Same.refl ?_
        first | (simp only [mkAct, List.foldl_cons, List.foldl_nil, List.setIfInBounds_toArray, List.set_cons_succ, List.set_cons_zero, upd, reduceIte, Nat.reduceEqDiff, Nat.reduceAdd, f47, f42, str]; done) | (simp [mkAct, upd, f47, f42, str, *]; done)
      · try simp only [cond_true, cond_false] at f47
        try simp only [f47, f42, str]
        go_wp2_with (refine load_mid rfl _ _ rfl w0.heap.size 4 rfl b.hbat.cells _ (hI.range rh'.out) Try.underlying26 rfl fh'.out ?_)
        refine stq_v rfl Same.refl ?_
        first | (simp only [mkAct, List.foldl_cons, List.foldl_nil, List.setIfInBounds_toArray, List.set_cons_succ, List.set_cons_zero, upd, reduceIte, Nat.reduceEqDiff, Nat.reduceAdd, f47, f42, str]; done) | (simp [mkAct, upd, f47, f42, str, *]; done)
    · -- operation 49
      obtain ⟨f45, f48, f42, -⟩ := hp
      replace f45 : u 45 = (cond G6 ((.agg a.hbat.cells.toArray)) undef) := f45
      replace f48 : u 48 = (cond G6 ((.agg b.hbat.cells.toArray)) undef) := f48
      replace f42 : u 42 = (.bool G6) := f42
      cases G6
      · go_wp2
        refine stq_v rfl Same.refl ?_
        first | (simp only [mkAct, List.foldl_cons, List.foldl_nil, List.setIfInBounds_toArray, List.set_cons_succ, List.set_cons_zero, upd, reduceIte, Nat.reduceEqDiff, Nat.reduceAdd, f45, f48, f42, str]; done) | (simp [mkAct, upd, f45, f48, f42, str, *]; done)
      · try simp only [cond_true, cond_false] at f45 f48
        try simp only [f45, f48, f42, str]
        go_wp2_with fail
        refine (hS2.out _ (BatV.same ha1.out.2.2.2.1 hI) (BatV.same hb1.out.2.2.2.1 hI)).mono ?_
        rintro e w1 ⟨rfl, hs'⟩
        go_wp2
        refine stq_v rfl hs' ?_
        first | (simp only [mkAct, List.foldl_cons, List.foldl_nil, List.setIfInBounds_toArray, List.set_cons_succ, List.set_cons_zero, upd, reduceIte, Nat.reduceEqDiff, Nat.reduceAdd, f45, f48, f42, str]; done) | (simp [mkAct, upd, f45, f48, f42, str, *]; done)
    · -- operation 50
      obtain ⟨f42, f49, -⟩ := hp
      replace f42 : u 42 = (.bool G6) := f42
      replace f49 : u 49 = (cond G6 ((.bool B2)) undef) := f49
      have hpk := hG7.out
      cases G6
      · simp only [Bool.false_and, Bool.true_and, Bool.false_or, Bool.true_or] at hpk
        subst hpk
        try simp only [cond_true, cond_false] at f49
        try simp only [f42, f49, str]
        go_wp2
        refine stq_v rfl Same.refl ?_
        first | (simp only [mkAct, List.foldl_cons, List.foldl_nil, List.setIfInBounds_toArray, List.set_cons_succ, List.set_cons_zero, upd, reduceIte, Nat.reduceEqDiff, Nat.reduceAdd, f42, f49, str]; done) | (simp [mkAct, upd, f42, f49, str, *]; done)
      · simp only [Bool.false_and, Bool.true_and, Bool.false_or, Bool.true_or] at hpk
        subst hpk
        try simp only [cond_true, cond_false] at f49
        try simp only [f42, f49, str]
        go_wp2
        refine stq_v rfl Same.refl ?_
        first | (simp only [mkAct, List.foldl_cons, List.foldl_nil, List.setIfInBounds_toArray, List.set_cons_succ, List.set_cons_zero, upd, reduceIte, Nat.reduceEqDiff, Nat.reduceAdd, f42, f49, str]; done) | (simp [mkAct, upd, f42, f49, str, *]; done)
    · -- operation 51
      obtain ⟨f50, -⟩ := hp
      replace f50 : u 50 = (.bool G7) := f50
      try simp only [f50, str]
      go_wp2
      refine stq_v rfl Same.refl ?_
      first | (simp only [mkAct, List.foldl_cons, List.foldl_nil, List.setIfInBounds_toArray, List.set_cons_succ, List.set_cons_zero, upd, reduceIte, Nat.reduceEqDiff, Nat.reduceAdd, f50, str]; done) | (simp [mkAct, upd, f50, str, *]; done)
    · -- operation 52
      obtain ⟨f51, -⟩ := hp
      replace f51 : u 51 = (.bool G7) := f51
      cases G7
      · go_wp2
        refine stq_v rfl Same.refl ?_
        first | (simp only [mkAct, List.foldl_cons, List.foldl_nil, List.setIfInBounds_toArray, List.set_cons_succ, List.set_cons_zero, upd, reduceIte, Nat.reduceEqDiff, Nat.reduceAdd, f51, str]; done) | (simp [mkAct, upd, f51, str, *]; done)
      · try simp only [f51, str]
        go_wp2
        refine stq_v rfl Same.refl ?_
        first | (simp only [mkAct, List.foldl_cons, List.foldl_nil, List.setIfInBounds_toArray, List.set_cons_succ, List.set_cons_zero, upd, reduceIte, Nat.reduceEqDiff, Nat.reduceAdd, f51, str]; done) | (simp [mkAct, upd, f51, str, *]; done)
    · -- operation 53
      obtain ⟨f52, f51, -⟩ := hp
      replace f52 : u 52 = (cond G7 ((.pointer (some ⟨w.heap.size, 44, none⟩))) undef) := f52
      replace f51 : u 51 = (.bool G7) := f51
      cases G7
      · go_wp2
        refine stq_v rfl Same.refl ?_
        first | (simp only [mkAct, List.foldl_cons, List.foldl_nil, List.setIfInBounds_toArray, List.set_cons_succ, List.set_cons_zero, upd, reduceIte, Nat.reduceEqDiff, Nat.reduceAdd, f52, f51, str]; done) | (simp [mkAct, upd, f52, f51, str, *]; done)
      · try simp only [cond_true, cond_false] at f52
        try simp only [f52, f51, str]
        go_wp2
        refine stq_v rfl Same.refl ?_
        first | (simp only [mkAct, List.foldl_cons, List.foldl_nil, List.setIfInBounds_toArray, List.set_cons_succ, List.set_cons_zero, upd, reduceIte, Nat.reduceEqDiff, Nat.reduceAdd, f52, f51, str]; done) | (simp [mkAct, upd, f52, f51, str, *]; done)
    · -- operation 54
      obtain ⟨f53, f51, -⟩ := hp
      replace f53 : u 53 = (cond G7 ((.pointer (some ⟨w.heap.size, 45, none⟩))) undef) := f53
      replace f51 : u 51 = (.bool G7) := f51
      cases G7
      · go_wp2
        refine stq_v rfl Same.refl ?_
        first | (simp only [mkAct, List.foldl_cons, List.foldl_nil, List.setIfInBounds_toArray, List.set_cons_succ, List.set_cons_zero, upd, reduceIte, Nat.reduceEqDiff, Nat.reduceAdd, f53, f51, str]; done) | (simp [mkAct, upd, f53, f51, str, *]; done)
      · try simp only [cond_true, cond_false] at f53
        try simp only [f53, f51, str]
        go_wp2_with (refine load_mid rfl _ _ rfl w.heap.size 45 rfl a.ebat.cells _ (hI.range re.out) Try.underlying26 rfl fe.out ?_)
        refine stq_v rfl Same.refl ?_
        first | (simp only [mkAct, List.foldl_cons, List.foldl_nil, List.setIfInBounds_toArray, List.set_cons_succ, List.set_cons_zero, upd, reduceIte, Nat.reduceEqDiff, Nat.reduceAdd, f53, f51, str]; done) | (simp [mkAct, upd, f53, f51, str, *]; done)
    · -- operation 55
      obtain ⟨f51, -⟩ := hp
      replace f51 : u 51 = (.bool G7) := f51
      cases G7
      · go_wp2
        refine stq_v rfl Same.refl ?_
        first | (simp only [mkAct, List.foldl_cons, List.foldl_nil, List.setIfInBounds_toArray, List.set_cons_succ, List.set_cons_zero, upd, reduceIte, Nat.reduceEqDiff, Nat.reduceAdd, f51, str]; done) | (simp [mkAct, upd, f51, str, *]; done)
      · try simp only [f51, str]
        go_wp2
        refine stq_v rfl Same.refl ?_
        first | (simp only [mkAct, List.foldl_cons, List.foldl_nil, List.setIfInBounds_toArray, List.set_cons_succ, List.set_cons_zero, upd, reduceIte, Nat.reduceEqDiff, Nat.reduceAdd, f51, str]; done) | (simp [mkAct, upd, f51, str, *]; done)
    · -- operation 56
      obtain ⟨f55, f51, -⟩ := hp
      replace f55 : u 55 = (cond G7 ((.pointer (some ⟨w0.heap.size, 44, none⟩))) undef) := f55
      replace f51 : u 51 = (.bool G7) := f51
      cases G7
      · go_wp2
        refine stq_v rfl Same.refl ?_
        first | (simp only [mkAct, List.foldl_cons, List.foldl_nil, List.setIfInBounds_toArray, List.set_cons_succ, List.set_cons_zero, upd, reduceIte, Nat.reduceEqDiff, Nat.reduceAdd, f55, f51, str]; done) | (simp [mkAct, upd, f55, f51, str, *]; done)
      · try simp only [cond_true, cond_false] at f55
        try simp only [f55, f51, str]
        go_wp2
        refine stq_v rfl Same.refl ?_
        first | (simp only [mkAct, List.foldl_cons, List.foldl_nil, List.setIfInBounds_toArray, List.set_cons_succ, List.set_cons_zero, upd, reduceIte, Nat.reduceEqDiff, Nat.reduceAdd, f55, f51, str]; done) | (simp [mkAct, upd, f55, f51, str, *]; done)
    · -- operation 57
      obtain ⟨f56, f51, -⟩ := hp
      replace f56 : u 56 = (cond G7 ((.pointer (some ⟨w0.heap.size, 45, none⟩))) undef) := f56
      replace f51 : u 51 = (.bool G7) := f51
      cases G7
      · go_wp2
        refine stq_v rfl Same.refl ?_
        first | (simp only [mkAct, List.foldl_cons, List.foldl_nil, List.setIfInBounds_toArray, List.set_cons_succ, List.set_cons_zero, upd, reduceIte, Nat.reduceEqDiff, Nat.reduceAdd, f56, f51, str]; done) | (simp [mkAct, upd, f56, f51, str, *]; done)
      · try simp only [cond_true, cond_false] at f56
        try simp only [f56, f51, str]
        go_wp2_with (refine load_mid rfl _ _ rfl w0.heap.size 45 rfl b.ebat.cells _ (hI.range re'.out) Try.underlying26 rfl fe'.out ?_)
        refine stq_v rfl Same.refl ?_
        first | (simp only [mkAct, List.foldl_cons, List.foldl_nil, List.setIfInBounds_toArray, List.set_cons_succ, List.set_cons_zero, upd, reduceIte, Nat.reduceEqDiff, Nat.reduceAdd, f56, f51, str]; done) | (simp [mkAct, upd, f56, f51, str, *]; done)
    · -- operation 58
      obtain ⟨f54, f57, f51, -⟩ := hp
      replace f54 : u 54 = (cond G7 ((.agg a.ebat.cells.toArray)) undef) := f54
      replace f57 : u 57 = (cond G7 ((.agg b.ebat.cells.toArray)) undef) := f57
      replace f51 : u 51 = (.bool G7) := f51
      cases G7
      · go_wp2
        refine stq_v rfl Same.refl ?_
        first | (simp only [mkAct, List.foldl_cons, List.foldl_nil, List.setIfInBounds_toArray, List.set_cons_succ, List.set_cons_zero, upd, reduceIte, Nat.reduceEqDiff, Nat.reduceAdd, f54, f57, f51, str]; done) | (simp [mkAct, upd, f54, f57, f51, str, *]; done)
      · try simp only [cond_true, cond_false] at f54 f57
        try simp only [f54, f57, f51, str]
        go_wp2_with fail
        refine (hS3.out _ (BatV.same ha1.out.2.2.2.2.2.1 hI) (BatV.same hb1.out.2.2.2.2.2.1 hI)).mono ?_
        rintro e w1 ⟨rfl, hs'⟩
        go_wp2
        refine stq_v rfl hs' ?_
        first | (simp only [mkAct, List.foldl_cons, List.foldl_nil, List.setIfInBounds_toArray, List.set_cons_succ, List.set_cons_zero, upd, reduceIte, Nat.reduceEqDiff, Nat.reduceAdd, f54, f57, f51, str]; done) | (simp [mkAct, upd, f54, f57, f51, str, *]; done)
    · -- operation 59
      obtain ⟨f51, f58, -⟩ := hp
      replace f51 : u 51 = (.bool G7) := f51
      replace f58 : u 58 = (cond G7 ((.bool B3)) undef) := f58
      have hpk := hG8.out
      cases G7
      · simp only [Bool.false_and, Bool.true_and, Bool.false_or, Bool.true_or] at hpk
        subst hpk
        try simp only [cond_true, cond_false] at f58
        try simp only [f51, f58, str]
        go_wp2
        refine stq_v rfl Same.refl ?_
        first | (simp only [mkAct, List.foldl_cons, List.foldl_nil, List.setIfInBounds_toArray, List.set_cons_succ, List.set_cons_zero, upd, reduceIte, Nat.reduceEqDiff, Nat.reduceAdd, f51, f58, str]; done) | (simp [mkAct, upd, f51, f58, str, *]; done)
      · simp only [Bool.false_and, Bool.true_and, Bool.false_or, Bool.true_or] at hpk
        subst hpk
        try simp only [cond_true, cond_false] at f58
        try simp only [f51, f58, str]
        go_wp2
        refine stq_v rfl Same.refl ?_
        first | (simp only [mkAct, List.foldl_cons, List.foldl_nil, List.setIfInBounds_toArray, List.set_cons_succ, List.set_cons_zero, upd, reduceIte, Nat.reduceEqDiff, Nat.reduceAdd, f51, f58, str]; done) | (simp [mkAct, upd, f51, f58, str, *]; done)
    · -- operation 60
      obtain ⟨f59, -⟩ := hp
      replace f59 : u 59 = (.bool G8) := f59
      try simp only [f59, str]
      go_wp2
      refine stq_v rfl Same.refl ?_
      first | (simp only [mkAct, List.foldl_cons, List.foldl_nil, List.setIfInBounds_toArray, List.set_cons_succ, List.set_cons_zero, upd, reduceIte, Nat.reduceEqDiff, Nat.reduceAdd, f59, str]; done) | (simp [mkAct, upd, f59, str, *]; done)
    · -- operation 61
      obtain ⟨f60, -⟩ := hp
      replace f60 : u 60 = (.bool G8) := f60
      cases G8
      · go_wp2
        refine stq_v rfl Same.refl ?_
        first | (simp only [mkAct, List.foldl_cons, List.foldl_nil, List.setIfInBounds_toArray, List.set_cons_succ, List.set_cons_zero, upd, reduceIte, Nat.reduceEqDiff, Nat.reduceAdd, f60, str]; done) | (simp [mkAct, upd, f60, str, *]; done)
      · try simp only [f60, str]
        go_wp2
        refine stq_v rfl Same.refl ?_
        first | (simp only [mkAct, List.foldl_cons, List.foldl_nil, List.setIfInBounds_toArray, List.set_cons_succ, List.set_cons_zero, upd, reduceIte, Nat.reduceEqDiff, Nat.reduceAdd, f60, str]; done) | (simp [mkAct, upd, f60, str, *]; done)
    · -- operation 62
      obtain ⟨f61, f60, -⟩ := hp
      replace f61 : u 61 = (cond G8 ((.pointer (some ⟨w.heap.size, 4, none⟩))) undef) := f61
      replace f60 : u 60 = (.bool G8) := f60
      cases G8
      · go_wp2
        refine stq_v rfl Same.refl ?_
        first | (simp only [mkAct, List.foldl_cons, List.foldl_nil, List.setIfInBounds_toArray, List.set_cons_succ, List.set_cons_zero, upd, reduceIte, Nat.reduceEqDiff, Nat.reduceAdd, f61, f60, str]; done) | (simp [mkAct, upd, f61, f60, str, *]; done)
      · try simp only [cond_true, cond_false] at f61
        try simp only [f61, f60, str]
        go_wp2
        refine stq_v rfl Same.refl ?_
        first | (simp only [mkAct, List.foldl_cons, List.foldl_nil, List.setIfInBounds_toArray, List.set_cons_succ, List.set_cons_zero, upd, reduceIte, Nat.reduceEqDiff, Nat.reduceAdd, f61, f60, str]; done) | (simp [mkAct, upd, f61, f60, str, *]; done)
    · -- operation 63
      obtain ⟨f62, f60, -⟩ := hp
      replace f62 : u 62 = (cond G8 ((.pointer (some ⟨w.heap.size, 6, none⟩))) undef) := f62
      replace f60 : u 60 = (.bool G8) := f60
      cases G8
      · go_wp2
        refine stq_v rfl Same.refl ?_
        first | (simp only [mkAct, List.foldl_cons, List.foldl_nil, List.setIfInBounds_toArray, List.set_cons_succ, List.set_cons_zero, upd, reduceIte, Nat.reduceEqDiff, Nat.reduceAdd, f62, f60, str]; done) | (simp [mkAct, upd, f62, f60, str, *]; done)
      · try simp only [cond_true, cond_false] at f62
        try simp only [f62, f60, str]
        go_wp2_with (refine load_mid rfl _ _ rfl w.heap.size 6 rfl a.hcert.cells _ (hI.range rc.out) Try.underlying33 rfl fc.out ?_)
        refine stq_v rfl Same.refl ?_
        first | (simp only [mkAct, List.foldl_cons, List.foldl_nil, List.setIfInBounds_toArray, List.set_cons_succ, List.set_cons_zero, upd, reduceIte, Nat.reduceEqDiff, Nat.reduceAdd, f62, f60, str]; done) | (simp [mkAct, upd, f62, f60, str, *]; done)
    · -- operation 64
      obtain ⟨f60, -⟩ := hp
      replace f60 : u 60 = (.bool G8) := f60
      cases G8
      · go_wp2
        refine stq_v rfl Same.refl ?_
        first | (simp only [mkAct, List.foldl_cons, List.foldl_nil, List.setIfInBounds_toArray, List.set_cons_succ, List.set_cons_zero, upd, reduceIte, Nat.reduceEqDiff, Nat.reduceAdd, f60, str]; done) | (simp [mkAct, upd, f60, str, *]; done)
      · try simp only [f60, str]
        go_wp2
        refine stq_v rfl Same.refl ?_
        first | (simp only [mkAct, List.foldl_cons, List.foldl_nil, List.setIfInBounds_toArray, List.set_cons_succ, List.set_cons_zero, upd, reduceIte, Nat.reduceEqDiff, Nat.reduceAdd, f60, str]; done) | (simp [mkAct, upd, f60, str, *]; done)
    · -- operation 65
      obtain ⟨f64, f60, -⟩ := hp
      replace f64 : u 64 = (cond G8 ((.pointer (some ⟨w0.heap.size, 4, none⟩))) undef) := f64
      replace f60 : u 60 = (.bool G8) := f60
      cases G8
      · go_wp2
        refine stq_v rfl Same.refl ?_
        first | (simp only [mkAct, List.foldl_cons, List.foldl_nil, List.setIfInBounds_toArray, List.set_cons_succ, List.set_cons_zero, upd, reduceIte, Nat.reduceEqDiff, Nat.reduceAdd, f64, f60, str]; done) | (simp [mkAct, upd, f64, f60, str, *]; done)
      · try simp only [cond_true, cond_false] at f64
        try simp only [f64, f60, str]
        go_wp2
        refine stq_v rfl Same.refl ?_
        first | (simp only [mkAct, List.foldl_cons, List.foldl_nil, List.setIfInBounds_toArray, List.set_cons_succ, List.set_cons_zero, upd, reduceIte, Nat.reduceEqDiff, Nat.reduceAdd, f64, f60, str]; done) | (simp [mkAct, upd, f64, f60, str, *]; done)
    · -- operation 66
      obtain ⟨f65, f60, -⟩ := hp
      replace f65 : u 65 = (cond G8 ((.pointer (some ⟨w0.heap.size, 6, none⟩))) undef) := f65
      replace f60 : u 60 = (.bool G8) := f60
      cases G8
      · go_wp2
        refine stq_v rfl Same.refl ?_
        first | (simp only [mkAct, List.foldl_cons, List.foldl_nil, List.setIfInBounds_toArray, List.set_cons_succ, List.set_cons_zero, upd, reduceIte, Nat.reduceEqDiff, Nat.reduceAdd, f65, f60, str]; done) | (simp [mkAct, upd, f65, f60, str, *]; done)
      · try simp only [cond_true, cond_false] at f65
        try simp only [f65, f60, str]
        go_wp2_with (refine load_mid rfl _ _ rfl w0.heap.size 6 rfl b.hcert.cells _ (hI.range rc'.out) Try.underlying33 rfl fc'.out ?_)
        refine stq_v rfl Same.refl ?_
        first | (simp only [mkAct, List.foldl_cons, List.foldl_nil, List.setIfInBounds_toArray, List.set_cons_succ, List.set_cons_zero, upd, reduceIte, Nat.reduceEqDiff, Nat.reduceAdd, f65, f60, str]; done) | (simp [mkAct, upd, f65, f60, str, *]; done)
    · -- operation 67
      obtain ⟨f63, f66, f60, -⟩ := hp
      replace f63 : u 63 = (cond G8 ((.agg a.hcert.cells.toArray)) undef) := f63
      replace f66 : u 66 = (cond G8 ((.agg b.hcert.cells.toArray)) undef) := f66
      replace f60 : u 60 = (.bool G8) := f60
      cases G8
      · go_wp2
        refine stq_v rfl Same.refl ?_
        first | (simp only [mkAct, List.foldl_cons, List.foldl_nil, List.setIfInBounds_toArray, List.set_cons_succ, List.set_cons_zero, upd, reduceIte, Nat.reduceEqDiff, Nat.reduceAdd, f63, f66, f60, str]; done) | (simp [mkAct, upd, f63, f66, f60, str, *]; done)
      · try simp only [cond_true, cond_false] at f63 f66
        try simp only [f63, f66, f60, str]
        go_wp2_with fail
        refine (hK1.out _ (CertV.same' ha1.out.2.2.2.2.1 hI) (CertV.same' hb1.out.2.2.2.2.1 hI)).mono ?_
        rintro e w1 ⟨rfl, hs'⟩
        go_wp2
        refine stq_v rfl hs' ?_
        first | (simp only [mkAct, List.foldl_cons, List.foldl_nil, List.setIfInBounds_toArray, List.set_cons_succ, List.set_cons_zero, upd, reduceIte, Nat.reduceEqDiff, Nat.reduceAdd, f63, f66, f60, str]; done) | (simp [mkAct, upd, f63, f66, f60, str, *]; done)
    · -- operation 68
      obtain ⟨f60, f67, -⟩ := hp
      replace f60 : u 60 = (.bool G8) := f60
      replace f67 : u 67 = (cond G8 ((.bool C1)) undef) := f67
      have hpk := hG9.out
      cases G8
      · simp only [Bool.false_and, Bool.true_and, Bool.false_or, Bool.true_or] at hpk
        subst hpk
        try simp only [cond_true, cond_false] at f67
        try simp only [f60, f67, str]
        go_wp2
        refine stq_v rfl Same.refl ?_
        first | (simp only [mkAct, List.foldl_cons, List.foldl_nil, List.setIfInBounds_toArray, List.set_cons_succ, List.set_cons_zero, upd, reduceIte, Nat.reduceEqDiff, Nat.reduceAdd, f60, f67, str]; done) | (simp [mkAct, upd, f60, f67, str, *]; done)
      · simp only [Bool.false_and, Bool.true_and, Bool.false_or, Bool.true_or] at hpk
        subst hpk
        try simp only [cond_true, cond_false] at f67
        try simp only [f60, f67, str]
        go_wp2
        refine stq_v rfl Same.refl ?_
        first | (simp only [mkAct, List.foldl_cons, List.foldl_nil, List.setIfInBounds_toArray, List.set_cons_succ, List.set_cons_zero, upd, reduceIte, Nat.reduceEqDiff, Nat.reduceAdd, f60, f67, str]; done) | (simp [mkAct, upd, f60, f67, str, *]; done)
    · -- operation 69
      obtain ⟨f68, -⟩ := hp
      replace f68 : u 68 = (.bool G9) := f68
      try simp only [f68, str]
      go_wp2
      refine stq_v rfl Same.refl ?_
      first | (simp only [mkAct, List.foldl_cons, List.foldl_nil, List.setIfInBounds_toArray, List.set_cons_succ, List.set_cons_zero, upd, reduceIte, Nat.reduceEqDiff, Nat.reduceAdd, f68, str]; done) | (simp [mkAct, upd, f68, str, *]; done)
    · -- operation 70
      obtain ⟨f69, -⟩ := hp
      replace f69 : u 69 = (.bool G9) := f69
      cases G9
      · go_wp2
        refine stq_v rfl Same.refl ?_
        first | (simp only [mkAct, List.foldl_cons, List.foldl_nil, List.setIfInBounds_toArray, List.set_cons_succ, List.set_cons_zero, upd, reduceIte, Nat.reduceEqDiff, Nat.reduceAdd, f69, str]; done) | (simp [mkAct, upd, f69, str, *]; done)
      · try simp only [f69, str]
        go_wp2
        refine stq_v rfl Same.refl ?_
        first | (simp only [mkAct, List.foldl_cons, List.foldl_nil, List.setIfInBounds_toArray, List.set_cons_succ, List.set_cons_zero, upd, reduceIte, Nat.reduceEqDiff, Nat.reduceAdd, f69, str]; done) | (simp [mkAct, upd, f69, str, *]; done)
    · -- operation 71
      obtain ⟨f70, f69, -⟩ := hp
      replace f70 : u 70 = (cond G9 ((.pointer (some ⟨w.heap.size, 44, none⟩))) undef) := f70
      replace f69 : u 69 = (.bool G9) := f69
      cases G9
      · go_wp2
        refine stq_v rfl Same.refl ?_
        first | (simp only [mkAct, List.foldl_cons, List.foldl_nil, List.setIfInBounds_toArray, List.set_cons_succ, List.set_cons_zero, upd, reduceIte, Nat.reduceEqDiff, Nat.reduceAdd, f70, f69, str]; done) | (simp [mkAct, upd, f70, f69, str, *]; done)
      · try simp only [cond_true, cond_false] at f70
        try simp only [f70, f69, str]
        go_wp2
        refine stq_v rfl Same.refl ?_
        first | (simp only [mkAct, List.foldl_cons, List.foldl_nil, List.setIfInBounds_toArray, List.set_cons_succ, List.set_cons_zero, upd, reduceIte, Nat.reduceEqDiff, Nat.reduceAdd, f70, f69, str]; done) | (simp [mkAct, upd, f70, f69, str, *]; done)
    · -- operation 72
      obtain ⟨f71, f69, -⟩ := hp
      replace f71 : u 71 = (cond G9 ((.pointer (some ⟨w.heap.size, 47, none⟩))) undef) := f71
      replace f69 : u 69 = (.bool G9) := f69
      cases G9
      · go_wp2
        refine stq_v rfl Same.refl ?_
        first | (simp only [mkAct, List.foldl_cons, List.foldl_nil, List.setIfInBounds_toArray, List.set_cons_succ, List.set_cons_zero, upd, reduceIte, Nat.reduceEqDiff, Nat.reduceAdd, f71, f69, str]; done) | (simp [mkAct, upd, f71, f69, str, *]; done)
      · try simp only [cond_true, cond_false] at f71
        try simp only [f71, f69, str]
        go_wp2_with (refine load_mid rfl _ _ rfl w.heap.size 47 rfl a.ecert.cells _ (hI.range rd.out) Try.underlying33 rfl fd.out ?_)
        refine stq_v rfl Same.refl ?_
        first | (simp only [mkAct, List.foldl_cons, List.foldl_nil, List.setIfInBounds_toArray, List.set_cons_succ, List.set_cons_zero, upd, reduceIte, Nat.reduceEqDiff, Nat.reduceAdd, f71, f69, str]; done) | (simp [mkAct, upd, f71, f69, str, *]; done)
    · -- operation 73
      obtain ⟨f69, -⟩ := hp
      replace f69 : u 69 = (.bool G9) := f69
      cases G9
      · go_wp2
        refine stq_v rfl Same.refl ?_
        first | (simp only [mkAct, List.foldl_cons, List.foldl_nil, List.setIfInBounds_toArray, List.set_cons_succ, List.set_cons_zero, upd, reduceIte, Nat.reduceEqDiff, Nat.reduceAdd, f69, str]; done) | (simp [mkAct, upd, f69, str, *]; done)
      · try simp only [f69, str]
        go_wp2
        refine stq_v rfl Same.refl ?_
        first | (simp only [mkAct, List.foldl_cons, List.foldl_nil, List.setIfInBounds_toArray, List.set_cons_succ, List.set_cons_zero, upd, reduceIte, Nat.reduceEqDiff, Nat.reduceAdd, f69, str]; done) | (simp [mkAct, upd, f69, str, *]; done)
    · -- operation 74
      obtain ⟨f73, f69, -⟩ := hp
      replace f73 : u 73 = (cond G9 ((.pointer (some ⟨w0.heap.size, 44, none⟩))) undef) := f73
      replace f69 : u 69 = (.bool G9) := f69
      cases G9
      · go_wp2
        refine stq_v rfl Same.refl ?_
        first | (simp only [mkAct, List.foldl_cons, List.foldl_nil, List.setIfInBounds_toArray, List.set_cons_succ, List.set_cons_zero, upd, reduceIte, Nat.reduceEqDiff, Nat.reduceAdd, f73, f69, str]; done) | (simp [mkAct, upd, f73, f69, str, *]; done)
      · try simp only [cond_true, cond_false] at f73
        try simp only [f73, f69, str]
        go_wp2
        refine stq_v rfl Same.refl ?_
        first | (simp only [mkAct, List.foldl_cons, List.foldl_nil, List.setIfInBounds_toArray, List.set_cons_succ, List.set_cons_zero, upd, reduceIte, Nat.reduceEqDiff, Nat.reduceAdd, f73, f69, str]; done) | (simp [mkAct, upd, f73, f69, str, *]; done)
    · -- operation 75
      obtain ⟨f74, f69, -⟩ := hp
      replace f74 : u 74 = (cond G9 ((.pointer (some ⟨w0.heap.size, 47, none⟩))) undef) := f74
      replace f69 : u 69 = (.bool G9) := f69
      cases G9
      · go_wp2
        refine stq_v rfl Same.refl ?_
        first | (simp only [mkAct, List.foldl_cons, List.foldl_nil, List.setIfInBounds_toArray, List.set_cons_succ, List.set_cons_zero, upd, reduceIte, Nat.reduceEqDiff, Nat.reduceAdd, f74, f69, str]; done) | (simp [mkAct, upd, f74, f69, str, *]; done)
      · try simp only [cond_true, cond_false] at f74
        try simp only [f74, f69, str]
        go_wp2_with (refine load_mid rfl _ _ rfl w0.heap.size 47 rfl b.ecert.cells _ (hI.range rd'.out) Try.underlying33 rfl fd'.out ?_)
        refine stq_v rfl Same.refl ?_
        first | (simp only [mkAct, List.foldl_cons, List.foldl_nil, List.setIfInBounds_toArray, List.set_cons_succ, List.set_cons_zero, upd, reduceIte, Nat.reduceEqDiff, Nat.reduceAdd, f74, f69, str]; done) | (simp [mkAct, upd, f74, f69, str, *]; done)
    · -- operation 76
      obtain ⟨f72, f75, f69, -⟩ := hp
      replace f72 : u 72 = (cond G9 ((.agg a.ecert.cells.toArray)) undef) := f72
      replace f75 : u 75 = (cond G9 ((.agg b.ecert.cells.toArray)) undef) := f75
      replace f69 : u 69 = (.bool G9) := f69
      cases G9
      · go_wp2
        refine stq_v rfl Same.refl ?_
        first | (simp only [mkAct, List.foldl_cons, List.foldl_nil, List.setIfInBounds_toArray, List.set_cons_succ, List.set_cons_zero, upd, reduceIte, Nat.reduceEqDiff, Nat.reduceAdd, f72, f75, f69, str]; done) | (simp [mkAct, upd, f72, f75, f69, str, *]; done)
      · try simp only [cond_true, cond_false] at f72 f75
        try simp only [f72, f75, f69, str]
        go_wp2_with fail
        refine (hK2.out _ (CertV.same' ha1.out.2.2.2.2.2.2 hI) (CertV.same' hb1.out.2.2.2.2.2.2 hI)).mono ?_
        rintro e w1 ⟨rfl, hs'⟩
        go_wp2
        refine stq_v rfl hs' ?_
        first | (simp only [mkAct, List.foldl_cons, List.foldl_nil, List.setIfInBounds_toArray, List.set_cons_succ, List.set_cons_zero, upd, reduceIte, Nat.reduceEqDiff, Nat.reduceAdd, f72, f75, f69, str]; done) | (simp [mkAct, upd, f72, f75, f69, str, *]; done)
    · -- operation 77
      obtain ⟨f69, f76, -⟩ := hp
      replace f69 : u 69 = (.bool G9) := f69
      replace f76 : u 76 = (cond G9 ((.bool C2)) undef) := f76
      have hpk := hR.out
      cases G9
      · simp only [Bool.false_and, Bool.true_and, Bool.false_or, Bool.true_or] at hpk
        subst hpk
        try simp only [cond_true, cond_false] at f76
        try simp only [f69, f76, str]
        go_wp2
        refine stq_v rfl Same.refl ?_
        first | (simp only [mkAct, List.foldl_cons, List.foldl_nil, List.setIfInBounds_toArray, List.set_cons_succ, List.set_cons_zero, upd, reduceIte, Nat.reduceEqDiff, Nat.reduceAdd, f69, f76, str]; done) | (simp [mkAct, upd, f69, f76, str, *]; done)
      · simp only [Bool.false_and, Bool.true_and, Bool.false_or, Bool.true_or] at hpk
        subst hpk
        try simp only [cond_true, cond_false] at f76
        try simp only [f69, f76, str]
        go_wp2
        refine stq_v rfl Same.refl ?_
        first | (simp only [mkAct, List.foldl_cons, List.foldl_nil, List.setIfInBounds_toArray, List.set_cons_succ, List.set_cons_zero, upd, reduceIte, Nat.reduceEqDiff, Nat.reduceAdd, f69, f76, str]; done) | (simp [mkAct, upd, f69, f76, str, *]; done)
    · -- operation 78
      obtain ⟨f77, -⟩ := hp
      replace f77 : u 77 = (.bool R) := f77
      try simp only [f77, str]
      go_wp2
      refine stq_v rfl Same.refl ?_
      first | (simp only [mkAct, List.foldl_cons, List.foldl_nil, List.setIfInBounds_toArray, List.set_cons_succ, List.set_cons_zero, upd, reduceIte, Nat.reduceEqDiff, Nat.reduceAdd, f77, str]; done) | (simp [mkAct, upd, f77, str, *]; done)
  · intro u wx hI hR
    obtain ⟨r0, r1, r2, r3, r4, r5, r6, r7, r8, r9, r10, r11, r12, r13, r14, r15, r16, r17, r18, r19, r20, r21, r22, r23, r24, r25, r26, r27, r28, r29, r30, r31, r32, r33, r34, r35, r36, r37, r38, r39, r40, r41, r42, r43, r44, r45, r46, r47, r48, r49, r50, r51, r52, r53, r54, r55, r56, r57, r58, r59, r60, r61, r62, r63, r64, r65, r66, r67, r68, r69, r70, r71, r72, r73, r74, r75, r76, r77, r78, -⟩ := hR
    replace r0 : u 0 = (.pointer (some ⟨w.heap.size, 0, none⟩)) := r0
    replace r1 : u 1 = (.int .i64 a.view) := r1
    replace r2 : u 2 = (.pointer (some ⟨w0.heap.size, 0, none⟩)) := r2
    replace r3 : u 3 = (.int .i64 b.view) := r3
    replace r4 : u 4 = (.bool E1) := r4
    replace r5 : u 5 = (.bool E1) := r5
    replace r6 : u 6 = (cond E1 ((.pointer (some ⟨w.heap.size, 3, none⟩))) undef) := r6
    replace r7 : u 7 = (cond E1 ((.bool a.is)) undef) := r7
    replace r8 : u 8 = (cond E1 ((.pointer (some ⟨w0.heap.size, 3, none⟩))) undef) := r8
    replace r9 : u 9 = (cond E1 ((.bool b.is)) undef) := r9
    replace r10 : u 10 = (cond E1 ((.bool E2)) undef) := r10
    replace r11 : u 11 = (.bool G2) := r11
    replace r12 : u 12 = (.bool G2) := r12
    replace r13 : u 13 = (cond G2 ((.pointer (some ⟨w.heap.size, 43, none⟩))) undef) := r13
    replace r14 : u 14 = (cond G2 ((.bool a.holds)) undef) := r14
    replace r15 : u 15 = (cond G2 ((.pointer (some ⟨w0.heap.size, 43, none⟩))) undef) := r15
    replace r16 : u 16 = (cond G2 ((.bool b.holds)) undef) := r16
    replace r17 : u 17 = (cond G2 ((.bool E3)) undef) := r17
    replace r18 : u 18 = (.bool G3) := r18
    replace r19 : u 19 = (.bool G3) := r19
    replace r20 : u 20 = (cond G3 ((.pointer (some ⟨w.heap.size, 84, none⟩))) undef) := r20
    replace r21 : u 21 = (cond G3 ((.bool a.decided)) undef) := r21
    replace r22 : u 22 = (cond G3 ((.pointer (some ⟨w0.heap.size, 84, none⟩))) undef) := r22
    replace r23 : u 23 = (cond G3 ((.bool b.decided)) undef) := r23
    replace r24 : u 24 = (cond G3 ((.bool E4)) undef) := r24
    replace r25 : u 25 = (.bool G4) := r25
    replace r26 : u 26 = (.bool G4) := r26
    replace r27 : u 27 = (cond G4 ((.pointer (some ⟨w.heap.size, 44, none⟩))) undef) := r27
    replace r28 : u 28 = (cond G4 ((.pointer (some ⟨w.heap.size, 44, none⟩))) undef) := r28
    replace r29 : u 29 = (cond G4 ((.int .i64 a.eslot)) undef) := r29
    replace r30 : u 30 = (cond G4 ((.pointer (some ⟨w0.heap.size, 44, none⟩))) undef) := r30
    replace r31 : u 31 = (cond G4 ((.pointer (some ⟨w0.heap.size, 44, none⟩))) undef) := r31
    replace r32 : u 32 = (cond G4 ((.int .i64 b.eslot)) undef) := r32
    replace r33 : u 33 = (cond G4 ((.bool E5)) undef) := r33
    replace r34 : u 34 = (.bool G5) := r34
    replace r35 : u 35 = (.bool G5) := r35
    replace r36 : u 36 = (cond G5 ((.pointer (some ⟨w.heap.size, 1, none⟩))) undef) := r36
    replace r37 : u 37 = (cond G5 ((.agg a.bat.cells.toArray)) undef) := r37
    replace r38 : u 38 = (cond G5 ((.pointer (some ⟨w0.heap.size, 1, none⟩))) undef) := r38
    replace r39 : u 39 = (cond G5 ((.agg b.bat.cells.toArray)) undef) := r39
    replace r40 : u 40 = (cond G5 ((.bool B1)) undef) := r40
    replace r41 : u 41 = (.bool G6) := r41
    replace r42 : u 42 = (.bool G6) := r42
    replace r43 : u 43 = (cond G6 ((.pointer (some ⟨w.heap.size, 4, none⟩))) undef) := r43
    replace r44 : u 44 = (cond G6 ((.pointer (some ⟨w.heap.size, 4, none⟩))) undef) := r44
    replace r45 : u 45 = (cond G6 ((.agg a.hbat.cells.toArray)) undef) := r45
    replace r46 : u 46 = (cond G6 ((.pointer (some ⟨w0.heap.size, 4, none⟩))) undef) := r46
    replace r47 : u 47 = (cond G6 ((.pointer (some ⟨w0.heap.size, 4, none⟩))) undef) := r47
    replace r48 : u 48 = (cond G6 ((.agg b.hbat.cells.toArray)) undef) := r48
    replace r49 : u 49 = (cond G6 ((.bool B2)) undef) := r49
    replace r50 : u 50 = (.bool G7) := r50
    replace r51 : u 51 = (.bool G7) := r51
    replace r52 : u 52 = (cond G7 ((.pointer (some ⟨w.heap.size, 44, none⟩))) undef) := r52
    replace r53 : u 53 = (cond G7 ((.pointer (some ⟨w.heap.size, 45, none⟩))) undef) := r53
    replace r54 : u 54 = (cond G7 ((.agg a.ebat.cells.toArray)) undef) := r54
    replace r55 : u 55 = (cond G7 ((.pointer (some ⟨w0.heap.size, 44, none⟩))) undef) := r55
    replace r56 : u 56 = (cond G7 ((.pointer (some ⟨w0.heap.size, 45, none⟩))) undef) := r56
    replace r57 : u 57 = (cond G7 ((.agg b.ebat.cells.toArray)) undef) := r57
    replace r58 : u 58 = (cond G7 ((.bool B3)) undef) := r58
    replace r59 : u 59 = (.bool G8) := r59
    replace r60 : u 60 = (.bool G8) := r60
    replace r61 : u 61 = (cond G8 ((.pointer (some ⟨w.heap.size, 4, none⟩))) undef) := r61
    replace r62 : u 62 = (cond G8 ((.pointer (some ⟨w.heap.size, 6, none⟩))) undef) := r62
    replace r63 : u 63 = (cond G8 ((.agg a.hcert.cells.toArray)) undef) := r63
    replace r64 : u 64 = (cond G8 ((.pointer (some ⟨w0.heap.size, 4, none⟩))) undef) := r64
    replace r65 : u 65 = (cond G8 ((.pointer (some ⟨w0.heap.size, 6, none⟩))) undef) := r65
    replace r66 : u 66 = (cond G8 ((.agg b.hcert.cells.toArray)) undef) := r66
    replace r67 : u 67 = (cond G8 ((.bool C1)) undef) := r67
    replace r68 : u 68 = (.bool G9) := r68
    replace r69 : u 69 = (.bool G9) := r69
    replace r70 : u 70 = (cond G9 ((.pointer (some ⟨w.heap.size, 44, none⟩))) undef) := r70
    replace r71 : u 71 = (cond G9 ((.pointer (some ⟨w.heap.size, 47, none⟩))) undef) := r71
    replace r72 : u 72 = (cond G9 ((.agg a.ecert.cells.toArray)) undef) := r72
    replace r73 : u 73 = (cond G9 ((.pointer (some ⟨w0.heap.size, 44, none⟩))) undef) := r73
    replace r74 : u 74 = (cond G9 ((.pointer (some ⟨w0.heap.size, 47, none⟩))) undef) := r74
    replace r75 : u 75 = (cond G9 ((.agg b.ecert.cells.toArray)) undef) := r75
    replace r76 : u 76 = (cond G9 ((.bool C2)) undef) := r76
    replace r77 : u 77 = (.bool R) := r77
    replace r78 : u 78 = (.bool R) := r78
    simp only [mkAct, List.foldl_cons, List.foldl_nil, List.setIfInBounds_toArray, List.set_cons_succ, List.set_cons_zero]
    try simp only [str, r0, r1, r2, r3, r4, r5, r6, r7, r8, r9, r10, r11, r12, r13, r14, r15, r16, r17, r18, r19, r20, r21, r22, r23, r24, r25, r26, r27, r28, r29, r30, r31, r32, r33, r34, r35, r36, r37, r38, r39, r40, r41, r42, r43, r44, r45, r46, r47, r48, r49, r50, r51, r52, r53, r54, r55, r56, r57, r58, r59, r60, r61, r62, r63, r64, r65, r66, r67, r68, r69, r70, r71, r72, r73, r74, r75, r76, r77, r78]
    go_wp2
    go_ret
    exact ⟨rfl, hw1.out.trans hI⟩
theorem slotSame_any (a b : SlotV) (w : World) (ha : a.at w) (hb : b.at w) :
    Calls Try.prog 30 #[.agg a.cells.toArray, .agg b.cells.toArray] w fun e w' => e = .returned (.bool (slotSame a b)) ∧ Same w w' := by
  have h := slotSame_raw a b w ha hb _ _ _ _ _ _ _ _ _ _ _ _ _ _ rfl rfl rfl rfl rfl rfl rfl rfl rfl rfl rfl rfl rfl rfl
  have e : slotSame a b = ((((((((((a.view == b.view) && (a.is == b.is)) && (a.holds == b.holds)) && (a.decided == b.decided)) && (a.eslot == b.eslot)) && batSame a.bat b.bat) && batSame a.hbat b.hbat) && batSame a.ebat b.ebat) && CertV.same a.hcert b.hcert) && CertV.same a.ecert b.ecert) := by
    rw [Bool.eq_iff_iff]
    simp only [slotSame, Bool.and_eq_true, decide_eq_true_eq, beq_iff_eq]
    constructor
    · rintro ⟨h1, h2, h3, h4, h5, ⟨h6, h7⟩, h8, h9, h10⟩
      exact ⟨⟨⟨⟨⟨⟨⟨⟨⟨h1, h2⟩, h3⟩, h4⟩, h8⟩, h5⟩, h6⟩, h9⟩, h7⟩, h10⟩
    · rintro ⟨⟨⟨⟨⟨⟨⟨⟨⟨h1, h2⟩, h3⟩, h4⟩, h8⟩, h5⟩, h6⟩, h9⟩, h7⟩, h10⟩
      exact ⟨h1, h2, h3, h4, h5, ⟨h6, h7⟩, h8, h9, h10⟩
  rw [e]
  exact h
end Go.Proofs.Ytmacgmmjgdmleaa
