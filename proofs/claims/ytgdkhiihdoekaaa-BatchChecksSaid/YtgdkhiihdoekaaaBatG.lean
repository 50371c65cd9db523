/-
  Batches: the program's Same; which batches may be, by both.
-/
import Derived.Test.YtgdkhiihdoekaaaBatM
import Derived.Test.YtgdkhiihdoekaaaReq5
import Derived.Test.YtgdkhiihdoekaaaBatH
import Derived.Deep.DeepCutAuto
namespace Go.Proofs.Ytgdkhiihdoekaaa
open Go Go.RowKit
set_option linter.unusedSimpArgs false
set_option linter.unusedVariables false

set_option maxRecDepth 100000
set_option maxRecDepth 100000 in
set_option maxHeartbeats 1600000 in
theorem bsameL_any (a b : BatV) (w : World) (ha : a.at w) (hb : b.at w) :
    Calls Try.prog 81 #[.slice a.ao a.reqs.length a.c, .slice b.ao b.reqs.length b.c] w fun e w' => e = .returned (.bool (decide (a.reqs = b.reqs))) ∧ Same w w' := by
  have hcap := ha.1.cap
  have hmost := ha.1.most
  have hcapb := hb.1.cap
  unfold maxLen at hmost
  obtain ⟨R, hR⟩ : ∃ R, R = decide (a.reqs = b.reqs) := ⟨_, rfl⟩
  rw [← hR]
  obtain ⟨n, hn⟩ : ∃ n, n = a.reqs.length := ⟨_, rfl⟩
  obtain ⟨m, hm⟩ : ∃ m, m = b.reqs.length := ⟨_, rfl⟩
  rw [← hn] at hcap ⊢
  rw [← hm] at hcapb ⊢
  obtain ⟨aa, haa⟩ : ∃ ao, ao = a.ao := ⟨_, rfl⟩
  obtain ⟨ab, hab⟩ : ∃ ao, ao = b.ao := ⟨_, rfl⟩
  rw [← haa, ← hab]
  have hbad : a.reqs ≠ b.reqs → R = false := fun h => by rw [hR, decide_eq_false h]
  have hgood : a.reqs = b.reqs → R = true := fun h => by rw [hR, decide_eq_true h]
  clear hR
  replace ha := Lib.hid ha
  replace hb := Lib.hid hb
  replace hn := Lib.hid hn
  replace hm := Lib.hid hm
  replace haa := Lib.hid haa
  replace hab := Lib.hid hab
  replace hbad := Lib.hid hbad
  replace hgood := Lib.hid hgood
  by_cases hnm : n = m
  · subst hnm
    have hnn : ((n : Int) != (n : Int)) = false := by simp
    go_enter Try.func81, Try.ntmps81
    go_wp2
    go_loopw [13] (fun i wr => ∃ k : Nat, k ≤ n ∧ i = .int .i64 k ∧ a.reqs.take k = b.reqs.take k ∧ Same w wr) (fun i _ => n - (intOf i).toNat)
    case atStart => exact ⟨0, by omega, rfl, rfl, Same.refl⟩
    case round =>
      obtain ⟨k, hk, rfl, htk, hs⟩ := hrel
      by_cases hlt : k < n
      · obtain ⟨bk, off, hao, hbl, hrange⟩ := BatV.range (w := w) (b := a) ha.out (i := k) (by rw [← hn.out]; exact hlt)
        obtain ⟨bk2, off2, hao2, hbl2, hrange2⟩ := BatV.range (w := w) (b := b) hb.out (i := k) (by rw [← hm.out]; exact hlt)
        have hra := hs.range hrange
        have hrb := hs.range hrange2
        have hwa := (ha.out.2 _ (reqAt_mem (l := a.reqs) (i := k) (by rw [← hn.out]; exact hlt))).1
        have hwb := (hb.out.2 _ (reqAt_mem (l := b.reqs) (i := k) (by rw [← hm.out]; exact hlt))).1
        have hnx := take_eq_next (l := a.reqs) (m := b.reqs) (k := k) (by rw [← hn.out]; exact hlt) (by rw [← hm.out]; exact hlt) htk
        have hne : reqAt a.reqs k ≠ reqAt b.reqs k → a.reqs ≠ b.reqs := fun h1 h2 => h1 (by rw [h2])
        obtain ⟨X, hX⟩ : ∃ X, X = reqAt a.reqs k := ⟨_, rfl⟩
        obtain ⟨Y, hY⟩ : ∃ Y, Y = reqAt b.reqs k := ⟨_, rfl⟩
        rw [← hX] at hra hwa hnx hne
        rw [← hY] at hrb hwb hnx hne
        have heq := fun w => req_neq X Y hwa hwb w
        have hgd := req_guard
        have hinfX := Lib.hid (req_infoL hwa.1)
        have hinfY := Lib.hid (req_infoL hwb.1)
        rw [← haa.out] at hao
        rw [← hab.out] at hao2
        have hsame := Req.same_iff X Y
        obtain ⟨t, ht⟩ : ∃ t, t = Req.same X Y := ⟨_, rfl⟩
        rw [← ht] at heq hsame
        have q0 : 0 ≤ (k : Int) := by omega
        have q1 : (k : Int) < (n : Int) := by omega
        clear hrange hrange2 hbl hbl2 hX hY ht htk hwa hwb haa hab
        replace hra := Lib.hid hra
        replace hrb := Lib.hid hrb
        replace hnx := Lib.hid hnx
        replace hne := Lib.hid hne
        replace hsame := Lib.hid hsame
        replace hs := Lib.hid hs
        replace heq := Lib.hid heq
        replace hgd := Lib.hid hgd
        subst hao
        subst hao2
        go_upto_region 6 with fail
        go_cut [24] (fun v wx => v = .bool (!t) ∧ Same wr wx)
        case first =>
          refine wp_region_facts (by kernel_rfl) [(16, 0), (17, 1), (18, 2), (19, 3), (20, 4), (21, 5), (22, 6), (23, 7), (24, 8)] Same (Same _) [isV (.slice (some ⟨bk, off, none⟩) n a.c), isV (.int .i64 (k : Int)), isV (.pointer (some ⟨bk, off + k * 19, none⟩)), isV (.agg X.cells.toArray), isV (.slice (some ⟨bk2, off2, none⟩) n b.c), isV (.int .i64 (k : Int)), isV (.pointer (some ⟨bk2, off2 + k * 19, none⟩)), isV (.agg Y.cells.toArray), isV (.bool (!t))] Same.refl.drew (fun _ _ h k => h.trans k) (by simp [isV_stable, isB_stable, isAny_stable]) (by decide) (by decide) ?_ ?_
          · refine ⟨?_, ?_, ?_, ?_, ?_, ?_, ?_, ?_, ?_, trivial⟩
            all_goals (intro u wx hI hp; simp only [mkAct, List.foldl_cons, List.foldl_nil, List.setIfInBounds_toArray, List.set_cons_succ, List.set_cons_zero])
            · -- operation 0
              go_wp2
              refine stq_v rfl Same.refl ?_
              first | (simp only [mkAct, List.foldl_cons, List.foldl_nil, List.setIfInBounds_toArray, List.set_cons_succ, List.set_cons_zero, upd, reduceIte, Nat.reduceEqDiff, Nat.reduceAdd, str]; done) | (simp [mkAct, upd, str, *]; done)
            · -- operation 1
              go_wp2
              refine stq_v rfl Same.refl ?_
              first | (simp only [mkAct, List.foldl_cons, List.foldl_nil, List.setIfInBounds_toArray, List.set_cons_succ, List.set_cons_zero, upd, reduceIte, Nat.reduceEqDiff, Nat.reduceAdd, str]; done) | (simp [mkAct, upd, str, *]; done)
            · -- operation 2
              obtain ⟨f0, f1, -⟩ := hp
              replace f0 : u 0 = (.slice (some ⟨bk, off, none⟩) n a.c) := f0
              replace f1 : u 1 = (.int .i64 (k : Int)) := f1
              try simp only [f0, f1, str]
              go_wp2
              refine stq_v rfl Same.refl ?_
              first | (simp only [mkAct, List.foldl_cons, List.foldl_nil, List.setIfInBounds_toArray, List.set_cons_succ, List.set_cons_zero, upd, reduceIte, Nat.reduceEqDiff, Nat.reduceAdd, f0, f1, str]; done) | (simp [mkAct, upd, f0, f1, str, *]; done)
            · -- operation 3
              obtain ⟨f2, -⟩ := hp
              replace f2 : u 2 = (.pointer (some ⟨bk, off + k * 19, none⟩)) := f2
              try simp only [f2, str]
              go_wp2_with (refine load_mid rfl _ _ rfl bk (off + k * 19) rfl X.cells _ (hI.range hra.out) Try.underlying78 rfl hinfX.out ?_)
              refine stq_v rfl Same.refl ?_
              first | (simp only [mkAct, List.foldl_cons, List.foldl_nil, List.setIfInBounds_toArray, List.set_cons_succ, List.set_cons_zero, upd, reduceIte, Nat.reduceEqDiff, Nat.reduceAdd, f2, str]; done) | (simp [mkAct, upd, f2, str, *]; done)
            · -- operation 4
              go_wp2
              refine stq_v rfl Same.refl ?_
              first | (simp only [mkAct, List.foldl_cons, List.foldl_nil, List.setIfInBounds_toArray, List.set_cons_succ, List.set_cons_zero, upd, reduceIte, Nat.reduceEqDiff, Nat.reduceAdd, str]; done) | (simp [mkAct, upd, str, *]; done)
            · -- operation 5
              go_wp2
              refine stq_v rfl Same.refl ?_
              first | (simp only [mkAct, List.foldl_cons, List.foldl_nil, List.setIfInBounds_toArray, List.set_cons_succ, List.set_cons_zero, upd, reduceIte, Nat.reduceEqDiff, Nat.reduceAdd, str]; done) | (simp [mkAct, upd, str, *]; done)
            · -- operation 6
              obtain ⟨f4, f5, -⟩ := hp
              replace f4 : u 4 = (.slice (some ⟨bk2, off2, none⟩) n b.c) := f4
              replace f5 : u 5 = (.int .i64 (k : Int)) := f5
              try simp only [f4, f5, str]
              go_wp2
              refine stq_v rfl Same.refl ?_
              first | (simp only [mkAct, List.foldl_cons, List.foldl_nil, List.setIfInBounds_toArray, List.set_cons_succ, List.set_cons_zero, upd, reduceIte, Nat.reduceEqDiff, Nat.reduceAdd, f4, f5, str]; done) | (simp [mkAct, upd, f4, f5, str, *]; done)
            · -- operation 7
              obtain ⟨f6, -⟩ := hp
              replace f6 : u 6 = (.pointer (some ⟨bk2, off2 + k * 19, none⟩)) := f6
              try simp only [f6, str]
              go_wp2_with (refine load_mid rfl _ _ rfl bk2 (off2 + k * 19) rfl Y.cells _ (hI.range hrb.out) Try.underlying78 rfl hinfY.out ?_)
              refine stq_v rfl Same.refl ?_
              first | (simp only [mkAct, List.foldl_cons, List.foldl_nil, List.setIfInBounds_toArray, List.set_cons_succ, List.set_cons_zero, upd, reduceIte, Nat.reduceEqDiff, Nat.reduceAdd, f6, str]; done) | (simp [mkAct, upd, f6, str, *]; done)
            · -- operation 8
              obtain ⟨f3, f7, -⟩ := hp
              replace f3 : u 3 = (.agg X.cells.toArray) := f3
              replace f7 : u 7 = (.agg Y.cells.toArray) := f7
              try simp only [f3, f7, str]
              have heq := heq.out
              have hgd := hgd.out
              go_wp2
              refine stq_v rfl Same.refl ?_
              first | (simp only [mkAct, List.foldl_cons, List.foldl_nil, List.setIfInBounds_toArray, List.set_cons_succ, List.set_cons_zero, upd, reduceIte, Nat.reduceEqDiff, Nat.reduceAdd, f3, f7, str]; done) | (simp [mkAct, upd, f3, f7, str, *]; done)
          · intro u wx hI hR
            obtain ⟨r0, r1, r2, r3, r4, r5, r6, r7, r8, -⟩ := hR
            replace r0 : u 0 = (.slice (some ⟨bk, off, none⟩) n a.c) := r0
            replace r1 : u 1 = (.int .i64 (k : Int)) := r1
            replace r2 : u 2 = (.pointer (some ⟨bk, off + k * 19, none⟩)) := r2
            replace r3 : u 3 = (.agg X.cells.toArray) := r3
            replace r4 : u 4 = (.slice (some ⟨bk2, off2, none⟩) n b.c) := r4
            replace r5 : u 5 = (.int .i64 (k : Int)) := r5
            replace r6 : u 6 = (.pointer (some ⟨bk2, off2 + k * 19, none⟩)) := r6
            replace r7 : u 7 = (.agg Y.cells.toArray) := r7
            replace r8 : u 8 = (.bool (!t)) := r8
            simp only [mkAct, List.foldl_cons, List.foldl_nil, List.setIfInBounds_toArray, List.set_cons_succ, List.set_cons_zero]
            try simp only [str, r0, r1, r2, r3, r4, r5, r6, r7, r8]
            go_wp2
            go_meet
            exact ⟨rfl, hI⟩
        case rest =>
          obtain ⟨rfl, hs3⟩ := hcut
          cases ht : t
          · have hR2 := hbad.out (hne.out (fun h => by have := hsame.out.2 h; rw [ht] at this; cases this))
            clear hsame heq
            replace hR2 := Lib.hid hR2
            go_wp2
            go_ret
            exact ⟨by rw [hR2.out]; rfl, hs.out.trans hs3⟩
          · have hnx2 := hnx.out (hsame.out.1 ht)
            clear hsame heq
            replace hnx2 := Lib.hid hnx2
            go_wp2
            go_roundw
            case rel => exact ⟨k + 1, by omega, by go_num, hnx2.out, hs.out.trans hs3⟩
            case measure => simp [intOf]; omega
      · obtain rfl : k = n := by omega
        have hall : a.reqs = b.reqs := by
          rw [List.take_of_length_le (by rw [← hn.out]; exact Nat.le_refl _), List.take_of_length_le (by rw [← hm.out]; exact Nat.le_refl _)] at htk
          exact htk
        have hR2 := hgood.out hall
        clear htk hall
        replace hs := Lib.hid hs
        replace hR2 := Lib.hid hR2
        go_wp2
        go_ret
        exact ⟨by rw [hR2.out]; rfl, hs.out⟩
  · have hR2 := hbad.out (fun h => hnm (by rw [hn.out, hm.out, h]))
    have hnn : ((n : Int) != (m : Int)) = true := by simp; omega
    clear hnm
    replace hR2 := Lib.hid hR2
    go_enter Try.func81, Try.ntmps81
    go_wp2
    go_ret
    exact ⟨by rw [hR2.out]; rfl, Same.refl⟩
set_option maxRecDepth 100000 in
set_option maxHeartbeats 800000 in
theorem bsame_any (a b : BatV) (w : World) (ha : a.at w) (hb : b.at w) :
    Calls Try.prog 19 #[.agg a.cells.toArray, .agg b.cells.toArray] w fun e w' => e = .returned (.bool (batSame a b)) ∧ Same w w' := by
  have hinfA := Lib.hid (bat_info a)
  have hinfB := Lib.hid (bat_info b)
  have hL := fun w h1 h2 => bsameL_any a b w h1 h2
  obtain ⟨R, hR⟩ : ∃ R, R = decide (a.reqs = b.reqs) := ⟨_, rfl⟩
  obtain ⟨E, hE⟩ : ∃ E, E = decide (a.noop = b.noop) := ⟨_, rfl⟩
  have hE2 : (a.noop == b.noop) = E := by rw [hE]; cases a.noop <;> cases b.noop <;> rfl
  unfold batSame
  rw [← hE, ← hR]
  simp only [← hR] at hL
  obtain ⟨n, hn⟩ : ∃ n, n = a.reqs.length := ⟨_, rfl⟩
  obtain ⟨m, hm⟩ : ∃ m, m = b.reqs.length := ⟨_, rfl⟩
  obtain ⟨p, hp⟩ : ∃ p, p = a.noop := ⟨_, rfl⟩
  obtain ⟨q, hq⟩ : ∃ q, q = b.noop := ⟨_, rfl⟩
  rw [← hp, ← hq] at hE2
  rw [← hn, ← hm] at hL
  replace ha := Lib.hid ha
  replace hb := Lib.hid hb
  replace hn := Lib.hid hn
  replace hm := Lib.hid hm
  replace hp := Lib.hid hp
  replace hq := Lib.hid hq
  replace hL := Lib.hid hL
  replace hR := Lib.hid hR
  replace hE := Lib.hid hE
  replace hE2 := Lib.hid hE2
  go_enter Try.func19, Try.ntmps19
  go_upto_region 1 with (first | (refine box_row rfl _ _ rfl a.cells.toArray rfl hinfA.out ?_; intro w0 hbx hs0; have hbxl := blk_lt hbx; replace hbx := Lib.hid hbx; replace hs0 := Lib.hid hs0) | (refine box_row rfl _ _ rfl b.cells.toArray rfl hinfB.out ?_; intro w1 hby hs1; replace hby := Lib.hid hby; replace hs1 := Lib.hid hs1))
  have hbx1 := hs1.out.at hbx.out
  have c0 := bat_noop hbx1
  have c1 := bat_reqs hbx1
  have d0 := bat_noop hby.out
  have d1 := bat_reqs hby.out
  rw [← hn.out] at c1
  rw [← hm.out] at d1
  rw [← hp.out] at c0
  rw [← hq.out] at d0
  have hw1 := Lib.hid (hs0.out.trans hs1.out)
  clear hbx hby hs0 hs1 hbx1
  cases E
  · have hEx := hE2.out
    go_wp2
    go_ret
    exact ⟨rfl, hw1.out⟩
  · have hEx := hE2.out
    go_wp2_with fail
    refine (hL.out _ (BatV.same ha.out hw1.out) (BatV.same hb.out hw1.out)).mono ?_
    rintro e w2 ⟨rfl, hs2⟩
    have hw2 := Lib.hid (hw1.out.trans hs2)
    clear hs2 hEx
    go_wp2
    go_ret
    exact ⟨rfl, hw2.out⟩
theorem rv_take (l : List Req) (h : ∀ r ∈ l, r.tag.length = 16) : ∀ k, (rv l).take (k * 19) = rv (l.take k) := by
  induction l with
  | nil => intro k; simp [rv]
  | cons x l ih =>
    intro k
    rcases k with _ | k
    · simp [rv]
    · have hx := Req.cells_length (h x (List.mem_cons_self ..))
      have e1 : rv (x :: l) = x.cells ++ rv l := by simp [rv]
      have e2 : rv ((x :: l).take (k + 1)) = x.cells ++ rv (l.take k) := by simp [rv]
      rw [e1, e2, List.take_append, hx, List.take_of_length_le (by rw [hx, Nat.add_mul]; omega), show (k + 1) * 19 - 19 = k * 19 from by rw [Nat.add_mul]; omega, ih (fun r hr => h r (List.mem_cons_of_mem _ hr)) k]
/-- What is told of requests behind others: the first that may not be, or stands there. -/
def batErrs (g : Req → Nat) (seen : List Req) : List Req → Nat
  | [] => 0
  | r :: l => if g r ≠ 0 then g r else if inPairs seen r.pair then 202 else batErrs g (seen ++ [r]) l
def batGood (g : Req → Nat) (b : BatV) (most : Int) : Nat := if b.noop = true ∧ 0 < b.reqs.length ∨ most < (b.reqs.length : Int) then 70 else batErrs g [] b.reqs
theorem batErrs_at {g : Req → Nat} {l : List Req} {k : Nat} (h : k < l.length) : batErrs g (l.take k) (l.drop k) = if g (reqAt l k) ≠ 0 then g (reqAt l k) else if inPairs (l.take k) (reqAt l k).pair then 202 else batErrs g (l.take (k + 1)) (l.drop (k + 1)) := by
  have h1 := reqAt_get h
  rw [List.getElem?_eq_getElem h] at h1
  injection h1 with h1
  rw [List.drop_eq_getElem_cons h, batErrs, h1, take_snoc h]
set_option maxRecDepth 100000 in
set_option maxHeartbeats 1600000 in
theorem bgood_any (p : Option Addr) (seed : ByteArray) (N : Nat) (nodes clients most : Int) (b : BatV) (w : World) (h : b.at w) (hk : KeysAt w p seed N) (hN : N ≠ 0) (hN2 : N ≤ 1000000) (hs : seed.size ≤ 1000000) :
    Calls Try.prog 37 #[.pointer p, .int .i64 nodes, .int .i64 clients, .int .i64 most, .agg b.cells.toArray] w fun e w' => e = .returned (.int .i64 (batGood (fun r => r.good seed.data.toList N nodes clients) b most : Nat)) ∧ Same w w' := by
  have hof := Lib.hid bof_any
  have hgo := fun w r ht hk => rqsgood_any w p seed N nodes clients r ht hk hN hN2 hs
  obtain ⟨G, hG⟩ : ∃ G : Req → Nat, G = fun r => r.good seed.data.toList N nodes clients := ⟨_, rfl⟩
  rw [← hG]
  have hgo2 : ∀ w r, r.tag.length = 16 → KeysAt w p seed N → Calls Try.prog 38 #[.pointer p, .int .i64 nodes, .int .i64 clients, .agg r.cells.toArray] w fun e w' => e = .returned (.int .i64 (G r : Nat)) ∧ Same w w' := by
    intro w r ht hk
    rw [hG]
    exact hgo w r ht hk
  clear hgo hG
  replace hgo2 := Lib.hid hgo2
  have hcap := h.1.cap
  have hmost := h.1.most
  unfold maxLen at hmost
  have hinf := Lib.hid (bat_info b)
  obtain ⟨n, hn⟩ : ∃ n, n = b.reqs.length := ⟨_, rfl⟩
  rw [← hn] at hcap
  obtain ⟨E, hE⟩ : ∃ E, E = batGood G b most := ⟨_, rfl⟩
  rw [← hE]
  unfold batGood at hE
  rw [← hn] at hE
  obtain ⟨q, hq⟩ : ∃ q, q = b.noop := ⟨_, rfl⟩
  rw [← hq] at hE
  obtain ⟨ao, hao⟩ : ∃ ao, ao = b.ao := ⟨_, rfl⟩
  replace h := Lib.hid h
  replace hn := Lib.hid hn
  replace hq := Lib.hid hq
  replace hao := Lib.hid hao
  replace hk := Lib.hid hk
  by_cases hb : q = true ∧ 0 < n ∨ most < (n : Int)
  · rw [if_pos hb] at hE
    subst hE
    have hb2 : q = true ∧ (0 < (n : Int)) ∨ q = true ∧ n = 0 ∧ most < (n : Int) ∨ q = false ∧ most < (n : Int) := by
      cases q
      · rcases hb with hb | hb
        · cases hb.1
        · exact .inr (.inr ⟨rfl, hb⟩)
      · rcases Nat.eq_zero_or_pos n with h0 | h0
        · refine .inr (.inl ⟨rfl, h0, ?_⟩)
          rcases hb with hb | hb
          · omega
          · exact hb
        · exact .inl ⟨rfl, by omega⟩
    clear hb
    rcases hb2 with ⟨rfl, h1⟩ | ⟨rfl, rfl, h1⟩ | ⟨rfl, h1⟩
    · go_enter Try.func37, Try.ntmps37
      go_upto_region 1 with (refine box_row rfl _ _ rfl _ rfl hinf.out ?_; intro w0 hbx hs0; have c0 := bat_noop hbx; have c1 := bat_reqs hbx; rw [← hn.out] at c1; rw [← hq.out] at c0; clear hbx; replace hs0 := Lib.hid hs0)
      go_wp2
      go_ret
      exact ⟨rfl, hs0.out⟩
    · go_enter Try.func37, Try.ntmps37
      go_upto_region 1 with (refine box_row rfl _ _ rfl _ rfl hinf.out ?_; intro w0 hbx hs0; have c0 := bat_noop hbx; have c1 := bat_reqs hbx; rw [← hn.out] at c1; rw [← hq.out] at c0; clear hbx; replace hs0 := Lib.hid hs0)
      go_wp2
      go_ret
      exact ⟨rfl, hs0.out⟩
    · go_enter Try.func37, Try.ntmps37
      go_upto_region 1 with (refine box_row rfl _ _ rfl _ rfl hinf.out ?_; intro w0 hbx hs0; have c0 := bat_noop hbx; have c1 := bat_reqs hbx; rw [← hn.out] at c1; rw [← hq.out] at c0; clear hbx; replace hs0 := Lib.hid hs0)
      go_wp2
      go_ret
      exact ⟨rfl, hs0.out⟩
  · rw [if_neg hb] at hE
    have hb2 : (q = false ∨ q = true ∧ n = 0) ∧ ¬ most < (n : Int) := by
      refine ⟨?_, fun h => hb (.inr h)⟩
      cases q
      · exact .inl rfl
      · refine .inr ⟨rfl, ?_⟩
        rcases Nat.eq_zero_or_pos n with h0 | h0
        · exact h0
        · exact absurd (.inl ⟨rfl, h0⟩) hb
    clear hb
    obtain ⟨hb3, hb4⟩ := hb2
    have hb5 : decide (most < (n : Int)) = false := decide_eq_false hb4
    clear hb4
    have key : ∀ w1 : World, Same w w1 → w1.cell? ⟨w.heap.size, 1, none⟩ = some (.slice b.ao n b.c) → True := fun _ _ _ => trivial
    clear key
    replace hE := Lib.hid hE
    rcases hb3 with rfl | ⟨rfl, rfl⟩
    · go_enter Try.func37, Try.ntmps37
      go_upto_region 1 with (refine box_row rfl _ _ rfl _ rfl hinf.out ?_; intro w0 hbx hs0; have c0 := bat_noop hbx; have c1 := bat_reqs hbx; rw [← hn.out] at c1; rw [← hq.out] at c0; clear hbx; replace hs0 := Lib.hid hs0)
      go_wp2_with (refine bp_make rfl rfl ?_; intro w2 hMs hs2 hz2; have c12 := hs2.cell c1; replace hMs := Lib.hid hMs; replace hs2 := Lib.hid hs2)
      obtain ⟨B, hB⟩ : ∃ B, B = w0.heap.size := ⟨_, rfl⟩
      rw [← hB] at hMs
      try rw [← hB]
      have hB2 : ∀ x, x < w0.heap.size → ¬ x = B := fun x hx => by omega
      replace hB := Lib.hid hB
      replace c1 := Lib.hid c1
      clear c0 c12
      go_loopw [34] (fun i wr => ∃ k c : Nat, k ≤ n ∧ i = .int .i64 k ∧ E = batErrs G (b.reqs.take k) (b.reqs.drop k) ∧ bp_set wr B k c (inPairs (b.reqs.take k)) ∧ Same w0 wr) (fun i _ => n - (intOf i).toNat)
      case atStart => exact ⟨0, 0, by omega, rfl, hE.out, hMs.out, hs2.out⟩
      case round =>
        obtain ⟨k, c, hkn0, rfl, hEk, hset, hs⟩ := hrel
        clear hMs hs2
        have hsetl := hset.lt
        by_cases hlt : k < n
        · have hkn := take_snoc (l := b.reqs) (k := k) (by rw [← hn.out]; exact hlt)
          rw [batErrs_at (by rw [← hn.out]; exact hlt)] at hEk
          obtain ⟨bk, off, hao2, hbl, hrange⟩ := BatV.range (w := w) (b := b) h.out (i := k) (by rw [← hn.out]; exact hlt)
          have hr2 := (hs0.out.trans hs).range hrange
          have hwfR := (h.out.2 _ (reqAt_mem (l := b.reqs) (i := k) (by rw [← hn.out]; exact hlt))).1
          obtain ⟨R, hR⟩ : ∃ R, R = reqAt b.reqs k := ⟨_, rfl⟩
          rw [← hR] at hr2 hwfR
          have hinfL := Lib.hid (req_infoL hwfR.1)
          have hinfR := Lib.hid (req_info hwfR.1)
          have hsz := Lib.hid (req_sizes (r := zeroReq) rfl hwfR.1)
          have q0 : 0 ≤ (k : Int) := by omega
          clear hrange hbl
          replace hr2 := Lib.hid hr2
          replace hwfR := Lib.hid hwfR
          replace hR := Lib.hid hR
          have q1 : (k : Int) < (n : Int) := by omega
          rw [← hR.out] at hkn hEk
          rw [hao2]
          clear hao2
          replace hset := Lib.hid hset
          replace hs := Lib.hid hs
          replace hkn := Lib.hid hkn
          replace hEk := Lib.hid hEk
          go_upto_region 7 with (first | (refine load_mid rfl _ _ rfl bk (off + k * 19) rfl R.cells _ hr2.out Try.underlying78 rfl hinfL.out ?_) | (refine alloc_new rfl 78 rfl zeroReq.cells.toArray (by kernel_rfl) ?_; intro w3 hd hs3; have hdl := blk_lt hd; replace hd := Lib.hid hd; replace hs3 := Lib.hid hs3) | (refine store_row rfl _ _ _ rfl wr.heap.size _ rfl rfl _ _ hd.out hinfR.out hsz.out (req_one _) ?_; intro w4 hd4 hk4))
          have hs4 : Same wr w4 := hs3.out.keep hk4 (fun x hx hv => by omega)
          have hw4 := Lib.hid (hs.out.trans hs4)
          have hset4 := Lib.hid (hset.out.same hs4)
          replace hd4 := Lib.hid hd4
          clear hs hs3 hk4 hs4 hd hset
          go_simp
          go_wp2_with (refine load_row rfl _ _ rfl wr.heap.size rfl _ _ _ _ hd4.out Try.underlying78 rfl hinfR.out ?_)
          refine (hgo2.out _ _ hwfR.out.1 (hk.out.same (hs0.out.trans hw4.out))).mono ?_
          rintro e w5 ⟨rfl, hs5⟩
          have hw5 := Lib.hid (hw4.out.trans hs5)
          have hset5 := Lib.hid (hset4.out.same hs5)
          have hd5 := Lib.hid (hs5.at hd4.out)
          clear hs5 hw4 hset4 hd4
          obtain ⟨g, hg⟩ : ∃ g, g = G R := ⟨_, rfl⟩
          rw [← hg] at hEk ⊢
          replace hg := Lib.hid hg
          by_cases hg0 : g = 0
          · subst hg0
            rw [if_neg (by simp)] at hEk
            obtain ⟨J, hJ⟩ : ∃ J, J = inPairs (b.reqs.take k) R.pair := ⟨_, rfl⟩
            rw [← hJ] at hEk
            replace hJ := Lib.hid hJ
            cases J
            · rw [if_neg (by simp)] at hEk
              go_wp2_with (refine load_row rfl _ _ rfl wr.heap.size rfl _ _ _ _ hd5.out Try.underlying78 rfl hinfR.out ?_)
              refine (hof.out _ _ hwfR.out.1).mono ?_
              rintro e w6 ⟨rfl, hs6⟩
              have hw6 := Lib.hid (hw5.out.trans hs6)
              have hset6 := Lib.hid (hset5.out.same hs6)
              have hd6 := Lib.hid (hs6.at hd5.out)
              clear hs6 hw5 hset5 hd5
              go_wp2_with (first | (refine bp_look R.pair rfl _ _ rfl rfl hset6.out rfl hwfR.out.pair ?_; rw [← hJ.out]) | (refine load_row rfl _ _ rfl wr.heap.size rfl _ _ _ _ hd6.out Try.underlying78 rfl hinfR.out ?_))
              refine (hof.out _ _ hwfR.out.1).mono ?_
              rintro e w7 ⟨rfl, hs7⟩
              have hw7 := Lib.hid (hw6.out.trans hs7)
              have hset7 := Lib.hid (hset6.out.same hs7)
              clear hs7 hw6 hset6 hd6
              go_wp2_with (refine bp_put R.pair rfl _ _ _ rfl rfl hset7.out (by unfold maxLen; omega) rfl hwfR.out.pair rfl ?_; intro w8 hset8 hk8; replace hset8 := Lib.hid hset8; replace hk8 := Lib.hid hk8)
              go_roundw
              case rel =>
                refine ⟨k + 1, _, by omega, by go_num, hEk.out, hset8.out.congr rfl (fun p => ?_), hw7.out.keep hk8.out hB2⟩
                rw [hkn.out, inPairs_snoc]
              case measure => simp [intOf]; omega
            · rw [if_pos rfl] at hEk
              go_wp2_with (refine load_row rfl _ _ rfl wr.heap.size rfl _ _ _ _ hd5.out Try.underlying78 rfl hinfR.out ?_)
              refine (hof.out _ _ hwfR.out.1).mono ?_
              rintro e w6 ⟨rfl, hs6⟩
              have hw6 := Lib.hid (hw5.out.trans hs6)
              have hset6 := Lib.hid (hset5.out.same hs6)
              clear hs6 hw5 hset5 hd5
              go_wp2_with (refine bp_look R.pair rfl _ _ rfl rfl hset6.out rfl hwfR.out.pair ?_; rw [← hJ.out])
              go_ret
              exact ⟨by rw [hEk.out]; rfl, hs0.out.trans hw6.out⟩
          · rw [if_pos hg0] at hEk
            have hg1 : ((g : Int) != 0) = true := by simp; omega
            go_wp2
            go_ret
            exact ⟨by rw [hEk.out]; rfl, hs0.out.trans hw5.out⟩
        · obtain rfl : k = n := by omega
          rw [List.drop_of_length_le (by rw [← hn.out]; exact Nat.le_refl _), batErrs] at hEk
          clear hset
          replace hs := Lib.hid hs
          replace hEk := Lib.hid hEk
          go_wp2
          go_ret
          exact ⟨by rw [hEk.out]; rfl, hs0.out.trans hs.out⟩
    · have hE0 : E = 0 := by
        rw [hE.out]
        have : b.reqs = [] := List.eq_nil_of_length_eq_zero hn.out.symm
        rw [this]
        rfl
      subst hE0
      have hb6 : decide (most < (0 : Int)) = false := hb5
      go_enter Try.func37, Try.ntmps37
      go_upto_region 1 with (refine box_row rfl _ _ rfl _ rfl hinf.out ?_; intro w0 hbx hs0; have c0 := bat_noop hbx; have c1 := bat_reqs hbx; rw [← hn.out] at c1; rw [← hq.out] at c0; clear hbx; replace hs0 := Lib.hid hs0)
      go_wp2_with (refine bp_make rfl rfl ?_; intro w2 hMs hs2 hz2; have c12 := hs2.cell c1; replace hMs := Lib.hid hMs; replace hs2 := Lib.hid hs2)
      clear c0 c1
      go_loopw [34] (fun i wr => i = .int .i64 0 ∧ w2 = wr) (fun _ _ => 0)
      case atStart => exact ⟨rfl, rfl⟩
      case round =>
        obtain ⟨rfl, rfl⟩ := hrel
        go_wp2
        go_ret
        exact ⟨rfl, hs0.out.trans hs2.out⟩
end Go.Proofs.Ytgdkhiihdoekaaa
namespace Go.Proofs.Ytgdkhiihdoekaaa
open Go Go.RowKit
set_option linter.unusedSimpArgs false
set_option linter.unusedVariables false

set_option maxRecDepth 100000 in
set_option maxHeartbeats 1600000 in
theorem rbgood_any (seed : ByteArray) (N : Nat) (nodes clients most : Int) (b : BatV) (w : World) (h : b.at w) (hN : N ≠ 0) (hN2 : N ≤ 4096) (hs : seed.size ≤ 1000000) :
    Calls Try.prog 39 #[rkeys seed N, .int .i64 nodes, .int .i64 clients, .int .i64 most, .agg b.cells.toArray] w fun e w' => e = .returned (.int .i64 (batGood (fun r => r.good seed.data.toList N nodes clients) b most : Nat)) ∧ Same w w' := by
  have hinfK := Lib.hid (keys_info #[.string seed, .int .i64 (N : Nat)] rfl)
  obtain ⟨G, hG⟩ : ∃ G : Req → Nat, G = fun r => r.good seed.data.toList N nodes clients := ⟨_, rfl⟩
  rw [← hG]
  have hgo2 : ∀ w r, r.tag.length = 16 → Calls Try.prog 94 #[rkeys seed N, .int .i64 nodes, .int .i64 clients, .agg r.cells.toArray] w fun e w' => e = .returned (.int .i64 (G r : Nat)) ∧ Same w w' := by
    intro w r ht
    rw [hG]
    exact rqrgood_any w seed N nodes clients r ht hN hN2 hs
  clear hG hs hN2 hN
  replace hgo2 := Lib.hid hgo2
  have hcap := h.1.cap
  have hmost := h.1.most
  unfold maxLen at hmost
  have hinf := Lib.hid (bat_info b)
  obtain ⟨n, hn⟩ : ∃ n, n = b.reqs.length := ⟨_, rfl⟩
  rw [← hn] at hcap
  obtain ⟨E, hE⟩ : ∃ E, E = batGood G b most := ⟨_, rfl⟩
  rw [← hE]
  unfold batGood at hE
  rw [← hn] at hE
  obtain ⟨q, hq⟩ : ∃ q, q = b.noop := ⟨_, rfl⟩
  rw [← hq] at hE
  obtain ⟨ao, hao⟩ : ∃ ao, ao = b.ao := ⟨_, rfl⟩
  replace h := Lib.hid h
  replace hn := Lib.hid hn
  replace hq := Lib.hid hq
  replace hao := Lib.hid hao
  by_cases hb : q = true ∧ 0 < n ∨ most < (n : Int)
  · rw [if_pos hb] at hE
    subst hE
    have hb2 : q = true ∧ (0 < (n : Int)) ∨ q = true ∧ n = 0 ∧ most < (n : Int) ∨ q = false ∧ most < (n : Int) := by
      cases q
      · rcases hb with hb | hb
        · cases hb.1
        · exact .inr (.inr ⟨rfl, hb⟩)
      · rcases Nat.eq_zero_or_pos n with h0 | h0
        · refine .inr (.inl ⟨rfl, h0, ?_⟩)
          rcases hb with hb | hb
          · omega
          · exact hb
        · exact .inl ⟨rfl, by omega⟩
    clear hb
    rcases hb2 with ⟨rfl, h1⟩ | ⟨rfl, rfl, h1⟩ | ⟨rfl, h1⟩
    all_goals
      go_enter Try.func39, Try.ntmps39
      go_upto_region 1 with (first | (refine box_row rfl _ _ rfl b.cells.toArray rfl hinf.out ?_; intro w1 hbx hs1; have c0 := bat_noop hbx; have c1 := bat_reqs hbx; rw [← hn.out] at c1; rw [← hq.out] at c0; clear hbx; replace hs1 := Lib.hid hs1) | (refine box_row rfl _ _ rfl #[.string seed, .int .i64 (N : Nat)] rfl hinfK.out ?_; intro w0 hbk hs0; replace hbk := Lib.hid hbk; replace hs0 := Lib.hid hs0))
      go_wp2
      go_ret
      exact ⟨rfl, hs0.out.trans hs1.out⟩
  · rw [if_neg hb] at hE
    have hb2 : (q = false ∨ q = true ∧ n = 0) ∧ ¬ most < (n : Int) := by
      refine ⟨?_, fun h => hb (.inr h)⟩
      cases q
      · exact .inl rfl
      · refine .inr ⟨rfl, ?_⟩
        rcases Nat.eq_zero_or_pos n with h0 | h0
        · exact h0
        · exact absurd (.inl ⟨rfl, h0⟩) hb
    clear hb
    obtain ⟨hb3, hb4⟩ := hb2
    have hb5 : decide (most < (n : Int)) = false := decide_eq_false hb4
    clear hb4
    replace hE := Lib.hid hE
    rcases hb3 with rfl | ⟨rfl, rfl⟩
    · go_enter Try.func39, Try.ntmps39
      go_upto_region 1 with (first | (refine box_row rfl _ _ rfl b.cells.toArray rfl hinf.out ?_; intro w1 hbx hs1; have c0 := bat_noop hbx; have c1 := bat_reqs hbx; rw [← hn.out] at c1; rw [← hq.out] at c0; clear hbx; replace hs1 := Lib.hid hs1) | (refine box_row rfl _ _ rfl #[.string seed, .int .i64 (N : Nat)] rfl hinfK.out ?_; intro w0 hbk hs0; replace hbk := Lib.hid hbk; replace hs0 := Lib.hid hs0))
      have hw1 := Lib.hid (hs0.out.trans hs1.out)
      have hbk1 := Lib.hid (hs1.out.at hbk.out)
      clear hs0 hs1 hbk
      go_wp2
      replace c1 := Lib.hid c1
      clear c0
      go_loopw [11] (fun i wr => ∃ k : Nat, k ≤ n ∧ i = .int .i64 k ∧ E = batErrs G (b.reqs.take k) (b.reqs.drop k) ∧ once b.reqs k ∧ Same w1 wr) (fun i _ => n - (intOf i).toNat)
      case atStart => exact ⟨0, by omega, rfl, hE.out, once_zero _, Same.refl⟩
      case round =>
        obtain ⟨k, hkn0, rfl, hEk, hon, hs⟩ := hrel
        have c1r := hs.cell c1.out
        by_cases hlt : k < n
        · have hst := once_step hon
          have htt := twice_take hon (by rw [← hn.out]; exact hlt)
          have hbt2 : ∀ w', Same w w' → Calls Try.prog 41 #[.slice b.ao (b.reqs.take (k + 1)).length b.c] w' fun e w2 => e = .returned (.int .i64 (twiceAt (b.reqs.take (k + 1)))) ∧ Same w' w2 := by
            intro w' hw
            have hx := BatV.same h.out hw
            refine rbtwice_any { b with reqs := b.reqs.take (k + 1) } w' ⟨?_, fun r hr => hx.2 r (List.mem_of_mem_take hr)⟩
            obtain ⟨ad, had⟩ := hx.1.addr (by rw [← hn.out]; omega)
            have hx1 := hx.1
            rw [had] at hx1
            have ht := hx1.take (k := k + 1) (by rw [← hn.out]; omega)
            have e1 : (rv b.reqs).take ((k + 1) * 19) = rv (b.reqs.take (k + 1)) := rv_take b.reqs (fun r hr => (hx.2 r hr).1.1) (k + 1)
            rw [e1] at ht
            show Sl w' 19 b.ao (b.reqs.take (k + 1)).length b.c (rv (b.reqs.take (k + 1)))
            rw [had, List.length_take, ← hn.out, Nat.min_eq_left (by omega)]
            exact ht
          rw [List.length_take, ← hn.out, Nat.min_eq_left (by omega)] at hbt2
          rw [batErrs_at (by rw [← hn.out]; exact hlt)] at hEk
          obtain ⟨bk, off, hao2, hbl, hrange⟩ := BatV.range (w := w) (b := b) h.out (i := k) (by rw [← hn.out]; exact hlt)
          have hr2 := (hw1.out.trans hs).range hrange
          have hwfR := (h.out.2 _ (reqAt_mem (l := b.reqs) (i := k) (by rw [← hn.out]; exact hlt))).1
          obtain ⟨R, hR⟩ : ∃ R, R = reqAt b.reqs k := ⟨_, rfl⟩
          rw [← hR] at hr2 hwfR
          have hinfL := Lib.hid (req_infoL hwfR.1)
          have hinfR := Lib.hid (req_info hwfR.1)
          have hsz := Lib.hid (req_sizes (r := zeroReq) rfl hwfR.1)
          have q0 : 0 ≤ (k : Int) := by omega
          clear hrange hbl
          replace hr2 := Lib.hid hr2
          replace hwfR := Lib.hid hwfR
          replace hR := Lib.hid hR
          have q1 : (k : Int) < (n : Int) := by omega
          rw [← hR.out] at hEk hst htt
          rw [htt] at hbt2
          have hslf := Lib.hid (Sl.same h.out.1 (hw1.out.trans hs))
          rw [← hn.out] at hslf
          rw [hao2] at c1r hslf hbt2
          clear hao2 htt hon
          replace c1r := Lib.hid c1r
          replace hs := Lib.hid hs
          replace hEk := Lib.hid hEk
          replace hst := Lib.hid hst
          replace hbt2 := Lib.hid hbt2
          have hbk2 := Lib.hid (hs.out.at hbk1.out)
          have c1o := c1r.out
          go_upto_region 6 with fail
          clear c1o
          obtain ⟨g, hg⟩ : ∃ g, g = G R := ⟨_, rfl⟩
          rw [← hg] at hEk
          refine wp_region_last (by kernel_rfl) [(35, 0), (36, 1), (37, 2), (38, 3), (39, 4), (40, 5), (41, 6), (42, 7), (43, 8), (12, 9)] Same (Same _) [isV (rkeys seed N), isV (.int .i64 nodes), isV (.int .i64 clients), isV (.pointer (some ⟨w0.heap.size, 1, none⟩)), isV (.slice (some ⟨bk, off, none⟩) n b.c), isV (.int .i64 (k : Int)), isV (.pointer (some ⟨bk, off + k * 19, none⟩)), isV (.agg R.cells.toArray), isV (.int .i64 (g : Int))] Same.refl.drew (fun _ _ h k => h.trans k) (by simp [isV_stable, isB_stable, isAny_stable]) (by decide) (l := [_, _, _, _, _, _, _, _, _]) rfl (by decide) (by decide) ?_ ?_
          · refine ⟨?_, ?_, ?_, ?_, ?_, ?_, ?_, ?_, ?_, trivial⟩
            all_goals (intro u wx hI hp; simp only [mkAct, List.foldl_cons, List.foldl_nil, List.setIfInBounds_toArray, List.set_cons_succ, List.set_cons_zero])
            · -- operation 0
              go_wp2_with (refine load_row rfl _ _ rfl w.heap.size rfl _ _ _ _ (hI.at hbk2.out) Try.underlying71 rfl hinfK.out ?_)
              refine stq_v rfl Same.refl ?_
              first | (simp only [mkAct, List.foldl_cons, List.foldl_nil, List.setIfInBounds_toArray, List.set_cons_succ, List.set_cons_zero, upd, reduceIte, Nat.reduceEqDiff, Nat.reduceAdd, str]; done) | (simp [mkAct, upd, str, *]; done)
            · -- operation 1
              go_wp2
              refine stq_v rfl Same.refl ?_
              first | (simp only [mkAct, List.foldl_cons, List.foldl_nil, List.setIfInBounds_toArray, List.set_cons_succ, List.set_cons_zero, upd, reduceIte, Nat.reduceEqDiff, Nat.reduceAdd, str]; done) | (simp [mkAct, upd, str, *]; done)
            · -- operation 2
              go_wp2
              refine stq_v rfl Same.refl ?_
              first | (simp only [mkAct, List.foldl_cons, List.foldl_nil, List.setIfInBounds_toArray, List.set_cons_succ, List.set_cons_zero, upd, reduceIte, Nat.reduceEqDiff, Nat.reduceAdd, str]; done) | (simp [mkAct, upd, str, *]; done)
            · -- operation 3
              go_wp2
              refine stq_v rfl Same.refl ?_
              first | (simp only [mkAct, List.foldl_cons, List.foldl_nil, List.setIfInBounds_toArray, List.set_cons_succ, List.set_cons_zero, upd, reduceIte, Nat.reduceEqDiff, Nat.reduceAdd, str]; done) | (simp [mkAct, upd, str, *]; done)
            · -- operation 4
              obtain ⟨f3, -⟩ := hp
              replace f3 : u 3 = (.pointer (some ⟨w0.heap.size, 1, none⟩)) := f3
              try simp only [f3, str]
              have cx := hI.cell (c1r.out)
              go_wp2
              refine stq_v rfl Same.refl ?_
              first | (simp only [mkAct, List.foldl_cons, List.foldl_nil, List.setIfInBounds_toArray, List.set_cons_succ, List.set_cons_zero, upd, reduceIte, Nat.reduceEqDiff, Nat.reduceAdd, f3, str]; done) | (simp [mkAct, upd, f3, str, *]; done)
            · -- operation 5
              go_wp2
              refine stq_v rfl Same.refl ?_
              first | (simp only [mkAct, List.foldl_cons, List.foldl_nil, List.setIfInBounds_toArray, List.set_cons_succ, List.set_cons_zero, upd, reduceIte, Nat.reduceEqDiff, Nat.reduceAdd, str]; done) | (simp [mkAct, upd, str, *]; done)
            · -- operation 6
              obtain ⟨f4, f5, -⟩ := hp
              replace f4 : u 4 = (.slice (some ⟨bk, off, none⟩) n b.c) := f4
              replace f5 : u 5 = (.int .i64 (k : Int)) := f5
              try simp only [f4, f5, str]
              go_wp2
              refine stq_v rfl Same.refl ?_
              first | (simp only [mkAct, List.foldl_cons, List.foldl_nil, List.setIfInBounds_toArray, List.set_cons_succ, List.set_cons_zero, upd, reduceIte, Nat.reduceEqDiff, Nat.reduceAdd, f4, f5, str]; done) | (simp [mkAct, upd, f4, f5, str, *]; done)
            · -- operation 7
              obtain ⟨f6, -⟩ := hp
              replace f6 : u 6 = (.pointer (some ⟨bk, off + k * 19, none⟩)) := f6
              try simp only [f6, str]
              go_wp2_with (refine load_mid rfl _ _ rfl bk (off + k * 19) rfl R.cells _ (hI.range hr2.out) Try.underlying78 rfl hinfL.out ?_)
              refine stq_v rfl Same.refl ?_
              first | (simp only [mkAct, List.foldl_cons, List.foldl_nil, List.setIfInBounds_toArray, List.set_cons_succ, List.set_cons_zero, upd, reduceIte, Nat.reduceEqDiff, Nat.reduceAdd, f6, str]; done) | (simp [mkAct, upd, f6, str, *]; done)
            · -- operation 8
              obtain ⟨f0, f1, f2, f7, -⟩ := hp
              replace f0 : u 0 = (rkeys seed N) := f0
              replace f1 : u 1 = (.int .i64 nodes) := f1
              replace f2 : u 2 = (.int .i64 clients) := f2
              replace f7 : u 7 = (.agg R.cells.toArray) := f7
              try simp only [f0, f1, f2, f7, str]
              rw [hg]
              go_wp2_with fail
              refine (hgo2.out _ _ hwfR.out.1).mono ?_
              rintro e w1 ⟨rfl, hs'⟩
              go_wp2
              refine stq_v rfl hs' ?_
              first | (simp only [mkAct, List.foldl_cons, List.foldl_nil, List.setIfInBounds_toArray, List.set_cons_succ, List.set_cons_zero, upd, reduceIte, Nat.reduceEqDiff, Nat.reduceAdd, f0, f1, f2, f7, str]; done) | (simp [mkAct, upd, f0, f1, f2, f7, str, *]; done)
          · intro u wx hI hR
            obtain ⟨r0, r1, r2, r3, r4, r5, r6, r7, r8, -⟩ := hR
            replace r0 : u 0 = (rkeys seed N) := r0
            replace r1 : u 1 = (.int .i64 nodes) := r1
            replace r2 : u 2 = (.int .i64 clients) := r2
            replace r3 : u 3 = (.pointer (some ⟨w0.heap.size, 1, none⟩)) := r3
            replace r4 : u 4 = (.slice (some ⟨bk, off, none⟩) n b.c) := r4
            replace r5 : u 5 = (.int .i64 (k : Int)) := r5
            replace r6 : u 6 = (.pointer (some ⟨bk, off + k * 19, none⟩)) := r6
            replace r7 : u 7 = (.agg R.cells.toArray) := r7
            replace r8 : u 8 = (.int .i64 (g : Int)) := r8
            simp only [mkAct, List.foldl_cons, List.foldl_nil, List.setIfInBounds_toArray, List.set_cons_succ, List.set_cons_zero]
            try simp only [str, r0, r1, r2, r3, r4, r5, r6, r7, r8]
            replace hg := Lib.hid hg
            have hw4 := Lib.hid (hs.out.trans hI)
            have c14 := hI.cell c1r.out
            have hsl4 := Lib.hid (hslf.out.same hI)
            clear hI r0 r1 r2 r3 r4 r5 r6 r7 r8 hs
            by_cases hg0 : g = 0
            · subst hg0
              rw [if_neg (by simp)] at hEk
              have hk1 : IntKind.i64.wrap ((k : Int) + 1) = ((k + 1 : Nat) : Int) := by rw [IntWalk.i64_in _ ⟨by omega, by omega⟩]; simp
              replace hk1 := Lib.hid hk1
              obtain ⟨J, hJ⟩ : ∃ J, J = inPairs (b.reqs.take k) R.pair := ⟨_, rfl⟩
              rw [← hJ] at hEk hst hbt2
              replace hJ := Lib.hid hJ
              cases J
              · rw [if_neg (by simp)] at hEk hbt2
                have hon2 := Lib.hid (hst.out rfl)
                go_wp2_with (refine slice_to rfl _ _ rfl reqsT rfl _ _ (k + 1) rfl hk1.out (by omega) hsl4.out ?_; intro hslt; clear hslt)
                refine (hbt2.out _ (hw1.out.trans hw4.out)).mono ?_
                rintro e w5 ⟨rfl, hs5⟩
                have hw5 := Lib.hid (hw4.out.trans hs5)
                clear hs5 hw4 hsl4 hst
                go_wp2
                go_roundw
                case rel => exact ⟨k + 1, by omega, by go_num, hEk.out, hon2.out, hw5.out⟩
                case measure => simp [intOf]; omega
              · rw [if_pos rfl] at hEk hbt2
                go_wp2_with (refine slice_to rfl _ _ rfl reqsT rfl _ _ (k + 1) rfl hk1.out (by omega) hsl4.out ?_; intro hslt; clear hslt)
                refine (hbt2.out _ (hw1.out.trans hw4.out)).mono ?_
                rintro e w5 ⟨rfl, hs5⟩
                have hw5 := Lib.hid (hw4.out.trans hs5)
                clear hs5 hw4 hsl4 hst
                go_wp2
                go_ret
                exact ⟨by rw [hEk.out]; rfl, hw1.out.trans hw5.out⟩
            · rw [if_pos hg0] at hEk
              have hg1 : ((g : Int) != 0) = true := by simp; omega
              go_wp2
              go_ret
              exact ⟨by rw [hEk.out]; rfl, hw1.out.trans hw4.out⟩
        · obtain rfl : k = n := by omega
          rw [List.drop_of_length_le (by rw [← hn.out]; exact Nat.le_refl _), batErrs] at hEk
          clear hon
          replace hs := Lib.hid hs
          replace hEk := Lib.hid hEk
          go_wp2
          go_ret
          exact ⟨by rw [hEk.out]; rfl, hw1.out.trans hs.out⟩
    · have hE0 : E = 0 := by
        rw [hE.out]
        have : b.reqs = [] := List.eq_nil_of_length_eq_zero hn.out.symm
        rw [this]
        rfl
      subst hE0
      have hb6 : decide (most < (0 : Int)) = false := hb5
      go_enter Try.func39, Try.ntmps39
      go_upto_region 1 with (first | (refine box_row rfl _ _ rfl b.cells.toArray rfl hinf.out ?_; intro w1 hbx hs1; have c0 := bat_noop hbx; have c1 := bat_reqs hbx; rw [← hn.out] at c1; rw [← hq.out] at c0; clear hbx; replace hs1 := Lib.hid hs1) | (refine box_row rfl _ _ rfl #[.string seed, .int .i64 (N : Nat)] rfl hinfK.out ?_; intro w0 hbk hs0; replace hbk := Lib.hid hbk; replace hs0 := Lib.hid hs0))
      go_wp2
      have c1' := c1
      replace c1' := Lib.hid c1'
      clear c0 c1
      go_loopw [11] (fun i wr => i = .int .i64 0 ∧ w1 = wr) (fun _ _ => 0)
      case atStart => exact ⟨rfl, rfl⟩
      case round =>
        obtain ⟨rfl, rfl⟩ := hrel
        have c1 := c1'.out
        go_wp2
        go_ret
        exact ⟨rfl, hs0.out.trans hs1.out⟩
end Go.Proofs.Ytgdkhiihdoekaaa
