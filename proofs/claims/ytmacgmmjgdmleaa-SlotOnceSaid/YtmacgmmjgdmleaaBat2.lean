/-
  Batches, the document's: which are plain, which are the same.
-/
import Derived.Test.YtmacgmmjgdmleaaBat1
import Derived.Test.YtmacgmmjgdmleaaSha3
namespace Go.Proofs.Ytmacgmmjgdmleaa
open Go Go.RowKit
set_option linter.unusedSimpArgs false
set_option linter.unusedVariables false

instance : DecidableEq Req := fun a b => decidable_of_iff (Req.same a b = true) (Req.same_iff a b)
theorem bat_info (b : BatV) : (Try.prog.info? 26).map (·.size) = some b.cells.toArray.size := by
  show _ = some 2
  kernel_rfl
theorem bat_one (b : BatV) : b.cells.toArray.all (·.oneCell') = true := by simp [BatV.cells, Value.oneCell']
section
variable {w : World} {k T : Nat} {b : BatV} (h : w.heap[k]? = some (.cells b.cells.toArray T (0, 0)))
include h
theorem bat_noop : w.cell? ⟨k, 0, none⟩ = some (.bool b.noop) := by rw [blk_cell h]; rfl
theorem bat_reqs : w.cell? ⟨k, 1, none⟩ = some (.slice b.ao b.reqs.length b.c) := by rw [blk_cell h]; rfl
end
/-- A plain batch: at most four requests, which may be read again. -/
structure BatV.plain (b : BatV) : Prop where
  len : b.reqs.length ≤ 4
  noop : b.noop = true → b.reqs = []
  el : ∀ r ∈ b.reqs, 0 ≤ r.client ∧ r.client ≤ 8 ∧ 0 ≤ r.num ∧ r.num ≤ 1099511627776 ∧ r.data.size ≤ 64
def batSame (a b : BatV) : Bool := decide (a.noop = b.noop) && decide (a.reqs = b.reqs)
end Go.Proofs.Ytmacgmmjgdmleaa
namespace Go.Proofs.Ytmacgmmjgdmleaa
open Go Go.RowKit
set_option linter.unusedSimpArgs false
set_option linter.unusedVariables false

theorem take_eq_next {l m : List Req} {k : Nat} (hl : k < l.length) (hm : k < m.length) (h : l.take k = m.take k) (he : reqAt l k = reqAt m k) : l.take (k + 1) = m.take (k + 1) := by
  rw [List.take_succ_eq_append_getElem hl, List.take_succ_eq_append_getElem hm, h]
  have h1 := reqAt_get hl
  have h2 := reqAt_get hm
  rw [List.getElem?_eq_getElem hl] at h1
  rw [List.getElem?_eq_getElem hm] at h2
  injection h1 with h1
  injection h2 with h2
  rw [h1, h2, he]
set_option maxRecDepth 100000 in
set_option maxHeartbeats 1600000 in
theorem rbsame_any (a b : BatV) (w : World) (ha : a.at w) (hb : b.at w) :
    Calls Try.prog 29 #[.agg a.cells.toArray, .agg b.cells.toArray] w fun e w' => e = .returned (.bool (batSame a b)) ∧ Same w w' := by
  have hinfA := Lib.hid (bat_info a)
  have hinfB := Lib.hid (bat_info b)
  have hcap := ha.1.cap
  have hmost := ha.1.most
  have hcapb := hb.1.cap
  unfold maxLen at hmost
  obtain ⟨R, hR⟩ : ∃ R, R = batSame a b := ⟨_, rfl⟩
  rw [← hR]
  obtain ⟨n, hn⟩ : ∃ n, n = a.reqs.length := ⟨_, rfl⟩
  obtain ⟨m, hm⟩ : ∃ m, m = b.reqs.length := ⟨_, rfl⟩
  rw [← hn] at hcap
  rw [← hm] at hcapb
  have hbad : a.noop ≠ b.noop ∨ a.reqs ≠ b.reqs → R = false := by
    intro h
    rw [hR, batSame]
    rcases h with h | h
    · rw [decide_eq_false h]; rfl
    · rw [decide_eq_false h, Bool.and_false]
  have hgood : a.noop = b.noop → a.reqs = b.reqs → R = true := by
    intro h1 h2
    rw [hR, batSame, decide_eq_true h1, decide_eq_true h2]
    rfl
  clear hR
  replace ha := Lib.hid ha
  replace hb := Lib.hid hb
  replace hn := Lib.hid hn
  replace hm := Lib.hid hm
  replace hbad := Lib.hid hbad
  replace hgood := Lib.hid hgood
  by_cases hno : a.noop = b.noop
  · by_cases hnm : n = m
    · subst hnm
      obtain ⟨q, hq⟩ : ∃ q, q = a.noop := ⟨_, rfl⟩
      have hq2 : b.noop = q := by rw [hq, hno]
      have hqq : (q != q) = false := by simp
      have hnn : ((n : Int) != (n : Int)) = false := by simp
      replace hq := Lib.hid hq
      replace hq2 := Lib.hid hq2
      clear hno
      go_enter Try.func29, Try.ntmps29
      go_upto_region 1 with (first | (refine box_row rfl _ _ rfl a.cells.toArray rfl hinfA.out ?_; intro w0 hbx hs0; have hbxl := blk_lt hbx; replace hbx := Lib.hid hbx; replace hs0 := Lib.hid hs0) | (refine box_row rfl _ _ rfl b.cells.toArray rfl hinfB.out ?_; intro w1 hby hs1; replace hby := Lib.hid hby; replace hs1 := Lib.hid hs1))
      have hbx1 := hs1.out.at hbx.out
      have c0 := bat_noop hbx1
      have c1 := bat_reqs hbx1
      have d0 := bat_noop hby.out
      have d1 := bat_reqs hby.out
      rw [← hq.out] at c0
      rw [hq2.out] at d0
      rw [← hn.out] at c1
      rw [← hm.out] at d1
      have hw1 := Lib.hid (hs0.out.trans hs1.out)
      clear hbx hby hs0 hs1 hbx1
      go_wp2
      replace c1 := Lib.hid c1
      replace d1 := Lib.hid d1
      clear c0 d0
      go_loopw [5] (fun i wr => ∃ k : Nat, k ≤ n ∧ i = .int .i64 k ∧ a.reqs.take k = b.reqs.take k ∧ Same w1 wr) (fun i _ => n - (intOf i).toNat)
      case atStart => exact ⟨0, by omega, rfl, rfl, Same.refl⟩
      case round =>
        obtain ⟨k, hk, rfl, htk, hs⟩ := hrel
        by_cases hlt : k < n
        · obtain ⟨bk, off, hao, hbl, hrange⟩ := BatV.range (w := w) (b := a) ha.out (i := k) (by rw [← hn.out]; exact hlt)
          obtain ⟨bk2, off2, hao2, hbl2, hrange2⟩ := BatV.range (w := w) (b := b) hb.out (i := k) (by rw [← hm.out]; exact hlt)
          have hsw := hw1.out.trans hs
          have hra := hsw.range hrange
          have hrb := hsw.range hrange2
          have hwa := (ha.out.2 _ (reqAt_mem (l := a.reqs) (i := k) (by rw [← hn.out]; exact hlt))).1
          have hwb := (hb.out.2 _ (reqAt_mem (l := b.reqs) (i := k) (by rw [← hm.out]; exact hlt))).1
          have hnx := take_eq_next (l := a.reqs) (m := b.reqs) (k := k) (by rw [← hn.out]; exact hlt) (by rw [← hm.out]; exact hlt) htk
          have hne : reqAt a.reqs k ≠ reqAt b.reqs k → a.reqs ≠ b.reqs := fun h1 h2 => h1 (by rw [h2])
          obtain ⟨X, hX⟩ : ∃ X, X = reqAt a.reqs k := ⟨_, rfl⟩
          obtain ⟨Y, hY⟩ : ∃ Y, Y = reqAt b.reqs k := ⟨_, rfl⟩
          rw [← hX] at hra hwa hnx hne
          rw [← hY] at hrb hwb hnx hne
          have heq := fun w => req_neq X Y hwa hwb w
          have hgd := req_guard
          have hinfX := Lib.hid (req_infoL hwa.1)
          have hinfY := Lib.hid (req_infoL hwb.1)
          have c1r := hs.cell c1.out
          have d1r := hs.cell d1.out
          rw [hao] at c1r
          rw [hao2] at d1r
          clear hao hao2
          have hsame := Req.same_iff X Y
          obtain ⟨t, ht⟩ : ∃ t, t = Req.same X Y := ⟨_, rfl⟩
          rw [← ht] at heq hsame
          have q0 : 0 ≤ (k : Int) := by omega
          have q1 : (k : Int) < (n : Int) := by omega
          clear hrange hrange2 hbl hbl2 hsw hX hY ht htk hwa hwb
          replace hra := Lib.hid hra
          replace hrb := Lib.hid hrb
          replace hnx := Lib.hid hnx
          replace hne := Lib.hid hne
          replace hsame := Lib.hid hsame
          replace hs := Lib.hid hs
          replace heq := Lib.hid heq
          replace hgd := Lib.hid hgd
          go_upto_region 6 with fail
          replace c1r := Lib.hid c1r
          replace d1r := Lib.hid d1r
          rename_i wq
          go_cut [37] (fun v wx => v = .bool (!t) ∧ Same wr wx)
          case first =>
            refine wp_region_facts (by kernel_rfl) [(27, 0), (28, 1), (29, 2), (30, 3), (31, 4), (32, 5), (33, 6), (34, 7), (35, 8), (36, 9), (37, 10)] Same (Same _) [isV (.pointer (some ⟨w.heap.size, 1, none⟩)), isV (.slice (some ⟨bk, off, none⟩) n a.c), isV (.int .i64 (k : Int)), isV (.pointer (some ⟨bk, off + k * 19, none⟩)), isV (.agg X.cells.toArray), isV (.pointer (some ⟨w0.heap.size, 1, none⟩)), isV (.slice (some ⟨bk2, off2, none⟩) n b.c), isV (.int .i64 (k : Int)), isV (.pointer (some ⟨bk2, off2 + k * 19, none⟩)), isV (.agg Y.cells.toArray), isV (.bool (!t))] Same.refl.drew (fun _ _ h k => h.trans k) (by simp [isV_stable, isB_stable, isAny_stable]) (by decide) (by decide) ?_ ?_
            · refine ⟨?_, ?_, ?_, ?_, ?_, ?_, ?_, ?_, ?_, ?_, ?_, trivial⟩
              all_goals (intro u wx hI hp; simp only [mkAct, List.foldl_cons, List.foldl_nil, List.setIfInBounds_toArray, List.set_cons_succ, List.set_cons_zero])
              · -- operation 0
                go_wp2
                refine stq_v rfl Same.refl ?_
                first | (simp only [mkAct, List.foldl_cons, List.foldl_nil, List.setIfInBounds_toArray, List.set_cons_succ, List.set_cons_zero, upd, reduceIte, Nat.reduceEqDiff, Nat.reduceAdd, str]; done) | (simp [mkAct, upd, str, *]; done)
              · -- operation 1
                obtain ⟨f0, -⟩ := hp
                replace f0 : u 0 = (.pointer (some ⟨w.heap.size, 1, none⟩)) := f0
                try simp only [f0, str]
                have cx := hI.cell (c1r.out)
                go_wp2
                refine stq_v rfl Same.refl ?_
                first | (simp only [mkAct, List.foldl_cons, List.foldl_nil, List.setIfInBounds_toArray, List.set_cons_succ, List.set_cons_zero, upd, reduceIte, Nat.reduceEqDiff, Nat.reduceAdd, f0, str]; done) | (simp [mkAct, upd, f0, str, *]; done)
              · -- operation 2
                go_wp2
                refine stq_v rfl Same.refl ?_
                first | (simp only [mkAct, List.foldl_cons, List.foldl_nil, List.setIfInBounds_toArray, List.set_cons_succ, List.set_cons_zero, upd, reduceIte, Nat.reduceEqDiff, Nat.reduceAdd, str]; done) | (simp [mkAct, upd, str, *]; done)
              · -- operation 3
                obtain ⟨f1, f2, -⟩ := hp
                replace f1 : u 1 = (.slice (some ⟨bk, off, none⟩) n a.c) := f1
                replace f2 : u 2 = (.int .i64 (k : Int)) := f2
                try simp only [f1, f2, str]
                go_wp2
                refine stq_v rfl Same.refl ?_
                first | (simp only [mkAct, List.foldl_cons, List.foldl_nil, List.setIfInBounds_toArray, List.set_cons_succ, List.set_cons_zero, upd, reduceIte, Nat.reduceEqDiff, Nat.reduceAdd, f1, f2, str]; done) | (simp [mkAct, upd, f1, f2, str, *]; done)
              · -- operation 4
                obtain ⟨f3, -⟩ := hp
                replace f3 : u 3 = (.pointer (some ⟨bk, off + k * 19, none⟩)) := f3
                try simp only [f3, str]
                go_wp2_with (refine load_mid rfl _ _ rfl bk (off + k * 19) rfl X.cells _ (hI.range hra.out) Try.underlying90 rfl hinfX.out ?_)
                refine stq_v rfl Same.refl ?_
                first | (simp only [mkAct, List.foldl_cons, List.foldl_nil, List.setIfInBounds_toArray, List.set_cons_succ, List.set_cons_zero, upd, reduceIte, Nat.reduceEqDiff, Nat.reduceAdd, f3, str]; done) | (simp [mkAct, upd, f3, str, *]; done)
              · -- operation 5
                go_wp2
                refine stq_v rfl Same.refl ?_
                first | (simp only [mkAct, List.foldl_cons, List.foldl_nil, List.setIfInBounds_toArray, List.set_cons_succ, List.set_cons_zero, upd, reduceIte, Nat.reduceEqDiff, Nat.reduceAdd, str]; done) | (simp [mkAct, upd, str, *]; done)
              · -- operation 6
                obtain ⟨f5, -⟩ := hp
                replace f5 : u 5 = (.pointer (some ⟨w0.heap.size, 1, none⟩)) := f5
                try simp only [f5, str]
                have cx := hI.cell (d1r.out)
                go_wp2
                refine stq_v rfl Same.refl ?_
                first | (simp only [mkAct, List.foldl_cons, List.foldl_nil, List.setIfInBounds_toArray, List.set_cons_succ, List.set_cons_zero, upd, reduceIte, Nat.reduceEqDiff, Nat.reduceAdd, f5, str]; done) | (simp [mkAct, upd, f5, str, *]; done)
              · -- operation 7
                go_wp2
                refine stq_v rfl Same.refl ?_
                first | (simp only [mkAct, List.foldl_cons, List.foldl_nil, List.setIfInBounds_toArray, List.set_cons_succ, List.set_cons_zero, upd, reduceIte, Nat.reduceEqDiff, Nat.reduceAdd, str]; done) | (simp [mkAct, upd, str, *]; done)
              · -- operation 8
                obtain ⟨f6, f7, -⟩ := hp
                replace f6 : u 6 = (.slice (some ⟨bk2, off2, none⟩) n b.c) := f6
                replace f7 : u 7 = (.int .i64 (k : Int)) := f7
                try simp only [f6, f7, str]
                go_wp2
                refine stq_v rfl Same.refl ?_
                first | (simp only [mkAct, List.foldl_cons, List.foldl_nil, List.setIfInBounds_toArray, List.set_cons_succ, List.set_cons_zero, upd, reduceIte, Nat.reduceEqDiff, Nat.reduceAdd, f6, f7, str]; done) | (simp [mkAct, upd, f6, f7, str, *]; done)
              · -- operation 9
                obtain ⟨f8, -⟩ := hp
                replace f8 : u 8 = (.pointer (some ⟨bk2, off2 + k * 19, none⟩)) := f8
                try simp only [f8, str]
                go_wp2_with (refine load_mid rfl _ _ rfl bk2 (off2 + k * 19) rfl Y.cells _ (hI.range hrb.out) Try.underlying90 rfl hinfY.out ?_)
                refine stq_v rfl Same.refl ?_
                first | (simp only [mkAct, List.foldl_cons, List.foldl_nil, List.setIfInBounds_toArray, List.set_cons_succ, List.set_cons_zero, upd, reduceIte, Nat.reduceEqDiff, Nat.reduceAdd, f8, str]; done) | (simp [mkAct, upd, f8, str, *]; done)
              · -- operation 10
                obtain ⟨f4, f9, -⟩ := hp
                replace f4 : u 4 = (.agg X.cells.toArray) := f4
                replace f9 : u 9 = (.agg Y.cells.toArray) := f9
                try simp only [f4, f9, str]
                have heq := heq.out
                have hgd := hgd.out
                go_wp2
                refine stq_v rfl Same.refl ?_
                first | (simp only [mkAct, List.foldl_cons, List.foldl_nil, List.setIfInBounds_toArray, List.set_cons_succ, List.set_cons_zero, upd, reduceIte, Nat.reduceEqDiff, Nat.reduceAdd, f4, f9, str]; done) | (simp [mkAct, upd, f4, f9, str, *]; done)
            · intro u wx hI hR
              obtain ⟨r0, r1, r2, r3, r4, r5, r6, r7, r8, r9, r10, -⟩ := hR
              replace r0 : u 0 = (.pointer (some ⟨w.heap.size, 1, none⟩)) := r0
              replace r1 : u 1 = (.slice (some ⟨bk, off, none⟩) n a.c) := r1
              replace r2 : u 2 = (.int .i64 (k : Int)) := r2
              replace r3 : u 3 = (.pointer (some ⟨bk, off + k * 19, none⟩)) := r3
              replace r4 : u 4 = (.agg X.cells.toArray) := r4
              replace r5 : u 5 = (.pointer (some ⟨w0.heap.size, 1, none⟩)) := r5
              replace r6 : u 6 = (.slice (some ⟨bk2, off2, none⟩) n b.c) := r6
              replace r7 : u 7 = (.int .i64 (k : Int)) := r7
              replace r8 : u 8 = (.pointer (some ⟨bk2, off2 + k * 19, none⟩)) := r8
              replace r9 : u 9 = (.agg Y.cells.toArray) := r9
              replace r10 : u 10 = (.bool (!t)) := r10
              simp only [mkAct, List.foldl_cons, List.foldl_nil, List.setIfInBounds_toArray, List.set_cons_succ, List.set_cons_zero]
              try simp only [str, r0, r1, r2, r3, r4, r5, r6, r7, r8, r9, r10]
              go_wp2
              go_meet
              exact ⟨rfl, hI⟩
          case rest =>
            obtain ⟨rfl, hs3⟩ := hcut
            cases ht : t
            · have hR2 := hbad.out (.inr (hne.out (fun h => by have := hsame.out.2 h; rw [ht] at this; cases this)))
              clear hsame heq
              replace hR2 := Lib.hid hR2
              go_wp2
              go_ret
              exact ⟨by rw [hR2.out]; rfl, hw1.out.trans (hs.out.trans hs3)⟩
            · have hnx2 := hnx.out (hsame.out.1 ht)
              clear hsame heq
              replace hnx2 := Lib.hid hnx2
              go_wp2
              go_roundw
              case rel => exact ⟨k + 1, by omega, by go_num, hnx2.out, hs.out.trans hs3⟩
              case measure => simp [intOf]; omega
        · obtain rfl : k = n := by omega
          have hall : a.reqs = b.reqs := by
            rw [List.take_of_length_le (by rw [← hn.out]; exact Nat.le_refl _), List.take_of_length_le (by rw [← hm.out]; exact Nat.le_refl _)] at htk
            exact htk
          have hR2 := hgood.out (by rw [← hq.out, hq2.out]) hall
          have c1r := hs.cell c1.out
          clear htk hall
          replace hs := Lib.hid hs
          replace hR2 := Lib.hid hR2
          go_wp2
          go_ret
          exact ⟨by rw [hR2.out]; rfl, hw1.out.trans hs.out⟩
    · have hR2 := hbad.out (.inr (fun h => hnm (by rw [hn.out, hm.out, h])))
      have hnn : ((n : Int) != (m : Int)) = true := by simp; omega
      have hqq : (a.noop != b.noop) = false := by simp [hno]
      obtain ⟨q, hq⟩ : ∃ q, q = a.noop := ⟨_, rfl⟩
      have hq2 : b.noop = q := by rw [hq, hno]
      have hqq2 : (q != q) = false := by simp
      clear hno hnm hqq
      replace hq := Lib.hid hq
      replace hq2 := Lib.hid hq2
      replace hR2 := Lib.hid hR2
      go_enter Try.func29, Try.ntmps29
      go_upto_region 1 with (first | (refine box_row rfl _ _ rfl a.cells.toArray rfl hinfA.out ?_; intro w0 hbx hs0; have hbxl := blk_lt hbx; replace hbx := Lib.hid hbx; replace hs0 := Lib.hid hs0) | (refine box_row rfl _ _ rfl b.cells.toArray rfl hinfB.out ?_; intro w1 hby hs1; replace hby := Lib.hid hby; replace hs1 := Lib.hid hs1))
      have hbx1 := hs1.out.at hbx.out
      have c0 := bat_noop hbx1
      have c1 := bat_reqs hbx1
      have d0 := bat_noop hby.out
      have d1 := bat_reqs hby.out
      rw [← hq.out] at c0
      rw [hq2.out] at d0
      rw [← hn.out] at c1
      rw [← hm.out] at d1
      clear hbx hby hbx1
      go_wp2
      go_ret
      exact ⟨by rw [hR2.out]; rfl, hs0.out.trans hs1.out⟩
  · have hR2 := hbad.out (.inl hno)
    have hqq : a.noop = true ∧ b.noop = false ∨ a.noop = false ∧ b.noop = true := by
      cases h1 : a.noop <;> cases h2 : b.noop <;> simp_all
    clear hno
    replace hR2 := Lib.hid hR2
    rcases hqq with ⟨h1, h2⟩ | ⟨h1, h2⟩
    all_goals
      replace h1 := Lib.hid h1
      replace h2 := Lib.hid h2
      go_enter Try.func29, Try.ntmps29
      go_upto_region 1 with (first | (refine box_row rfl _ _ rfl a.cells.toArray rfl hinfA.out ?_; intro w0 hbx hs0; have hbxl := blk_lt hbx; replace hbx := Lib.hid hbx; replace hs0 := Lib.hid hs0) | (refine box_row rfl _ _ rfl b.cells.toArray rfl hinfB.out ?_; intro w1 hby hs1; replace hby := Lib.hid hby; replace hs1 := Lib.hid hs1))
      have hbx1 := hs1.out.at hbx.out
      have c0 := bat_noop hbx1
      have d0 := bat_noop hby.out
      rw [h1.out] at c0
      rw [h2.out] at d0
      clear hbx hby hbx1
      go_wp2
      go_ret
      exact ⟨by rw [hR2.out]; rfl, hs0.out.trans hs1.out⟩
end Go.Proofs.Ytmacgmmjgdmleaa
