/-
  A request's bucket's owner: epoch.Bucket.
-/
import Derived.Test.YtmacgmmjgdmleaaOwn
import Derived.Test.YtmacgmmjgdmleaaEpAsk
import Derived.Test.YtmacgmmjgdmleaaReq2b
namespace Go.Proofs.Ytmacgmmjgdmleaa
open Go Go.RowKit
set_option linter.unusedSimpArgs false
set_option linter.unusedVariables false

def ebucket (c : Cfg) (number start : Int) (l : List Int) (client num : Int) : Int := if egood c number start l = true ∧ 0 ≤ client ∧ 0 ≤ num then lowner c number l (reqBucket client num c.buckets) else -1
set_option maxRecDepth 100000 in
set_option maxHeartbeats 1600000 in
theorem ebucket_any (c : Cfg) (number start : Int) (ao : Option Addr) (cap : Nat) (l : List Int) (client num : Int) (w : World) (hsl : Sl w 1 ao l.length cap (iv l)) (hb1 : client ≤ 9223372036854775807) (hb2 : num ≤ 9223372036854775807) :
    Calls Try.prog 69 #[.agg (epC c number start ao l.length cap).toArray, .int .i64 client, .int .i64 num] w fun e w' => e = .returned (.int .i64 (ebucket c number start l client num)) ∧ Same w w' := by
  have hinf := Lib.hid (ep_info c number start ao l.length cap)
  have hinfL := Lib.hid (cfg_infoL c)
  have hgd := fun w h => egood_any c number start ao l.length cap l w h
  have hbk := fun w => rqbucket_any w client num c.buckets hb1 hb2
  have how := fun b w h => lowner_any c number ao l.length cap l b w h
  have hc3 : c.list.getD 3 0 = c.buckets := rfl
  unfold ebucket
  obtain ⟨B, hB⟩ : ∃ B, B = c.buckets := ⟨_, rfl⟩
  rw [← hB] at hbk hc3 ⊢
  obtain ⟨K, hK⟩ : ∃ K, K = reqBucket client num B := ⟨_, rfl⟩
  rw [← hK] at hbk ⊢
  replace how := how K
  obtain ⟨R, hR⟩ : ∃ R, R = lowner c number l K := ⟨_, rfl⟩
  rw [← hR] at how ⊢
  clear hR hK hB
  replace how := Lib.hid how
  replace hbk := Lib.hid hbk
  replace hsl := Lib.hid hsl
  replace hc3 := Lib.hid hc3
  cases hG : egood c number start l
  · rw [hG] at hgd
    rw [if_neg (by simp)]
    replace hgd := Lib.hid hgd
    clear hG
    go_enter Try.func69, Try.ntmps69
    go_upto_region 1 with (refine box_row rfl _ _ rfl _ rfl hinf.out ?_; intro w0 hbx hs0; replace hs0 := Lib.hid hs0; replace hbx := Lib.hid hbx)
    go_wp2_with (refine load_row rfl _ _ rfl w.heap.size rfl _ _ _ _ hbx.out Try.underlying124 rfl hinf.out ?_)
    refine (hgd.out _ (hsl.out.same hs0.out)).mono ?_
    rintro e w1 ⟨rfl, hs1⟩
    go_wp2
    go_ret
    exact ⟨rfl, hs0.out.trans hs1⟩
  rw [hG] at hgd
  replace hgd := Lib.hid hgd
  clear hG
  by_cases h1 : client < 0
  · have d1 : (client < 0) = True := by simp; omega
    rw [if_neg (by omega)]
    clear h1
    go_enter Try.func69, Try.ntmps69
    go_upto_region 1 with (refine box_row rfl _ _ rfl _ rfl hinf.out ?_; intro w0 hbx hs0; replace hs0 := Lib.hid hs0; replace hbx := Lib.hid hbx)
    go_wp2_with (refine load_row rfl _ _ rfl w.heap.size rfl _ _ _ _ hbx.out Try.underlying124 rfl hinf.out ?_)
    refine (hgd.out _ (hsl.out.same hs0.out)).mono ?_
    rintro e w1 ⟨rfl, hs1⟩
    go_wp2
    go_ret
    exact ⟨rfl, hs0.out.trans hs1⟩
  by_cases h2 : num < 0
  · have d1 : (client < 0) = False := by simp; omega
    have d2 : (num < 0) = True := by simp; omega
    have d3 : decide (num < 0) = true := by simp; omega
    rw [if_neg (by omega)]
    clear h1 h2
    go_enter Try.func69, Try.ntmps69
    go_upto_region 1 with (refine box_row rfl _ _ rfl _ rfl hinf.out ?_; intro w0 hbx hs0; replace hs0 := Lib.hid hs0; replace hbx := Lib.hid hbx)
    go_wp2_with (refine load_row rfl _ _ rfl w.heap.size rfl _ _ _ _ hbx.out Try.underlying124 rfl hinf.out ?_)
    refine (hgd.out _ (hsl.out.same hs0.out)).mono ?_
    rintro e w1 ⟨rfl, hs1⟩
    go_wp2
    go_ret
    exact ⟨rfl, hs0.out.trans hs1⟩
  · have d1 : (client < 0) = False := by simp; omega
    have d2 : (num < 0) = False := by simp; omega
    have d3 : decide (num < 0) = false := by simp; omega
    rw [if_pos (by refine ⟨rfl, ?_, ?_⟩ <;> omega)]
    clear h1 h2
    go_enter Try.func69, Try.ntmps69
    go_upto_region 1 with (refine box_row rfl _ _ rfl _ rfl hinf.out ?_; intro w0 hbx hs0; have hbxl := blk_lt hbx; replace hs0 := Lib.hid hs0; replace hbx := Lib.hid hbx)
    go_wp2_with (refine load_row rfl _ _ rfl w.heap.size rfl _ _ _ _ hbx.out Try.underlying124 rfl hinf.out ?_)
    refine (hgd.out _ (hsl.out.same hs0.out)).mono ?_
    rintro e w1 ⟨rfl, hs1⟩
    have hbx1 := (hs1.block _ hbxl).trans hbx.out
    have hw1 := hs0.out.trans hs1
    have hsl1 := hsl.out.same hw1
    have e1 := ep_number hbx1
    have e2 := ep_leaders hbx1
    have e3 := ep_cell hbx1 3 (by omega)
    rw [hc3.out] at e3
    have hrg := ep_cfg hbx1
    have hbx1l := blk_lt hbx1
    clear hs1 hs0 hbx hbx1
    replace hw1 := Lib.hid hw1
    replace hsl1 := Lib.hid hsl1
    replace e1 := Lib.hid e1
    replace e2 := Lib.hid e2
    replace e3 := Lib.hid e3
    replace hrg := Lib.hid hrg
    go_upto_region 3 with fail
    refine wp_region_tails (by kernel_rfl) [(18, 0), (19, 1), (20, 2), (21, 3), (22, 4), (23, 5), (24, 6), (25, 7), (26, 8), (27, 9), (28, 10), (29, 11), (30, 12)] Same (Same _) [isV (.pointer (some ⟨w.heap.size, 0, none⟩)), isV (.agg c.cells.toArray), isV (.pointer (some ⟨w.heap.size, 10, none⟩)), isV (.int .i64 number), isV (.pointer (some ⟨w.heap.size, 12, none⟩)), isV (.slice ao l.length cap), isV (.int .i64 client), isV (.int .i64 num), isV (.pointer (some ⟨w.heap.size, 0, none⟩)), isV (.pointer (some ⟨w.heap.size, 3, none⟩)), isV (.int .i64 B), isV (.int .i64 K), isV (.int .i64 R)] Same.refl.drew (fun _ _ h k => h.trans k) (by simp [isV_stable, isB_stable, isAny_stable]) (by decide) (l := [_, _, _, _, _, _, _, _, _, _, _, _, _]) rfl (by decide) (by kernel_rfl) ?_ ?_
    · refine ⟨?_, ?_, ?_, ?_, ?_, ?_, ?_, ?_, ?_, ?_, ?_, ?_, ?_, trivial⟩
      all_goals (intro u wx hI hp; simp only [mkAct, List.foldl_cons, List.foldl_nil, List.setIfInBounds_toArray, List.set_cons_succ, List.set_cons_zero])
      · -- operation 0
        go_wp2
        refine stq_v rfl Same.refl ?_
        first | (simp only [mkAct, List.foldl_cons, List.foldl_nil, List.setIfInBounds_toArray, List.set_cons_succ, List.set_cons_zero, upd, reduceIte, Nat.reduceEqDiff, Nat.reduceAdd, str]; done) | (simp [mkAct, upd, str, *]; done)
      · -- operation 1
        obtain ⟨f0, -⟩ := hp
        replace f0 : u 0 = (.pointer (some ⟨w.heap.size, 0, none⟩)) := f0
        try simp only [f0, str]
        go_wp2_with (refine load_mid rfl _ _ rfl w.heap.size 0 rfl c.cells _ (hI.range hrg.out) Try.underlying68 rfl hinfL.out ?_)
        refine stq_v rfl Same.refl ?_
        first | (simp only [mkAct, List.foldl_cons, List.foldl_nil, List.setIfInBounds_toArray, List.set_cons_succ, List.set_cons_zero, upd, reduceIte, Nat.reduceEqDiff, Nat.reduceAdd, f0, str]; done) | (simp [mkAct, upd, f0, str, *]; done)
      · -- operation 2
        go_wp2
        refine stq_v rfl Same.refl ?_
        first | (simp only [mkAct, List.foldl_cons, List.foldl_nil, List.setIfInBounds_toArray, List.set_cons_succ, List.set_cons_zero, upd, reduceIte, Nat.reduceEqDiff, Nat.reduceAdd, str]; done) | (simp [mkAct, upd, str, *]; done)
      · -- operation 3
        obtain ⟨f2, -⟩ := hp
        replace f2 : u 2 = (.pointer (some ⟨w.heap.size, 10, none⟩)) := f2
        try simp only [f2, str]
        have cx := hI.cell (e1.out)
        go_wp2
        refine stq_v rfl Same.refl ?_
        first | (simp only [mkAct, List.foldl_cons, List.foldl_nil, List.setIfInBounds_toArray, List.set_cons_succ, List.set_cons_zero, upd, reduceIte, Nat.reduceEqDiff, Nat.reduceAdd, f2, str]; done) | (simp [mkAct, upd, f2, str, *]; done)
      · -- operation 4
        go_wp2
        refine stq_v rfl Same.refl ?_
        first | (simp only [mkAct, List.foldl_cons, List.foldl_nil, List.setIfInBounds_toArray, List.set_cons_succ, List.set_cons_zero, upd, reduceIte, Nat.reduceEqDiff, Nat.reduceAdd, str]; done) | (simp [mkAct, upd, str, *]; done)
      · -- operation 5
        obtain ⟨f4, -⟩ := hp
        replace f4 : u 4 = (.pointer (some ⟨w.heap.size, 12, none⟩)) := f4
        try simp only [f4, str]
        have cx := hI.cell (e2.out)
        go_wp2
        refine stq_v rfl Same.refl ?_
        first | (simp only [mkAct, List.foldl_cons, List.foldl_nil, List.setIfInBounds_toArray, List.set_cons_succ, List.set_cons_zero, upd, reduceIte, Nat.reduceEqDiff, Nat.reduceAdd, f4, str]; done) | (simp [mkAct, upd, f4, str, *]; done)
      · -- operation 6
        go_wp2
        refine stq_v rfl Same.refl ?_
        first | (simp only [mkAct, List.foldl_cons, List.foldl_nil, List.setIfInBounds_toArray, List.set_cons_succ, List.set_cons_zero, upd, reduceIte, Nat.reduceEqDiff, Nat.reduceAdd, str]; done) | (simp [mkAct, upd, str, *]; done)
      · -- operation 7
        go_wp2
        refine stq_v rfl Same.refl ?_
        first | (simp only [mkAct, List.foldl_cons, List.foldl_nil, List.setIfInBounds_toArray, List.set_cons_succ, List.set_cons_zero, upd, reduceIte, Nat.reduceEqDiff, Nat.reduceAdd, str]; done) | (simp [mkAct, upd, str, *]; done)
      · -- operation 8
        go_wp2
        refine stq_v rfl Same.refl ?_
        first | (simp only [mkAct, List.foldl_cons, List.foldl_nil, List.setIfInBounds_toArray, List.set_cons_succ, List.set_cons_zero, upd, reduceIte, Nat.reduceEqDiff, Nat.reduceAdd, str]; done) | (simp [mkAct, upd, str, *]; done)
      · -- operation 9
        obtain ⟨f8, -⟩ := hp
        replace f8 : u 8 = (.pointer (some ⟨w.heap.size, 0, none⟩)) := f8
        try simp only [f8, str]
        go_wp2
        refine stq_v rfl Same.refl ?_
        first | (simp only [mkAct, List.foldl_cons, List.foldl_nil, List.setIfInBounds_toArray, List.set_cons_succ, List.set_cons_zero, upd, reduceIte, Nat.reduceEqDiff, Nat.reduceAdd, f8, str]; done) | (simp [mkAct, upd, f8, str, *]; done)
      · -- operation 10
        obtain ⟨f9, -⟩ := hp
        replace f9 : u 9 = (.pointer (some ⟨w.heap.size, 3, none⟩)) := f9
        try simp only [f9, str]
        have cx := hI.cell (e3.out)
        go_wp2
        refine stq_v rfl Same.refl ?_
        first | (simp only [mkAct, List.foldl_cons, List.foldl_nil, List.setIfInBounds_toArray, List.set_cons_succ, List.set_cons_zero, upd, reduceIte, Nat.reduceEqDiff, Nat.reduceAdd, f9, str]; done) | (simp [mkAct, upd, f9, str, *]; done)
      · -- operation 11
        obtain ⟨f6, f7, f10, -⟩ := hp
        replace f6 : u 6 = (.int .i64 client) := f6
        replace f7 : u 7 = (.int .i64 num) := f7
        replace f10 : u 10 = (.int .i64 B) := f10
        try simp only [f6, f7, f10, str]
        go_wp2_with fail
        refine (hbk.out _).mono ?_
        rintro e w1 ⟨rfl, hs'⟩
        go_wp2
        refine stq_v rfl hs' ?_
        first | (simp only [mkAct, List.foldl_cons, List.foldl_nil, List.setIfInBounds_toArray, List.set_cons_succ, List.set_cons_zero, upd, reduceIte, Nat.reduceEqDiff, Nat.reduceAdd, f6, f7, f10, str]; done) | (simp [mkAct, upd, f6, f7, f10, str, *]; done)
      · -- operation 12
        obtain ⟨f1, f3, f5, f11, -, -⟩ := hp
        replace f1 : u 1 = (.agg c.cells.toArray) := f1
        replace f3 : u 3 = (.int .i64 number) := f3
        replace f5 : u 5 = (.slice ao l.length cap) := f5
        replace f11 : u 11 = (.int .i64 K) := f11
        try simp only [f1, f3, f5, f11, str]
        go_wp2_with fail
        refine (how.out _ (hsl1.out.same hI)).mono ?_
        rintro e w1 ⟨rfl, hs'⟩
        go_wp2
        refine stq_v rfl hs' ?_
        first | (simp only [mkAct, List.foldl_cons, List.foldl_nil, List.setIfInBounds_toArray, List.set_cons_succ, List.set_cons_zero, upd, reduceIte, Nat.reduceEqDiff, Nat.reduceAdd, f1, f3, f5, f11, str]; done) | (simp [mkAct, upd, f1, f3, f5, f11, str, *]; done)
    · intro u wx hI hR
      obtain ⟨r0, r1, r2, r3, r4, r5, r6, r7, r8, r9, r10, r11, r12, -⟩ := hR
      replace r0 : u 0 = (.pointer (some ⟨w.heap.size, 0, none⟩)) := r0
      replace r1 : u 1 = (.agg c.cells.toArray) := r1
      replace r2 : u 2 = (.pointer (some ⟨w.heap.size, 10, none⟩)) := r2
      replace r3 : u 3 = (.int .i64 number) := r3
      replace r4 : u 4 = (.pointer (some ⟨w.heap.size, 12, none⟩)) := r4
      replace r5 : u 5 = (.slice ao l.length cap) := r5
      replace r6 : u 6 = (.int .i64 client) := r6
      replace r7 : u 7 = (.int .i64 num) := r7
      replace r8 : u 8 = (.pointer (some ⟨w.heap.size, 0, none⟩)) := r8
      replace r9 : u 9 = (.pointer (some ⟨w.heap.size, 3, none⟩)) := r9
      replace r10 : u 10 = (.int .i64 B) := r10
      replace r11 : u 11 = (.int .i64 K) := r11
      replace r12 : u 12 = (.int .i64 R) := r12
      simp only [mkAct, List.foldl_cons, List.foldl_nil, List.setIfInBounds_toArray, List.set_cons_succ, List.set_cons_zero]
      try simp only [str, r0, r1, r2, r3, r4, r5, r6, r7, r8, r9, r10, r11, r12]
      go_wp2
      go_ret
      exact ⟨rfl, hw1.out.trans hI⟩
end Go.Proofs.Ytmacgmmjgdmleaa
