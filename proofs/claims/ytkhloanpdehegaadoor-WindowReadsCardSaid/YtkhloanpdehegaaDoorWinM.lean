/-
  The walks of the window's calls Count, Ask, Mark, New, the program's and the document's.
-/
import Derived.Test.YtkhloanpdehegaaDoorWinP
namespace Go.Proofs.YtkhloanpdehegaaDoor
open Go Go.RowKit
set_option linter.unusedSimpArgs false
set_option linter.unusedVariables false

def isSlI (n : Nat) (M : List Int) : Value → World → Prop := fun v w => ∃ ao cap, v = .slice ao n cap ∧ Sl w 1 ao n cap (iv M)
theorem isSlI_stable (n : Nat) (M : List Int) : Stable Same (isSlI n M) := fun _ _ _ k ⟨ao, cap, h1, h2⟩ => ⟨ao, cap, h1, h2.same k⟩
theorem box_w (w : World) (b : Int) (m : Nat) : (w.alloc (.cells #[.int .i64 b, .int .u64 m] 38)).cell? ⟨w.heap.size, 0, none⟩ = some (.int .i64 b) ∧ (w.alloc (.cells #[.int .i64 b, .int .u64 m] 38)).cell? ⟨w.heap.size, 1, none⟩ = some (.int .u64 m) ∧ Same w (w.alloc (.cells #[.int .i64 b, .int .u64 m] 38)) :=
  ⟨blk_cell (heap_alloc_new w _) 0, blk_cell (heap_alloc_new w _) 1, Same.refl.alloc _⟩
set_option maxRecDepth 100000 in
set_option maxHeartbeats 1600000 in
theorem wcount_any (b : Int) (m : Nat) (w : World) (hm : m < 18446744073709551616) (hT : Tab w) : Calls Tryd.prog 30 #[.agg #[.int .i64 b, .int .u64 m]] w fun e w' => e = .returned (.int .i64 (Win.count ⟨b, m⟩)) ∧ Same w w' := by
  have hg := fun w => wgood_any b m w hm
  obtain ⟨b0, b1, s0⟩ := box_w w b m
  replace b0 := Lib.hid b0
  replace b1 := Lib.hid b1
  replace s0 := Lib.hid s0
  obtain ⟨R, hR⟩ : ∃ R, R = Win.count ⟨b, m⟩ := ⟨_, rfl⟩
  rw [← hR]
  unfold Win.count at hR
  simp only at hR
  cases hG : Win.good ⟨b, m⟩
  · rw [hG] at hg hR
    rw [if_neg (by decide)] at hR
    subst hR
    clear hG
    replace hg := Lib.hid hg
    go_enter Tryd.func30, Tryd.ntmps30
    go_wp2_with fail
    refine (hg.out _).mono ?_
    rintro e w' ⟨rfl, hs⟩
    replace hs := Lib.hid (s0.out.trans hs)
    go_wp2
    go_ret
    exact ⟨rfl, hs.out⟩
  · have hin := Win.good_in hG
    simp only at hin
    rw [hG] at hg hR
    rw [if_pos rfl] at hR
    clear hG
    replace hg := Lib.hid hg
    have hmany := fun w h => many_any m w hm h
    have hL64 := mlist_le m
    obtain ⟨L, hL⟩ : ∃ L, L = (mlist m).length := ⟨_, rfl⟩
    rw [← hL] at hR hmany hL64
    clear hL
    have hR2 : b - 1 + (L : Int) = R := hR.symm
    clear hR
    replace hmany := Lib.hid hmany
    replace hT := Lib.hid hT
    go_enter Tryd.func30, Tryd.ntmps30
    go_wp2_with fail
    refine (hg.out _).mono ?_
    rintro e w1 ⟨rfl, hs⟩
    have c0 := hs.cell b0.out
    have c1 := hs.cell b1.out
    replace hs := Lib.hid (s0.out.trans hs)
    go_upto_region 3 with fail
    refine wp_region_last (by kernel_rfl) [(6, 0), (7, 1), (8, 2), (9, 3), (10, 4), (11, 5), (12, 6), (2, 7)] Same (Same _) [isV (.pointer (some ⟨w.heap.size, 0, none⟩)), isV (.int .i64 b), isV (.int .i64 (b - 1)), isV (.pointer (some ⟨w.heap.size, 1, none⟩)), isV (.int .u64 m), isV (.int .i64 L), isV (.int .i64 R)] Same.refl.drew (fun _ _ h k => h.trans k) (by simp [isV_stable, isB_stable, isAny_stable]) (by decide) (l := [_, _, _, _, _, _, _]) rfl (by decide) (by decide) ?_ ?_
    · refine ⟨?_, ?_, ?_, ?_, ?_, ?_, ?_, trivial⟩
      all_goals (intro u wx hI hp; simp only [mkAct, List.foldl_cons, List.foldl_nil, List.setIfInBounds_toArray, List.set_cons_succ, List.set_cons_zero])
      · -- operation 0
        go_wp2
        refine stq_v rfl Same.refl ?_
        first | (simp only [mkAct, List.foldl_cons, List.foldl_nil, List.setIfInBounds_toArray, List.set_cons_succ, List.set_cons_zero, upd, reduceIte, Nat.reduceEqDiff, Nat.reduceAdd, str]; done) | (simp [mkAct, upd, str, *]; done)
      · -- operation 1
        obtain ⟨f0, -⟩ := hp
        replace f0 : u 0 = (.pointer (some ⟨w.heap.size, 0, none⟩)) := f0
        try simp only [f0, str]
        have cx := hI.cell (c0)
        go_wp2
        refine stq_v rfl Same.refl ?_
        first | (simp only [mkAct, List.foldl_cons, List.foldl_nil, List.setIfInBounds_toArray, List.set_cons_succ, List.set_cons_zero, upd, reduceIte, Nat.reduceEqDiff, Nat.reduceAdd, f0, str]; done) | (simp [mkAct, upd, f0, str, *]; done)
      · -- operation 2
        obtain ⟨f1, -⟩ := hp
        replace f1 : u 1 = (.int .i64 b) := f1
        try simp only [f1, str]
        go_wp2
        refine stq_v rfl Same.refl ?_
        first | (simp only [mkAct, List.foldl_cons, List.foldl_nil, List.setIfInBounds_toArray, List.set_cons_succ, List.set_cons_zero, upd, reduceIte, Nat.reduceEqDiff, Nat.reduceAdd, f1, str]; done) | (simp [mkAct, upd, f1, str, *]; done)
      · -- operation 3
        go_wp2
        refine stq_v rfl Same.refl ?_
        first | (simp only [mkAct, List.foldl_cons, List.foldl_nil, List.setIfInBounds_toArray, List.set_cons_succ, List.set_cons_zero, upd, reduceIte, Nat.reduceEqDiff, Nat.reduceAdd, str]; done) | (simp [mkAct, upd, str, *]; done)
      · -- operation 4
        obtain ⟨f3, -⟩ := hp
        replace f3 : u 3 = (.pointer (some ⟨w.heap.size, 1, none⟩)) := f3
        try simp only [f3, str]
        have cx := hI.cell (c1)
        go_wp2
        refine stq_v rfl Same.refl ?_
        first | (simp only [mkAct, List.foldl_cons, List.foldl_nil, List.setIfInBounds_toArray, List.set_cons_succ, List.set_cons_zero, upd, reduceIte, Nat.reduceEqDiff, Nat.reduceAdd, f3, str]; done) | (simp [mkAct, upd, f3, str, *]; done)
      · -- operation 5
        obtain ⟨f4, -⟩ := hp
        replace f4 : u 4 = (.int .u64 m) := f4
        try simp only [f4, str]
        go_wp2_with fail
        refine (hmany.out _ (hT.out.same (hs.out.trans hI))).mono ?_
        rintro e w1 ⟨rfl, hs'⟩
        go_wp2
        refine stq_v rfl hs' ?_
        first | (simp only [mkAct, List.foldl_cons, List.foldl_nil, List.setIfInBounds_toArray, List.set_cons_succ, List.set_cons_zero, upd, reduceIte, Nat.reduceEqDiff, Nat.reduceAdd, f4, str]; done) | (simp [mkAct, upd, f4, str, *]; done)
      · -- operation 6
        obtain ⟨f2, f5, -⟩ := hp
        replace f2 : u 2 = (.int .i64 (b - 1)) := f2
        replace f5 : u 5 = (.int .i64 L) := f5
        try simp only [f2, f5, str]
        go_wp2
        refine stq_v rfl Same.refl ?_
        first | (simp only [mkAct, List.foldl_cons, List.foldl_nil, List.setIfInBounds_toArray, List.set_cons_succ, List.set_cons_zero, upd, reduceIte, Nat.reduceEqDiff, Nat.reduceAdd, f2, f5, str]; done) | (simp [mkAct, upd, f2, f5, str, *]; done)
    · intro u wx hI hR
      obtain ⟨r0, r1, r2, r3, r4, r5, r6, -⟩ := hR
      replace r0 : u 0 = (.pointer (some ⟨w.heap.size, 0, none⟩)) := r0
      replace r1 : u 1 = (.int .i64 b) := r1
      replace r2 : u 2 = (.int .i64 (b - 1)) := r2
      replace r3 : u 3 = (.pointer (some ⟨w.heap.size, 1, none⟩)) := r3
      replace r4 : u 4 = (.int .u64 m) := r4
      replace r5 : u 5 = (.int .i64 L) := r5
      replace r6 : u 6 = (.int .i64 R) := r6
      simp only [mkAct, List.foldl_cons, List.foldl_nil, List.setIfInBounds_toArray, List.set_cons_succ, List.set_cons_zero]
      try simp only [str, r0, r1, r2, r3, r4, r5, r6]
      go_wp2
      go_ret
      exact ⟨rfl, hs.out.trans hI⟩
set_option maxRecDepth 100000 in
set_option maxHeartbeats 1600000 in
theorem rwcount_any (b : Int) (m : Nat) (w : World) (hm : m < 18446744073709551616) : Calls Tryd.prog 31 #[.agg #[.int .i64 b, .int .u64 m]] w fun e w' => e = .returned (.int .i64 (Win.count ⟨b, m⟩)) ∧ Same w w' := by
  have hg := fun w => rwgood_any b m w hm
  obtain ⟨b0, b1, s0⟩ := box_w w b m
  replace b0 := Lib.hid b0
  replace b1 := Lib.hid b1
  replace s0 := Lib.hid s0
  obtain ⟨R, hR⟩ : ∃ R, R = Win.count ⟨b, m⟩ := ⟨_, rfl⟩
  rw [← hR]
  unfold Win.count at hR
  simp only at hR
  cases hG : Win.good ⟨b, m⟩
  · rw [hG] at hg hR
    rw [if_neg (by decide)] at hR
    subst hR
    clear hG
    replace hg := Lib.hid hg
    go_enter Tryd.func31, Tryd.ntmps31
    go_wp2_with fail
    refine (hg.out _).mono ?_
    rintro e w' ⟨rfl, hs⟩
    replace hs := Lib.hid (s0.out.trans hs)
    go_wp2
    go_ret
    exact ⟨rfl, hs.out⟩
  · have hin := Win.good_in hG
    simp only at hin
    rw [hG] at hg hR
    rw [if_pos rfl] at hR
    clear hG
    replace hg := Lib.hid hg
    have hli := fun w => rlist_any m w hm
    unfold RetI at hli
    rw [nints_length] at hli
    have hL64 := mlist_le m
    obtain ⟨L, hL⟩ : ∃ L, L = (mlist m).length := ⟨_, rfl⟩
    rw [← hL] at hR hli hL64
    obtain ⟨M, hM⟩ : ∃ M, M = nints (mlist m) := ⟨_, rfl⟩
    rw [← hM] at hli
    clear hL hM
    have hR2 : b - 1 + (L : Int) = R := hR.symm
    clear hR
    replace hli := Lib.hid hli
    go_enter Tryd.func31, Tryd.ntmps31
    go_wp2_with fail
    refine (hg.out _).mono ?_
    rintro e w1 ⟨rfl, hs⟩
    have c0 := hs.cell b0.out
    have c1 := hs.cell b1.out
    replace hs := Lib.hid (s0.out.trans hs)
    go_upto_region 3 with fail
    refine wp_region_last (by kernel_rfl) [(6, 0), (7, 1), (8, 2), (9, 3), (10, 4), (11, 5), (12, 6), (13, 7), (2, 8)] Same (Same _) [isV (.pointer (some ⟨w.heap.size, 0, none⟩)), isV (.int .i64 b), isV (.int .i64 (b - 1)), isV (.pointer (some ⟨w.heap.size, 1, none⟩)), isV (.int .u64 m), isSlI L M, isV (.int .i64 L), isV (.int .i64 R)] Same.refl.drew (fun _ _ h k => h.trans k) (by simp [isV_stable, isB_stable, isAny_stable, isSlI_stable]) (by decide) (l := [_, _, _, _, _, _, _, _]) rfl (by decide) (by decide) ?_ ?_
    · refine ⟨?_, ?_, ?_, ?_, ?_, ?_, ?_, ?_, trivial⟩
      all_goals (intro u wx hI hp; simp only [mkAct, List.foldl_cons, List.foldl_nil, List.setIfInBounds_toArray, List.set_cons_succ, List.set_cons_zero])
      · -- operation 0
        go_wp2
        refine stq_v rfl Same.refl ?_
        first | (simp only [mkAct, List.foldl_cons, List.foldl_nil, List.setIfInBounds_toArray, List.set_cons_succ, List.set_cons_zero, upd, reduceIte, Nat.reduceEqDiff, Nat.reduceAdd, str]; done) | (simp [mkAct, upd, str, *]; done)
      · -- operation 1
        obtain ⟨f0, -⟩ := hp
        replace f0 : u 0 = (.pointer (some ⟨w.heap.size, 0, none⟩)) := f0
        try simp only [f0, str]
        have cx := hI.cell (c0)
        go_wp2
        refine stq_v rfl Same.refl ?_
        first | (simp only [mkAct, List.foldl_cons, List.foldl_nil, List.setIfInBounds_toArray, List.set_cons_succ, List.set_cons_zero, upd, reduceIte, Nat.reduceEqDiff, Nat.reduceAdd, f0, str]; done) | (simp [mkAct, upd, f0, str, *]; done)
      · -- operation 2
        obtain ⟨f1, -⟩ := hp
        replace f1 : u 1 = (.int .i64 b) := f1
        try simp only [f1, str]
        go_wp2
        refine stq_v rfl Same.refl ?_
        first | (simp only [mkAct, List.foldl_cons, List.foldl_nil, List.setIfInBounds_toArray, List.set_cons_succ, List.set_cons_zero, upd, reduceIte, Nat.reduceEqDiff, Nat.reduceAdd, f1, str]; done) | (simp [mkAct, upd, f1, str, *]; done)
      · -- operation 3
        go_wp2
        refine stq_v rfl Same.refl ?_
        first | (simp only [mkAct, List.foldl_cons, List.foldl_nil, List.setIfInBounds_toArray, List.set_cons_succ, List.set_cons_zero, upd, reduceIte, Nat.reduceEqDiff, Nat.reduceAdd, str]; done) | (simp [mkAct, upd, str, *]; done)
      · -- operation 4
        obtain ⟨f3, -⟩ := hp
        replace f3 : u 3 = (.pointer (some ⟨w.heap.size, 1, none⟩)) := f3
        try simp only [f3, str]
        have cx := hI.cell (c1)
        go_wp2
        refine stq_v rfl Same.refl ?_
        first | (simp only [mkAct, List.foldl_cons, List.foldl_nil, List.setIfInBounds_toArray, List.set_cons_succ, List.set_cons_zero, upd, reduceIte, Nat.reduceEqDiff, Nat.reduceAdd, f3, str]; done) | (simp [mkAct, upd, f3, str, *]; done)
      · -- operation 5
        obtain ⟨f4, -⟩ := hp
        replace f4 : u 4 = (.int .u64 m) := f4
        try simp only [f4, str]
        go_wp2_with fail
        refine (hli.out _).mono ?_
        rintro e w5 ⟨v5, rfl, ho5, hs5⟩
        obtain ⟨qo, qc, rfl, hq⟩ := ho5.sl
        go_wp2
        refine stq_x (.slice qo L qc) rfl ⟨qo, qc, rfl, hq⟩ hs5 ?_
        first | (simp only [mkAct, List.foldl_cons, List.foldl_nil, List.setIfInBounds_toArray, List.set_cons_succ, List.set_cons_zero, upd, reduceIte, Nat.reduceEqDiff, Nat.reduceAdd, f4, str]; done) | (simp [mkAct, upd, f4, str, *]; done)
      · -- operation 6
        obtain ⟨f5, -⟩ := hp
        obtain ⟨qo, qc, e5, hq⟩ := f5
        replace e5 : u 5 = .slice qo L qc := e5
        simp only [e5]
        go_wp2
        refine stq_x (.int .i64 L) rfl rfl Same.refl ?_
        first | (simp only [mkAct, List.foldl_cons, List.foldl_nil, List.setIfInBounds_toArray, List.set_cons_succ, List.set_cons_zero, upd, reduceIte, Nat.reduceEqDiff, Nat.reduceAdd, str]; done) | (simp [mkAct, upd, str, *]; done)
      · -- operation 7
        obtain ⟨f2, f6, -⟩ := hp
        replace f2 : u 2 = (.int .i64 (b - 1)) := f2
        replace f6 : u 6 = (.int .i64 L) := f6
        try simp only [f2, f6, str]
        go_wp2
        refine stq_v rfl Same.refl ?_
        first | (simp only [mkAct, List.foldl_cons, List.foldl_nil, List.setIfInBounds_toArray, List.set_cons_succ, List.set_cons_zero, upd, reduceIte, Nat.reduceEqDiff, Nat.reduceAdd, f2, f6, str]; done) | (simp [mkAct, upd, f2, f6, str, *]; done)
    · intro u wx hI hR
      obtain ⟨r0, r1, r2, r3, r4, r5, r6, r7, -⟩ := hR
      replace r0 : u 0 = (.pointer (some ⟨w.heap.size, 0, none⟩)) := r0
      replace r1 : u 1 = (.int .i64 b) := r1
      replace r2 : u 2 = (.int .i64 (b - 1)) := r2
      replace r3 : u 3 = (.pointer (some ⟨w.heap.size, 1, none⟩)) := r3
      replace r4 : u 4 = (.int .u64 m) := r4
      replace r6 : u 6 = (.int .i64 L) := r6
      replace r7 : u 7 = (.int .i64 R) := r7
      simp only [mkAct, List.foldl_cons, List.foldl_nil, List.setIfInBounds_toArray, List.set_cons_succ, List.set_cons_zero]
      try simp only [str, r0, r1, r2, r3, r4, r6, r7]
      go_wp2
      go_ret
      exact ⟨rfl, hs.out.trans hI⟩
set_option maxRecDepth 100000 in
set_option maxHeartbeats 1600000 in
theorem wask_any (b : Int) (m : Nat) (size k : Int) (w : World) (hm : m < 18446744073709551616) (hk : k ≤ 9223372036854775807) : Calls Tryd.prog 32 #[.agg #[.int .i64 b, .int .u64 m], .int .i64 size, .int .i64 k] w fun e w' => e = .returned (.int .i64 (Win.ask ⟨b, m⟩ size k)) ∧ Same w w' := by
  have hg := fun w => wgood_any b m w hm
  have hd := fun w => wdone_any b m k w hm hk
  obtain ⟨b0, b1, s0⟩ := box_w w b m
  replace b0 := Lib.hid b0
  replace b1 := Lib.hid b1
  replace s0 := Lib.hid s0
  obtain ⟨R, hR⟩ : ∃ R, R = Win.ask ⟨b, m⟩ size k := ⟨_, rfl⟩
  rw [← hR]
  unfold Win.ask at hR
  simp only at hR
  cases hG : Win.good ⟨b, m⟩
  · rw [hG] at hg hR
    rw [if_neg (by simp)] at hR
    subst hR
    clear hG hd
    replace hg := Lib.hid hg
    go_enter Tryd.func32, Tryd.ntmps32
    go_wp2_with fail
    refine (hg.out _).mono ?_
    rintro e w1 ⟨rfl, hs⟩
    have c0 := hs.cell b0.out
    have c1 := hs.cell b1.out
    replace hs := Lib.hid (s0.out.trans hs)
    go_wp2
    go_ret
    exact ⟨rfl, hs.out⟩
  · have hin := Win.good_in hG
    simp only at hin
    rw [hG] at hg hR
    clear hG
    replace hg := Lib.hid hg
    by_cases hr : 1 ≤ size ∧ size ≤ 64 ∧ 1 ≤ k ∧ k ≤ 1099511627776
    · rw [if_pos ⟨rfl, hr⟩] at hR
      obtain ⟨r1, r2, r3, r4⟩ := hr
      have d1 : Decidable.decide (size < 1) = false := decide_eq_false (by omega)
      have d2 : Decidable.decide (64 < size) = false := decide_eq_false (by omega)
      have d3 : Decidable.decide (k < 1) = false := decide_eq_false (by omega)
      have d4 : Decidable.decide (1099511627776 < k) = false := decide_eq_false (by omega)
      cases hD : Win.done ⟨b, m⟩ k
      · rw [hD] at hd hR
        rw [if_neg (by decide)] at hR
        clear hD
        replace hd := Lib.hid hd
        by_cases hf : size ≤ k - b
        · rw [if_pos hf] at hR
          subst hR
          have d5 : Decidable.decide (size ≤ k - b) = true := decide_eq_true hf
          go_enter Tryd.func32, Tryd.ntmps32
          go_wp2_with fail
          refine (hg.out _).mono ?_
          rintro e w1 ⟨rfl, hs⟩
          have c0 := hs.cell b0.out
          have c1 := hs.cell b1.out
          replace hs := Lib.hid (s0.out.trans hs)
          go_wp2_with fail
          refine (hd.out _).mono ?_
          rintro e w2 ⟨rfl, hs2⟩
          replace c0 := hs2.cell c0
          replace hs := Lib.hid (hs.out.trans hs2)
          clear hs2 c1
          go_wp2
          go_ret
          exact ⟨rfl, hs.out⟩
        · rw [if_neg hf] at hR
          subst hR
          have d5 : Decidable.decide (size ≤ k - b) = false := decide_eq_false hf
          go_enter Tryd.func32, Tryd.ntmps32
          go_wp2_with fail
          refine (hg.out _).mono ?_
          rintro e w1 ⟨rfl, hs⟩
          have c0 := hs.cell b0.out
          have c1 := hs.cell b1.out
          replace hs := Lib.hid (s0.out.trans hs)
          go_wp2_with fail
          refine (hd.out _).mono ?_
          rintro e w2 ⟨rfl, hs2⟩
          replace c0 := hs2.cell c0
          replace hs := Lib.hid (hs.out.trans hs2)
          clear hs2 c1
          go_wp2
          go_ret
          exact ⟨rfl, hs.out⟩
      · rw [hD] at hd hR
        rw [if_pos rfl] at hR
        subst hR
        clear hD
        replace hd := Lib.hid hd
        go_enter Tryd.func32, Tryd.ntmps32
        go_wp2_with fail
        refine (hg.out _).mono ?_
        rintro e w1 ⟨rfl, hs⟩
        have c0 := hs.cell b0.out
        have c1 := hs.cell b1.out
        replace hs := Lib.hid (s0.out.trans hs)
        go_wp2_with fail
        refine (hd.out _).mono ?_
        rintro e w2 ⟨rfl, hs2⟩
        replace hs := Lib.hid (hs.out.trans hs2)
        clear hs2 c1 c0
        go_wp2
        go_ret
        exact ⟨rfl, hs.out⟩
    · rw [if_neg (fun h => hr h.2)] at hR
      subst hR
      clear hd
      have h4 : size < 1 ∨ (1 ≤ size ∧ 64 < size) ∨ (1 ≤ size ∧ size ≤ 64 ∧ k < 1) ∨ (1 ≤ size ∧ size ≤ 64 ∧ 1 ≤ k ∧ 1099511627776 < k) := by omega
      clear hr
      rcases h4 with h | ⟨h, h'⟩ | ⟨h, h', h2⟩ | ⟨h, h', h2, h3⟩
      · have d1 : Decidable.decide (size < 1) = true := decide_eq_true (by omega)
        go_enter Tryd.func32, Tryd.ntmps32
        go_wp2_with fail
        refine (hg.out _).mono ?_
        rintro e w1 ⟨rfl, hs⟩
        have c0 := hs.cell b0.out
        have c1 := hs.cell b1.out
        replace hs := Lib.hid (s0.out.trans hs)
        go_wp2
        go_ret
        exact ⟨rfl, hs.out⟩
      · have d1 : Decidable.decide (size < 1) = false := decide_eq_false (by omega)
        have d2 : Decidable.decide (64 < size) = true := decide_eq_true (by omega)
        go_enter Tryd.func32, Tryd.ntmps32
        go_wp2_with fail
        refine (hg.out _).mono ?_
        rintro e w1 ⟨rfl, hs⟩
        have c0 := hs.cell b0.out
        have c1 := hs.cell b1.out
        replace hs := Lib.hid (s0.out.trans hs)
        go_wp2
        go_ret
        exact ⟨rfl, hs.out⟩
      · have d1 : Decidable.decide (size < 1) = false := decide_eq_false (by omega)
        have d2 : Decidable.decide (64 < size) = false := decide_eq_false (by omega)
        have d3 : Decidable.decide (k < 1) = true := decide_eq_true (by omega)
        go_enter Tryd.func32, Tryd.ntmps32
        go_wp2_with fail
        refine (hg.out _).mono ?_
        rintro e w1 ⟨rfl, hs⟩
        have c0 := hs.cell b0.out
        have c1 := hs.cell b1.out
        replace hs := Lib.hid (s0.out.trans hs)
        go_wp2
        go_ret
        exact ⟨rfl, hs.out⟩
      · have d1 : Decidable.decide (size < 1) = false := decide_eq_false (by omega)
        have d2 : Decidable.decide (64 < size) = false := decide_eq_false (by omega)
        have d3 : Decidable.decide (k < 1) = false := decide_eq_false (by omega)
        have d4 : Decidable.decide (1099511627776 < k) = true := decide_eq_true (by omega)
        go_enter Tryd.func32, Tryd.ntmps32
        go_wp2_with fail
        refine (hg.out _).mono ?_
        rintro e w1 ⟨rfl, hs⟩
        have c0 := hs.cell b0.out
        have c1 := hs.cell b1.out
        replace hs := Lib.hid (s0.out.trans hs)
        go_wp2
        go_ret
        exact ⟨rfl, hs.out⟩
set_option maxRecDepth 100000 in
set_option maxHeartbeats 1600000 in
theorem rwask_any (b : Int) (m : Nat) (size k : Int) (w : World) (hm : m < 18446744073709551616) (hk : k ≤ 9223372036854775807) : Calls Tryd.prog 33 #[.agg #[.int .i64 b, .int .u64 m], .int .i64 size, .int .i64 k] w fun e w' => e = .returned (.int .i64 (Win.ask ⟨b, m⟩ size k)) ∧ Same w w' := by
  have hg := fun w => rwgood_any b m w hm
  have hd := fun w => rwdone_any b m k w hm hk
  obtain ⟨b0, b1, s0⟩ := box_w w b m
  replace b0 := Lib.hid b0
  replace b1 := Lib.hid b1
  replace s0 := Lib.hid s0
  obtain ⟨R, hR⟩ : ∃ R, R = Win.ask ⟨b, m⟩ size k := ⟨_, rfl⟩
  rw [← hR]
  unfold Win.ask at hR
  simp only at hR
  cases hG : Win.good ⟨b, m⟩
  · rw [hG] at hg hR
    rw [if_neg (by simp)] at hR
    subst hR
    clear hG hd
    replace hg := Lib.hid hg
    go_enter Tryd.func33, Tryd.ntmps33
    go_wp2_with fail
    refine (hg.out _).mono ?_
    rintro e w1 ⟨rfl, hs⟩
    have c0 := hs.cell b0.out
    have c1 := hs.cell b1.out
    replace hs := Lib.hid (s0.out.trans hs)
    go_wp2
    go_ret
    exact ⟨rfl, hs.out⟩
  · have hin := Win.good_in hG
    simp only at hin
    rw [hG] at hg hR
    clear hG
    replace hg := Lib.hid hg
    by_cases hr : 1 ≤ size ∧ size ≤ 64 ∧ 1 ≤ k ∧ k ≤ 1099511627776
    · rw [if_pos ⟨rfl, hr⟩] at hR
      obtain ⟨r1, r2, r3, r4⟩ := hr
      have d1 : Decidable.decide (size < 1) = false := decide_eq_false (by omega)
      have d2 : Decidable.decide (64 < size) = false := decide_eq_false (by omega)
      have d3 : Decidable.decide (k < 1) = false := decide_eq_false (by omega)
      have d4 : Decidable.decide (1099511627776 < k) = false := decide_eq_false (by omega)
      cases hD : Win.done ⟨b, m⟩ k
      · rw [hD] at hd hR
        rw [if_neg (by decide)] at hR
        clear hD
        replace hd := Lib.hid hd
        by_cases hf : size ≤ k - b
        · rw [if_pos hf] at hR
          subst hR
          have d5 : Decidable.decide (size ≤ k - b) = true := decide_eq_true hf
          go_enter Tryd.func33, Tryd.ntmps33
          go_wp2_with fail
          refine (hg.out _).mono ?_
          rintro e w1 ⟨rfl, hs⟩
          have c0 := hs.cell b0.out
          have c1 := hs.cell b1.out
          replace hs := Lib.hid (s0.out.trans hs)
          go_wp2_with fail
          refine (hd.out _).mono ?_
          rintro e w2 ⟨rfl, hs2⟩
          replace c0 := hs2.cell c0
          replace hs := Lib.hid (hs.out.trans hs2)
          clear hs2 c1
          go_wp2
          go_ret
          exact ⟨rfl, hs.out⟩
        · rw [if_neg hf] at hR
          subst hR
          have d5 : Decidable.decide (size ≤ k - b) = false := decide_eq_false hf
          go_enter Tryd.func33, Tryd.ntmps33
          go_wp2_with fail
          refine (hg.out _).mono ?_
          rintro e w1 ⟨rfl, hs⟩
          have c0 := hs.cell b0.out
          have c1 := hs.cell b1.out
          replace hs := Lib.hid (s0.out.trans hs)
          go_wp2_with fail
          refine (hd.out _).mono ?_
          rintro e w2 ⟨rfl, hs2⟩
          replace c0 := hs2.cell c0
          replace hs := Lib.hid (hs.out.trans hs2)
          clear hs2 c1
          go_wp2
          go_ret
          exact ⟨rfl, hs.out⟩
      · rw [hD] at hd hR
        rw [if_pos rfl] at hR
        subst hR
        clear hD
        replace hd := Lib.hid hd
        go_enter Tryd.func33, Tryd.ntmps33
        go_wp2_with fail
        refine (hg.out _).mono ?_
        rintro e w1 ⟨rfl, hs⟩
        have c0 := hs.cell b0.out
        have c1 := hs.cell b1.out
        replace hs := Lib.hid (s0.out.trans hs)
        go_wp2_with fail
        refine (hd.out _).mono ?_
        rintro e w2 ⟨rfl, hs2⟩
        replace hs := Lib.hid (hs.out.trans hs2)
        clear hs2 c1 c0
        go_wp2
        go_ret
        exact ⟨rfl, hs.out⟩
    · rw [if_neg (fun h => hr h.2)] at hR
      subst hR
      clear hd
      have h4 : size < 1 ∨ (1 ≤ size ∧ 64 < size) ∨ (1 ≤ size ∧ size ≤ 64 ∧ k < 1) ∨ (1 ≤ size ∧ size ≤ 64 ∧ 1 ≤ k ∧ 1099511627776 < k) := by omega
      clear hr
      rcases h4 with h | ⟨h, h'⟩ | ⟨h, h', h2⟩ | ⟨h, h', h2, h3⟩
      · have d1 : Decidable.decide (size < 1) = true := decide_eq_true (by omega)
        go_enter Tryd.func33, Tryd.ntmps33
        go_wp2_with fail
        refine (hg.out _).mono ?_
        rintro e w1 ⟨rfl, hs⟩
        have c0 := hs.cell b0.out
        have c1 := hs.cell b1.out
        replace hs := Lib.hid (s0.out.trans hs)
        go_wp2
        go_ret
        exact ⟨rfl, hs.out⟩
      · have d1 : Decidable.decide (size < 1) = false := decide_eq_false (by omega)
        have d2 : Decidable.decide (64 < size) = true := decide_eq_true (by omega)
        go_enter Tryd.func33, Tryd.ntmps33
        go_wp2_with fail
        refine (hg.out _).mono ?_
        rintro e w1 ⟨rfl, hs⟩
        have c0 := hs.cell b0.out
        have c1 := hs.cell b1.out
        replace hs := Lib.hid (s0.out.trans hs)
        go_wp2
        go_ret
        exact ⟨rfl, hs.out⟩
      · have d1 : Decidable.decide (size < 1) = false := decide_eq_false (by omega)
        have d2 : Decidable.decide (64 < size) = false := decide_eq_false (by omega)
        have d3 : Decidable.decide (k < 1) = true := decide_eq_true (by omega)
        go_enter Tryd.func33, Tryd.ntmps33
        go_wp2_with fail
        refine (hg.out _).mono ?_
        rintro e w1 ⟨rfl, hs⟩
        have c0 := hs.cell b0.out
        have c1 := hs.cell b1.out
        replace hs := Lib.hid (s0.out.trans hs)
        go_wp2
        go_ret
        exact ⟨rfl, hs.out⟩
      · have d1 : Decidable.decide (size < 1) = false := decide_eq_false (by omega)
        have d2 : Decidable.decide (64 < size) = false := decide_eq_false (by omega)
        have d3 : Decidable.decide (k < 1) = false := decide_eq_false (by omega)
        have d4 : Decidable.decide (1099511627776 < k) = true := decide_eq_true (by omega)
        go_enter Tryd.func33, Tryd.ntmps33
        go_wp2_with fail
        refine (hg.out _).mono ?_
        rintro e w1 ⟨rfl, hs⟩
        have c0 := hs.cell b0.out
        have c1 := hs.cell b1.out
        replace hs := Lib.hid (s0.out.trans hs)
        go_wp2
        go_ret
        exact ⟨rfl, hs.out⟩
end Go.Proofs.YtkhloanpdehegaaDoor
