/-
  The walks of the window's calls, the program's and the document's.
-/
import Derived.Test.YtkhloanpdehegaaDoorMaskF
import Derived.Test.YtkhloanpdehegaaDoorWin
import Derived.Test.YtkhloanpdehegaaDoorMut
import Derived.Deep.DeepCutAuto
namespace Go.Proofs.YtkhloanpdehegaaDoor
open Go Go.RowKit
set_option linter.unusedSimpArgs false
set_option linter.unusedVariables false

def Win.val (v : Win) : Value := .agg #[.int .i64 v.base, .int .u64 (v.bits : Nat)]
theorem Win.good_in {v : Win} (h : v.good = true) : 1 ≤ v.base ∧ v.base ≤ 1099511627777 := by
  unfold Win.good at h
  simp only [Bool.and_eq_true, decide_eq_true_eq] at h
  exact ⟨h.1.1.1, h.1.1.2⟩
set_option maxRecDepth 100000 in
set_option maxHeartbeats 800000 in
theorem wgood_any (b : Int) (m : Nat) (w : World) (hm : m < 18446744073709551616) : Calls Tryd.prog 26 #[.agg #[.int .i64 b, .int .u64 m]] w fun e w' => e = .returned (.bool (Win.good ⟨b, m⟩)) ∧ Same w w' := by
  obtain ⟨R, hR⟩ : ∃ R, R = Win.good ⟨b, m⟩ := ⟨_, rfl⟩
  rw [← hR]
  unfold Win.good at hR
  simp only at hR
  by_cases h1 : b < 1
  · have hf : R = false := by rw [hR, decide_eq_false (show ¬ 1 ≤ b by omega)]; simp
    subst hf
    have d1 : Decidable.decide (b < 1) = true := decide_eq_true h1
    clear hR
    go_enter Tryd.func26, Tryd.ntmps26
    go_wp2
    go_ret
    exact ⟨rfl, (Same.refl.alloc _)⟩
  · have d1 : Decidable.decide (b < 1) = false := decide_eq_false h1
    rw [decide_eq_true (show 1 ≤ b by omega), Bool.true_and] at hR
    by_cases h2 : 1099511627777 < b
    · have hf : R = false := by rw [hR, decide_eq_false (show ¬ b ≤ 1099511627777 by omega)]; simp
      subst hf
      have d2 : Decidable.decide (1099511627777 < b) = true := decide_eq_true h2
      clear hR
      go_enter Tryd.func26, Tryd.ntmps26
      go_wp2
      go_ret
      exact ⟨rfl, (Same.refl.alloc _)⟩
    · have d2 : Decidable.decide (1099511627777 < b) = false := decide_eq_false h2
      rw [decide_eq_true (show b ≤ 1099511627777 by omega), Bool.true_and] at hR
      have hh := fun w => mhas_any m 0 w hm
      cases hz : mhas m 0
      · rw [hz] at hh hR
        obtain ⟨x, hx⟩ : ∃ x : Int, x = max 1 (1099511627776 - b + 1) := ⟨_, rfl⟩
        have hd := fun w => mdown_any m x w
        rw [← hx] at hR
        obtain ⟨D, hD⟩ : ∃ D, D = mdown m x := ⟨_, rfl⟩
        rw [← hD] at hd hR
        have hRR : (((D : Nat) : Int) == 0) = R := by rw [hR, Bool.eq_iff_iff]; simp
        have hw1 : IntKind.i64.wrap (1099511627776 - b) = 1099511627776 - b := IntWalk.i64_in _ ⟨by omega, by omega⟩
        clear hR hD hz
        replace hh := Lib.hid hh
        replace hd := Lib.hid hd
        by_cases hb : b = 1099511627777
        · subst hb
          have hx1 : x = 1 := by omega
          subst hx1
          clear hx
          go_enter Tryd.func26, Tryd.ntmps26
          go_wp2_with (first | (refine (hh.out _).mono ?_; clear hh; rintro e w' ⟨rfl, rfl⟩) | (refine (hd.out _).mono ?_; clear hd; rintro e w' ⟨rfl, rfl⟩))
          go_ret
          exact ⟨rfl, (Same.refl.alloc _)⟩
        · by_cases hb2 : b = 1099511627776
          · subst hb2
            have hx1 : x = 1 := by omega
            subst hx1
            clear hx
            go_enter Tryd.func26, Tryd.ntmps26
            go_wp2_with (first | (refine (hh.out _).mono ?_; clear hh; rintro e w' ⟨rfl, rfl⟩) | (refine (hd.out _).mono ?_; clear hd; rintro e w' ⟨rfl, rfl⟩))
            go_ret
            exact ⟨rfl, (Same.refl.alloc _)⟩
          · have hx1 : 1099511627776 - b + 1 = x := by omega
            have hlt : ((1 : Int) < x) = True := by simp; omega
            have hlt2 : (x < (1 : Int)) = False := by simp; omega
            clear hx
            go_enter Tryd.func26, Tryd.ntmps26
            go_wp2_with (first | (refine (hh.out _).mono ?_; clear hh; rintro e w' ⟨rfl, rfl⟩) | (refine (hd.out _).mono ?_; clear hd; rintro e w' ⟨rfl, rfl⟩))
            go_ret
            exact ⟨rfl, (Same.refl.alloc _)⟩
      · rw [hz] at hh hR
        have hf : R = false := by rw [hR]; simp
        subst hf
        clear hR hz
        replace hh := Lib.hid hh
        go_enter Tryd.func26, Tryd.ntmps26
        go_wp2_with (refine (hh.out _).mono ?_; clear hh; rintro e w' ⟨rfl, rfl⟩)
        go_ret
        exact ⟨rfl, (Same.refl.alloc _)⟩
set_option maxRecDepth 100000 in
set_option maxHeartbeats 800000 in
theorem wdone_any (b : Int) (m : Nat) (k : Int) (w : World) (hm : m < 18446744073709551616) (hk : k ≤ 9223372036854775807) : Calls Tryd.prog 28 #[.agg #[.int .i64 b, .int .u64 m], .int .i64 k] w fun e w' => e = .returned (.bool (Win.done ⟨b, m⟩ k)) ∧ Same w w' := by
  have hg := fun w => wgood_any b m w hm
  have b0 : (w.alloc (.cells #[.int .i64 b, .int .u64 m] 38)).cell? ⟨w.heap.size, 0, none⟩ = some (.int .i64 b) := blk_cell (heap_alloc_new w (.cells #[.int .i64 b, .int .u64 m] 38)) 0
  have b1 : (w.alloc (.cells #[.int .i64 b, .int .u64 m] 38)).cell? ⟨w.heap.size, 1, none⟩ = some (.int .u64 m) := blk_cell (heap_alloc_new w (.cells #[.int .i64 b, .int .u64 m] 38)) 1
  have s0 : Same w (w.alloc (.cells #[.int .i64 b, .int .u64 m] 38)) := Same.refl.alloc _
  replace b0 := Lib.hid b0
  replace b1 := Lib.hid b1
  replace s0 := Lib.hid s0
  obtain ⟨R, hR⟩ : ∃ R, R = Win.done ⟨b, m⟩ k := ⟨_, rfl⟩
  rw [← hR]
  unfold Win.done at hR
  simp only at hR
  cases hG : Win.good ⟨b, m⟩
  · rw [hG] at hg hR
    have hf : R = false := by rw [hR]; simp
    subst hf
    clear hR hG
    replace hg := Lib.hid hg
    go_enter Tryd.func28, Tryd.ntmps28
    go_wp2_with (refine (hg.out _).mono ?_; clear hg; rintro e w' ⟨rfl, hs⟩; replace hs := Lib.hid (s0.out.trans hs))
    go_ret
    exact ⟨rfl, hs.out⟩
  · have hin := Win.good_in hG
    simp only at hin
    rw [hG, Bool.true_and] at hR
    rw [hG] at hg
    clear hG
    replace hg := Lib.hid hg
    by_cases h1 : 1 ≤ k
    · have d1 : Decidable.decide (1 ≤ k) = true := decide_eq_true h1
      rw [d1, Bool.true_and] at hR
      by_cases h2 : k < b
      · have d2 : Decidable.decide (k < b) = true := decide_eq_true h2
        rw [d2, Bool.true_or] at hR
        subst hR
        go_enter Tryd.func28, Tryd.ntmps28
        go_wp2_with (refine (hg.out _).mono ?_; clear hg; rintro e w' ⟨rfl, hs⟩; have c0 := hs.cell b0.out; replace hs := Lib.hid (s0.out.trans hs))
        go_ret
        exact ⟨rfl, hs.out⟩
      · have d2 : Decidable.decide (k < b) = false := decide_eq_false h2
        rw [d2, Bool.false_or] at hR
        have hh := fun w => mhas_any m (k - b) w hm
        rw [← hR] at hh
        clear hR
        replace hh := Lib.hid hh
        go_enter Tryd.func28, Tryd.ntmps28
        go_wp2_with (first | (refine (hg.out _).mono ?_; clear hg; rintro e w' ⟨rfl, hs⟩; have c0 := hs.cell b0.out; have c1 := hs.cell b1.out; replace hs := Lib.hid (s0.out.trans hs)) | (refine (hh.out _).mono ?_; clear hh; rintro e w' ⟨rfl, rfl⟩))
        go_ret
        exact ⟨rfl, hs.out⟩
    · have d1 : Decidable.decide (1 ≤ k) = false := decide_eq_false h1
      have hf : R = false := by rw [hR, d1]; simp
      subst hf
      clear hR
      go_enter Tryd.func28, Tryd.ntmps28
      go_wp2_with (refine (hg.out _).mono ?_; clear hg; rintro e w' ⟨rfl, hs⟩; replace hs := Lib.hid (s0.out.trans hs))
      go_ret
      exact ⟨rfl, hs.out⟩
set_option maxRecDepth 100000 in
set_option maxHeartbeats 1600000 in
theorem rwgood_any (b : Int) (m : Nat) (w : World) (hm : m < 18446744073709551616) : Calls Tryd.prog 27 #[.agg #[.int .i64 b, .int .u64 m]] w fun e w' => e = .returned (.bool (Win.good ⟨b, m⟩)) ∧ Same w w' := by
  rw [← Win.rgood_eq ⟨b, m⟩ hm]
  obtain ⟨R, hR⟩ : ∃ R, R = Win.rgood ⟨b, m⟩ := ⟨_, rfl⟩
  rw [← hR]
  unfold Win.rgood at hR
  simp only at hR
  by_cases h1 : b < 1
  · have hf : R = false := by rw [hR, decide_eq_false (show ¬ 1 ≤ b by omega)]; simp
    subst hf
    have d1 : Decidable.decide (b < 1) = true := decide_eq_true h1
    clear hR
    go_enter Tryd.func27, Tryd.ntmps27
    go_wp2
    go_ret
    exact ⟨rfl, (Same.refl.alloc _)⟩
  · have d1 : Decidable.decide (b < 1) = false := decide_eq_false h1
    rw [decide_eq_true (show 1 ≤ b by omega), Bool.true_and] at hR
    by_cases h2 : 1099511627777 < b
    · have hf : R = false := by rw [hR, decide_eq_false (show ¬ b ≤ 1099511627777 by omega)]; simp
      subst hf
      have d2 : Decidable.decide (1099511627777 < b) = true := decide_eq_true h2
      clear hR
      go_enter Tryd.func27, Tryd.ntmps27
      go_wp2
      go_ret
      exact ⟨rfl, (Same.refl.alloc _)⟩
    · have d2 : Decidable.decide (1099511627777 < b) = false := decide_eq_false h2
      rw [decide_eq_true (show b ≤ 1099511627777 by omega), Bool.true_and] at hR
      have hh := fun w => rhas_any m 0 w hm
      cases hz : mhas m 0
      · rw [hz] at hh hR
        have b0 : (w.alloc (.cells #[.int .i64 b, .int .u64 m] 38)).cell? ⟨w.heap.size, 0, none⟩ = some (.int .i64 b) := blk_cell (heap_alloc_new w (.cells #[.int .i64 b, .int .u64 m] 38)) 0
        have s0 : Same w (w.alloc (.cells #[.int .i64 b, .int .u64 m] 38)) := Same.refl.alloc _
        have hli := fun w => rlist_any m w hm
        unfold RetI at hli
        rw [nints_length] at hli
        have hel : ∀ j, j < (mlist m).length → (nints (mlist m))[j]? = some (((mlist m).getD j 0 : Nat) : Int) := by
          intro j hj
          simp [nints, List.getD, hj]
        have hx64 : ∀ j, j < (mlist m).length → (mlist m).getD j 0 < 64 := by
          intro j hj
          refine ((mlist_mem m _).1 ?_).1
          simp only [List.getD, List.getElem?_eq_getElem hj, Option.getD_some]
          exact List.getElem_mem _
        obtain ⟨n, hn⟩ : ∃ n, n = (mlist m).length := ⟨_, rfl⟩
        rw [← hn] at hR hli hel hx64
        obtain ⟨M, hM⟩ : ∃ M, M = nints (mlist m) := ⟨_, rfl⟩
        rw [← hM] at hli hel
        clear hM hn hz
        replace hli := Lib.hid hli
        replace hh := Lib.hid hh
        replace b0 := Lib.hid b0
        replace s0 := Lib.hid s0
        have hnn : n = 0 ∨ ∃ j, n = j + 1 := by cases n with
          | zero => exact .inl rfl
          | succ j => exact .inr ⟨j, rfl⟩
        rcases hnn with rfl | ⟨j, rfl⟩
        · have hf : R = true := by rw [hR]; simp
          subst hf
          clear hR hel hx64
          go_enter Tryd.func27, Tryd.ntmps27
          go_wp2_with (refine (hh.out _).mono ?_; clear hh; rintro e w' ⟨rfl, rfl⟩)
          refine (hli.out _).mono ?_
          clear hli
          rintro e w1 ⟨v, rfl, ho, hs1⟩
          obtain ⟨ao, cap, rfl, hsl⟩ := ho.sl
          clear ho hsl
          replace hs1 := Lib.hid (s0.out.trans hs1)
          go_upto_region 4 with fail
          refine wp_region_last (by kernel_rfl) [(20, 0), (21, 1), (22, 2), (23, 3), (24, 4), (25, 5), (26, 6), (27, 7), (28, 8), (29, 9), (30, 10), (31, 11), (32, 12), (33, 13), (34, 14), (2, 15)] Same (Same _) [isV (.slice ao 0 cap), isV (.int .i64 0), isV (.bool true), isV (.bool true), isV undef, isV undef, isV undef, isV undef, isV undef, isV undef, isV undef, isV undef, isV undef, isV undef, isV (.bool true)] Same.refl.drew (fun _ _ h k => h.trans k) (by simp [isV_stable, isB_stable, isAny_stable]) (by decide) (l := [_, _, _, _, _, _, _, _, _, _, _, _, _, _, _]) rfl (by decide) (by decide) ?_ ?_
          · refine ⟨?_, ?_, ?_, ?_, ?_, ?_, ?_, ?_, ?_, ?_, ?_, ?_, ?_, ?_, ?_, trivial⟩
            all_goals (intro u wx hI hp; simp only [mkAct, List.foldl_cons, List.foldl_nil, List.setIfInBounds_toArray, List.set_cons_succ, List.set_cons_zero])
            · -- operation 0
              go_wp2
              refine stq_v rfl Same.refl ?_
              first | (simp only [mkAct, List.foldl_cons, List.foldl_nil, List.setIfInBounds_toArray, List.set_cons_succ, List.set_cons_zero, upd, reduceIte, Nat.reduceEqDiff, Nat.reduceAdd, str]; done) | (simp [mkAct, upd, str, *]; done)
            · -- operation 1
              obtain ⟨f0, -⟩ := hp
              replace f0 : u 0 = (.slice ao 0 cap) := f0
              try simp only [f0, str]
              go_wp2
              refine stq_v rfl Same.refl ?_
              first | (simp only [mkAct, List.foldl_cons, List.foldl_nil, List.setIfInBounds_toArray, List.set_cons_succ, List.set_cons_zero, upd, reduceIte, Nat.reduceEqDiff, Nat.reduceAdd, f0, str]; done) | (simp [mkAct, upd, f0, str, *]; done)
            · -- operation 2
              obtain ⟨f1, -⟩ := hp
              replace f1 : u 1 = (.int .i64 0) := f1
              try simp only [f1, str]
              go_wp2
              refine stq_v rfl Same.refl ?_
              first | (simp only [mkAct, List.foldl_cons, List.foldl_nil, List.setIfInBounds_toArray, List.set_cons_succ, List.set_cons_zero, upd, reduceIte, Nat.reduceEqDiff, Nat.reduceAdd, f1, str]; done) | (simp [mkAct, upd, f1, str, *]; done)
            · -- operation 3
              obtain ⟨f2, -⟩ := hp
              replace f2 : u 2 = (.bool true) := f2
              try simp only [f2, str]
              go_wp2
              refine stq_v rfl Same.refl ?_
              first | (simp only [mkAct, List.foldl_cons, List.foldl_nil, List.setIfInBounds_toArray, List.set_cons_succ, List.set_cons_zero, upd, reduceIte, Nat.reduceEqDiff, Nat.reduceAdd, f2, str]; done) | (simp [mkAct, upd, f2, str, *]; done)
            · -- operation 4
              obtain ⟨f3, -⟩ := hp
              replace f3 : u 3 = (.bool true) := f3
              try simp only [f3, str]
              go_wp2
              refine stq_v rfl Same.refl ?_
              first | (simp only [mkAct, List.foldl_cons, List.foldl_nil, List.setIfInBounds_toArray, List.set_cons_succ, List.set_cons_zero, upd, reduceIte, Nat.reduceEqDiff, Nat.reduceAdd, f3, str]; done) | (simp [mkAct, upd, f3, str, *]; done)
            · -- operation 5
              obtain ⟨f3, -⟩ := hp
              replace f3 : u 3 = (.bool true) := f3
              try simp only [f3, str]
              go_wp2
              refine stq_v rfl Same.refl ?_
              first | (simp only [mkAct, List.foldl_cons, List.foldl_nil, List.setIfInBounds_toArray, List.set_cons_succ, List.set_cons_zero, upd, reduceIte, Nat.reduceEqDiff, Nat.reduceAdd, f3, str]; done) | (simp [mkAct, upd, f3, str, *]; done)
            · -- operation 6
              obtain ⟨f5, f3, -⟩ := hp
              replace f5 : u 5 = undef := f5
              replace f3 : u 3 = (.bool true) := f3
              try simp only [f5, f3, str]
              go_wp2
              refine stq_v rfl Same.refl ?_
              first | (simp only [mkAct, List.foldl_cons, List.foldl_nil, List.setIfInBounds_toArray, List.set_cons_succ, List.set_cons_zero, upd, reduceIte, Nat.reduceEqDiff, Nat.reduceAdd, f5, f3, str]; done) | (simp [mkAct, upd, f5, f3, str, *]; done)
            · -- operation 7
              obtain ⟨f6, f3, -⟩ := hp
              replace f6 : u 6 = undef := f6
              replace f3 : u 3 = (.bool true) := f3
              try simp only [f6, f3, str]
              go_wp2
              refine stq_v rfl Same.refl ?_
              first | (simp only [mkAct, List.foldl_cons, List.foldl_nil, List.setIfInBounds_toArray, List.set_cons_succ, List.set_cons_zero, upd, reduceIte, Nat.reduceEqDiff, Nat.reduceAdd, f6, f3, str]; done) | (simp [mkAct, upd, f6, f3, str, *]; done)
            · -- operation 8
              obtain ⟨f4, f7, f3, -⟩ := hp
              replace f4 : u 4 = undef := f4
              replace f7 : u 7 = undef := f7
              replace f3 : u 3 = (.bool true) := f3
              try simp only [f4, f7, f3, str]
              go_wp2
              refine stq_v rfl Same.refl ?_
              first | (simp only [mkAct, List.foldl_cons, List.foldl_nil, List.setIfInBounds_toArray, List.set_cons_succ, List.set_cons_zero, upd, reduceIte, Nat.reduceEqDiff, Nat.reduceAdd, f4, f7, f3, str]; done) | (simp [mkAct, upd, f4, f7, f3, str, *]; done)
            · -- operation 9
              obtain ⟨f8, f3, -⟩ := hp
              replace f8 : u 8 = undef := f8
              replace f3 : u 3 = (.bool true) := f3
              try simp only [f8, f3, str]
              go_wp2
              refine stq_v rfl Same.refl ?_
              first | (simp only [mkAct, List.foldl_cons, List.foldl_nil, List.setIfInBounds_toArray, List.set_cons_succ, List.set_cons_zero, upd, reduceIte, Nat.reduceEqDiff, Nat.reduceAdd, f8, f3, str]; done) | (simp [mkAct, upd, f8, f3, str, *]; done)
            · -- operation 10
              obtain ⟨f3, -⟩ := hp
              replace f3 : u 3 = (.bool true) := f3
              try simp only [f3, str]
              go_wp2
              refine stq_v rfl Same.refl ?_
              first | (simp only [mkAct, List.foldl_cons, List.foldl_nil, List.setIfInBounds_toArray, List.set_cons_succ, List.set_cons_zero, upd, reduceIte, Nat.reduceEqDiff, Nat.reduceAdd, f3, str]; done) | (simp [mkAct, upd, f3, str, *]; done)
            · -- operation 11
              obtain ⟨f10, f3, -⟩ := hp
              replace f10 : u 10 = undef := f10
              replace f3 : u 3 = (.bool true) := f3
              try simp only [f10, f3, str]
              go_wp2
              refine stq_v rfl Same.refl ?_
              first | (simp only [mkAct, List.foldl_cons, List.foldl_nil, List.setIfInBounds_toArray, List.set_cons_succ, List.set_cons_zero, upd, reduceIte, Nat.reduceEqDiff, Nat.reduceAdd, f10, f3, str]; done) | (simp [mkAct, upd, f10, f3, str, *]; done)
            · -- operation 12
              obtain ⟨f11, f3, -⟩ := hp
              replace f11 : u 11 = undef := f11
              replace f3 : u 3 = (.bool true) := f3
              try simp only [f11, f3, str]
              go_wp2
              refine stq_v rfl Same.refl ?_
              first | (simp only [mkAct, List.foldl_cons, List.foldl_nil, List.setIfInBounds_toArray, List.set_cons_succ, List.set_cons_zero, upd, reduceIte, Nat.reduceEqDiff, Nat.reduceAdd, f11, f3, str]; done) | (simp [mkAct, upd, f11, f3, str, *]; done)
            · -- operation 13
              obtain ⟨f9, f12, f3, -⟩ := hp
              replace f9 : u 9 = undef := f9
              replace f12 : u 12 = undef := f12
              replace f3 : u 3 = (.bool true) := f3
              try simp only [f9, f12, f3, str]
              go_wp2
              refine stq_v rfl Same.refl ?_
              first | (simp only [mkAct, List.foldl_cons, List.foldl_nil, List.setIfInBounds_toArray, List.set_cons_succ, List.set_cons_zero, upd, reduceIte, Nat.reduceEqDiff, Nat.reduceAdd, f9, f12, f3, str]; done) | (simp [mkAct, upd, f9, f12, f3, str, *]; done)
            · -- operation 14
              obtain ⟨f3, f13, -⟩ := hp
              replace f3 : u 3 = (.bool true) := f3
              replace f13 : u 13 = undef := f13
              try simp only [f3, f13, str]
              go_wp2
              refine stq_v rfl Same.refl ?_
              first | (simp only [mkAct, List.foldl_cons, List.foldl_nil, List.setIfInBounds_toArray, List.set_cons_succ, List.set_cons_zero, upd, reduceIte, Nat.reduceEqDiff, Nat.reduceAdd, f3, f13, str]; done) | (simp [mkAct, upd, f3, f13, str, *]; done)
          · intro u wx hI hR
            obtain ⟨r0, r1, r2, r3, r4, r5, r6, r7, r8, r9, r10, r11, r12, r13, r14, -⟩ := hR
            replace r0 : u 0 = (.slice ao 0 cap) := r0
            replace r1 : u 1 = (.int .i64 0) := r1
            replace r2 : u 2 = (.bool true) := r2
            replace r3 : u 3 = (.bool true) := r3
            replace r4 : u 4 = undef := r4
            replace r5 : u 5 = undef := r5
            replace r6 : u 6 = undef := r6
            replace r7 : u 7 = undef := r7
            replace r8 : u 8 = undef := r8
            replace r9 : u 9 = undef := r9
            replace r10 : u 10 = undef := r10
            replace r11 : u 11 = undef := r11
            replace r12 : u 12 = undef := r12
            replace r13 : u 13 = undef := r13
            replace r14 : u 14 = (.bool true) := r14
            simp only [mkAct, List.foldl_cons, List.foldl_nil, List.setIfInBounds_toArray, List.set_cons_succ, List.set_cons_zero]
            try simp only [str, r0, r1, r2, r3, r4, r5, r6, r7, r8, r9, r10, r11, r12, r13, r14]
            go_wp2
            go_ret
            exact ⟨rfl, hs1.out.trans hI⟩
        · rw [Nat.add_sub_cancel, decide_eq_false (show ¬ j + 1 = 0 by omega), Bool.false_or] at hR
          have he := hel j (by omega)
          have hx := hx64 j (by omega)
          obtain ⟨x, hxe⟩ : ∃ x, x = (mlist m).getD j 0 := ⟨_, rfl⟩
          rw [← hxe] at he hR hx
          have hcm : (iv M)[j]? = some (.int .i64 (x : Nat)) := by simp [iv, he]
          have hj1 : ((j + 1 : Nat) : Int) - 1 = (j : Int) := by omega
          have hj2 : (((j + 1 : Nat) : Int) == 0) = false := by simp; omega
          have hw1 : IntKind.i64.wrap (1099511627776 - b) = 1099511627776 - b := IntWalk.i64_in _ ⟨by omega, by omega⟩
          obtain ⟨n, hn⟩ : ∃ n, n = j + 1 := ⟨_, rfl⟩
          rw [← hn] at hli hj1 hj2
          have q1 : (j : Int) < (n : Int) := by omega
          have q0 : 0 ≤ (j : Int) := by omega
          have hne : iv M ≠ [] := by intro h0; rw [h0] at hcm; simp at hcm
          clear hel hx64 hxe he
          replace hR := Lib.hid hR
          replace hcm := Lib.hid hcm
          replace hne := Lib.hid hne
          replace hn := Lib.hid hn
          go_enter Tryd.func27, Tryd.ntmps27
          go_wp2_with (refine (hh.out _).mono ?_; clear hh; rintro e w' ⟨rfl, rfl⟩)
          refine (hli.out _).mono ?_
          clear hli
          rintro e w1 ⟨v, rfl, ho, hs1⟩
          obtain ⟨ao, cap, rfl, hsl⟩ := ho.sl
          obtain ⟨bk, off, rfl, _, hcell⟩ := hsl.at hne.out
          have cc := hcell j _ hcm.out
          have hcap := hsl.cap
          have hmost := hsl.most
          unfold maxLen at hmost
          have c0 := hs1.cell b0.out
          clear ho hsl hcell
          replace hs1 := Lib.hid (s0.out.trans hs1)
          go_upto_region 4 with fail
          refine wp_region_last (by kernel_rfl) [(20, 0), (21, 1), (22, 2), (23, 3), (24, 4), (25, 5), (26, 6), (27, 7), (28, 8), (29, 9), (30, 10), (31, 11), (32, 12), (33, 13), (34, 14), (2, 15)] Same (Same _) [isV (.slice (some ⟨bk, off, none⟩) n cap), isV (.int .i64 n), isV (.bool false), isV (.bool false), isV (.slice (some ⟨bk, off, none⟩) n cap), isV (.slice (some ⟨bk, off, none⟩) n cap), isV (.int .i64 n), isV (.int .i64 j), isV (.pointer (some ⟨bk, off + j, none⟩)), isV (.int .i64 (x : Nat)), isV (.pointer (some ⟨w.heap.size, 0, none⟩)), isV (.int .i64 b), isV (.int .i64 (1099511627776 - b)), isV (.bool R), isV (.bool R)] Same.refl.drew (fun _ _ h k => h.trans k) (by simp [isV_stable, isB_stable, isAny_stable]) (by decide) (l := [_, _, _, _, _, _, _, _, _, _, _, _, _, _, _]) rfl (by decide) (by decide) ?_ ?_
          · refine ⟨?_, ?_, ?_, ?_, ?_, ?_, ?_, ?_, ?_, ?_, ?_, ?_, ?_, ?_, ?_, trivial⟩
            all_goals (intro u wx hI hp; simp only [mkAct, List.foldl_cons, List.foldl_nil, List.setIfInBounds_toArray, List.set_cons_succ, List.set_cons_zero])
            · -- operation 0
              go_wp2
              refine stq_v rfl Same.refl ?_
              first | (simp only [mkAct, List.foldl_cons, List.foldl_nil, List.setIfInBounds_toArray, List.set_cons_succ, List.set_cons_zero, upd, reduceIte, Nat.reduceEqDiff, Nat.reduceAdd, str]; done) | (simp [mkAct, upd, str, *]; done)
            · -- operation 1
              obtain ⟨f0, -⟩ := hp
              replace f0 : u 0 = (.slice (some ⟨bk, off, none⟩) n cap) := f0
              try simp only [f0, str]
              go_wp2
              refine stq_v rfl Same.refl ?_
              first | (simp only [mkAct, List.foldl_cons, List.foldl_nil, List.setIfInBounds_toArray, List.set_cons_succ, List.set_cons_zero, upd, reduceIte, Nat.reduceEqDiff, Nat.reduceAdd, f0, str]; done) | (simp [mkAct, upd, f0, str, *]; done)
            · -- operation 2
              obtain ⟨f1, -⟩ := hp
              replace f1 : u 1 = (.int .i64 n) := f1
              try simp only [f1, str]
              go_wp2
              refine stq_v rfl Same.refl ?_
              first | (simp only [mkAct, List.foldl_cons, List.foldl_nil, List.setIfInBounds_toArray, List.set_cons_succ, List.set_cons_zero, upd, reduceIte, Nat.reduceEqDiff, Nat.reduceAdd, f1, str]; done) | (simp [mkAct, upd, f1, str, *]; done)
            · -- operation 3
              obtain ⟨f2, -⟩ := hp
              replace f2 : u 2 = (.bool false) := f2
              try simp only [f2, str]
              go_wp2
              refine stq_v rfl Same.refl ?_
              first | (simp only [mkAct, List.foldl_cons, List.foldl_nil, List.setIfInBounds_toArray, List.set_cons_succ, List.set_cons_zero, upd, reduceIte, Nat.reduceEqDiff, Nat.reduceAdd, f2, str]; done) | (simp [mkAct, upd, f2, str, *]; done)
            · -- operation 4
              obtain ⟨f3, -⟩ := hp
              replace f3 : u 3 = (.bool false) := f3
              try simp only [f3, str]
              go_wp2
              refine stq_v rfl Same.refl ?_
              first | (simp only [mkAct, List.foldl_cons, List.foldl_nil, List.setIfInBounds_toArray, List.set_cons_succ, List.set_cons_zero, upd, reduceIte, Nat.reduceEqDiff, Nat.reduceAdd, f3, str]; done) | (simp [mkAct, upd, f3, str, *]; done)
            · -- operation 5
              obtain ⟨f3, -⟩ := hp
              replace f3 : u 3 = (.bool false) := f3
              try simp only [f3, str]
              go_wp2
              refine stq_v rfl Same.refl ?_
              first | (simp only [mkAct, List.foldl_cons, List.foldl_nil, List.setIfInBounds_toArray, List.set_cons_succ, List.set_cons_zero, upd, reduceIte, Nat.reduceEqDiff, Nat.reduceAdd, f3, str]; done) | (simp [mkAct, upd, f3, str, *]; done)
            · -- operation 6
              obtain ⟨f5, f3, -⟩ := hp
              replace f5 : u 5 = (.slice (some ⟨bk, off, none⟩) n cap) := f5
              replace f3 : u 3 = (.bool false) := f3
              try simp only [f5, f3, str]
              go_wp2
              refine stq_v rfl Same.refl ?_
              first | (simp only [mkAct, List.foldl_cons, List.foldl_nil, List.setIfInBounds_toArray, List.set_cons_succ, List.set_cons_zero, upd, reduceIte, Nat.reduceEqDiff, Nat.reduceAdd, f5, f3, str]; done) | (simp [mkAct, upd, f5, f3, str, *]; done)
            · -- operation 7
              obtain ⟨f6, f3, -⟩ := hp
              replace f6 : u 6 = (.int .i64 n) := f6
              replace f3 : u 3 = (.bool false) := f3
              try simp only [f6, f3, str]
              go_wp2
              refine stq_v rfl Same.refl ?_
              first | (simp only [mkAct, List.foldl_cons, List.foldl_nil, List.setIfInBounds_toArray, List.set_cons_succ, List.set_cons_zero, upd, reduceIte, Nat.reduceEqDiff, Nat.reduceAdd, f6, f3, str]; done) | (simp [mkAct, upd, f6, f3, str, *]; done)
            · -- operation 8
              obtain ⟨f4, f7, f3, -⟩ := hp
              replace f4 : u 4 = (.slice (some ⟨bk, off, none⟩) n cap) := f4
              replace f7 : u 7 = (.int .i64 j) := f7
              replace f3 : u 3 = (.bool false) := f3
              try simp only [f4, f7, f3, str]
              go_wp2
              refine stq_v rfl Same.refl ?_
              first | (simp only [mkAct, List.foldl_cons, List.foldl_nil, List.setIfInBounds_toArray, List.set_cons_succ, List.set_cons_zero, upd, reduceIte, Nat.reduceEqDiff, Nat.reduceAdd, f4, f7, f3, str]; done) | (simp [mkAct, upd, f4, f7, f3, str, *]; done)
            · -- operation 9
              obtain ⟨f8, f3, -⟩ := hp
              replace f8 : u 8 = (.pointer (some ⟨bk, off + j, none⟩)) := f8
              replace f3 : u 3 = (.bool false) := f3
              try simp only [f8, f3, str]
              have cx := hI.cell (cc)
              go_wp2
              refine stq_v rfl Same.refl ?_
              first | (simp only [mkAct, List.foldl_cons, List.foldl_nil, List.setIfInBounds_toArray, List.set_cons_succ, List.set_cons_zero, upd, reduceIte, Nat.reduceEqDiff, Nat.reduceAdd, f8, f3, str]; done) | (simp [mkAct, upd, f8, f3, str, *]; done)
            · -- operation 10
              obtain ⟨f3, -⟩ := hp
              replace f3 : u 3 = (.bool false) := f3
              try simp only [f3, str]
              go_wp2
              refine stq_v rfl Same.refl ?_
              first | (simp only [mkAct, List.foldl_cons, List.foldl_nil, List.setIfInBounds_toArray, List.set_cons_succ, List.set_cons_zero, upd, reduceIte, Nat.reduceEqDiff, Nat.reduceAdd, f3, str]; done) | (simp [mkAct, upd, f3, str, *]; done)
            · -- operation 11
              obtain ⟨f10, f3, -⟩ := hp
              replace f10 : u 10 = (.pointer (some ⟨w.heap.size, 0, none⟩)) := f10
              replace f3 : u 3 = (.bool false) := f3
              try simp only [f10, f3, str]
              have cx := hI.cell (c0)
              go_wp2
              refine stq_v rfl Same.refl ?_
              first | (simp only [mkAct, List.foldl_cons, List.foldl_nil, List.setIfInBounds_toArray, List.set_cons_succ, List.set_cons_zero, upd, reduceIte, Nat.reduceEqDiff, Nat.reduceAdd, f10, f3, str]; done) | (simp [mkAct, upd, f10, f3, str, *]; done)
            · -- operation 12
              obtain ⟨f11, f3, -⟩ := hp
              replace f11 : u 11 = (.int .i64 b) := f11
              replace f3 : u 3 = (.bool false) := f3
              try simp only [f11, f3, str]
              go_wp2
              refine stq_v rfl Same.refl ?_
              first | (simp only [mkAct, List.foldl_cons, List.foldl_nil, List.setIfInBounds_toArray, List.set_cons_succ, List.set_cons_zero, upd, reduceIte, Nat.reduceEqDiff, Nat.reduceAdd, f11, f3, str]; done) | (simp [mkAct, upd, f11, f3, str, *]; done)
            · -- operation 13
              obtain ⟨f9, f12, f3, -⟩ := hp
              replace f9 : u 9 = (.int .i64 (x : Nat)) := f9
              replace f12 : u 12 = (.int .i64 (1099511627776 - b)) := f12
              replace f3 : u 3 = (.bool false) := f3
              try simp only [f9, f12, f3, str]
              rw [hR.out]
              go_wp2
              refine stq_v rfl Same.refl ?_
              first | (simp only [mkAct, List.foldl_cons, List.foldl_nil, List.setIfInBounds_toArray, List.set_cons_succ, List.set_cons_zero, upd, reduceIte, Nat.reduceEqDiff, Nat.reduceAdd, f9, f12, f3, str]; done) | (simp [mkAct, upd, f9, f12, f3, str, *]; done)
            · -- operation 14
              obtain ⟨f3, f13, -⟩ := hp
              replace f3 : u 3 = (.bool false) := f3
              replace f13 : u 13 = (.bool R) := f13
              try simp only [f3, f13, str]
              go_wp2
              refine stq_v rfl Same.refl ?_
              first | (simp only [mkAct, List.foldl_cons, List.foldl_nil, List.setIfInBounds_toArray, List.set_cons_succ, List.set_cons_zero, upd, reduceIte, Nat.reduceEqDiff, Nat.reduceAdd, f3, f13, str]; done) | (simp [mkAct, upd, f3, f13, str, *]; done)
          · intro u wx hI hR
            obtain ⟨r0, r1, r2, r3, r4, r5, r6, r7, r8, r9, r10, r11, r12, r13, r14, -⟩ := hR
            replace r0 : u 0 = (.slice (some ⟨bk, off, none⟩) n cap) := r0
            replace r1 : u 1 = (.int .i64 n) := r1
            replace r2 : u 2 = (.bool false) := r2
            replace r3 : u 3 = (.bool false) := r3
            replace r4 : u 4 = (.slice (some ⟨bk, off, none⟩) n cap) := r4
            replace r5 : u 5 = (.slice (some ⟨bk, off, none⟩) n cap) := r5
            replace r6 : u 6 = (.int .i64 n) := r6
            replace r7 : u 7 = (.int .i64 j) := r7
            replace r8 : u 8 = (.pointer (some ⟨bk, off + j, none⟩)) := r8
            replace r9 : u 9 = (.int .i64 (x : Nat)) := r9
            replace r10 : u 10 = (.pointer (some ⟨w.heap.size, 0, none⟩)) := r10
            replace r11 : u 11 = (.int .i64 b) := r11
            replace r12 : u 12 = (.int .i64 (1099511627776 - b)) := r12
            replace r13 : u 13 = (.bool R) := r13
            replace r14 : u 14 = (.bool R) := r14
            simp only [mkAct, List.foldl_cons, List.foldl_nil, List.setIfInBounds_toArray, List.set_cons_succ, List.set_cons_zero]
            try simp only [str, r0, r1, r2, r3, r4, r5, r6, r7, r8, r9, r10, r11, r12, r13, r14]
            go_wp2
            go_ret
            exact ⟨rfl, hs1.out.trans hI⟩
      · rw [hz] at hh hR
        have hf : R = false := by rw [hR]; simp
        subst hf
        clear hR hz
        replace hh := Lib.hid hh
        go_enter Tryd.func27, Tryd.ntmps27
        go_wp2_with (refine (hh.out _).mono ?_; clear hh; rintro e w' ⟨rfl, rfl⟩)
        go_ret
        exact ⟨rfl, (Same.refl.alloc _)⟩
set_option maxRecDepth 100000 in
set_option maxHeartbeats 800000 in
theorem rwdone_any (b : Int) (m : Nat) (k : Int) (w : World) (hm : m < 18446744073709551616) (hk : k ≤ 9223372036854775807) : Calls Tryd.prog 29 #[.agg #[.int .i64 b, .int .u64 m], .int .i64 k] w fun e w' => e = .returned (.bool (Win.done ⟨b, m⟩ k)) ∧ Same w w' := by
  have hg := fun w => rwgood_any b m w hm
  have b0 : (w.alloc (.cells #[.int .i64 b, .int .u64 m] 38)).cell? ⟨w.heap.size, 0, none⟩ = some (.int .i64 b) := blk_cell (heap_alloc_new w (.cells #[.int .i64 b, .int .u64 m] 38)) 0
  have b1 : (w.alloc (.cells #[.int .i64 b, .int .u64 m] 38)).cell? ⟨w.heap.size, 1, none⟩ = some (.int .u64 m) := blk_cell (heap_alloc_new w (.cells #[.int .i64 b, .int .u64 m] 38)) 1
  have s0 : Same w (w.alloc (.cells #[.int .i64 b, .int .u64 m] 38)) := Same.refl.alloc _
  replace b0 := Lib.hid b0
  replace b1 := Lib.hid b1
  replace s0 := Lib.hid s0
  obtain ⟨R, hR⟩ : ∃ R, R = Win.done ⟨b, m⟩ k := ⟨_, rfl⟩
  rw [← hR]
  unfold Win.done at hR
  simp only at hR
  cases hG : Win.good ⟨b, m⟩
  · rw [hG] at hg hR
    have hf : R = false := by rw [hR]; simp
    subst hf
    clear hR hG
    replace hg := Lib.hid hg
    go_enter Tryd.func29, Tryd.ntmps29
    go_wp2_with (refine (hg.out _).mono ?_; clear hg; rintro e w' ⟨rfl, hs⟩; replace hs := Lib.hid (s0.out.trans hs))
    go_ret
    exact ⟨rfl, hs.out⟩
  · have hin := Win.good_in hG
    simp only at hin
    rw [hG, Bool.true_and] at hR
    rw [hG] at hg
    clear hG
    replace hg := Lib.hid hg
    by_cases h1 : 1 ≤ k
    · have d1 : Decidable.decide (1 ≤ k) = true := decide_eq_true h1
      rw [d1, Bool.true_and] at hR
      by_cases h2 : k < b
      · have d2 : Decidable.decide (k < b) = true := decide_eq_true h2
        rw [d2, Bool.true_or] at hR
        subst hR
        go_enter Tryd.func29, Tryd.ntmps29
        go_wp2_with (refine (hg.out _).mono ?_; clear hg; rintro e w' ⟨rfl, hs⟩; have c0 := hs.cell b0.out; replace hs := Lib.hid (s0.out.trans hs))
        go_ret
        exact ⟨rfl, hs.out⟩
      · have d2 : Decidable.decide (k < b) = false := decide_eq_false h2
        rw [d2, Bool.false_or] at hR
        have hh := fun w => rhas_any m (k - b) w hm
        rw [← hR] at hh
        clear hR
        replace hh := Lib.hid hh
        go_enter Tryd.func29, Tryd.ntmps29
        go_wp2_with (first | (refine (hg.out _).mono ?_; clear hg; rintro e w' ⟨rfl, hs⟩; have c0 := hs.cell b0.out; have c1 := hs.cell b1.out; replace hs := Lib.hid (s0.out.trans hs)) | (refine (hh.out _).mono ?_; clear hh; rintro e w' ⟨rfl, rfl⟩))
        go_ret
        exact ⟨rfl, hs.out⟩
    · have d1 : Decidable.decide (1 ≤ k) = false := decide_eq_false h1
      have hf : R = false := by rw [hR, d1]; simp
      subst hf
      clear hR
      go_enter Tryd.func29, Tryd.ntmps29
      go_wp2_with (refine (hg.out _).mono ?_; clear hg; rintro e w' ⟨rfl, hs⟩; replace hs := Lib.hid (s0.out.trans hs))
      go_ret
      exact ⟨rfl, hs.out⟩
end Go.Proofs.YtkhloanpdehegaaDoor
