/-
  The walk of the law WindowTells: of any window, any size and number all calls tell what the document says.
-/
-- @law rep win, int, int
import Derived.Test.YtkhloanpdehegaaDoorWinO
import Derived.Test.YtkhloanpdehegaaDoorWinL
namespace Go.Proofs.YtkhloanpdehegaaDoor
open Go Go.RowKit
set_option linter.unusedSimpArgs false
set_option linter.unusedVariables false

theorem i64_le {n : Int} (h : (Lit.int .i64 n).wf = true) : -9223372036854775808 ≤ n ∧ n ≤ 9223372036854775807 := by
  simp [Lit.wf, IntKind.min, IntKind.max, IntKind.signed, IntKind.bits] at h
  omega
theorem i64_wf {n : Int} (h : -9223372036854775808 ≤ n ∧ n ≤ 9223372036854775807) : (Lit.int .i64 n).wf = true := by
  simp [Lit.wf, IntKind.min, IntKind.max, IntKind.signed, IntKind.bits]
  omega
theorem u64_wf {n : Nat} (h : n < 18446744073709551616) : (Lit.int .u64 (n : Int)).wf = true := by
  simp [Lit.wf, IntKind.min, IntKind.max, IntKind.signed, IntKind.bits]
  omega
theorem mark_wf (v : Win) (hv : v.ok) (k : Int) : (Lit.int .i64 (v.mark k).base).wf = true ∧ (v.mark k).bits < 18446744073709551616 := by
  unfold Win.mark
  split
  · rename_i h
    obtain ⟨a, b, _⟩ := v.next_spec hv k h
    exact ⟨i64_wf (by have := b.1; have := b.2.1; omega), a⟩
  · exact ⟨rfl, by decide⟩
set_option maxRecDepth 100000 in
set_option maxHeartbeats 6400000 in
theorem walk_WindowTells (w : World) (a : Win) (ha : (Lit.int .i64 a.base).wf = true ∧ a.bits < 18446744073709551616) (size : Int) (hsz : (Lit.int .i64 size).wf = true) (k : Int) (hk : (Lit.int .i64 k).wf = true) (hT : Tab w) :
    Calls Tryd.prog 7 #[.agg #[.int .i64 a.base, .int .u64 (a.bits : Nat)], .int .i64 size, .int .i64 k] w fun e w' => e = .returned (.bool true) ∧ Same w w' := by
  obtain ⟨b, m⟩ := a
  obtain ⟨_, hm⟩ := ha
  simp only at hm ⊢
  have hk2 := (i64_le hk).2
  have c1 := wnew_any
  have c2 := fun w => wgood_any b m w hm
  have c3 := fun w => rwgood_any b m w hm
  have c4 := fun w => wdone_any b m k w hm hk2
  have c5 := fun w => rwdone_any b m k w hm hk2
  have c6 := fun w h => wcount_any b m w hm h
  have c7 := fun w => rwcount_any b m w hm
  have c8 := fun w => wask_any b m size k w hm hk2
  have c9 := fun w => rwask_any b m size k w hm hk2
  have d1 := fun w h => wmark_any b m k w hm hk2 h
  have d2 := fun w h => rwmark_any b m k w hm hk2 h
  obtain ⟨v1, v2⟩ := mark_wf ⟨b, m⟩ hm k
  have q1 := fun w => win_eql 1 1 0 0 (by decide) (by decide) (by decide) (by decide) w
  have q2 := fun w => win_eql _ _ _ _ v1 (u64_wf v2) v1 (u64_wf v2) w
  obtain ⟨G, hG⟩ : ∃ x, x = Win.good ⟨b, m⟩ := ⟨_, rfl⟩
  obtain ⟨Dn, hD⟩ : ∃ x, x = Win.done ⟨b, m⟩ k := ⟨_, rfl⟩
  obtain ⟨C, hC⟩ : ∃ x, x = Win.count ⟨b, m⟩ := ⟨_, rfl⟩
  obtain ⟨A, hA⟩ : ∃ x, x = Win.ask ⟨b, m⟩ size k := ⟨_, rfl⟩
  obtain ⟨E, hE⟩ : ∃ x, x = Win.ask ⟨b, m⟩ 64 k := ⟨_, rfl⟩
  obtain ⟨vb, hvb⟩ : ∃ x, x = (Win.mark ⟨b, m⟩ k).base := ⟨_, rfl⟩
  obtain ⟨vm, hvm⟩ : ∃ x, x = (Win.mark ⟨b, m⟩ k).bits := ⟨_, rfl⟩
  rw [← hG] at c2 c3
  rw [← hD] at c4 c5
  rw [← hC] at c6 c7
  rw [← hA] at c8 c9
  rw [← hE, ← hvb, ← hvm] at d1 d2
  rw [← hvb, ← hvm] at q2
  have q1' : ∀ w : World, (binOp .eql 38 (.agg #[.int .i64 1, .int .u64 0]) (.agg #[.int .i64 1, .int .u64 0])).run Tryd.prog w = .ok (.bool true) w := q1
  have q2' : ∀ w : World, (binOp .eql 38 (.agg #[.int .i64 vb, .int .u64 (vm : Nat)]) (.agg #[.int .i64 vb, .int .u64 (vm : Nat)])).run Tryd.prog w = .ok (.bool true) w := by
    intro w
    have := q2 w
    rw [decide_eq_true (And.intro rfl rfl)] at this
    exact this
  have hl := fun w h => lives9 w h
  have hgd := win_guard
  have hinf := hinfW
  clear hG hD hC hA hE hvb hvm q1 q2 v1 v2 hm hk hk2 hsz
  replace c1 := Lib.hid c1
  replace c2 := Lib.hid c2
  replace c3 := Lib.hid c3
  replace c4 := Lib.hid c4
  replace c5 := Lib.hid c5
  replace c6 := Lib.hid c6
  replace c7 := Lib.hid c7
  replace c8 := Lib.hid c8
  replace c9 := Lib.hid c9
  replace d1 := Lib.hid d1
  replace d2 := Lib.hid d2
  replace q1' := Lib.hid q1'
  replace q2' := Lib.hid q2'
  replace hl := Lib.hid hl
  replace hgd := Lib.hid hgd
  replace hinf := Lib.hid hinf
  replace hT := Lib.hid hT
  go_enter Tryd.func7, Tryd.ntmps7
  go_upto_region 1 with fail
  have r0 := heap_alloc_new w (.cells #[.int .i64 b, .int .u64 m] 38)
  obtain ⟨w0, hw0⟩ : ∃ x, x = w.alloc (.cells #[.int .i64 b, .int .u64 m] 38) := ⟨_, rfl⟩
  have s0 : Same w w0 := by rw [hw0]; exact Same.refl.alloc _
  rw [← hw0] at r0 ⊢
  clear hw0
  replace r0 := Lib.hid r0
  replace s0 := Lib.hid s0
  go_wp2_with (refine load_row rfl _ _ rfl w.heap.size rfl _ _ _ _ r0.out Tryd.underlying38 rfl hinf.out ?_)
  refine (d1.out _ (hT.out.same s0.out)).mono ?_
  rintro e w1 ⟨rfl, hs⟩
  replace r0 := Lib.hid (hs.row r0.out)
  replace s0 := Lib.hid (s0.out.trans hs)
  clear hs d1
  go_upto_region 2 with fail
  have r1 := heap_alloc_new w1 (.cells #[.int .i64 vb, .int .u64 vm] 38)
  obtain ⟨w2, hw2⟩ : ∃ x, x = w1.alloc (.cells #[.int .i64 vb, .int .u64 vm] 38) := ⟨_, rfl⟩
  have s2 : Same w1 w2 := by rw [hw2]; exact Same.refl.alloc _
  rw [← hw2] at r1 ⊢
  clear hw2
  replace r0 := Lib.hid (s2.row r0.out)
  replace s0 := Lib.hid (s0.out.trans s2)
  replace r1 := Lib.hid r1
  clear s2
  go_wp2_with (refine load_row rfl _ _ rfl w.heap.size rfl _ _ _ _ r0.out Tryd.underlying38 rfl hinf.out ?_)
  refine (d2.out _ (hT.out.same s0.out)).mono ?_
  rintro e w3 ⟨rfl, hs⟩
  replace r0 := Lib.hid (hs.row r0.out)
  replace r1 := Lib.hid (hs.row r1.out)
  replace s0 := Lib.hid (s0.out.trans hs)
  clear hs d2
  go_upto_region 3 with fail
  have r2 := heap_alloc_new w3 (.cells #[.int .i64 vb, .int .u64 vm] 38)
  obtain ⟨w4, hw4⟩ : ∃ x, x = w3.alloc (.cells #[.int .i64 vb, .int .u64 vm] 38) := ⟨_, rfl⟩
  have s2 : Same w3 w4 := by rw [hw4]; exact Same.refl.alloc _
  rw [← hw4] at r2 ⊢
  clear hw4
  replace r0 := Lib.hid (s2.row r0.out)
  replace r1 := Lib.hid (s2.row r1.out)
  replace s0 := Lib.hid (s0.out.trans s2)
  replace r2 := Lib.hid r2
  have hT4 := Lib.hid (hT.out.same s0.out)
  clear s2 hT
  refine wp_region_last (by kernel_rfl) [(23, 0), (24, 1), (25, 2), (26, 3), (27, 4), (28, 5), (29, 6), (30, 7), (31, 8), (32, 9), (33, 10), (34, 11), (35, 12), (36, 13), (37, 14), (38, 15), (39, 16), (40, 17), (41, 18), (42, 19), (43, 20), (44, 21), (45, 22), (46, 23), (47, 24), (48, 25), (49, 26), (50, 27), (51, 28), (52, 29), (53, 30), (54, 31), (55, 32), (56, 33), (57, 34), (58, 35), (59, 36), (60, 37), (61, 38), (62, 39), (63, 40), (64, 41), (65, 42), (66, 43), (67, 44), (68, 45), (69, 46), (70, 47), (71, 48), (72, 49), (6, 50)] Same (Same _) [isV (.agg #[.int .i64 1, .int .u64 0]), isV (.agg #[.int .i64 1, .int .u64 0]), isV (.bool true), isV (.bool true), isV (.agg #[.int .i64 b, .int .u64 m]), isV (.bool G), isV (.agg #[.int .i64 b, .int .u64 m]), isV (.bool G), isV (.bool true), isV (.bool true), isV (.bool true), isV (.agg #[.int .i64 b, .int .u64 m]), isV (.int .i64 k), isV (.bool Dn), isV (.agg #[.int .i64 b, .int .u64 m]), isV (.int .i64 k), isV (.bool Dn), isV (.bool true), isV (.bool true), isV (.bool true), isV (.agg #[.int .i64 b, .int .u64 m]), isV (.int .i64 C), isV (.agg #[.int .i64 b, .int .u64 m]), isV (.int .i64 C), isV (.bool true), isV (.bool true), isV (.bool true), isV (.agg #[.int .i64 b, .int .u64 m]), isV (.int .i64 size), isV (.int .i64 k), isV (.int .i64 A), isV (.agg #[.int .i64 b, .int .u64 m]), isV (.int .i64 size), isV (.int .i64 k), isV (.int .i64 A), isV (.bool true), isV (.bool true), isV (.bool true), isV (.agg #[.int .i64 vb, .int .u64 vm]), isV (.agg #[.int .i64 vb, .int .u64 vm]), isV (.bool true), isV (.bool true), isV (.bool true), isV (.int .i64 E), isV (.int .i64 E), isV (.bool true), isV (.bool true), isV (.bool true), isV (.bool true), isV (.bool true)] Same.refl.drew (fun _ _ h k => h.trans k) (by simp [isV_stable, isB_stable, isAny_stable]) (by decide) (l := [_, _, _, _, _, _, _, _, _, _, _, _, _, _, _, _, _, _, _, _, _, _, _, _, _, _, _, _, _, _, _, _, _, _, _, _, _, _, _, _, _, _, _, _, _, _, _, _, _, _]) rfl (by decide) (by decide) ?_ ?_
  · refine ⟨?_, ?_, ?_, ?_, ?_, ?_, ?_, ?_, ?_, ?_, ?_, ?_, ?_, ?_, ?_, ?_, ?_, ?_, ?_, ?_, ?_, ?_, ?_, ?_, ?_, ?_, ?_, ?_, ?_, ?_, ?_, ?_, ?_, ?_, ?_, ?_, ?_, ?_, ?_, ?_, ?_, ?_, ?_, ?_, ?_, ?_, ?_, ?_, ?_, ?_, trivial⟩
    all_goals (intro u wx hI hp; simp only [mkAct, List.foldl_cons, List.foldl_nil, List.setIfInBounds_toArray, List.set_cons_succ, List.set_cons_zero])
    · -- operation 0
      go_wp2_with fail
      refine (c1.out _).mono ?_
      rintro e w1 ⟨rfl, hs'⟩
      go_wp2
      refine stq_v rfl hs' ?_
      first | (simp only [mkAct, List.foldl_cons, List.foldl_nil, List.setIfInBounds_toArray, List.set_cons_succ, List.set_cons_zero, upd, reduceIte, Nat.reduceEqDiff, Nat.reduceAdd, str]; done) | (simp [mkAct, upd, str, *]; done)
    · -- operation 1
      go_wp2
      refine stq_v rfl Same.refl ?_
      first | (simp only [mkAct, List.foldl_cons, List.foldl_nil, List.setIfInBounds_toArray, List.set_cons_succ, List.set_cons_zero, upd, reduceIte, Nat.reduceEqDiff, Nat.reduceAdd, str]; done) | (simp [mkAct, upd, str, *]; done)
    · -- operation 2
      obtain ⟨f0, f1, -⟩ := hp
      replace f0 : u 0 = (.agg #[.int .i64 1, .int .u64 0]) := f0
      replace f1 : u 1 = (.agg #[.int .i64 1, .int .u64 0]) := f1
      try simp only [f0, f1, str]
      have q := q1'.out
      have hg := hgd.out
      go_wp2
      refine stq_v rfl Same.refl ?_
      first | (simp only [mkAct, List.foldl_cons, List.foldl_nil, List.setIfInBounds_toArray, List.set_cons_succ, List.set_cons_zero, upd, reduceIte, Nat.reduceEqDiff, Nat.reduceAdd, f0, f1, str]; done) | (simp [mkAct, upd, f0, f1, str, *]; done)
    · -- operation 3
      obtain ⟨f2, -, -⟩ := hp
      replace f2 : u 2 = (.bool true) := f2
      try simp only [f2, str]
      go_wp2
      refine stq_v rfl Same.refl ?_
      first | (simp only [mkAct, List.foldl_cons, List.foldl_nil, List.setIfInBounds_toArray, List.set_cons_succ, List.set_cons_zero, upd, reduceIte, Nat.reduceEqDiff, Nat.reduceAdd, f2, str]; done) | (simp [mkAct, upd, f2, str, *]; done)
    · -- operation 4
      obtain ⟨f3, -⟩ := hp
      replace f3 : u 3 = (.bool true) := f3
      try simp only [f3, str]
      go_wp2_with (refine load_row rfl _ _ rfl w.heap.size rfl _ _ _ _ (hI.row r0.out) Tryd.underlying38 rfl hinf.out ?_)
      refine stq_v rfl Same.refl ?_
      first | (simp only [mkAct, List.foldl_cons, List.foldl_nil, List.setIfInBounds_toArray, List.set_cons_succ, List.set_cons_zero, upd, reduceIte, Nat.reduceEqDiff, Nat.reduceAdd, f3, str]; done) | (simp [mkAct, upd, f3, str, *]; done)
    · -- operation 5
      obtain ⟨f4, -, f3, -⟩ := hp
      replace f4 : u 4 = (.agg #[.int .i64 b, .int .u64 m]) := f4
      replace f3 : u 3 = (.bool true) := f3
      try simp only [f4, f3, str]
      go_wp2_with fail
      refine (c2.out _).mono ?_
      rintro e w1 ⟨rfl, hs'⟩
      go_wp2
      refine stq_v rfl hs' ?_
      first | (simp only [mkAct, List.foldl_cons, List.foldl_nil, List.setIfInBounds_toArray, List.set_cons_succ, List.set_cons_zero, upd, reduceIte, Nat.reduceEqDiff, Nat.reduceAdd, f4, f3, str]; done) | (simp [mkAct, upd, f4, f3, str, *]; done)
    · -- operation 6
      obtain ⟨f3, -⟩ := hp
      replace f3 : u 3 = (.bool true) := f3
      try simp only [f3, str]
      go_wp2_with (refine load_row rfl _ _ rfl w.heap.size rfl _ _ _ _ (hI.row r0.out) Tryd.underlying38 rfl hinf.out ?_)
      refine stq_v rfl Same.refl ?_
      first | (simp only [mkAct, List.foldl_cons, List.foldl_nil, List.setIfInBounds_toArray, List.set_cons_succ, List.set_cons_zero, upd, reduceIte, Nat.reduceEqDiff, Nat.reduceAdd, f3, str]; done) | (simp [mkAct, upd, f3, str, *]; done)
    · -- operation 7
      obtain ⟨f6, -, f3, -⟩ := hp
      replace f6 : u 6 = (.agg #[.int .i64 b, .int .u64 m]) := f6
      replace f3 : u 3 = (.bool true) := f3
      try simp only [f6, f3, str]
      go_wp2_with fail
      refine (c3.out _).mono ?_
      rintro e w1 ⟨rfl, hs'⟩
      go_wp2
      refine stq_v rfl hs' ?_
      first | (simp only [mkAct, List.foldl_cons, List.foldl_nil, List.setIfInBounds_toArray, List.set_cons_succ, List.set_cons_zero, upd, reduceIte, Nat.reduceEqDiff, Nat.reduceAdd, f6, f3, str]; done) | (simp [mkAct, upd, f6, f3, str, *]; done)
    · -- operation 8
      obtain ⟨f5, f7, f3, -⟩ := hp
      replace f5 : u 5 = (.bool G) := f5
      replace f7 : u 7 = (.bool G) := f7
      replace f3 : u 3 = (.bool true) := f3
      try simp only [f5, f7, f3, str]
      have hgg : (G == G) = true := by simp
      go_wp2
      refine stq_v rfl Same.refl ?_
      first | (simp only [mkAct, List.foldl_cons, List.foldl_nil, List.setIfInBounds_toArray, List.set_cons_succ, List.set_cons_zero, upd, reduceIte, Nat.reduceEqDiff, Nat.reduceAdd, f5, f7, f3, str]; done) | (simp [mkAct, upd, f5, f7, f3, str, *]; done)
    · -- operation 9
      obtain ⟨f3, f8, -⟩ := hp
      replace f3 : u 3 = (.bool true) := f3
      replace f8 : u 8 = (.bool true) := f8
      try simp only [f3, f8, str]
      go_wp2
      refine stq_v rfl Same.refl ?_
      first | (simp only [mkAct, List.foldl_cons, List.foldl_nil, List.setIfInBounds_toArray, List.set_cons_succ, List.set_cons_zero, upd, reduceIte, Nat.reduceEqDiff, Nat.reduceAdd, f3, f8, str]; done) | (simp [mkAct, upd, f3, f8, str, *]; done)
    · -- operation 10
      obtain ⟨f9, -, -⟩ := hp
      replace f9 : u 9 = (.bool true) := f9
      try simp only [f9, str]
      go_wp2
      refine stq_v rfl Same.refl ?_
      first | (simp only [mkAct, List.foldl_cons, List.foldl_nil, List.setIfInBounds_toArray, List.set_cons_succ, List.set_cons_zero, upd, reduceIte, Nat.reduceEqDiff, Nat.reduceAdd, f9, str]; done) | (simp [mkAct, upd, f9, str, *]; done)
    · -- operation 11
      obtain ⟨f10, -⟩ := hp
      replace f10 : u 10 = (.bool true) := f10
      try simp only [f10, str]
      go_wp2_with (refine load_row rfl _ _ rfl w.heap.size rfl _ _ _ _ (hI.row r0.out) Tryd.underlying38 rfl hinf.out ?_)
      refine stq_v rfl Same.refl ?_
      first | (simp only [mkAct, List.foldl_cons, List.foldl_nil, List.setIfInBounds_toArray, List.set_cons_succ, List.set_cons_zero, upd, reduceIte, Nat.reduceEqDiff, Nat.reduceAdd, f10, str]; done) | (simp [mkAct, upd, f10, str, *]; done)
    · -- operation 12
      obtain ⟨f10, -⟩ := hp
      replace f10 : u 10 = (.bool true) := f10
      try simp only [f10, str]
      go_wp2
      refine stq_v rfl Same.refl ?_
      first | (simp only [mkAct, List.foldl_cons, List.foldl_nil, List.setIfInBounds_toArray, List.set_cons_succ, List.set_cons_zero, upd, reduceIte, Nat.reduceEqDiff, Nat.reduceAdd, f10, str]; done) | (simp [mkAct, upd, f10, str, *]; done)
    · -- operation 13
      obtain ⟨f11, f12, -, f10, -⟩ := hp
      replace f11 : u 11 = (.agg #[.int .i64 b, .int .u64 m]) := f11
      replace f12 : u 12 = (.int .i64 k) := f12
      replace f10 : u 10 = (.bool true) := f10
      try simp only [f11, f12, f10, str]
      go_wp2_with fail
      refine (c4.out _).mono ?_
      rintro e w1 ⟨rfl, hs'⟩
      go_wp2
      refine stq_v rfl hs' ?_
      first | (simp only [mkAct, List.foldl_cons, List.foldl_nil, List.setIfInBounds_toArray, List.set_cons_succ, List.set_cons_zero, upd, reduceIte, Nat.reduceEqDiff, Nat.reduceAdd, f11, f12, f10, str]; done) | (simp [mkAct, upd, f11, f12, f10, str, *]; done)
    · -- operation 14
      obtain ⟨f10, -⟩ := hp
      replace f10 : u 10 = (.bool true) := f10
      try simp only [f10, str]
      go_wp2_with (refine load_row rfl _ _ rfl w.heap.size rfl _ _ _ _ (hI.row r0.out) Tryd.underlying38 rfl hinf.out ?_)
      refine stq_v rfl Same.refl ?_
      first | (simp only [mkAct, List.foldl_cons, List.foldl_nil, List.setIfInBounds_toArray, List.set_cons_succ, List.set_cons_zero, upd, reduceIte, Nat.reduceEqDiff, Nat.reduceAdd, f10, str]; done) | (simp [mkAct, upd, f10, str, *]; done)
    · -- operation 15
      obtain ⟨f10, -⟩ := hp
      replace f10 : u 10 = (.bool true) := f10
      try simp only [f10, str]
      go_wp2
      refine stq_v rfl Same.refl ?_
      first | (simp only [mkAct, List.foldl_cons, List.foldl_nil, List.setIfInBounds_toArray, List.set_cons_succ, List.set_cons_zero, upd, reduceIte, Nat.reduceEqDiff, Nat.reduceAdd, f10, str]; done) | (simp [mkAct, upd, f10, str, *]; done)
    · -- operation 16
      obtain ⟨f14, f15, -, f10, -⟩ := hp
      replace f14 : u 14 = (.agg #[.int .i64 b, .int .u64 m]) := f14
      replace f15 : u 15 = (.int .i64 k) := f15
      replace f10 : u 10 = (.bool true) := f10
      try simp only [f14, f15, f10, str]
      go_wp2_with fail
      refine (c5.out _).mono ?_
      rintro e w1 ⟨rfl, hs'⟩
      go_wp2
      refine stq_v rfl hs' ?_
      first | (simp only [mkAct, List.foldl_cons, List.foldl_nil, List.setIfInBounds_toArray, List.set_cons_succ, List.set_cons_zero, upd, reduceIte, Nat.reduceEqDiff, Nat.reduceAdd, f14, f15, f10, str]; done) | (simp [mkAct, upd, f14, f15, f10, str, *]; done)
    · -- operation 17
      obtain ⟨f13, f16, f10, -⟩ := hp
      replace f13 : u 13 = (.bool Dn) := f13
      replace f16 : u 16 = (.bool Dn) := f16
      replace f10 : u 10 = (.bool true) := f10
      try simp only [f13, f16, f10, str]
      have hgg : (Dn == Dn) = true := by simp
      go_wp2
      refine stq_v rfl Same.refl ?_
      first | (simp only [mkAct, List.foldl_cons, List.foldl_nil, List.setIfInBounds_toArray, List.set_cons_succ, List.set_cons_zero, upd, reduceIte, Nat.reduceEqDiff, Nat.reduceAdd, f13, f16, f10, str]; done) | (simp [mkAct, upd, f13, f16, f10, str, *]; done)
    · -- operation 18
      obtain ⟨f10, f17, -⟩ := hp
      replace f10 : u 10 = (.bool true) := f10
      replace f17 : u 17 = (.bool true) := f17
      try simp only [f10, f17, str]
      go_wp2
      refine stq_v rfl Same.refl ?_
      first | (simp only [mkAct, List.foldl_cons, List.foldl_nil, List.setIfInBounds_toArray, List.set_cons_succ, List.set_cons_zero, upd, reduceIte, Nat.reduceEqDiff, Nat.reduceAdd, f10, f17, str]; done) | (simp [mkAct, upd, f10, f17, str, *]; done)
    · -- operation 19
      obtain ⟨f18, -, -⟩ := hp
      replace f18 : u 18 = (.bool true) := f18
      try simp only [f18, str]
      go_wp2
      refine stq_v rfl Same.refl ?_
      first | (simp only [mkAct, List.foldl_cons, List.foldl_nil, List.setIfInBounds_toArray, List.set_cons_succ, List.set_cons_zero, upd, reduceIte, Nat.reduceEqDiff, Nat.reduceAdd, f18, str]; done) | (simp [mkAct, upd, f18, str, *]; done)
    · -- operation 20
      obtain ⟨f19, -⟩ := hp
      replace f19 : u 19 = (.bool true) := f19
      try simp only [f19, str]
      go_wp2_with (refine load_row rfl _ _ rfl w.heap.size rfl _ _ _ _ (hI.row r0.out) Tryd.underlying38 rfl hinf.out ?_)
      refine stq_v rfl Same.refl ?_
      first | (simp only [mkAct, List.foldl_cons, List.foldl_nil, List.setIfInBounds_toArray, List.set_cons_succ, List.set_cons_zero, upd, reduceIte, Nat.reduceEqDiff, Nat.reduceAdd, f19, str]; done) | (simp [mkAct, upd, f19, str, *]; done)
    · -- operation 21
      obtain ⟨f20, -, f19, -⟩ := hp
      replace f20 : u 20 = (.agg #[.int .i64 b, .int .u64 m]) := f20
      replace f19 : u 19 = (.bool true) := f19
      try simp only [f20, f19, str]
      go_wp2_with fail
      refine (c6.out _ (hT4.out.same hI)).mono ?_
      rintro e w1 ⟨rfl, hs'⟩
      go_wp2
      refine stq_v rfl hs' ?_
      first | (simp only [mkAct, List.foldl_cons, List.foldl_nil, List.setIfInBounds_toArray, List.set_cons_succ, List.set_cons_zero, upd, reduceIte, Nat.reduceEqDiff, Nat.reduceAdd, f20, f19, str]; done) | (simp [mkAct, upd, f20, f19, str, *]; done)
    · -- operation 22
      obtain ⟨f19, -⟩ := hp
      replace f19 : u 19 = (.bool true) := f19
      try simp only [f19, str]
      go_wp2_with (refine load_row rfl _ _ rfl w.heap.size rfl _ _ _ _ (hI.row r0.out) Tryd.underlying38 rfl hinf.out ?_)
      refine stq_v rfl Same.refl ?_
      first | (simp only [mkAct, List.foldl_cons, List.foldl_nil, List.setIfInBounds_toArray, List.set_cons_succ, List.set_cons_zero, upd, reduceIte, Nat.reduceEqDiff, Nat.reduceAdd, f19, str]; done) | (simp [mkAct, upd, f19, str, *]; done)
    · -- operation 23
      obtain ⟨f22, -, f19, -⟩ := hp
      replace f22 : u 22 = (.agg #[.int .i64 b, .int .u64 m]) := f22
      replace f19 : u 19 = (.bool true) := f19
      try simp only [f22, f19, str]
      go_wp2_with fail
      refine (c7.out _).mono ?_
      rintro e w1 ⟨rfl, hs'⟩
      go_wp2
      refine stq_v rfl hs' ?_
      first | (simp only [mkAct, List.foldl_cons, List.foldl_nil, List.setIfInBounds_toArray, List.set_cons_succ, List.set_cons_zero, upd, reduceIte, Nat.reduceEqDiff, Nat.reduceAdd, f22, f19, str]; done) | (simp [mkAct, upd, f22, f19, str, *]; done)
    · -- operation 24
      obtain ⟨f21, f23, f19, -⟩ := hp
      replace f21 : u 21 = (.int .i64 C) := f21
      replace f23 : u 23 = (.int .i64 C) := f23
      replace f19 : u 19 = (.bool true) := f19
      try simp only [f21, f23, f19, str]
      have hgg : (C == C) = true := by simp
      go_wp2
      refine stq_v rfl Same.refl ?_
      first | (simp only [mkAct, List.foldl_cons, List.foldl_nil, List.setIfInBounds_toArray, List.set_cons_succ, List.set_cons_zero, upd, reduceIte, Nat.reduceEqDiff, Nat.reduceAdd, f21, f23, f19, str]; done) | (simp [mkAct, upd, f21, f23, f19, str, *]; done)
    · -- operation 25
      obtain ⟨f19, f24, -⟩ := hp
      replace f19 : u 19 = (.bool true) := f19
      replace f24 : u 24 = (.bool true) := f24
      try simp only [f19, f24, str]
      go_wp2
      refine stq_v rfl Same.refl ?_
      first | (simp only [mkAct, List.foldl_cons, List.foldl_nil, List.setIfInBounds_toArray, List.set_cons_succ, List.set_cons_zero, upd, reduceIte, Nat.reduceEqDiff, Nat.reduceAdd, f19, f24, str]; done) | (simp [mkAct, upd, f19, f24, str, *]; done)
    · -- operation 26
      obtain ⟨f25, -, -⟩ := hp
      replace f25 : u 25 = (.bool true) := f25
      try simp only [f25, str]
      go_wp2
      refine stq_v rfl Same.refl ?_
      first | (simp only [mkAct, List.foldl_cons, List.foldl_nil, List.setIfInBounds_toArray, List.set_cons_succ, List.set_cons_zero, upd, reduceIte, Nat.reduceEqDiff, Nat.reduceAdd, f25, str]; done) | (simp [mkAct, upd, f25, str, *]; done)
    · -- operation 27
      obtain ⟨f26, -⟩ := hp
      replace f26 : u 26 = (.bool true) := f26
      try simp only [f26, str]
      go_wp2_with (refine load_row rfl _ _ rfl w.heap.size rfl _ _ _ _ (hI.row r0.out) Tryd.underlying38 rfl hinf.out ?_)
      refine stq_v rfl Same.refl ?_
      first | (simp only [mkAct, List.foldl_cons, List.foldl_nil, List.setIfInBounds_toArray, List.set_cons_succ, List.set_cons_zero, upd, reduceIte, Nat.reduceEqDiff, Nat.reduceAdd, f26, str]; done) | (simp [mkAct, upd, f26, str, *]; done)
    · -- operation 28
      obtain ⟨f26, -⟩ := hp
      replace f26 : u 26 = (.bool true) := f26
      try simp only [f26, str]
      go_wp2
      refine stq_v rfl Same.refl ?_
      first | (simp only [mkAct, List.foldl_cons, List.foldl_nil, List.setIfInBounds_toArray, List.set_cons_succ, List.set_cons_zero, upd, reduceIte, Nat.reduceEqDiff, Nat.reduceAdd, f26, str]; done) | (simp [mkAct, upd, f26, str, *]; done)
    · -- operation 29
      obtain ⟨f26, -⟩ := hp
      replace f26 : u 26 = (.bool true) := f26
      try simp only [f26, str]
      go_wp2
      refine stq_v rfl Same.refl ?_
      first | (simp only [mkAct, List.foldl_cons, List.foldl_nil, List.setIfInBounds_toArray, List.set_cons_succ, List.set_cons_zero, upd, reduceIte, Nat.reduceEqDiff, Nat.reduceAdd, f26, str]; done) | (simp [mkAct, upd, f26, str, *]; done)
    · -- operation 30
      obtain ⟨f27, f28, f29, -, f26, -⟩ := hp
      replace f27 : u 27 = (.agg #[.int .i64 b, .int .u64 m]) := f27
      replace f28 : u 28 = (.int .i64 size) := f28
      replace f29 : u 29 = (.int .i64 k) := f29
      replace f26 : u 26 = (.bool true) := f26
      try simp only [f27, f28, f29, f26, str]
      go_wp2_with fail
      refine (c8.out _).mono ?_
      rintro e w1 ⟨rfl, hs'⟩
      go_wp2
      refine stq_v rfl hs' ?_
      first | (simp only [mkAct, List.foldl_cons, List.foldl_nil, List.setIfInBounds_toArray, List.set_cons_succ, List.set_cons_zero, upd, reduceIte, Nat.reduceEqDiff, Nat.reduceAdd, f27, f28, f29, f26, str]; done) | (simp [mkAct, upd, f27, f28, f29, f26, str, *]; done)
    · -- operation 31
      obtain ⟨f26, -⟩ := hp
      replace f26 : u 26 = (.bool true) := f26
      try simp only [f26, str]
      go_wp2_with (refine load_row rfl _ _ rfl w.heap.size rfl _ _ _ _ (hI.row r0.out) Tryd.underlying38 rfl hinf.out ?_)
      refine stq_v rfl Same.refl ?_
      first | (simp only [mkAct, List.foldl_cons, List.foldl_nil, List.setIfInBounds_toArray, List.set_cons_succ, List.set_cons_zero, upd, reduceIte, Nat.reduceEqDiff, Nat.reduceAdd, f26, str]; done) | (simp [mkAct, upd, f26, str, *]; done)
    · -- operation 32
      obtain ⟨f26, -⟩ := hp
      replace f26 : u 26 = (.bool true) := f26
      try simp only [f26, str]
      go_wp2
      refine stq_v rfl Same.refl ?_
      first | (simp only [mkAct, List.foldl_cons, List.foldl_nil, List.setIfInBounds_toArray, List.set_cons_succ, List.set_cons_zero, upd, reduceIte, Nat.reduceEqDiff, Nat.reduceAdd, f26, str]; done) | (simp [mkAct, upd, f26, str, *]; done)
    · -- operation 33
      obtain ⟨f26, -⟩ := hp
      replace f26 : u 26 = (.bool true) := f26
      try simp only [f26, str]
      go_wp2
      refine stq_v rfl Same.refl ?_
      first | (simp only [mkAct, List.foldl_cons, List.foldl_nil, List.setIfInBounds_toArray, List.set_cons_succ, List.set_cons_zero, upd, reduceIte, Nat.reduceEqDiff, Nat.reduceAdd, f26, str]; done) | (simp [mkAct, upd, f26, str, *]; done)
    · -- operation 34
      obtain ⟨f31, f32, f33, -, f26, -⟩ := hp
      replace f31 : u 31 = (.agg #[.int .i64 b, .int .u64 m]) := f31
      replace f32 : u 32 = (.int .i64 size) := f32
      replace f33 : u 33 = (.int .i64 k) := f33
      replace f26 : u 26 = (.bool true) := f26
      try simp only [f31, f32, f33, f26, str]
      go_wp2_with fail
      refine (c9.out _).mono ?_
      rintro e w1 ⟨rfl, hs'⟩
      go_wp2
      refine stq_v rfl hs' ?_
      first | (simp only [mkAct, List.foldl_cons, List.foldl_nil, List.setIfInBounds_toArray, List.set_cons_succ, List.set_cons_zero, upd, reduceIte, Nat.reduceEqDiff, Nat.reduceAdd, f31, f32, f33, f26, str]; done) | (simp [mkAct, upd, f31, f32, f33, f26, str, *]; done)
    · -- operation 35
      obtain ⟨f30, f34, f26, -⟩ := hp
      replace f30 : u 30 = (.int .i64 A) := f30
      replace f34 : u 34 = (.int .i64 A) := f34
      replace f26 : u 26 = (.bool true) := f26
      try simp only [f30, f34, f26, str]
      have hgg : (A == A) = true := by simp
      go_wp2
      refine stq_v rfl Same.refl ?_
      first | (simp only [mkAct, List.foldl_cons, List.foldl_nil, List.setIfInBounds_toArray, List.set_cons_succ, List.set_cons_zero, upd, reduceIte, Nat.reduceEqDiff, Nat.reduceAdd, f30, f34, f26, str]; done) | (simp [mkAct, upd, f30, f34, f26, str, *]; done)
    · -- operation 36
      obtain ⟨f26, f35, -⟩ := hp
      replace f26 : u 26 = (.bool true) := f26
      replace f35 : u 35 = (.bool true) := f35
      try simp only [f26, f35, str]
      go_wp2
      refine stq_v rfl Same.refl ?_
      first | (simp only [mkAct, List.foldl_cons, List.foldl_nil, List.setIfInBounds_toArray, List.set_cons_succ, List.set_cons_zero, upd, reduceIte, Nat.reduceEqDiff, Nat.reduceAdd, f26, f35, str]; done) | (simp [mkAct, upd, f26, f35, str, *]; done)
    · -- operation 37
      obtain ⟨f36, -, -⟩ := hp
      replace f36 : u 36 = (.bool true) := f36
      try simp only [f36, str]
      go_wp2
      refine stq_v rfl Same.refl ?_
      first | (simp only [mkAct, List.foldl_cons, List.foldl_nil, List.setIfInBounds_toArray, List.set_cons_succ, List.set_cons_zero, upd, reduceIte, Nat.reduceEqDiff, Nat.reduceAdd, f36, str]; done) | (simp [mkAct, upd, f36, str, *]; done)
    · -- operation 38
      obtain ⟨f37, -⟩ := hp
      replace f37 : u 37 = (.bool true) := f37
      try simp only [f37, str]
      go_wp2_with (refine load_row rfl _ _ rfl w1.heap.size rfl _ _ _ _ (hI.row r1.out) Tryd.underlying38 rfl hinf.out ?_)
      refine stq_v rfl Same.refl ?_
      first | (simp only [mkAct, List.foldl_cons, List.foldl_nil, List.setIfInBounds_toArray, List.set_cons_succ, List.set_cons_zero, upd, reduceIte, Nat.reduceEqDiff, Nat.reduceAdd, f37, str]; done) | (simp [mkAct, upd, f37, str, *]; done)
    · -- operation 39
      obtain ⟨f37, -⟩ := hp
      replace f37 : u 37 = (.bool true) := f37
      try simp only [f37, str]
      go_wp2_with (refine load_row rfl _ _ rfl w3.heap.size rfl _ _ _ _ (hI.row r2.out) Tryd.underlying38 rfl hinf.out ?_)
      refine stq_v rfl Same.refl ?_
      first | (simp only [mkAct, List.foldl_cons, List.foldl_nil, List.setIfInBounds_toArray, List.set_cons_succ, List.set_cons_zero, upd, reduceIte, Nat.reduceEqDiff, Nat.reduceAdd, f37, str]; done) | (simp [mkAct, upd, f37, str, *]; done)
    · -- operation 40
      obtain ⟨f38, f39, f37, -⟩ := hp
      replace f38 : u 38 = (.agg #[.int .i64 vb, .int .u64 vm]) := f38
      replace f39 : u 39 = (.agg #[.int .i64 vb, .int .u64 vm]) := f39
      replace f37 : u 37 = (.bool true) := f37
      try simp only [f38, f39, f37, str]
      have q := q2'.out
      have hg := hgd.out
      go_wp2
      refine stq_v rfl Same.refl ?_
      first | (simp only [mkAct, List.foldl_cons, List.foldl_nil, List.setIfInBounds_toArray, List.set_cons_succ, List.set_cons_zero, upd, reduceIte, Nat.reduceEqDiff, Nat.reduceAdd, f38, f39, f37, str]; done) | (simp [mkAct, upd, f38, f39, f37, str, *]; done)
    · -- operation 41
      obtain ⟨f37, f40, -⟩ := hp
      replace f37 : u 37 = (.bool true) := f37
      replace f40 : u 40 = (.bool true) := f40
      try simp only [f37, f40, str]
      go_wp2
      refine stq_v rfl Same.refl ?_
      first | (simp only [mkAct, List.foldl_cons, List.foldl_nil, List.setIfInBounds_toArray, List.set_cons_succ, List.set_cons_zero, upd, reduceIte, Nat.reduceEqDiff, Nat.reduceAdd, f37, f40, str]; done) | (simp [mkAct, upd, f37, f40, str, *]; done)
    · -- operation 42
      obtain ⟨f41, -, -⟩ := hp
      replace f41 : u 41 = (.bool true) := f41
      try simp only [f41, str]
      go_wp2
      refine stq_v rfl Same.refl ?_
      first | (simp only [mkAct, List.foldl_cons, List.foldl_nil, List.setIfInBounds_toArray, List.set_cons_succ, List.set_cons_zero, upd, reduceIte, Nat.reduceEqDiff, Nat.reduceAdd, f41, str]; done) | (simp [mkAct, upd, f41, str, *]; done)
    · -- operation 43
      obtain ⟨f42, -⟩ := hp
      replace f42 : u 42 = (.bool true) := f42
      try simp only [f42, str]
      go_wp2
      refine stq_v rfl Same.refl ?_
      first | (simp only [mkAct, List.foldl_cons, List.foldl_nil, List.setIfInBounds_toArray, List.set_cons_succ, List.set_cons_zero, upd, reduceIte, Nat.reduceEqDiff, Nat.reduceAdd, f42, str]; done) | (simp [mkAct, upd, f42, str, *]; done)
    · -- operation 44
      obtain ⟨f42, -⟩ := hp
      replace f42 : u 42 = (.bool true) := f42
      try simp only [f42, str]
      go_wp2
      refine stq_v rfl Same.refl ?_
      first | (simp only [mkAct, List.foldl_cons, List.foldl_nil, List.setIfInBounds_toArray, List.set_cons_succ, List.set_cons_zero, upd, reduceIte, Nat.reduceEqDiff, Nat.reduceAdd, f42, str]; done) | (simp [mkAct, upd, f42, str, *]; done)
    · -- operation 45
      obtain ⟨f43, f44, f42, -⟩ := hp
      replace f43 : u 43 = (.int .i64 E) := f43
      replace f44 : u 44 = (.int .i64 E) := f44
      replace f42 : u 42 = (.bool true) := f42
      try simp only [f43, f44, f42, str]
      have hgg : (E == E) = true := by simp
      go_wp2
      refine stq_v rfl Same.refl ?_
      first | (simp only [mkAct, List.foldl_cons, List.foldl_nil, List.setIfInBounds_toArray, List.set_cons_succ, List.set_cons_zero, upd, reduceIte, Nat.reduceEqDiff, Nat.reduceAdd, f43, f44, f42, str]; done) | (simp [mkAct, upd, f43, f44, f42, str, *]; done)
    · -- operation 46
      obtain ⟨f42, f45, -⟩ := hp
      replace f42 : u 42 = (.bool true) := f42
      replace f45 : u 45 = (.bool true) := f45
      try simp only [f42, f45, str]
      go_wp2
      refine stq_v rfl Same.refl ?_
      first | (simp only [mkAct, List.foldl_cons, List.foldl_nil, List.setIfInBounds_toArray, List.set_cons_succ, List.set_cons_zero, upd, reduceIte, Nat.reduceEqDiff, Nat.reduceAdd, f42, f45, str]; done) | (simp [mkAct, upd, f42, f45, str, *]; done)
    · -- operation 47
      obtain ⟨f46, -, -⟩ := hp
      replace f46 : u 46 = (.bool true) := f46
      try simp only [f46, str]
      go_wp2
      refine stq_v rfl Same.refl ?_
      first | (simp only [mkAct, List.foldl_cons, List.foldl_nil, List.setIfInBounds_toArray, List.set_cons_succ, List.set_cons_zero, upd, reduceIte, Nat.reduceEqDiff, Nat.reduceAdd, f46, str]; done) | (simp [mkAct, upd, f46, str, *]; done)
    · -- operation 48
      obtain ⟨-, f47, -⟩ := hp
      replace f47 : u 47 = (.bool true) := f47
      try simp only [f47, str]
      go_wp2_with fail
      refine (hl.out _ (hT4.out.same hI)).mono ?_
      rintro e w1 ⟨rfl, hs'⟩
      go_wp2
      refine stq_v rfl hs' ?_
      first | (simp only [mkAct, List.foldl_cons, List.foldl_nil, List.setIfInBounds_toArray, List.set_cons_succ, List.set_cons_zero, upd, reduceIte, Nat.reduceEqDiff, Nat.reduceAdd, f47, str]; done) | (simp [mkAct, upd, f47, str, *]; done)
    · -- operation 49
      obtain ⟨f47, f48, -⟩ := hp
      replace f47 : u 47 = (.bool true) := f47
      replace f48 : u 48 = (.bool true) := f48
      try simp only [f47, f48, str]
      go_wp2
      refine stq_v rfl Same.refl ?_
      first | (simp only [mkAct, List.foldl_cons, List.foldl_nil, List.setIfInBounds_toArray, List.set_cons_succ, List.set_cons_zero, upd, reduceIte, Nat.reduceEqDiff, Nat.reduceAdd, f47, f48, str]; done) | (simp [mkAct, upd, f47, f48, str, *]; done)
  · intro u wx hI hR
    obtain ⟨r0, r1, r2, r3, r4, r5, r6, r7, r8, r9, r10, r11, r12, r13, r14, r15, r16, r17, r18, r19, r20, r21, r22, r23, r24, r25, r26, r27, r28, r29, r30, r31, r32, r33, r34, r35, r36, r37, r38, r39, r40, r41, r42, r43, r44, r45, r46, r47, r48, r49, -⟩ := hR
    replace r0 : u 0 = (.agg #[.int .i64 1, .int .u64 0]) := r0
    replace r1 : u 1 = (.agg #[.int .i64 1, .int .u64 0]) := r1
    replace r2 : u 2 = (.bool true) := r2
    replace r3 : u 3 = (.bool true) := r3
    replace r4 : u 4 = (.agg #[.int .i64 b, .int .u64 m]) := r4
    replace r5 : u 5 = (.bool G) := r5
    replace r6 : u 6 = (.agg #[.int .i64 b, .int .u64 m]) := r6
    replace r7 : u 7 = (.bool G) := r7
    replace r8 : u 8 = (.bool true) := r8
    replace r9 : u 9 = (.bool true) := r9
    replace r10 : u 10 = (.bool true) := r10
    replace r11 : u 11 = (.agg #[.int .i64 b, .int .u64 m]) := r11
    replace r12 : u 12 = (.int .i64 k) := r12
    replace r13 : u 13 = (.bool Dn) := r13
    replace r14 : u 14 = (.agg #[.int .i64 b, .int .u64 m]) := r14
    replace r15 : u 15 = (.int .i64 k) := r15
    replace r16 : u 16 = (.bool Dn) := r16
    replace r17 : u 17 = (.bool true) := r17
    replace r18 : u 18 = (.bool true) := r18
    replace r19 : u 19 = (.bool true) := r19
    replace r20 : u 20 = (.agg #[.int .i64 b, .int .u64 m]) := r20
    replace r21 : u 21 = (.int .i64 C) := r21
    replace r22 : u 22 = (.agg #[.int .i64 b, .int .u64 m]) := r22
    replace r23 : u 23 = (.int .i64 C) := r23
    replace r24 : u 24 = (.bool true) := r24
    replace r25 : u 25 = (.bool true) := r25
    replace r26 : u 26 = (.bool true) := r26
    replace r27 : u 27 = (.agg #[.int .i64 b, .int .u64 m]) := r27
    replace r28 : u 28 = (.int .i64 size) := r28
    replace r29 : u 29 = (.int .i64 k) := r29
    replace r30 : u 30 = (.int .i64 A) := r30
    replace r31 : u 31 = (.agg #[.int .i64 b, .int .u64 m]) := r31
    replace r32 : u 32 = (.int .i64 size) := r32
    replace r33 : u 33 = (.int .i64 k) := r33
    replace r34 : u 34 = (.int .i64 A) := r34
    replace r35 : u 35 = (.bool true) := r35
    replace r36 : u 36 = (.bool true) := r36
    replace r37 : u 37 = (.bool true) := r37
    replace r38 : u 38 = (.agg #[.int .i64 vb, .int .u64 vm]) := r38
    replace r39 : u 39 = (.agg #[.int .i64 vb, .int .u64 vm]) := r39
    replace r40 : u 40 = (.bool true) := r40
    replace r41 : u 41 = (.bool true) := r41
    replace r42 : u 42 = (.bool true) := r42
    replace r43 : u 43 = (.int .i64 E) := r43
    replace r44 : u 44 = (.int .i64 E) := r44
    replace r45 : u 45 = (.bool true) := r45
    replace r46 : u 46 = (.bool true) := r46
    replace r47 : u 47 = (.bool true) := r47
    replace r48 : u 48 = (.bool true) := r48
    replace r49 : u 49 = (.bool true) := r49
    simp only [mkAct, List.foldl_cons, List.foldl_nil, List.setIfInBounds_toArray, List.set_cons_succ, List.set_cons_zero]
    try simp only [str, r0, r1, r2, r3, r4, r5, r6, r7, r8, r9, r10, r11, r12, r13, r14, r15, r16, r17, r18, r19, r20, r21, r22, r23, r24, r25, r26, r27, r28, r29, r30, r31, r32, r33, r34, r35, r36, r37, r38, r39, r40, r41, r42, r43, r44, r45, r46, r47, r48, r49]
    go_wp2
    go_ret
    exact ⟨rfl, s0.out.trans hI⟩
end Go.Proofs.YtkhloanpdehegaaDoor
