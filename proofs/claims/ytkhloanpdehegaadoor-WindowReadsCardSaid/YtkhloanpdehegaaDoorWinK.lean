/-
  The walks of the window's call Mark, by both; New; the chapter's example.
-/
import Derived.Test.YtkhloanpdehegaaDoorWinM
import Derived.Test.YtkhloanpdehegaaDoorMaskL
import Derived.Test.YtkhloanpdehegaaDoorRes
import Derived.Test.YtkhloanpdehegaaDoorEq
namespace Go.Proofs.YtkhloanpdehegaaDoor
open Go Go.RowKit
set_option linter.unusedSimpArgs false
set_option linter.unusedVariables false

theorem Same.row {w w' : World} {b : Nat} {o : Obj} (h : Same w w') (hb : w.heap[b]? = some o) : w'.heap[b]? = some o := (h.block b (blk_lt hb)).trans hb
theorem hinfW : (Tryd.prog.info? 38).map (·.size) = some 2 := by kernel_rfl
theorem mdownS_any (m : Nat) (n : Int) (w : World) : Calls Tryd.prog 20 #[.int .u64 m, .int .i64 n] w fun e w' => e = .returned (.int .u64 (mdown m n : Nat)) ∧ Same w w' :=
  (mdown_any m n w).mono fun _ _ h => ⟨h.1, by rw [h.2]; exact Same.refl⟩
set_option maxRecDepth 100000 in
set_option maxHeartbeats 3200000 in
theorem wmark_any (b : Int) (m : Nat) (k : Int) (w : World) (hm : m < 18446744073709551616) (hk : k ≤ 9223372036854775807) (hT : Tab w) : Calls Tryd.prog 23 #[.agg #[.int .i64 b, .int .u64 m], .int .i64 k] w fun e w' => e = .returned (.tuple #[.agg #[.int .i64 (Win.mark ⟨b, m⟩ k).base, .int .u64 ((Win.mark ⟨b, m⟩ k).bits : Nat)], .int .i64 (Win.ask ⟨b, m⟩ 64 k)]) ∧ Same w w' := by
  have ha := fun w => wask_any b m 64 k w hm hk
  have hinf := hinfW
  by_cases h0 : Win.ask ⟨b, m⟩ 64 k = 0
  · have hmk : Win.mark ⟨b, m⟩ k = Win.next ⟨b, m⟩ k := by rw [Win.mark, if_pos h0]
    obtain ⟨⟨g1, g2, _, _⟩, g3, _, hnd, hfar⟩ := (Win.ask_ok ⟨b, m⟩ hm k).1 h0
    simp only at g1 g2 hfar
    have hge : b ≤ k := by
      by_cases hl : b ≤ k
      · exact hl
      · exact absurd ⟨g3, .inl (by simp only; omega)⟩ hnd
    rw [h0] at ha ⊢
    rw [hmk]
    have hwi := fun w => mwith_any m (k - b) w hm
    have hml := mwith_lt hm (k - b)
    have e1 : (Win.next ⟨b, m⟩ k).base = b + (mones (mwith m (k - b)) : Nat) := rfl
    have e2 : (Win.next ⟨b, m⟩ k).bits = mdown (mwith m (k - b)) (mones (mwith m (k - b)) : Nat) := rfl
    rw [e1, e2]
    obtain ⟨M, hM⟩ : ∃ M, M = mwith m (k - b) := ⟨_, rfl⟩
    rw [← hM] at hwi hml ⊢
    have hon := fun w (h : Tab w) => mones_any M w hml h
    have hn64 := (mones_spec hml).1
    obtain ⟨n, hn⟩ : ∃ n, n = mones M := ⟨_, rfl⟩
    rw [← hn] at hon hn64 ⊢
    have hdo := fun w => mdownS_any M (n : Int) w
    obtain ⟨D, hD⟩ : ∃ D, D = mdown M (n : Int) := ⟨_, rfl⟩
    rw [← hD] at hdo ⊢
    clear hD hn hM e1 e2 hmk hnd h0
    replace ha := Lib.hid ha
    replace hinf := Lib.hid hinf
    replace hwi := Lib.hid hwi
    replace hon := Lib.hid hon
    replace hdo := Lib.hid hdo
    replace hT := Lib.hid hT
    go_enter Tryd.func23, Tryd.ntmps23
    go_upto_region 1 with fail
    obtain ⟨W, hW⟩ : ∃ W, W = (w.alloc (.cells #[.int .i64 b, .int .u64 m] 38)).alloc (.cells #[.int .i64 0, .int .u64 0] 38) := ⟨_, rfl⟩
    have r0 : W.heap[w.heap.size]? = some (.cells #[.int .i64 b, .int .u64 m] 38 (0, 0)) := by rw [hW]; exact (Same.refl.alloc (.cells #[.int .i64 0, .int .u64 0] 38)).row (heap_alloc_new w (.cells #[.int .i64 b, .int .u64 m] 38))
    have hz : W.heap[w.heap.size + 1]? = some (.cells #[.int .i64 0, .int .u64 0] 38 (0, 0)) := by have := heap_alloc_new (w.alloc (.cells #[.int .i64 b, .int .u64 m] 38)) (.cells #[.int .i64 0, .int .u64 0] 38); rw [World.size_alloc] at this; rw [hW]; exact this
    have s1 : Same w W := by rw [hW]; exact (Same.refl.alloc _).alloc _
    rw [← hW]
    clear hW
    replace r0 := Lib.hid r0
    replace hz := Lib.hid hz
    replace s1 := Lib.hid s1
    go_wp2_with (refine load_row rfl _ _ rfl w.heap.size rfl _ _ _ _ r0.out Tryd.underlying38 rfl hinf.out ?_)
    refine (ha.out _).mono ?_
    rintro e w2 ⟨rfl, hs2⟩
    have r2 := hs2.row r0.out
    have c0 : w2.cell? ⟨w.heap.size, 0, none⟩ = some (.int .i64 b) := blk_cell r2 0
    have c1 : w2.cell? ⟨w.heap.size, 1, none⟩ = some (.int .u64 m) := blk_cell r2 1
    have hz2 := Lib.hid (hs2.row hz.out)
    replace s1 := Lib.hid (s1.out.trans hs2)
    clear r0 r2 hz hs2 ha
    have hT2 := hT.out.same s1.out
    replace hon := Lib.hid (hon.out _ hT2)
    clear hT2
    go_upto_region 6 with (first | (refine (hwi.out _).mono ?_; clear hwi; rintro e w' ⟨rfl, rfl⟩) | (refine hon.out.mono ?_; clear hon; rintro e w' ⟨rfl, rfl⟩))
    refine wp_region_tails (by kernel_rfl) [(25, 0), (26, 1), (27, 2), (28, 3), (29, 4), (30, 5), (31, 6), (32, 7)] Same (Same _) [isV (.pointer (some ⟨w.heap.size, 0, none⟩)), isV (.int .i64 b), isV (.int .i64 n), isV (.int .i64 (b + n)), isV (.int .u64 M), isV (.int .i64 n), isV (.int .u64 D), isV (.agg #[.int .i64 (b + n), .int .u64 D])] Same.refl.drew (fun _ _ h k => h.trans k) (by simp [isV_stable, isB_stable, isAny_stable]) (by decide) (l := [_, _, _, _, _, _, _, _]) rfl (by decide) (by kernel_rfl) ?_ ?_
    · refine ⟨?_, ?_, ?_, ?_, ?_, ?_, ?_, ?_, trivial⟩
      all_goals (intro u wx hI hp; simp only [mkAct, List.foldl_cons, List.foldl_nil, List.setIfInBounds_toArray, List.set_cons_succ, List.set_cons_zero])
      · -- operation 0
        go_wp2
        refine stq_v rfl Same.refl ?_
        first | (simp only [mkAct, List.foldl_cons, List.foldl_nil, List.setIfInBounds_toArray, List.set_cons_succ, List.set_cons_zero, upd, reduceIte, Nat.reduceEqDiff, Nat.reduceAdd, str]; done) | (simp [mkAct, upd, str, *]; done)
      · -- operation 1
        obtain ⟨f0, -⟩ := hp
        replace f0 : u 0 = (.pointer (some ⟨w.heap.size, 0, none⟩)) := f0
        try simp only [f0, str]
        have cx := hI.cell (c0)
        go_wp2
        refine stq_v rfl Same.refl ?_
        first | (simp only [mkAct, List.foldl_cons, List.foldl_nil, List.setIfInBounds_toArray, List.set_cons_succ, List.set_cons_zero, upd, reduceIte, Nat.reduceEqDiff, Nat.reduceAdd, f0, str]; done) | (simp [mkAct, upd, f0, str, *]; done)
      · -- operation 2
        go_wp2
        refine stq_v rfl Same.refl ?_
        first | (simp only [mkAct, List.foldl_cons, List.foldl_nil, List.setIfInBounds_toArray, List.set_cons_succ, List.set_cons_zero, upd, reduceIte, Nat.reduceEqDiff, Nat.reduceAdd, str]; done) | (simp [mkAct, upd, str, *]; done)
      · -- operation 3
        obtain ⟨f1, f2, -⟩ := hp
        replace f1 : u 1 = (.int .i64 b) := f1
        replace f2 : u 2 = (.int .i64 n) := f2
        try simp only [f1, f2, str]
        go_wp2
        refine stq_v rfl Same.refl ?_
        first | (simp only [mkAct, List.foldl_cons, List.foldl_nil, List.setIfInBounds_toArray, List.set_cons_succ, List.set_cons_zero, upd, reduceIte, Nat.reduceEqDiff, Nat.reduceAdd, f1, f2, str]; done) | (simp [mkAct, upd, f1, f2, str, *]; done)
      · -- operation 4
        go_wp2
        refine stq_v rfl Same.refl ?_
        first | (simp only [mkAct, List.foldl_cons, List.foldl_nil, List.setIfInBounds_toArray, List.set_cons_succ, List.set_cons_zero, upd, reduceIte, Nat.reduceEqDiff, Nat.reduceAdd, str]; done) | (simp [mkAct, upd, str, *]; done)
      · -- operation 5
        go_wp2
        refine stq_v rfl Same.refl ?_
        first | (simp only [mkAct, List.foldl_cons, List.foldl_nil, List.setIfInBounds_toArray, List.set_cons_succ, List.set_cons_zero, upd, reduceIte, Nat.reduceEqDiff, Nat.reduceAdd, str]; done) | (simp [mkAct, upd, str, *]; done)
      · -- operation 6
        obtain ⟨f4, f5, -⟩ := hp
        replace f4 : u 4 = (.int .u64 M) := f4
        replace f5 : u 5 = (.int .i64 n) := f5
        try simp only [f4, f5, str]
        go_wp2_with fail
        refine (hdo.out _).mono ?_
        rintro e w1 ⟨rfl, hs'⟩
        go_wp2
        refine stq_v rfl hs' ?_
        first | (simp only [mkAct, List.foldl_cons, List.foldl_nil, List.setIfInBounds_toArray, List.set_cons_succ, List.set_cons_zero, upd, reduceIte, Nat.reduceEqDiff, Nat.reduceAdd, f4, f5, str]; done) | (simp [mkAct, upd, f4, f5, str, *]; done)
      · -- operation 7
        obtain ⟨f3, f6, -⟩ := hp
        replace f3 : u 3 = (.int .i64 (b + n)) := f3
        replace f6 : u 6 = (.int .u64 D) := f6
        try simp only [f3, f6, str]
        go_wp2
        refine stq_v rfl Same.refl ?_
        first | (simp only [mkAct, List.foldl_cons, List.foldl_nil, List.setIfInBounds_toArray, List.set_cons_succ, List.set_cons_zero, upd, reduceIte, Nat.reduceEqDiff, Nat.reduceAdd, f3, f6, str]; done) | (simp [mkAct, upd, f3, f6, str, *]; done)
    · intro u wx hI hR
      obtain ⟨r0, r1, r2, r3, r4, r5, r6, r7, -⟩ := hR
      replace r0 : u 0 = (.pointer (some ⟨w.heap.size, 0, none⟩)) := r0
      replace r1 : u 1 = (.int .i64 b) := r1
      replace r2 : u 2 = (.int .i64 n) := r2
      replace r3 : u 3 = (.int .i64 (b + n)) := r3
      replace r4 : u 4 = (.int .u64 M) := r4
      replace r5 : u 5 = (.int .i64 n) := r5
      replace r6 : u 6 = (.int .u64 D) := r6
      replace r7 : u 7 = (.agg #[.int .i64 (b + n), .int .u64 D]) := r7
      simp only [mkAct, List.foldl_cons, List.foldl_nil, List.setIfInBounds_toArray, List.set_cons_succ, List.set_cons_zero]
      try simp only [str, r0, r1, r2, r3, r4, r5, r6, r7]
      have hz4 := Lib.hid (hI.row hz2.out)
      have s4 := Lib.hid (s1.out.trans hI)
      clear hI hz2 c0 c1
      go_wp2_with (refine store_row rfl _ _ _ rfl (w.heap.size + 1) #[.int .i64 (b + n), .int .u64 D] rfl rfl _ _ hz4.out hinf.out rfl (by simp [Value.oneCell']) ?_; intro w9 hb9 hk9; replace hb9 := Lib.hid hb9; replace hk9 := Lib.hid hk9)
      refine bodyPost_ret (v := .tuple #[.agg #[.int .i64 (b + n), .int .u64 D], .int .i64 0]) (results_row2 (p := 4) (q := 5) (ty := 38) rfl _ _ (w.heap.size + 1) _ _ _ _ _ rfl rfl hb9.out Tryd.underlying38 rfl hinf.out) rfl ?_
      exact ⟨rfl, s4.out.keep hk9.out (fun x hx hv => by omega)⟩
  · have hmk : Win.mark ⟨b, m⟩ k = Win.zero := by rw [Win.mark, if_neg h0]
    rw [hmk]
    have e1 : Win.zero.base = 0 := rfl
    have e2 : Win.zero.bits = 0 := rfl
    rw [e1, e2]
    obtain ⟨E, hE⟩ : ∃ E, E = Win.ask ⟨b, m⟩ 64 k := ⟨_, rfl⟩
    rw [← hE] at ha h0 ⊢
    have hne : (E != 0) = true := by simpa using h0
    clear hE h0 hmk e1 e2
    replace ha := Lib.hid ha
    replace hinf := Lib.hid hinf
    go_enter Tryd.func23, Tryd.ntmps23
    go_upto_region 1 with fail
    obtain ⟨W, hW⟩ : ∃ W, W = (w.alloc (.cells #[.int .i64 b, .int .u64 m] 38)).alloc (.cells #[.int .i64 0, .int .u64 0] 38) := ⟨_, rfl⟩
    have r0 : W.heap[w.heap.size]? = some (.cells #[.int .i64 b, .int .u64 m] 38 (0, 0)) := by rw [hW]; exact (Same.refl.alloc (.cells #[.int .i64 0, .int .u64 0] 38)).row (heap_alloc_new w (.cells #[.int .i64 b, .int .u64 m] 38))
    have hz : W.heap[w.heap.size + 1]? = some (.cells #[.int .i64 0, .int .u64 0] 38 (0, 0)) := by have := heap_alloc_new (w.alloc (.cells #[.int .i64 b, .int .u64 m] 38)) (.cells #[.int .i64 0, .int .u64 0] 38); rw [World.size_alloc] at this; rw [hW]; exact this
    have s1 : Same w W := by rw [hW]; exact (Same.refl.alloc _).alloc _
    rw [← hW]
    clear hW
    replace r0 := Lib.hid r0
    replace hz := Lib.hid hz
    replace s1 := Lib.hid s1
    go_wp2_with (refine load_row rfl _ _ rfl w.heap.size rfl _ _ _ _ r0.out Tryd.underlying38 rfl hinf.out ?_)
    refine (ha.out _).mono ?_
    rintro e w2 ⟨rfl, hs2⟩
    have r2 := hs2.row r0.out
    have c0 : w2.cell? ⟨w.heap.size, 0, none⟩ = some (.int .i64 b) := blk_cell r2 0
    have c1 : w2.cell? ⟨w.heap.size, 1, none⟩ = some (.int .u64 m) := blk_cell r2 1
    have hz2 := Lib.hid (hs2.row hz.out)
    replace s1 := Lib.hid (s1.out.trans hs2)
    clear r0 r2 hz hs2 ha
    go_wp2_with (refine store_row rfl _ _ _ rfl (w.heap.size + 1) #[.int .i64 0, .int .u64 0] rfl rfl _ _ hz2.out hinf.out rfl (by simp [Value.oneCell']) ?_; intro w9 hb9 hk9; replace hb9 := Lib.hid hb9; replace hk9 := Lib.hid hk9)
    refine bodyPost_ret (v := .tuple #[.agg #[.int .i64 0, .int .u64 0], .int .i64 E]) (results_row2 (p := 4) (q := 5) (ty := 38) rfl _ _ (w.heap.size + 1) _ _ _ _ _ rfl rfl hb9.out Tryd.underlying38 rfl hinf.out) rfl ?_
    exact ⟨rfl, s1.out.keep hk9.out (fun x hx hv => by omega)⟩
set_option maxRecDepth 100000 in
set_option maxHeartbeats 3200000 in
theorem rwmark_any (b : Int) (m : Nat) (k : Int) (w : World) (hm : m < 18446744073709551616) (hk : k ≤ 9223372036854775807) (hT : Tab w) : Calls Tryd.prog 24 #[.agg #[.int .i64 b, .int .u64 m], .int .i64 k] w fun e w' => e = .returned (.tuple #[.agg #[.int .i64 (Win.mark ⟨b, m⟩ k).base, .int .u64 ((Win.mark ⟨b, m⟩ k).bits : Nat)], .int .i64 (Win.ask ⟨b, m⟩ 64 k)]) ∧ Same w w' := by
  have ha := fun w => rwask_any b m 64 k w hm hk
  have hinf := hinfW
  by_cases h0 : Win.ask ⟨b, m⟩ 64 k = 0
  · have hmk : Win.mark ⟨b, m⟩ k = Win.next ⟨b, m⟩ k := by rw [Win.mark, if_pos h0]
    obtain ⟨⟨g1, g2, _, _⟩, g3, _, hnd, hfar⟩ := (Win.ask_ok ⟨b, m⟩ hm k).1 h0
    simp only at g1 g2 hfar
    have hge : b ≤ k := by
      by_cases hl : b ≤ k
      · exact hl
      · exact absurd ⟨g3, .inl (by simp only; omega)⟩ hnd
    rw [h0] at ha ⊢
    rw [hmk]
    have hwi := fun w => rwith_any m (k - b) w hm
    have hml := mwith_lt hm (k - b)
    have e1 : (Win.next ⟨b, m⟩ k).base = b + (mones (mwith m (k - b)) : Nat) := rfl
    have e2 : (Win.next ⟨b, m⟩ k).bits = mdown (mwith m (k - b)) (mones (mwith m (k - b)) : Nat) := rfl
    rw [e1, e2]
    obtain ⟨M, hM⟩ : ∃ M, M = mwith m (k - b) := ⟨_, rfl⟩
    rw [← hM] at hwi hml ⊢
    have hon := fun w (h : Tab w) => rones_any M w hml
    have hn64 := (mones_spec hml).1
    obtain ⟨n, hn⟩ : ∃ n, n = mones M := ⟨_, rfl⟩
    rw [← hn] at hon hn64 ⊢
    have hdo := fun w => rdown_any M (n : Int) w hml
    obtain ⟨D, hD⟩ : ∃ D, D = mdown M (n : Int) := ⟨_, rfl⟩
    rw [← hD] at hdo ⊢
    clear hD hn hM e1 e2 hmk hnd h0
    replace ha := Lib.hid ha
    replace hinf := Lib.hid hinf
    replace hwi := Lib.hid hwi
    replace hon := Lib.hid hon
    replace hdo := Lib.hid hdo
    replace hT := Lib.hid hT
    go_enter Tryd.func24, Tryd.ntmps24
    go_upto_region 1 with fail
    obtain ⟨W, hW⟩ : ∃ W, W = (w.alloc (.cells #[.int .i64 b, .int .u64 m] 38)).alloc (.cells #[.int .i64 0, .int .u64 0] 38) := ⟨_, rfl⟩
    have r0 : W.heap[w.heap.size]? = some (.cells #[.int .i64 b, .int .u64 m] 38 (0, 0)) := by rw [hW]; exact (Same.refl.alloc (.cells #[.int .i64 0, .int .u64 0] 38)).row (heap_alloc_new w (.cells #[.int .i64 b, .int .u64 m] 38))
    have hz : W.heap[w.heap.size + 1]? = some (.cells #[.int .i64 0, .int .u64 0] 38 (0, 0)) := by have := heap_alloc_new (w.alloc (.cells #[.int .i64 b, .int .u64 m] 38)) (.cells #[.int .i64 0, .int .u64 0] 38); rw [World.size_alloc] at this; rw [hW]; exact this
    have s1 : Same w W := by rw [hW]; exact (Same.refl.alloc _).alloc _
    rw [← hW]
    clear hW
    replace r0 := Lib.hid r0
    replace hz := Lib.hid hz
    replace s1 := Lib.hid s1
    go_wp2_with (refine load_row rfl _ _ rfl w.heap.size rfl _ _ _ _ r0.out Tryd.underlying38 rfl hinf.out ?_)
    refine (ha.out _).mono ?_
    rintro e w2 ⟨rfl, hs2⟩
    have r2 := hs2.row r0.out
    have c0 : w2.cell? ⟨w.heap.size, 0, none⟩ = some (.int .i64 b) := blk_cell r2 0
    have c1 : w2.cell? ⟨w.heap.size, 1, none⟩ = some (.int .u64 m) := blk_cell r2 1
    have hz2 := Lib.hid (hs2.row hz.out)
    replace s1 := Lib.hid (s1.out.trans hs2)
    clear r0 r2 hz hs2 ha
    have hT2 := hT.out.same s1.out
    replace hon := Lib.hid (hon.out _ hT2)
    clear hT2
    go_upto_region 6 with (first | (refine (hwi.out _).mono ?_; clear hwi; rintro e w' ⟨rfl, rfl⟩) | (refine hon.out.mono ?_; clear hon; rintro e w' ⟨rfl, rfl⟩))
    refine wp_region_tails (by kernel_rfl) [(25, 0), (26, 1), (27, 2), (28, 3), (29, 4), (30, 5), (31, 6), (32, 7)] Same (Same _) [isV (.pointer (some ⟨w.heap.size, 0, none⟩)), isV (.int .i64 b), isV (.int .i64 n), isV (.int .i64 (b + n)), isV (.int .u64 M), isV (.int .i64 n), isV (.int .u64 D), isV (.agg #[.int .i64 (b + n), .int .u64 D])] Same.refl.drew (fun _ _ h k => h.trans k) (by simp [isV_stable, isB_stable, isAny_stable]) (by decide) (l := [_, _, _, _, _, _, _, _]) rfl (by decide) (by kernel_rfl) ?_ ?_
    · refine ⟨?_, ?_, ?_, ?_, ?_, ?_, ?_, ?_, trivial⟩
      all_goals (intro u wx hI hp; simp only [mkAct, List.foldl_cons, List.foldl_nil, List.setIfInBounds_toArray, List.set_cons_succ, List.set_cons_zero])
      · -- operation 0
        go_wp2
        refine stq_v rfl Same.refl ?_
        first | (simp only [mkAct, List.foldl_cons, List.foldl_nil, List.setIfInBounds_toArray, List.set_cons_succ, List.set_cons_zero, upd, reduceIte, Nat.reduceEqDiff, Nat.reduceAdd, str]; done) | (simp [mkAct, upd, str, *]; done)
      · -- operation 1
        obtain ⟨f0, -⟩ := hp
        replace f0 : u 0 = (.pointer (some ⟨w.heap.size, 0, none⟩)) := f0
        try simp only [f0, str]
        have cx := hI.cell (c0)
        go_wp2
        refine stq_v rfl Same.refl ?_
        first | (simp only [mkAct, List.foldl_cons, List.foldl_nil, List.setIfInBounds_toArray, List.set_cons_succ, List.set_cons_zero, upd, reduceIte, Nat.reduceEqDiff, Nat.reduceAdd, f0, str]; done) | (simp [mkAct, upd, f0, str, *]; done)
      · -- operation 2
        go_wp2
        refine stq_v rfl Same.refl ?_
        first | (simp only [mkAct, List.foldl_cons, List.foldl_nil, List.setIfInBounds_toArray, List.set_cons_succ, List.set_cons_zero, upd, reduceIte, Nat.reduceEqDiff, Nat.reduceAdd, str]; done) | (simp [mkAct, upd, str, *]; done)
      · -- operation 3
        obtain ⟨f1, f2, -⟩ := hp
        replace f1 : u 1 = (.int .i64 b) := f1
        replace f2 : u 2 = (.int .i64 n) := f2
        try simp only [f1, f2, str]
        go_wp2
        refine stq_v rfl Same.refl ?_
        first | (simp only [mkAct, List.foldl_cons, List.foldl_nil, List.setIfInBounds_toArray, List.set_cons_succ, List.set_cons_zero, upd, reduceIte, Nat.reduceEqDiff, Nat.reduceAdd, f1, f2, str]; done) | (simp [mkAct, upd, f1, f2, str, *]; done)
      · -- operation 4
        go_wp2
        refine stq_v rfl Same.refl ?_
        first | (simp only [mkAct, List.foldl_cons, List.foldl_nil, List.setIfInBounds_toArray, List.set_cons_succ, List.set_cons_zero, upd, reduceIte, Nat.reduceEqDiff, Nat.reduceAdd, str]; done) | (simp [mkAct, upd, str, *]; done)
      · -- operation 5
        go_wp2
        refine stq_v rfl Same.refl ?_
        first | (simp only [mkAct, List.foldl_cons, List.foldl_nil, List.setIfInBounds_toArray, List.set_cons_succ, List.set_cons_zero, upd, reduceIte, Nat.reduceEqDiff, Nat.reduceAdd, str]; done) | (simp [mkAct, upd, str, *]; done)
      · -- operation 6
        obtain ⟨f4, f5, -⟩ := hp
        replace f4 : u 4 = (.int .u64 M) := f4
        replace f5 : u 5 = (.int .i64 n) := f5
        try simp only [f4, f5, str]
        go_wp2_with fail
        refine (hdo.out _).mono ?_
        rintro e w1 ⟨rfl, hs'⟩
        go_wp2
        refine stq_v rfl hs' ?_
        first | (simp only [mkAct, List.foldl_cons, List.foldl_nil, List.setIfInBounds_toArray, List.set_cons_succ, List.set_cons_zero, upd, reduceIte, Nat.reduceEqDiff, Nat.reduceAdd, f4, f5, str]; done) | (simp [mkAct, upd, f4, f5, str, *]; done)
      · -- operation 7
        obtain ⟨f3, f6, -⟩ := hp
        replace f3 : u 3 = (.int .i64 (b + n)) := f3
        replace f6 : u 6 = (.int .u64 D) := f6
        try simp only [f3, f6, str]
        go_wp2
        refine stq_v rfl Same.refl ?_
        first | (simp only [mkAct, List.foldl_cons, List.foldl_nil, List.setIfInBounds_toArray, List.set_cons_succ, List.set_cons_zero, upd, reduceIte, Nat.reduceEqDiff, Nat.reduceAdd, f3, f6, str]; done) | (simp [mkAct, upd, f3, f6, str, *]; done)
    · intro u wx hI hR
      obtain ⟨r0, r1, r2, r3, r4, r5, r6, r7, -⟩ := hR
      replace r0 : u 0 = (.pointer (some ⟨w.heap.size, 0, none⟩)) := r0
      replace r1 : u 1 = (.int .i64 b) := r1
      replace r2 : u 2 = (.int .i64 n) := r2
      replace r3 : u 3 = (.int .i64 (b + n)) := r3
      replace r4 : u 4 = (.int .u64 M) := r4
      replace r5 : u 5 = (.int .i64 n) := r5
      replace r6 : u 6 = (.int .u64 D) := r6
      replace r7 : u 7 = (.agg #[.int .i64 (b + n), .int .u64 D]) := r7
      simp only [mkAct, List.foldl_cons, List.foldl_nil, List.setIfInBounds_toArray, List.set_cons_succ, List.set_cons_zero]
      try simp only [str, r0, r1, r2, r3, r4, r5, r6, r7]
      have hz4 := Lib.hid (hI.row hz2.out)
      have s4 := Lib.hid (s1.out.trans hI)
      clear hI hz2 c0 c1
      go_wp2_with (refine store_row rfl _ _ _ rfl (w.heap.size + 1) #[.int .i64 (b + n), .int .u64 D] rfl rfl _ _ hz4.out hinf.out rfl (by simp [Value.oneCell']) ?_; intro w9 hb9 hk9; replace hb9 := Lib.hid hb9; replace hk9 := Lib.hid hk9)
      refine bodyPost_ret (v := .tuple #[.agg #[.int .i64 (b + n), .int .u64 D], .int .i64 0]) (results_row2 (p := 4) (q := 5) (ty := 38) rfl _ _ (w.heap.size + 1) _ _ _ _ _ rfl rfl hb9.out Tryd.underlying38 rfl hinf.out) rfl ?_
      exact ⟨rfl, s4.out.keep hk9.out (fun x hx hv => by omega)⟩
  · have hmk : Win.mark ⟨b, m⟩ k = Win.zero := by rw [Win.mark, if_neg h0]
    rw [hmk]
    have e1 : Win.zero.base = 0 := rfl
    have e2 : Win.zero.bits = 0 := rfl
    rw [e1, e2]
    obtain ⟨E, hE⟩ : ∃ E, E = Win.ask ⟨b, m⟩ 64 k := ⟨_, rfl⟩
    rw [← hE] at ha h0 ⊢
    have hne : (E != 0) = true := by simpa using h0
    clear hE h0 hmk e1 e2
    replace ha := Lib.hid ha
    replace hinf := Lib.hid hinf
    go_enter Tryd.func24, Tryd.ntmps24
    go_upto_region 1 with fail
    obtain ⟨W, hW⟩ : ∃ W, W = (w.alloc (.cells #[.int .i64 b, .int .u64 m] 38)).alloc (.cells #[.int .i64 0, .int .u64 0] 38) := ⟨_, rfl⟩
    have r0 : W.heap[w.heap.size]? = some (.cells #[.int .i64 b, .int .u64 m] 38 (0, 0)) := by rw [hW]; exact (Same.refl.alloc (.cells #[.int .i64 0, .int .u64 0] 38)).row (heap_alloc_new w (.cells #[.int .i64 b, .int .u64 m] 38))
    have hz : W.heap[w.heap.size + 1]? = some (.cells #[.int .i64 0, .int .u64 0] 38 (0, 0)) := by have := heap_alloc_new (w.alloc (.cells #[.int .i64 b, .int .u64 m] 38)) (.cells #[.int .i64 0, .int .u64 0] 38); rw [World.size_alloc] at this; rw [hW]; exact this
    have s1 : Same w W := by rw [hW]; exact (Same.refl.alloc _).alloc _
    rw [← hW]
    clear hW
    replace r0 := Lib.hid r0
    replace hz := Lib.hid hz
    replace s1 := Lib.hid s1
    go_wp2_with (refine load_row rfl _ _ rfl w.heap.size rfl _ _ _ _ r0.out Tryd.underlying38 rfl hinf.out ?_)
    refine (ha.out _).mono ?_
    rintro e w2 ⟨rfl, hs2⟩
    have r2 := hs2.row r0.out
    have c0 : w2.cell? ⟨w.heap.size, 0, none⟩ = some (.int .i64 b) := blk_cell r2 0
    have c1 : w2.cell? ⟨w.heap.size, 1, none⟩ = some (.int .u64 m) := blk_cell r2 1
    have hz2 := Lib.hid (hs2.row hz.out)
    replace s1 := Lib.hid (s1.out.trans hs2)
    clear r0 r2 hz hs2 ha
    go_wp2_with (refine store_row rfl _ _ _ rfl (w.heap.size + 1) #[.int .i64 0, .int .u64 0] rfl rfl _ _ hz2.out hinf.out rfl (by simp [Value.oneCell']) ?_; intro w9 hb9 hk9; replace hb9 := Lib.hid hb9; replace hk9 := Lib.hid hk9)
    refine bodyPost_ret (v := .tuple #[.agg #[.int .i64 0, .int .u64 0], .int .i64 E]) (results_row2 (p := 4) (q := 5) (ty := 38) rfl _ _ (w.heap.size + 1) _ _ _ _ _ rfl rfl hb9.out Tryd.underlying38 rfl hinf.out) rfl ?_
    exact ⟨rfl, s1.out.keep hk9.out (fun x hx hv => by omega)⟩
end Go.Proofs.YtkhloanpdehegaaDoor
namespace Go.Proofs.YtkhloanpdehegaaDoor
open Go Go.RowKit
set_option linter.unusedSimpArgs false
set_option linter.unusedVariables false
set_option maxRecDepth 100000 in
set_option maxHeartbeats 400000 in
theorem wnew_any (w : World) : Calls Tryd.prog 25 #[] w fun e w' => e = .returned (.agg #[.int .i64 1, .int .u64 0]) ∧ Same w w' := by
  go_enter Tryd.func25, Tryd.ntmps25
  go_wp2
  refine bodyPost_ret (v := .agg #[.int .i64 1, .int .u64 0]) (results_row (p := 0) (ty := 38) rfl _ _ w.heap.size _ _ _ _ rfl (heap_alloc_new _ _) Tryd.underlying38 rfl hinfW) rfl ?_
  exact ⟨rfl, Same.refl.alloc _⟩
/-- Two windows that are told the same. -/
def Win.wf (v : Win) : Prop := (Lit.int .i64 v.base).wf = true ∧ (Lit.int .u64 (v.bits : Nat)).wf = true
theorem keyLits_win (b : Int) (m : Nat) (h1 : (Lit.int .i64 b).wf = true) (h2 : (Lit.int .u64 (m : Int)).wf = true) : Tryd.prog.keyLits 3 38 [.int .i64 b, .int .u64 m] = some [.int .i64 b, .int .u64 (m : Int)] := by
  have e1 : Tryd.prog.keyLits 2 3 [.int .i64 b] = some [.int .i64 b] := by
    unfold Program.keyLits
    rw [Tryd.underlying3]
    simp [h1]
  have e2 : Tryd.prog.keyLits 2 22 [.int .u64 m] = some [.int .u64 (m : Int)] := by
    unfold Program.keyLits
    rw [Tryd.underlying22]
    simp [h2]
  unfold Program.keyLits
  rw [Tryd.underlying38]
  have h3 : Tryd.prog.cellsOf 3 = 1 := by kernel_rfl
  have h5 : Tryd.prog.cellsOf 22 = 1 := by kernel_rfl
  have h4 : Tryd.prog.cellsOf 38 = 2 := by kernel_rfl
  simp [h3, h4, h5, e1, e2]
theorem win_eql (a b : Int) (m n : Nat) (h1 : (Lit.int .i64 a).wf = true) (h2 : (Lit.int .u64 (m : Int)).wf = true) (h3 : (Lit.int .i64 b).wf = true) (h4 : (Lit.int .u64 (n : Int)).wf = true) (w : World) :
    (binOp .eql 38 (.agg #[.int .i64 a, .int .u64 m]) (.agg #[.int .i64 b, .int .u64 n])).run Tryd.prog w = .ok (.bool (Decidable.decide (a = b ∧ m = n))) w := by
  have hc : Tryd.prog.cellsOf 38 = 2 := by kernel_rfl
  obtain ⟨r, hr, hiff⟩ := equal_lits w (by decide : 2 ≤ 10000) (by kernel_rfl) (by rw [Tryd.underlying38]) [.int .i64 a, .int .u64 m] [.int .i64 b, .int .u64 n] _ _ 3 (keyLits_win a m h1 h2) (keyLits_win b n h3 h4) (by rw [hc]; rfl) (by rw [hc]; rfl)
  have e : r = Decidable.decide (a = b ∧ m = n) := by
    rw [Bool.eq_iff_iff, hiff, decide_eq_true_iff]
    simp
    omega
  rw [← e]
  have hx : (binOp .eql 38 (.agg #[.int .i64 a, .int .u64 m]) (.agg #[.int .i64 b, .int .u64 n])).run Tryd.prog w = ((Op.equalIn 10000 38 (.agg #[.int .i64 a, .int .u64 m]) (.agg #[.int .i64 b, .int .u64 n])).run Tryd.prog w).andThen fun b w' => .ok (.bool b) w' := run_eql_struct _ _ _ _
  rw [hx, hr]
  rfl
theorem win_guard (op : BinOp) (x y : Operand) (a b : Array Value) (w : World) : (eqGuard op 38 x y (.agg a) (.agg b)).run Tryd.prog w = .ok () w := run_eqGuard_agg w op _ x y a b (by kernel_rfl)
end Go.Proofs.YtkhloanpdehegaaDoor
