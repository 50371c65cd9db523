/-
  The walk of the law MaskGoes: the numbers of any mask are told rising, however often, and left wherever.
-/
-- @law u64, int
import Derived.Test.YtkhloanpdehegaaDoorMaskL
import Derived.Test.YtkhloanpdehegaaDoorInts
import Derived.Test.YtkhloanpdehegaaDoorMut
namespace Go.Proofs.YtkhloanpdehegaaDoor
open Go Go.RowKit Go.Shelf
set_option linter.unusedSimpArgs false
set_option linter.unusedVariables false

attribute [local go_sem] Oper.semAt_some
theorem cell_other {W : World} {p q : Addr} {v u : Value} (h : W.cell? p = some v) (hne : p.block ≠ q.block) : (W.setCell q u).cell? p = some v :=
  ((Keep.setCell (p := (· = q.block)) u rfl : Keep (· = q.block) W (W.setCell q u))).cell h hne
def isSlI (n : Nat) (M : List Int) : Value → World → Prop := fun v w => ∃ ao cap, v = .slice ao n cap ∧ Sl w 1 ao n cap (iv M)
theorem isSlI_stable (n : Nat) (M : List Int) : Stable Same (isSlI n M) := fun _ _ _ k ⟨ao, cap, h1, h2⟩ => ⟨ao, cap, h1, h2.same k⟩
set_option maxRecDepth 100000 in
set_option maxHeartbeats 3200000 in
theorem walk_MaskGoes (w : World) (a : Int) (ha : (Lit.int .u64 a).wf = true) (leave : Int) (hlv : (Lit.int .i64 leave).wf = true) (hT : Tab w) :
    Calls Tryd.prog 3 #[.int .u64 a, .int .i64 leave] w fun e w' => e = .returned (.bool true) ∧ Same w w' := by
  obtain ⟨m, rfl, hm⟩ := u64_nat ha
  clear ha hlv
  obtain ⟨N, hN65, hN⟩ : ∃ x : Nat, x < 65 ∧ wrap64 ((IntKind.u64.wrap leave).tmod 65) = (x : Int) := uint_rem leave 65 (by omega) (by omega)
  have hall := Lib.hid (fun w => callsIn_wide.1 (all_in 8 m w))
  have hst := Lib.hid (fun Bm n₀ w h1 h2 h3 => all_stops 8 (by omega) Bm n₀ m hm w h1 h2 h3)
  have hle := Lib.hid (mlist_le m)
  have heq := eql_func
  refine (callsIn_wide (n := 9)).1 ?_
  refine callsIn_of_wp_marks Tryd.func3 rfl trivial ?_ rfl
  refine wpIn_wide.2 ?_
  simp only [Tryd.ntmps3, List.size_toArray, List.length_cons, List.length_nil, Nat.reduceAdd, Nat.reduceSub, Array.replicate_succ, Array.replicate_zero, List.push_toArray, List.append_toArray, List.nil_append, List.cons_append]
  go_wp2_with (first | (refine (hall.out _).mono ?_; rintro e w' ⟨rfl, rfl⟩) | (simp only [heq]))
  rw [hN]
  have z1 : ((w.alloc (.cells #[.int .u64 m] 22)).alloc (.cells #[.int .i64 N] 3)).heap.size = w.heap.size + 2 := by simp
  have cm := (box_one w (.int .u64 m) 22).1
  have cn := (box_one (w.alloc (.cells #[.int .u64 m] 22)) (.int .i64 N) 3).1
  have ck := box_one ((w.alloc (.cells #[.int .u64 m] 22)).alloc (.cells #[.int .i64 N] 3)) (.int .i64 0) 3
  rw [World.size_alloc] at cn
  rw [World.size_alloc, World.size_alloc] at ck
  have s1 : Same (w.alloc (.cells #[.int .u64 m] 22)) (((w.alloc (.cells #[.int .u64 m] 22)).alloc (.cells #[.int .i64 N] 3)).alloc (.cells #[.int .i64 0] 3)) := (Same.refl.alloc _).alloc _
  have s2 : Same ((w.alloc (.cells #[.int .u64 m] 22)).alloc (.cells #[.int .i64 N] 3)) (((w.alloc (.cells #[.int .u64 m] 22)).alloc (.cells #[.int .i64 N] 3)).alloc (.cells #[.int .i64 0] 3)) := Same.refl.alloc _
  have s0 : Same w (((w.alloc (.cells #[.int .u64 m] 22)).alloc (.cells #[.int .i64 N] 3)).alloc (.cells #[.int .i64 0] 3)) := (Same.refl.alloc _).trans s1
  replace cm := s1.cell cm
  replace cn := s2.cell cn
  have hgl := hT.lt
  have hseq := hst.out w.heap.size w.heap.size _ hgl cm (hT.same s0)
  obtain ⟨w2, hw2⟩ : ∃ w2, w2 = ((w.alloc (.cells #[.int .u64 m] 22)).alloc (.cells #[.int .i64 N] 3)).alloc (.cells #[.int .i64 0] 3) := ⟨_, rfl⟩
  have z2 : w2.heap.size = w.heap.size + 3 := by rw [hw2]; simp
  rw [← hw2] at hseq s0 cn ck ⊢
  clear hw2 s1 s2 cm z1 hst hall
  have hmany := fun w h => many_any m w hm h
  have hallm := fun w h => lawall_any m w hm h
  have hlist := fun w => rlist_any m w hm
  have hlives := fun w h => lives8 w h
  obtain ⟨L, hL⟩ : ∃ L, L = (mlist m).length := ⟨_, rfl⟩
  rw [← hL] at hmany hle
  unfold RetI at hallm hlist
  rw [nints_length, ← hL] at hallm hlist
  obtain ⟨M, hM⟩ : ∃ M, M = nints (mlist m) := ⟨_, rfl⟩
  rw [← hM] at hallm hlist
  have hints := fun ao1 c1 ao2 c2 w h1 h2 => ints_any ao1 L c1 M ao2 L c2 M w h1 h2
  rw [decide_eq_true rfl] at hints
  replace hmany := Lib.hid hmany
  replace hallm := Lib.hid hallm
  replace hlist := Lib.hid hlist
  replace hlives := Lib.hid hlives
  replace hints := Lib.hid hints
  replace hM := Lib.hid hM
  replace hT := Lib.hid hT
  refine (wpIn_wide (n := 9)).1 ?_
  refine wpIn_rangeFunc_ownF rfl (by omega) (gf := 43) (lb := #[.pointer (some ⟨w.heap.size, 0, none⟩)]) rfl trivial (enters_of Tryd.func43 (by kernel_rfl) rfl)
    hseq belowK_t (belowK_b (by omega)) (Below.refl _ _) (fun _ => rfl)
    (fun pre W => (W.cell? ⟨w.heap.size + 1, 0, none⟩ = some (.int .i64 N) ∧ W.cell? ⟨w.heap.size + 1 + 1, 0, none⟩ = some (.int .i64 (pre.length : Nat)) ∧ W.frozen? ⟨w.heap.size + 1 + 1, 0, none⟩ = false ∧ pre.length ≤ N) ∧ Below w.heap.size w W)
    (fun c pre W => (W.cell? ⟨w.heap.size + 1, 0, none⟩ = some (.int .i64 N) ∧ W.cell? ⟨w.heap.size + 1 + 1, 0, none⟩ = some (.int .i64 N) ∧ c = .exit 0 ∧ N < pre.length) ∧ Below w.heap.size w W)
    (OwnFrom.and (Own.from (fun s A B row hs hg hr => ⟨cell_kept hs.1 hg hr, cell_kept hs.2.1 hg hr, (frozen_kept hs.2.1 hg hr).trans hs.2.2.1, hs.2.2.2⟩) _) (ownFrom_below (Nat.le_refl _) (by omega)))
    (fun c => OwnFrom.and (Own.from (fun s A B row hs hg hr => ⟨cell_kept hs.1 hg hr, cell_kept hs.2.1 hg hr, hs.2.2⟩) _) (ownFrom_below (Nat.le_refl _) (by omega)))
    ⟨⟨cn, ck.1, ck.2, Nat.zero_le _⟩, s0⟩
    (fun x => { tmps := #[.int .u64 m, .int .i64 leave, undef, undef, .bool false, .func (.func 43) #[] #[.pointer (some ⟨w.heap.size, 0, none⟩)], .pointer (some ⟨w.heap.size + 1, 0, none⟩), .pointer (some ⟨w.heap.size + 1 + 1, 0, none⟩), .int .u64 m, .func (.func 43) #[] #[.pointer (some ⟨w.heap.size, 0, none⟩)], .func (.func 43) #[] #[.pointer (some ⟨w.heap.size, 0, none⟩)], .bool false, .int .i64 leave, .int .u64 (IntKind.u64.wrap leave), .int .u64 ((IntKind.u64.wrap leave).tmod 65), .int .i64 N, .func (.func 43) #[] #[.pointer (some ⟨w.heap.size, 0, none⟩)], .int .i64 (x : Nat), undef, undef, undef, undef, undef, undef, undef, undef, undef, undef, undef, undef, undef, undef, undef, undef, undef, undef, undef, undef, undef, undef, undef, undef, undef, undef, undef, undef], defers := [] }) ?assign ?body ?done ?stop
  case assign =>
    intro l x W K hK
    simp only [encN]
    gi_wp2
    first | exact hK | simpa [Array.zip] using hK
  case body =>
    rintro lp pre x W ⟨⟨hn, hc, hf, hpn⟩, hB⟩ hlen
    have e : ((pre ++ [x]).length : Int) = (pre.length : Int) + 1 := by simp
    have e2 : (pre ++ [x]).length = pre.length + 1 := by simp
    obtain ⟨k, hk⟩ : ∃ k, k = pre.length := ⟨_, rfl⟩
    rw [← hk] at hc hlen e e2 hpn
    replace e := Lib.hid e
    replace e2 := Lib.hid e2
    clear hk
    by_cases hkn : k = N
    · subst hkn
      have d : ((k : Int) == (k : Int)) = true := by simp
      gi_wp2
      exact ⟨KeepsOthers.refl _, ⟨hn, hc, rfl, by rw [e2.out]; omega⟩, hB⟩
    · have d : ((k : Int) == (N : Int)) = false := by simp; omega
      gi_wp2
      exact ⟨KeepsOthers.setCell _ _ _, (Below.refl w.heap.size W).setCell (p := ⟨w.heap.size + 1 + 1, 0, none⟩) (by show w.heap.size ≤ w.heap.size + 1 + 1; omega) _, ⟨cell_other hn (by simp), by rw [e.out]; exact World.cell?_setCell_same' _ _ _ (by rw [hc]; rfl), by rw [World.frozen?_setCell]; exact hf, by rw [e2.out]; omega⟩, hB.setCell (p := ⟨w.heap.size + 1 + 1, 0, none⟩) (by show w.heap.size ≤ w.heap.size + 1 + 1; omega) _⟩
  case done =>
    rintro D ys W hD rfl ⟨⟨hn, hc, hf, hpn⟩, hB⟩ hK
    rw [← hL] at hpn hc
    replace hL := Lib.hid hL
    by_cases hln : L < N
    · have hd1 : ((L : Int) < (N : Int)) = True := by simp; omega
      have hd2 : ((N : Int) < (L : Int)) = False := by simp; omega
      clear hln
      have hTW := Lib.hid (hT.out.below hB hgl)
      have hmin : min (N : Int) (L : Int) = (L : Int) := by omega
      have hee : ((L : Int) == (L : Int)) = true := by simp
      replace hB := Lib.hid hB
      replace hK := Lib.hid hK
      clear heq s0 cn ck hseq
      go_upto_region 9 with fail
      refine wp_region_last (by kernel_rfl) [(23, 0), (24, 1), (25, 2), (26, 3), (27, 4), (28, 5), (29, 6), (30, 7), (31, 8), (32, 9), (33, 10), (34, 11), (35, 12), (36, 13), (37, 14), (38, 15), (39, 16), (40, 17), (41, 18), (42, 19), (43, 20), (44, 21), (45, 22), (4, 23)] Same (Same _) [isV (.int .i64 L), isV (.int .i64 N), isV (.int .u64 m), isV (.int .i64 L), isV (.int .i64 L), isV (.bool true), isV (.bool true), isV (.int .u64 m), isSlI L M, isV (.int .u64 m), isSlI L M, isV (.bool true), isV (.bool true), isV (.bool true), isV (.int .u64 m), isSlI L M, isV (.int .u64 m), isSlI L M, isV (.bool true), isV (.bool true), isV (.bool true), isV (.bool true), isV (.bool true)] Same.refl.drew (fun _ _ h k => h.trans k) (by simp [isV_stable, isB_stable, isAny_stable, isSlI_stable]) (by decide) (l := [_, _, _, _, _, _, _, _, _, _, _, _, _, _, _, _, _, _, _, _, _, _, _]) rfl (by decide) (by decide) ?_ ?_
      · refine ⟨?_, ?_, ?_, ?_, ?_, ?_, ?_, ?_, ?_, ?_, ?_, ?_, ?_, ?_, ?_, ?_, ?_, ?_, ?_, ?_, ?_, ?_, ?_, trivial⟩
        all_goals (intro u wx hI hp; simp only [mkAct, List.foldl_cons, List.foldl_nil, List.setIfInBounds_toArray, List.set_cons_succ, List.set_cons_zero])
        · -- operation 0
          have cx := hI.cell (hc)
          go_wp2
          refine stq_v rfl Same.refl ?_
          first | (simp only [mkAct, List.foldl_cons, List.foldl_nil, List.setIfInBounds_toArray, List.set_cons_succ, List.set_cons_zero, upd, reduceIte, Nat.reduceEqDiff, Nat.reduceAdd, str]; done) | (simp [mkAct, upd, str, *]; done)
        · -- operation 1
          have cx := hI.cell (hn)
          go_wp2
          refine stq_v rfl Same.refl ?_
          first | (simp only [mkAct, List.foldl_cons, List.foldl_nil, List.setIfInBounds_toArray, List.set_cons_succ, List.set_cons_zero, upd, reduceIte, Nat.reduceEqDiff, Nat.reduceAdd, str]; done) | (simp [mkAct, upd, str, *]; done)
        · -- operation 2
          go_wp2
          refine stq_v rfl Same.refl ?_
          first | (simp only [mkAct, List.foldl_cons, List.foldl_nil, List.setIfInBounds_toArray, List.set_cons_succ, List.set_cons_zero, upd, reduceIte, Nat.reduceEqDiff, Nat.reduceAdd, str]; done) | (simp [mkAct, upd, str, *]; done)
        · -- operation 3
          obtain ⟨f2, -⟩ := hp
          replace f2 : u 2 = (.int .u64 m) := f2
          try simp only [f2, str]
          go_wp2_with fail
          refine (hmany.out _ (hTW.out.same hI)).mono ?_
          rintro e w1 ⟨rfl, hs'⟩
          go_wp2
          refine stq_v rfl hs' ?_
          first | (simp only [mkAct, List.foldl_cons, List.foldl_nil, List.setIfInBounds_toArray, List.set_cons_succ, List.set_cons_zero, upd, reduceIte, Nat.reduceEqDiff, Nat.reduceAdd, f2, str]; done) | (simp [mkAct, upd, f2, str, *]; done)
        · -- operation 4
          obtain ⟨f1, f3, -⟩ := hp
          replace f1 : u 1 = (.int .i64 N) := f1
          replace f3 : u 3 = (.int .i64 L) := f3
          try simp only [f1, f3, str]
          go_wp2
          refine stq_v rfl Same.refl ?_
          first | (simp only [mkAct, List.foldl_cons, List.foldl_nil, List.setIfInBounds_toArray, List.set_cons_succ, List.set_cons_zero, upd, reduceIte, Nat.reduceEqDiff, Nat.reduceAdd, f1, f3, str]; done) | (simp [mkAct, upd, f1, f3, str, *]; done)
        · -- operation 5
          obtain ⟨f0, f4, -⟩ := hp
          replace f0 : u 0 = (.int .i64 L) := f0
          replace f4 : u 4 = (.int .i64 L) := f4
          try simp only [f0, f4, str]
          go_wp2
          refine stq_v rfl Same.refl ?_
          first | (simp only [mkAct, List.foldl_cons, List.foldl_nil, List.setIfInBounds_toArray, List.set_cons_succ, List.set_cons_zero, upd, reduceIte, Nat.reduceEqDiff, Nat.reduceAdd, f0, f4, str]; done) | (simp [mkAct, upd, f0, f4, str, *]; done)
        · -- operation 6
          obtain ⟨f5, -, -⟩ := hp
          replace f5 : u 5 = (.bool true) := f5
          try simp only [f5, str]
          go_wp2
          refine stq_v rfl Same.refl ?_
          first | (simp only [mkAct, List.foldl_cons, List.foldl_nil, List.setIfInBounds_toArray, List.set_cons_succ, List.set_cons_zero, upd, reduceIte, Nat.reduceEqDiff, Nat.reduceAdd, f5, str]; done) | (simp [mkAct, upd, f5, str, *]; done)
        · -- operation 7
          obtain ⟨f6, -⟩ := hp
          replace f6 : u 6 = (.bool true) := f6
          try simp only [f6, str]
          go_wp2
          refine stq_v rfl Same.refl ?_
          first | (simp only [mkAct, List.foldl_cons, List.foldl_nil, List.setIfInBounds_toArray, List.set_cons_succ, List.set_cons_zero, upd, reduceIte, Nat.reduceEqDiff, Nat.reduceAdd, f6, str]; done) | (simp [mkAct, upd, f6, str, *]; done)
        · -- operation 8
          obtain ⟨f7, -, f6, -⟩ := hp
          replace f7 : u 7 = (.int .u64 m) := f7
          replace f6 : u 6 = (.bool true) := f6
          try simp only [f7, f6, str]
          go_wp2_with fail
          refine (hallm.out _ (hTW.out.same hI)).mono ?_
          rintro e w5 ⟨v5, rfl, ho5, hs5⟩
          obtain ⟨qo, qc, rfl, hq⟩ := ho5.sl
          go_wp2
          refine stq_x (.slice qo L qc) rfl ⟨qo, qc, rfl, hq⟩ hs5 ?_
          first | (simp only [mkAct, List.foldl_cons, List.foldl_nil, List.setIfInBounds_toArray, List.set_cons_succ, List.set_cons_zero, upd, reduceIte, Nat.reduceEqDiff, Nat.reduceAdd, f7, f6, str]; done) | (simp [mkAct, upd, f7, f6, str, *]; done)
        · -- operation 9
          obtain ⟨f6, -⟩ := hp
          replace f6 : u 6 = (.bool true) := f6
          try simp only [f6, str]
          go_wp2
          refine stq_v rfl Same.refl ?_
          first | (simp only [mkAct, List.foldl_cons, List.foldl_nil, List.setIfInBounds_toArray, List.set_cons_succ, List.set_cons_zero, upd, reduceIte, Nat.reduceEqDiff, Nat.reduceAdd, f6, str]; done) | (simp [mkAct, upd, f6, str, *]; done)
        · -- operation 10
          obtain ⟨f9, -, f6, -⟩ := hp
          replace f9 : u 9 = (.int .u64 m) := f9
          replace f6 : u 6 = (.bool true) := f6
          try simp only [f9, f6, str]
          go_wp2_with fail
          refine (hlist.out _).mono ?_
          rintro e w5 ⟨v5, rfl, ho5, hs5⟩
          obtain ⟨qo, qc, rfl, hq⟩ := ho5.sl
          go_wp2
          refine stq_x (.slice qo L qc) rfl ⟨qo, qc, rfl, hq⟩ hs5 ?_
          first | (simp only [mkAct, List.foldl_cons, List.foldl_nil, List.setIfInBounds_toArray, List.set_cons_succ, List.set_cons_zero, upd, reduceIte, Nat.reduceEqDiff, Nat.reduceAdd, f9, f6, str]; done) | (simp [mkAct, upd, f9, f6, str, *]; done)
        · -- operation 11
          obtain ⟨f8, f10, -, f6, -⟩ := hp
          replace f6 : u 6 = (.bool true) := f6
          try simp only [f6, str]
          obtain ⟨qo, qc, e1, hq⟩ := f8
          obtain ⟨qo2, qc2, e2, hq2⟩ := f10
          replace e1 : u 8 = .slice qo L qc := e1
          replace e2 : u 10 = .slice qo2 L qc2 := e2
          simp only [e1, e2]
          replace e1 := Lib.hid e1
          replace e2 := Lib.hid e2
          go_wp2_with fail
          refine (hints.out _ _ _ _ _ hq hq2).mono ?_
          rintro e w5 ⟨rfl, hs5⟩
          go_wp2
          replace e1 := e1.out
          replace e2 := e2.out
          refine stq_x (.bool true) rfl rfl hs5 ?_
          first | (simp only [mkAct, List.foldl_cons, List.foldl_nil, List.setIfInBounds_toArray, List.set_cons_succ, List.set_cons_zero, upd, reduceIte, Nat.reduceEqDiff, Nat.reduceAdd, f6, str]; done) | (simp [mkAct, upd, f6, str, *]; done)
        · -- operation 12
          obtain ⟨f6, f11, -⟩ := hp
          replace f6 : u 6 = (.bool true) := f6
          replace f11 : u 11 = (.bool true) := f11
          try simp only [f6, f11, str]
          go_wp2
          refine stq_v rfl Same.refl ?_
          first | (simp only [mkAct, List.foldl_cons, List.foldl_nil, List.setIfInBounds_toArray, List.set_cons_succ, List.set_cons_zero, upd, reduceIte, Nat.reduceEqDiff, Nat.reduceAdd, f6, f11, str]; done) | (simp [mkAct, upd, f6, f11, str, *]; done)
        · -- operation 13
          obtain ⟨f12, -, -⟩ := hp
          replace f12 : u 12 = (.bool true) := f12
          try simp only [f12, str]
          go_wp2
          refine stq_v rfl Same.refl ?_
          first | (simp only [mkAct, List.foldl_cons, List.foldl_nil, List.setIfInBounds_toArray, List.set_cons_succ, List.set_cons_zero, upd, reduceIte, Nat.reduceEqDiff, Nat.reduceAdd, f12, str]; done) | (simp [mkAct, upd, f12, str, *]; done)
        · -- operation 14
          obtain ⟨f13, -⟩ := hp
          replace f13 : u 13 = (.bool true) := f13
          try simp only [f13, str]
          go_wp2
          refine stq_v rfl Same.refl ?_
          first | (simp only [mkAct, List.foldl_cons, List.foldl_nil, List.setIfInBounds_toArray, List.set_cons_succ, List.set_cons_zero, upd, reduceIte, Nat.reduceEqDiff, Nat.reduceAdd, f13, str]; done) | (simp [mkAct, upd, f13, str, *]; done)
        · -- operation 15
          obtain ⟨f14, -, f13, -⟩ := hp
          replace f14 : u 14 = (.int .u64 m) := f14
          replace f13 : u 13 = (.bool true) := f13
          try simp only [f14, f13, str]
          go_wp2_with fail
          refine (hallm.out _ (hTW.out.same hI)).mono ?_
          rintro e w5 ⟨v5, rfl, ho5, hs5⟩
          obtain ⟨qo, qc, rfl, hq⟩ := ho5.sl
          go_wp2
          refine stq_x (.slice qo L qc) rfl ⟨qo, qc, rfl, hq⟩ hs5 ?_
          first | (simp only [mkAct, List.foldl_cons, List.foldl_nil, List.setIfInBounds_toArray, List.set_cons_succ, List.set_cons_zero, upd, reduceIte, Nat.reduceEqDiff, Nat.reduceAdd, f14, f13, str]; done) | (simp [mkAct, upd, f14, f13, str, *]; done)
        · -- operation 16
          obtain ⟨f13, -⟩ := hp
          replace f13 : u 13 = (.bool true) := f13
          try simp only [f13, str]
          go_wp2
          refine stq_v rfl Same.refl ?_
          first | (simp only [mkAct, List.foldl_cons, List.foldl_nil, List.setIfInBounds_toArray, List.set_cons_succ, List.set_cons_zero, upd, reduceIte, Nat.reduceEqDiff, Nat.reduceAdd, f13, str]; done) | (simp [mkAct, upd, f13, str, *]; done)
        · -- operation 17
          obtain ⟨f16, -, f13, -⟩ := hp
          replace f16 : u 16 = (.int .u64 m) := f16
          replace f13 : u 13 = (.bool true) := f13
          try simp only [f16, f13, str]
          go_wp2_with fail
          refine (hallm.out _ (hTW.out.same hI)).mono ?_
          rintro e w5 ⟨v5, rfl, ho5, hs5⟩
          obtain ⟨qo, qc, rfl, hq⟩ := ho5.sl
          go_wp2
          refine stq_x (.slice qo L qc) rfl ⟨qo, qc, rfl, hq⟩ hs5 ?_
          first | (simp only [mkAct, List.foldl_cons, List.foldl_nil, List.setIfInBounds_toArray, List.set_cons_succ, List.set_cons_zero, upd, reduceIte, Nat.reduceEqDiff, Nat.reduceAdd, f16, f13, str]; done) | (simp [mkAct, upd, f16, f13, str, *]; done)
        · -- operation 18
          obtain ⟨f15, f17, -, f13, -⟩ := hp
          replace f13 : u 13 = (.bool true) := f13
          try simp only [f13, str]
          obtain ⟨qo, qc, e1, hq⟩ := f15
          obtain ⟨qo2, qc2, e2, hq2⟩ := f17
          replace e1 : u 15 = .slice qo L qc := e1
          replace e2 : u 17 = .slice qo2 L qc2 := e2
          simp only [e1, e2]
          replace e1 := Lib.hid e1
          replace e2 := Lib.hid e2
          go_wp2_with fail
          refine (hints.out _ _ _ _ _ hq hq2).mono ?_
          rintro e w5 ⟨rfl, hs5⟩
          go_wp2
          replace e1 := e1.out
          replace e2 := e2.out
          refine stq_x (.bool true) rfl rfl hs5 ?_
          first | (simp only [mkAct, List.foldl_cons, List.foldl_nil, List.setIfInBounds_toArray, List.set_cons_succ, List.set_cons_zero, upd, reduceIte, Nat.reduceEqDiff, Nat.reduceAdd, f13, str]; done) | (simp [mkAct, upd, f13, str, *]; done)
        · -- operation 19
          obtain ⟨f13, f18, -⟩ := hp
          replace f13 : u 13 = (.bool true) := f13
          replace f18 : u 18 = (.bool true) := f18
          try simp only [f13, f18, str]
          go_wp2
          refine stq_v rfl Same.refl ?_
          first | (simp only [mkAct, List.foldl_cons, List.foldl_nil, List.setIfInBounds_toArray, List.set_cons_succ, List.set_cons_zero, upd, reduceIte, Nat.reduceEqDiff, Nat.reduceAdd, f13, f18, str]; done) | (simp [mkAct, upd, f13, f18, str, *]; done)
        · -- operation 20
          obtain ⟨f19, -, -⟩ := hp
          replace f19 : u 19 = (.bool true) := f19
          try simp only [f19, str]
          go_wp2
          refine stq_v rfl Same.refl ?_
          first | (simp only [mkAct, List.foldl_cons, List.foldl_nil, List.setIfInBounds_toArray, List.set_cons_succ, List.set_cons_zero, upd, reduceIte, Nat.reduceEqDiff, Nat.reduceAdd, f19, str]; done) | (simp [mkAct, upd, f19, str, *]; done)
        · -- operation 21
          obtain ⟨-, f20, -⟩ := hp
          replace f20 : u 20 = (.bool true) := f20
          try simp only [f20, str]
          go_wp2_with fail
          refine (hlives.out _ (hTW.out.same hI)).mono ?_
          rintro e w1 ⟨rfl, hs'⟩
          go_wp2
          refine stq_v rfl hs' ?_
          first | (simp only [mkAct, List.foldl_cons, List.foldl_nil, List.setIfInBounds_toArray, List.set_cons_succ, List.set_cons_zero, upd, reduceIte, Nat.reduceEqDiff, Nat.reduceAdd, f20, str]; done) | (simp [mkAct, upd, f20, str, *]; done)
        · -- operation 22
          obtain ⟨f20, f21, -⟩ := hp
          replace f20 : u 20 = (.bool true) := f20
          replace f21 : u 21 = (.bool true) := f21
          try simp only [f20, f21, str]
          go_wp2
          refine stq_v rfl Same.refl ?_
          first | (simp only [mkAct, List.foldl_cons, List.foldl_nil, List.setIfInBounds_toArray, List.set_cons_succ, List.set_cons_zero, upd, reduceIte, Nat.reduceEqDiff, Nat.reduceAdd, f20, f21, str]; done) | (simp [mkAct, upd, f20, f21, str, *]; done)
      · intro u wx hI hR
        obtain ⟨r0, r1, r2, r3, r4, r5, r6, r7, r8, r9, r10, r11, r12, r13, r14, r15, r16, r17, r18, r19, r20, r21, r22, -⟩ := hR
        replace r0 : u 0 = (.int .i64 L) := r0
        replace r1 : u 1 = (.int .i64 N) := r1
        replace r2 : u 2 = (.int .u64 m) := r2
        replace r3 : u 3 = (.int .i64 L) := r3
        replace r4 : u 4 = (.int .i64 L) := r4
        replace r5 : u 5 = (.bool true) := r5
        replace r6 : u 6 = (.bool true) := r6
        replace r7 : u 7 = (.int .u64 m) := r7
        replace r9 : u 9 = (.int .u64 m) := r9
        replace r11 : u 11 = (.bool true) := r11
        replace r12 : u 12 = (.bool true) := r12
        replace r13 : u 13 = (.bool true) := r13
        replace r14 : u 14 = (.int .u64 m) := r14
        replace r16 : u 16 = (.int .u64 m) := r16
        replace r18 : u 18 = (.bool true) := r18
        replace r19 : u 19 = (.bool true) := r19
        replace r20 : u 20 = (.bool true) := r20
        replace r21 : u 21 = (.bool true) := r21
        replace r22 : u 22 = (.bool true) := r22
        simp only [mkAct, List.foldl_cons, List.foldl_nil, List.setIfInBounds_toArray, List.set_cons_succ, List.set_cons_zero]
        try simp only [str, r0, r1, r2, r3, r4, r5, r6, r7, r9, r11, r12, r13, r14, r16, r18, r19, r20, r21, r22]
        have hK2 := (hI.block D (blk_lt hK.out)).trans hK.out
        go_wp2
        refine ⟨by simp, .inl ⟨_, _, rfl, run_takeDeferred hK2, ?_⟩⟩
        exact ⟨_, results_tmp rfl _ _ _, rfl, (hB.out.trans (hI.mono hB.out.size)).trans (belowK_b (w := w) (Nat.le_refl _) wx D _ _ (by omega) hK2 rfl rfl)⟩
    · obtain rfl : L = N := by omega
      have hd1 : ((L : Int) < (L : Int)) = False := by simp
      clear hln
      have hTW := Lib.hid (hT.out.below hB hgl)
      have hmin : min (L : Int) (L : Int) = (L : Int) := by omega
      have hee : ((L : Int) == (L : Int)) = true := by simp
      replace hB := Lib.hid hB
      replace hK := Lib.hid hK
      clear heq s0 cn ck hseq
      go_upto_region 9 with fail
      refine wp_region_last (by kernel_rfl) [(23, 0), (24, 1), (25, 2), (26, 3), (27, 4), (28, 5), (29, 6), (30, 7), (31, 8), (32, 9), (33, 10), (34, 11), (35, 12), (36, 13), (37, 14), (38, 15), (39, 16), (40, 17), (41, 18), (42, 19), (43, 20), (44, 21), (45, 22), (4, 23)] Same (Same _) [isV (.int .i64 L), isV (.int .i64 L), isV (.int .u64 m), isV (.int .i64 L), isV (.int .i64 L), isV (.bool true), isV (.bool true), isV (.int .u64 m), isSlI L M, isV (.int .u64 m), isSlI L M, isV (.bool true), isV (.bool true), isV (.bool true), isV (.int .u64 m), isSlI L M, isV (.int .u64 m), isSlI L M, isV (.bool true), isV (.bool true), isV (.bool true), isV (.bool true), isV (.bool true)] Same.refl.drew (fun _ _ h k => h.trans k) (by simp [isV_stable, isB_stable, isAny_stable, isSlI_stable]) (by decide) (l := [_, _, _, _, _, _, _, _, _, _, _, _, _, _, _, _, _, _, _, _, _, _, _]) rfl (by decide) (by decide) ?_ ?_
      · refine ⟨?_, ?_, ?_, ?_, ?_, ?_, ?_, ?_, ?_, ?_, ?_, ?_, ?_, ?_, ?_, ?_, ?_, ?_, ?_, ?_, ?_, ?_, ?_, trivial⟩
        all_goals (intro u wx hI hp; simp only [mkAct, List.foldl_cons, List.foldl_nil, List.setIfInBounds_toArray, List.set_cons_succ, List.set_cons_zero])
        · -- operation 0
          have cx := hI.cell (hc)
          go_wp2
          refine stq_v rfl Same.refl ?_
          first | (simp only [mkAct, List.foldl_cons, List.foldl_nil, List.setIfInBounds_toArray, List.set_cons_succ, List.set_cons_zero, upd, reduceIte, Nat.reduceEqDiff, Nat.reduceAdd, str]; done) | (simp [mkAct, upd, str, *]; done)
        · -- operation 1
          have cx := hI.cell (hn)
          go_wp2
          refine stq_v rfl Same.refl ?_
          first | (simp only [mkAct, List.foldl_cons, List.foldl_nil, List.setIfInBounds_toArray, List.set_cons_succ, List.set_cons_zero, upd, reduceIte, Nat.reduceEqDiff, Nat.reduceAdd, str]; done) | (simp [mkAct, upd, str, *]; done)
        · -- operation 2
          go_wp2
          refine stq_v rfl Same.refl ?_
          first | (simp only [mkAct, List.foldl_cons, List.foldl_nil, List.setIfInBounds_toArray, List.set_cons_succ, List.set_cons_zero, upd, reduceIte, Nat.reduceEqDiff, Nat.reduceAdd, str]; done) | (simp [mkAct, upd, str, *]; done)
        · -- operation 3
          obtain ⟨f2, -⟩ := hp
          replace f2 : u 2 = (.int .u64 m) := f2
          try simp only [f2, str]
          go_wp2_with fail
          refine (hmany.out _ (hTW.out.same hI)).mono ?_
          rintro e w1 ⟨rfl, hs'⟩
          go_wp2
          refine stq_v rfl hs' ?_
          first | (simp only [mkAct, List.foldl_cons, List.foldl_nil, List.setIfInBounds_toArray, List.set_cons_succ, List.set_cons_zero, upd, reduceIte, Nat.reduceEqDiff, Nat.reduceAdd, f2, str]; done) | (simp [mkAct, upd, f2, str, *]; done)
        · -- operation 4
          obtain ⟨f1, f3, -⟩ := hp
          replace f1 : u 1 = (.int .i64 L) := f1
          replace f3 : u 3 = (.int .i64 L) := f3
          try simp only [f1, f3, str]
          go_wp2
          refine stq_v rfl Same.refl ?_
          first | (simp only [mkAct, List.foldl_cons, List.foldl_nil, List.setIfInBounds_toArray, List.set_cons_succ, List.set_cons_zero, upd, reduceIte, Nat.reduceEqDiff, Nat.reduceAdd, f1, f3, str]; done) | (simp [mkAct, upd, f1, f3, str, *]; done)
        · -- operation 5
          obtain ⟨f0, f4, -⟩ := hp
          replace f0 : u 0 = (.int .i64 L) := f0
          replace f4 : u 4 = (.int .i64 L) := f4
          try simp only [f0, f4, str]
          go_wp2
          refine stq_v rfl Same.refl ?_
          first | (simp only [mkAct, List.foldl_cons, List.foldl_nil, List.setIfInBounds_toArray, List.set_cons_succ, List.set_cons_zero, upd, reduceIte, Nat.reduceEqDiff, Nat.reduceAdd, f0, f4, str]; done) | (simp [mkAct, upd, f0, f4, str, *]; done)
        · -- operation 6
          obtain ⟨f5, -, -⟩ := hp
          replace f5 : u 5 = (.bool true) := f5
          try simp only [f5, str]
          go_wp2
          refine stq_v rfl Same.refl ?_
          first | (simp only [mkAct, List.foldl_cons, List.foldl_nil, List.setIfInBounds_toArray, List.set_cons_succ, List.set_cons_zero, upd, reduceIte, Nat.reduceEqDiff, Nat.reduceAdd, f5, str]; done) | (simp [mkAct, upd, f5, str, *]; done)
        · -- operation 7
          obtain ⟨f6, -⟩ := hp
          replace f6 : u 6 = (.bool true) := f6
          try simp only [f6, str]
          go_wp2
          refine stq_v rfl Same.refl ?_
          first | (simp only [mkAct, List.foldl_cons, List.foldl_nil, List.setIfInBounds_toArray, List.set_cons_succ, List.set_cons_zero, upd, reduceIte, Nat.reduceEqDiff, Nat.reduceAdd, f6, str]; done) | (simp [mkAct, upd, f6, str, *]; done)
        · -- operation 8
          obtain ⟨f7, -, f6, -⟩ := hp
          replace f7 : u 7 = (.int .u64 m) := f7
          replace f6 : u 6 = (.bool true) := f6
          try simp only [f7, f6, str]
          go_wp2_with fail
          refine (hallm.out _ (hTW.out.same hI)).mono ?_
          rintro e w5 ⟨v5, rfl, ho5, hs5⟩
          obtain ⟨qo, qc, rfl, hq⟩ := ho5.sl
          go_wp2
          refine stq_x (.slice qo L qc) rfl ⟨qo, qc, rfl, hq⟩ hs5 ?_
          first | (simp only [mkAct, List.foldl_cons, List.foldl_nil, List.setIfInBounds_toArray, List.set_cons_succ, List.set_cons_zero, upd, reduceIte, Nat.reduceEqDiff, Nat.reduceAdd, f7, f6, str]; done) | (simp [mkAct, upd, f7, f6, str, *]; done)
        · -- operation 9
          obtain ⟨f6, -⟩ := hp
          replace f6 : u 6 = (.bool true) := f6
          try simp only [f6, str]
          go_wp2
          refine stq_v rfl Same.refl ?_
          first | (simp only [mkAct, List.foldl_cons, List.foldl_nil, List.setIfInBounds_toArray, List.set_cons_succ, List.set_cons_zero, upd, reduceIte, Nat.reduceEqDiff, Nat.reduceAdd, f6, str]; done) | (simp [mkAct, upd, f6, str, *]; done)
        · -- operation 10
          obtain ⟨f9, -, f6, -⟩ := hp
          replace f9 : u 9 = (.int .u64 m) := f9
          replace f6 : u 6 = (.bool true) := f6
          try simp only [f9, f6, str]
          go_wp2_with fail
          refine (hlist.out _).mono ?_
          rintro e w5 ⟨v5, rfl, ho5, hs5⟩
          obtain ⟨qo, qc, rfl, hq⟩ := ho5.sl
          go_wp2
          refine stq_x (.slice qo L qc) rfl ⟨qo, qc, rfl, hq⟩ hs5 ?_
          first | (simp only [mkAct, List.foldl_cons, List.foldl_nil, List.setIfInBounds_toArray, List.set_cons_succ, List.set_cons_zero, upd, reduceIte, Nat.reduceEqDiff, Nat.reduceAdd, f9, f6, str]; done) | (simp [mkAct, upd, f9, f6, str, *]; done)
        · -- operation 11
          obtain ⟨f8, f10, -, f6, -⟩ := hp
          replace f6 : u 6 = (.bool true) := f6
          try simp only [f6, str]
          obtain ⟨qo, qc, e1, hq⟩ := f8
          obtain ⟨qo2, qc2, e2, hq2⟩ := f10
          replace e1 : u 8 = .slice qo L qc := e1
          replace e2 : u 10 = .slice qo2 L qc2 := e2
          simp only [e1, e2]
          replace e1 := Lib.hid e1
          replace e2 := Lib.hid e2
          go_wp2_with fail
          refine (hints.out _ _ _ _ _ hq hq2).mono ?_
          rintro e w5 ⟨rfl, hs5⟩
          go_wp2
          replace e1 := e1.out
          replace e2 := e2.out
          refine stq_x (.bool true) rfl rfl hs5 ?_
          first | (simp only [mkAct, List.foldl_cons, List.foldl_nil, List.setIfInBounds_toArray, List.set_cons_succ, List.set_cons_zero, upd, reduceIte, Nat.reduceEqDiff, Nat.reduceAdd, f6, str]; done) | (simp [mkAct, upd, f6, str, *]; done)
        · -- operation 12
          obtain ⟨f6, f11, -⟩ := hp
          replace f6 : u 6 = (.bool true) := f6
          replace f11 : u 11 = (.bool true) := f11
          try simp only [f6, f11, str]
          go_wp2
          refine stq_v rfl Same.refl ?_
          first | (simp only [mkAct, List.foldl_cons, List.foldl_nil, List.setIfInBounds_toArray, List.set_cons_succ, List.set_cons_zero, upd, reduceIte, Nat.reduceEqDiff, Nat.reduceAdd, f6, f11, str]; done) | (simp [mkAct, upd, f6, f11, str, *]; done)
        · -- operation 13
          obtain ⟨f12, -, -⟩ := hp
          replace f12 : u 12 = (.bool true) := f12
          try simp only [f12, str]
          go_wp2
          refine stq_v rfl Same.refl ?_
          first | (simp only [mkAct, List.foldl_cons, List.foldl_nil, List.setIfInBounds_toArray, List.set_cons_succ, List.set_cons_zero, upd, reduceIte, Nat.reduceEqDiff, Nat.reduceAdd, f12, str]; done) | (simp [mkAct, upd, f12, str, *]; done)
        · -- operation 14
          obtain ⟨f13, -⟩ := hp
          replace f13 : u 13 = (.bool true) := f13
          try simp only [f13, str]
          go_wp2
          refine stq_v rfl Same.refl ?_
          first | (simp only [mkAct, List.foldl_cons, List.foldl_nil, List.setIfInBounds_toArray, List.set_cons_succ, List.set_cons_zero, upd, reduceIte, Nat.reduceEqDiff, Nat.reduceAdd, f13, str]; done) | (simp [mkAct, upd, f13, str, *]; done)
        · -- operation 15
          obtain ⟨f14, -, f13, -⟩ := hp
          replace f14 : u 14 = (.int .u64 m) := f14
          replace f13 : u 13 = (.bool true) := f13
          try simp only [f14, f13, str]
          go_wp2_with fail
          refine (hallm.out _ (hTW.out.same hI)).mono ?_
          rintro e w5 ⟨v5, rfl, ho5, hs5⟩
          obtain ⟨qo, qc, rfl, hq⟩ := ho5.sl
          go_wp2
          refine stq_x (.slice qo L qc) rfl ⟨qo, qc, rfl, hq⟩ hs5 ?_
          first | (simp only [mkAct, List.foldl_cons, List.foldl_nil, List.setIfInBounds_toArray, List.set_cons_succ, List.set_cons_zero, upd, reduceIte, Nat.reduceEqDiff, Nat.reduceAdd, f14, f13, str]; done) | (simp [mkAct, upd, f14, f13, str, *]; done)
        · -- operation 16
          obtain ⟨f13, -⟩ := hp
          replace f13 : u 13 = (.bool true) := f13
          try simp only [f13, str]
          go_wp2
          refine stq_v rfl Same.refl ?_
          first | (simp only [mkAct, List.foldl_cons, List.foldl_nil, List.setIfInBounds_toArray, List.set_cons_succ, List.set_cons_zero, upd, reduceIte, Nat.reduceEqDiff, Nat.reduceAdd, f13, str]; done) | (simp [mkAct, upd, f13, str, *]; done)
        · -- operation 17
          obtain ⟨f16, -, f13, -⟩ := hp
          replace f16 : u 16 = (.int .u64 m) := f16
          replace f13 : u 13 = (.bool true) := f13
          try simp only [f16, f13, str]
          go_wp2_with fail
          refine (hallm.out _ (hTW.out.same hI)).mono ?_
          rintro e w5 ⟨v5, rfl, ho5, hs5⟩
          obtain ⟨qo, qc, rfl, hq⟩ := ho5.sl
          go_wp2
          refine stq_x (.slice qo L qc) rfl ⟨qo, qc, rfl, hq⟩ hs5 ?_
          first | (simp only [mkAct, List.foldl_cons, List.foldl_nil, List.setIfInBounds_toArray, List.set_cons_succ, List.set_cons_zero, upd, reduceIte, Nat.reduceEqDiff, Nat.reduceAdd, f16, f13, str]; done) | (simp [mkAct, upd, f16, f13, str, *]; done)
        · -- operation 18
          obtain ⟨f15, f17, -, f13, -⟩ := hp
          replace f13 : u 13 = (.bool true) := f13
          try simp only [f13, str]
          obtain ⟨qo, qc, e1, hq⟩ := f15
          obtain ⟨qo2, qc2, e2, hq2⟩ := f17
          replace e1 : u 15 = .slice qo L qc := e1
          replace e2 : u 17 = .slice qo2 L qc2 := e2
          simp only [e1, e2]
          replace e1 := Lib.hid e1
          replace e2 := Lib.hid e2
          go_wp2_with fail
          refine (hints.out _ _ _ _ _ hq hq2).mono ?_
          rintro e w5 ⟨rfl, hs5⟩
          go_wp2
          replace e1 := e1.out
          replace e2 := e2.out
          refine stq_x (.bool true) rfl rfl hs5 ?_
          first | (simp only [mkAct, List.foldl_cons, List.foldl_nil, List.setIfInBounds_toArray, List.set_cons_succ, List.set_cons_zero, upd, reduceIte, Nat.reduceEqDiff, Nat.reduceAdd, f13, str]; done) | (simp [mkAct, upd, f13, str, *]; done)
        · -- operation 19
          obtain ⟨f13, f18, -⟩ := hp
          replace f13 : u 13 = (.bool true) := f13
          replace f18 : u 18 = (.bool true) := f18
          try simp only [f13, f18, str]
          go_wp2
          refine stq_v rfl Same.refl ?_
          first | (simp only [mkAct, List.foldl_cons, List.foldl_nil, List.setIfInBounds_toArray, List.set_cons_succ, List.set_cons_zero, upd, reduceIte, Nat.reduceEqDiff, Nat.reduceAdd, f13, f18, str]; done) | (simp [mkAct, upd, f13, f18, str, *]; done)
        · -- operation 20
          obtain ⟨f19, -, -⟩ := hp
          replace f19 : u 19 = (.bool true) := f19
          try simp only [f19, str]
          go_wp2
          refine stq_v rfl Same.refl ?_
          first | (simp only [mkAct, List.foldl_cons, List.foldl_nil, List.setIfInBounds_toArray, List.set_cons_succ, List.set_cons_zero, upd, reduceIte, Nat.reduceEqDiff, Nat.reduceAdd, f19, str]; done) | (simp [mkAct, upd, f19, str, *]; done)
        · -- operation 21
          obtain ⟨-, f20, -⟩ := hp
          replace f20 : u 20 = (.bool true) := f20
          try simp only [f20, str]
          go_wp2_with fail
          refine (hlives.out _ (hTW.out.same hI)).mono ?_
          rintro e w1 ⟨rfl, hs'⟩
          go_wp2
          refine stq_v rfl hs' ?_
          first | (simp only [mkAct, List.foldl_cons, List.foldl_nil, List.setIfInBounds_toArray, List.set_cons_succ, List.set_cons_zero, upd, reduceIte, Nat.reduceEqDiff, Nat.reduceAdd, f20, str]; done) | (simp [mkAct, upd, f20, str, *]; done)
        · -- operation 22
          obtain ⟨f20, f21, -⟩ := hp
          replace f20 : u 20 = (.bool true) := f20
          replace f21 : u 21 = (.bool true) := f21
          try simp only [f20, f21, str]
          go_wp2
          refine stq_v rfl Same.refl ?_
          first | (simp only [mkAct, List.foldl_cons, List.foldl_nil, List.setIfInBounds_toArray, List.set_cons_succ, List.set_cons_zero, upd, reduceIte, Nat.reduceEqDiff, Nat.reduceAdd, f20, f21, str]; done) | (simp [mkAct, upd, f20, f21, str, *]; done)
      · intro u wx hI hR
        obtain ⟨r0, r1, r2, r3, r4, r5, r6, r7, r8, r9, r10, r11, r12, r13, r14, r15, r16, r17, r18, r19, r20, r21, r22, -⟩ := hR
        replace r0 : u 0 = (.int .i64 L) := r0
        replace r1 : u 1 = (.int .i64 L) := r1
        replace r2 : u 2 = (.int .u64 m) := r2
        replace r3 : u 3 = (.int .i64 L) := r3
        replace r4 : u 4 = (.int .i64 L) := r4
        replace r5 : u 5 = (.bool true) := r5
        replace r6 : u 6 = (.bool true) := r6
        replace r7 : u 7 = (.int .u64 m) := r7
        replace r9 : u 9 = (.int .u64 m) := r9
        replace r11 : u 11 = (.bool true) := r11
        replace r12 : u 12 = (.bool true) := r12
        replace r13 : u 13 = (.bool true) := r13
        replace r14 : u 14 = (.int .u64 m) := r14
        replace r16 : u 16 = (.int .u64 m) := r16
        replace r18 : u 18 = (.bool true) := r18
        replace r19 : u 19 = (.bool true) := r19
        replace r20 : u 20 = (.bool true) := r20
        replace r21 : u 21 = (.bool true) := r21
        replace r22 : u 22 = (.bool true) := r22
        simp only [mkAct, List.foldl_cons, List.foldl_nil, List.setIfInBounds_toArray, List.set_cons_succ, List.set_cons_zero]
        try simp only [str, r0, r1, r2, r3, r4, r5, r6, r7, r9, r11, r12, r13, r14, r16, r18, r19, r20, r21, r22]
        have hK2 := (hI.block D (blk_lt hK.out)).trans hK.out
        go_wp2
        refine ⟨by simp, .inl ⟨_, _, rfl, run_takeDeferred hK2, ?_⟩⟩
        exact ⟨_, results_tmp rfl _ _ _, rfl, (hB.out.trans (hI.mono hB.out.size)).trans (belowK_b (w := w) (Nat.le_refl _) wx D _ _ (by omega) hK2 rfl rfl)⟩
  case stop =>
    rintro D cc pre W hD hpre ⟨⟨hn, hc, rfl, hpn⟩, hB⟩ hK
    have hNL : N < L := by rw [hL]; exact Nat.lt_of_lt_of_le hpn hpre.length_le
    refine wpIn_wide.2 ?_
    replace hL := Lib.hid hL
    have hd1 : ((L : Int) < (N : Int)) = False := by simp; omega
    have hd2 : ((N : Int) < (L : Int)) = True := by simp; omega
    have hTW := Lib.hid (hT.out.below hB hgl)
    have hmin : min (N : Int) (L : Int) = (N : Int) := by omega
    have hee : ((N : Int) == (N : Int)) = true := by simp
    replace hB := Lib.hid hB
    replace hK := Lib.hid hK
    clear heq s0 cn ck hseq
    go_upto_region 9 with fail
    refine wp_region_last (by kernel_rfl) [(23, 0), (24, 1), (25, 2), (26, 3), (27, 4), (28, 5), (29, 6), (30, 7), (31, 8), (32, 9), (33, 10), (34, 11), (35, 12), (36, 13), (37, 14), (38, 15), (39, 16), (40, 17), (41, 18), (42, 19), (43, 20), (44, 21), (45, 22), (4, 23)] Same (Same _) [isV (.int .i64 N), isV (.int .i64 N), isV (.int .u64 m), isV (.int .i64 L), isV (.int .i64 N), isV (.bool true), isV (.bool true), isV (.int .u64 m), isSlI L M, isV (.int .u64 m), isSlI L M, isV (.bool true), isV (.bool true), isV (.bool true), isV (.int .u64 m), isSlI L M, isV (.int .u64 m), isSlI L M, isV (.bool true), isV (.bool true), isV (.bool true), isV (.bool true), isV (.bool true)] Same.refl.drew (fun _ _ h k => h.trans k) (by simp [isV_stable, isB_stable, isAny_stable, isSlI_stable]) (by decide) (l := [_, _, _, _, _, _, _, _, _, _, _, _, _, _, _, _, _, _, _, _, _, _, _]) rfl (by decide) (by decide) ?_ ?_
    · refine ⟨?_, ?_, ?_, ?_, ?_, ?_, ?_, ?_, ?_, ?_, ?_, ?_, ?_, ?_, ?_, ?_, ?_, ?_, ?_, ?_, ?_, ?_, ?_, trivial⟩
      all_goals (intro u wx hI hp; simp only [mkAct, List.foldl_cons, List.foldl_nil, List.setIfInBounds_toArray, List.set_cons_succ, List.set_cons_zero])
      · -- operation 0
        have cx := hI.cell (hc)
        go_wp2
        refine stq_v rfl Same.refl ?_
        first | (simp only [mkAct, List.foldl_cons, List.foldl_nil, List.setIfInBounds_toArray, List.set_cons_succ, List.set_cons_zero, upd, reduceIte, Nat.reduceEqDiff, Nat.reduceAdd, str]; done) | (simp [mkAct, upd, str, *]; done)
      · -- operation 1
        have cx := hI.cell (hn)
        go_wp2
        refine stq_v rfl Same.refl ?_
        first | (simp only [mkAct, List.foldl_cons, List.foldl_nil, List.setIfInBounds_toArray, List.set_cons_succ, List.set_cons_zero, upd, reduceIte, Nat.reduceEqDiff, Nat.reduceAdd, str]; done) | (simp [mkAct, upd, str, *]; done)
      · -- operation 2
        go_wp2
        refine stq_v rfl Same.refl ?_
        first | (simp only [mkAct, List.foldl_cons, List.foldl_nil, List.setIfInBounds_toArray, List.set_cons_succ, List.set_cons_zero, upd, reduceIte, Nat.reduceEqDiff, Nat.reduceAdd, str]; done) | (simp [mkAct, upd, str, *]; done)
      · -- operation 3
        obtain ⟨f2, -⟩ := hp
        replace f2 : u 2 = (.int .u64 m) := f2
        try simp only [f2, str]
        go_wp2_with fail
        refine (hmany.out _ (hTW.out.same hI)).mono ?_
        rintro e w1 ⟨rfl, hs'⟩
        go_wp2
        refine stq_v rfl hs' ?_
        first | (simp only [mkAct, List.foldl_cons, List.foldl_nil, List.setIfInBounds_toArray, List.set_cons_succ, List.set_cons_zero, upd, reduceIte, Nat.reduceEqDiff, Nat.reduceAdd, f2, str]; done) | (simp [mkAct, upd, f2, str, *]; done)
      · -- operation 4
        obtain ⟨f1, f3, -⟩ := hp
        replace f1 : u 1 = (.int .i64 N) := f1
        replace f3 : u 3 = (.int .i64 L) := f3
        try simp only [f1, f3, str]
        go_wp2
        refine stq_v rfl Same.refl ?_
        first | (simp only [mkAct, List.foldl_cons, List.foldl_nil, List.setIfInBounds_toArray, List.set_cons_succ, List.set_cons_zero, upd, reduceIte, Nat.reduceEqDiff, Nat.reduceAdd, f1, f3, str]; done) | (simp [mkAct, upd, f1, f3, str, *]; done)
      · -- operation 5
        obtain ⟨f0, f4, -⟩ := hp
        replace f0 : u 0 = (.int .i64 N) := f0
        replace f4 : u 4 = (.int .i64 N) := f4
        try simp only [f0, f4, str]
        go_wp2
        refine stq_v rfl Same.refl ?_
        first | (simp only [mkAct, List.foldl_cons, List.foldl_nil, List.setIfInBounds_toArray, List.set_cons_succ, List.set_cons_zero, upd, reduceIte, Nat.reduceEqDiff, Nat.reduceAdd, f0, f4, str]; done) | (simp [mkAct, upd, f0, f4, str, *]; done)
      · -- operation 6
        obtain ⟨f5, -, -⟩ := hp
        replace f5 : u 5 = (.bool true) := f5
        try simp only [f5, str]
        go_wp2
        refine stq_v rfl Same.refl ?_
        first | (simp only [mkAct, List.foldl_cons, List.foldl_nil, List.setIfInBounds_toArray, List.set_cons_succ, List.set_cons_zero, upd, reduceIte, Nat.reduceEqDiff, Nat.reduceAdd, f5, str]; done) | (simp [mkAct, upd, f5, str, *]; done)
      · -- operation 7
        obtain ⟨f6, -⟩ := hp
        replace f6 : u 6 = (.bool true) := f6
        try simp only [f6, str]
        go_wp2
        refine stq_v rfl Same.refl ?_
        first | (simp only [mkAct, List.foldl_cons, List.foldl_nil, List.setIfInBounds_toArray, List.set_cons_succ, List.set_cons_zero, upd, reduceIte, Nat.reduceEqDiff, Nat.reduceAdd, f6, str]; done) | (simp [mkAct, upd, f6, str, *]; done)
      · -- operation 8
        obtain ⟨f7, -, f6, -⟩ := hp
        replace f7 : u 7 = (.int .u64 m) := f7
        replace f6 : u 6 = (.bool true) := f6
        try simp only [f7, f6, str]
        go_wp2_with fail
        refine (hallm.out _ (hTW.out.same hI)).mono ?_
        rintro e w5 ⟨v5, rfl, ho5, hs5⟩
        obtain ⟨qo, qc, rfl, hq⟩ := ho5.sl
        go_wp2
        refine stq_x (.slice qo L qc) rfl ⟨qo, qc, rfl, hq⟩ hs5 ?_
        first | (simp only [mkAct, List.foldl_cons, List.foldl_nil, List.setIfInBounds_toArray, List.set_cons_succ, List.set_cons_zero, upd, reduceIte, Nat.reduceEqDiff, Nat.reduceAdd, f7, f6, str]; done) | (simp [mkAct, upd, f7, f6, str, *]; done)
      · -- operation 9
        obtain ⟨f6, -⟩ := hp
        replace f6 : u 6 = (.bool true) := f6
        try simp only [f6, str]
        go_wp2
        refine stq_v rfl Same.refl ?_
        first | (simp only [mkAct, List.foldl_cons, List.foldl_nil, List.setIfInBounds_toArray, List.set_cons_succ, List.set_cons_zero, upd, reduceIte, Nat.reduceEqDiff, Nat.reduceAdd, f6, str]; done) | (simp [mkAct, upd, f6, str, *]; done)
      · -- operation 10
        obtain ⟨f9, -, f6, -⟩ := hp
        replace f9 : u 9 = (.int .u64 m) := f9
        replace f6 : u 6 = (.bool true) := f6
        try simp only [f9, f6, str]
        go_wp2_with fail
        refine (hlist.out _).mono ?_
        rintro e w5 ⟨v5, rfl, ho5, hs5⟩
        obtain ⟨qo, qc, rfl, hq⟩ := ho5.sl
        go_wp2
        refine stq_x (.slice qo L qc) rfl ⟨qo, qc, rfl, hq⟩ hs5 ?_
        first | (simp only [mkAct, List.foldl_cons, List.foldl_nil, List.setIfInBounds_toArray, List.set_cons_succ, List.set_cons_zero, upd, reduceIte, Nat.reduceEqDiff, Nat.reduceAdd, f9, f6, str]; done) | (simp [mkAct, upd, f9, f6, str, *]; done)
      · -- operation 11
        obtain ⟨f8, f10, -, f6, -⟩ := hp
        replace f6 : u 6 = (.bool true) := f6
        try simp only [f6, str]
        obtain ⟨qo, qc, e1, hq⟩ := f8
        obtain ⟨qo2, qc2, e2, hq2⟩ := f10
        replace e1 : u 8 = .slice qo L qc := e1
        replace e2 : u 10 = .slice qo2 L qc2 := e2
        simp only [e1, e2]
        replace e1 := Lib.hid e1
        replace e2 := Lib.hid e2
        go_wp2_with fail
        refine (hints.out _ _ _ _ _ hq hq2).mono ?_
        rintro e w5 ⟨rfl, hs5⟩
        go_wp2
        replace e1 := e1.out
        replace e2 := e2.out
        refine stq_x (.bool true) rfl rfl hs5 ?_
        first | (simp only [mkAct, List.foldl_cons, List.foldl_nil, List.setIfInBounds_toArray, List.set_cons_succ, List.set_cons_zero, upd, reduceIte, Nat.reduceEqDiff, Nat.reduceAdd, f6, str]; done) | (simp [mkAct, upd, f6, str, *]; done)
      · -- operation 12
        obtain ⟨f6, f11, -⟩ := hp
        replace f6 : u 6 = (.bool true) := f6
        replace f11 : u 11 = (.bool true) := f11
        try simp only [f6, f11, str]
        go_wp2
        refine stq_v rfl Same.refl ?_
        first | (simp only [mkAct, List.foldl_cons, List.foldl_nil, List.setIfInBounds_toArray, List.set_cons_succ, List.set_cons_zero, upd, reduceIte, Nat.reduceEqDiff, Nat.reduceAdd, f6, f11, str]; done) | (simp [mkAct, upd, f6, f11, str, *]; done)
      · -- operation 13
        obtain ⟨f12, -, -⟩ := hp
        replace f12 : u 12 = (.bool true) := f12
        try simp only [f12, str]
        go_wp2
        refine stq_v rfl Same.refl ?_
        first | (simp only [mkAct, List.foldl_cons, List.foldl_nil, List.setIfInBounds_toArray, List.set_cons_succ, List.set_cons_zero, upd, reduceIte, Nat.reduceEqDiff, Nat.reduceAdd, f12, str]; done) | (simp [mkAct, upd, f12, str, *]; done)
      · -- operation 14
        obtain ⟨f13, -⟩ := hp
        replace f13 : u 13 = (.bool true) := f13
        try simp only [f13, str]
        go_wp2
        refine stq_v rfl Same.refl ?_
        first | (simp only [mkAct, List.foldl_cons, List.foldl_nil, List.setIfInBounds_toArray, List.set_cons_succ, List.set_cons_zero, upd, reduceIte, Nat.reduceEqDiff, Nat.reduceAdd, f13, str]; done) | (simp [mkAct, upd, f13, str, *]; done)
      · -- operation 15
        obtain ⟨f14, -, f13, -⟩ := hp
        replace f14 : u 14 = (.int .u64 m) := f14
        replace f13 : u 13 = (.bool true) := f13
        try simp only [f14, f13, str]
        go_wp2_with fail
        refine (hallm.out _ (hTW.out.same hI)).mono ?_
        rintro e w5 ⟨v5, rfl, ho5, hs5⟩
        obtain ⟨qo, qc, rfl, hq⟩ := ho5.sl
        go_wp2
        refine stq_x (.slice qo L qc) rfl ⟨qo, qc, rfl, hq⟩ hs5 ?_
        first | (simp only [mkAct, List.foldl_cons, List.foldl_nil, List.setIfInBounds_toArray, List.set_cons_succ, List.set_cons_zero, upd, reduceIte, Nat.reduceEqDiff, Nat.reduceAdd, f14, f13, str]; done) | (simp [mkAct, upd, f14, f13, str, *]; done)
      · -- operation 16
        obtain ⟨f13, -⟩ := hp
        replace f13 : u 13 = (.bool true) := f13
        try simp only [f13, str]
        go_wp2
        refine stq_v rfl Same.refl ?_
        first | (simp only [mkAct, List.foldl_cons, List.foldl_nil, List.setIfInBounds_toArray, List.set_cons_succ, List.set_cons_zero, upd, reduceIte, Nat.reduceEqDiff, Nat.reduceAdd, f13, str]; done) | (simp [mkAct, upd, f13, str, *]; done)
      · -- operation 17
        obtain ⟨f16, -, f13, -⟩ := hp
        replace f16 : u 16 = (.int .u64 m) := f16
        replace f13 : u 13 = (.bool true) := f13
        try simp only [f16, f13, str]
        go_wp2_with fail
        refine (hallm.out _ (hTW.out.same hI)).mono ?_
        rintro e w5 ⟨v5, rfl, ho5, hs5⟩
        obtain ⟨qo, qc, rfl, hq⟩ := ho5.sl
        go_wp2
        refine stq_x (.slice qo L qc) rfl ⟨qo, qc, rfl, hq⟩ hs5 ?_
        first | (simp only [mkAct, List.foldl_cons, List.foldl_nil, List.setIfInBounds_toArray, List.set_cons_succ, List.set_cons_zero, upd, reduceIte, Nat.reduceEqDiff, Nat.reduceAdd, f16, f13, str]; done) | (simp [mkAct, upd, f16, f13, str, *]; done)
      · -- operation 18
        obtain ⟨f15, f17, -, f13, -⟩ := hp
        replace f13 : u 13 = (.bool true) := f13
        try simp only [f13, str]
        obtain ⟨qo, qc, e1, hq⟩ := f15
        obtain ⟨qo2, qc2, e2, hq2⟩ := f17
        replace e1 : u 15 = .slice qo L qc := e1
        replace e2 : u 17 = .slice qo2 L qc2 := e2
        simp only [e1, e2]
        replace e1 := Lib.hid e1
        replace e2 := Lib.hid e2
        go_wp2_with fail
        refine (hints.out _ _ _ _ _ hq hq2).mono ?_
        rintro e w5 ⟨rfl, hs5⟩
        go_wp2
        replace e1 := e1.out
        replace e2 := e2.out
        refine stq_x (.bool true) rfl rfl hs5 ?_
        first | (simp only [mkAct, List.foldl_cons, List.foldl_nil, List.setIfInBounds_toArray, List.set_cons_succ, List.set_cons_zero, upd, reduceIte, Nat.reduceEqDiff, Nat.reduceAdd, f13, str]; done) | (simp [mkAct, upd, f13, str, *]; done)
      · -- operation 19
        obtain ⟨f13, f18, -⟩ := hp
        replace f13 : u 13 = (.bool true) := f13
        replace f18 : u 18 = (.bool true) := f18
        try simp only [f13, f18, str]
        go_wp2
        refine stq_v rfl Same.refl ?_
        first | (simp only [mkAct, List.foldl_cons, List.foldl_nil, List.setIfInBounds_toArray, List.set_cons_succ, List.set_cons_zero, upd, reduceIte, Nat.reduceEqDiff, Nat.reduceAdd, f13, f18, str]; done) | (simp [mkAct, upd, f13, f18, str, *]; done)
      · -- operation 20
        obtain ⟨f19, -, -⟩ := hp
        replace f19 : u 19 = (.bool true) := f19
        try simp only [f19, str]
        go_wp2
        refine stq_v rfl Same.refl ?_
        first | (simp only [mkAct, List.foldl_cons, List.foldl_nil, List.setIfInBounds_toArray, List.set_cons_succ, List.set_cons_zero, upd, reduceIte, Nat.reduceEqDiff, Nat.reduceAdd, f19, str]; done) | (simp [mkAct, upd, f19, str, *]; done)
      · -- operation 21
        obtain ⟨-, f20, -⟩ := hp
        replace f20 : u 20 = (.bool true) := f20
        try simp only [f20, str]
        go_wp2_with fail
        refine (hlives.out _ (hTW.out.same hI)).mono ?_
        rintro e w1 ⟨rfl, hs'⟩
        go_wp2
        refine stq_v rfl hs' ?_
        first | (simp only [mkAct, List.foldl_cons, List.foldl_nil, List.setIfInBounds_toArray, List.set_cons_succ, List.set_cons_zero, upd, reduceIte, Nat.reduceEqDiff, Nat.reduceAdd, f20, str]; done) | (simp [mkAct, upd, f20, str, *]; done)
      · -- operation 22
        obtain ⟨f20, f21, -⟩ := hp
        replace f20 : u 20 = (.bool true) := f20
        replace f21 : u 21 = (.bool true) := f21
        try simp only [f20, f21, str]
        go_wp2
        refine stq_v rfl Same.refl ?_
        first | (simp only [mkAct, List.foldl_cons, List.foldl_nil, List.setIfInBounds_toArray, List.set_cons_succ, List.set_cons_zero, upd, reduceIte, Nat.reduceEqDiff, Nat.reduceAdd, f20, f21, str]; done) | (simp [mkAct, upd, f20, f21, str, *]; done)
    · intro u wx hI hR
      obtain ⟨r0, r1, r2, r3, r4, r5, r6, r7, r8, r9, r10, r11, r12, r13, r14, r15, r16, r17, r18, r19, r20, r21, r22, -⟩ := hR
      replace r0 : u 0 = (.int .i64 N) := r0
      replace r1 : u 1 = (.int .i64 N) := r1
      replace r2 : u 2 = (.int .u64 m) := r2
      replace r3 : u 3 = (.int .i64 L) := r3
      replace r4 : u 4 = (.int .i64 N) := r4
      replace r5 : u 5 = (.bool true) := r5
      replace r6 : u 6 = (.bool true) := r6
      replace r7 : u 7 = (.int .u64 m) := r7
      replace r9 : u 9 = (.int .u64 m) := r9
      replace r11 : u 11 = (.bool true) := r11
      replace r12 : u 12 = (.bool true) := r12
      replace r13 : u 13 = (.bool true) := r13
      replace r14 : u 14 = (.int .u64 m) := r14
      replace r16 : u 16 = (.int .u64 m) := r16
      replace r18 : u 18 = (.bool true) := r18
      replace r19 : u 19 = (.bool true) := r19
      replace r20 : u 20 = (.bool true) := r20
      replace r21 : u 21 = (.bool true) := r21
      replace r22 : u 22 = (.bool true) := r22
      simp only [mkAct, List.foldl_cons, List.foldl_nil, List.setIfInBounds_toArray, List.set_cons_succ, List.set_cons_zero]
      try simp only [str, r0, r1, r2, r3, r4, r5, r6, r7, r9, r11, r12, r13, r14, r16, r18, r19, r20, r21, r22]
      have hK2 := (hI.block D (blk_lt hK.out)).trans hK.out
      go_wp2
      refine ⟨by simp, .inl ⟨_, _, rfl, run_takeDeferred hK2, ?_⟩⟩
      exact ⟨_, results_tmp rfl _ _ _, rfl, (hB.out.trans (hI.mono hB.out.size)).trans (belowK_b (w := w) (Nat.le_refl _) wx D _ _ (by omega) hK2 rfl rfl)⟩
end Go.Proofs.YtkhloanpdehegaaDoor
