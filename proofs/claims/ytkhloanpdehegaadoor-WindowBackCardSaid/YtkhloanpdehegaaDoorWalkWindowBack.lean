/-
  The walk of the law WindowBack: a window that may be is read as it was put, whatever stands behind it.
-/
-- @law rep win, bytes
import Derived.Test.YtkhloanpdehegaaDoorWinO
import Derived.Test.YtkhloanpdehegaaDoorWinL
import Derived.Test.YtkhloanpdehegaaDoorWinI
namespace Go.Proofs.YtkhloanpdehegaaDoor
open Go Go.RowKit
set_option linter.unusedSimpArgs false
set_option linter.unusedVariables false

theorem rNum_put (n : Nat) (m : Int) (t : List UInt8) (h : n ≤ 9223372036854775807) (hm : (n : Int) ≤ m) : Num.rNum (Num.putN n ++ t, 0) m = (n, (t, 0)) := by
  unfold Num.rNum
  rw [if_neg (by simp)]
  simp only [Num.numAt_put n t h]
  rw [if_neg (by simp), if_neg (by omega), List.drop_left]
theorem wGot_put (b : Int) (m : Nat) (t : List UInt8) (hm : m < 18446744073709551616) (hg : Win.good ⟨b, m⟩ = true) : wGot (wPut b m ++ t, 0) = (⟨b, m⟩, (t, 0)) := by
  have hin := Win.good_in hg
  simp only at hin
  obtain ⟨n, rfl⟩ : ∃ n : Nat, b = (n : Int) := ⟨b.toNat, by omega⟩
  have e0 : wPut (n : Int) m ++ t = Num.putN n ++ (Num.putN (m / 4294967296) ++ (Num.putN (m % 4294967296) ++ t)) := by
    rw [wPut, Num.putI_nat]
    simp
  have e1 : m / 4294967296 * 4294967296 + m % 4294967296 = m := by omega
  unfold wGot
  rw [e0]
  simp only [rNum_put n 1099511627777 _ (by omega) (by omega), rNum_put (m / 4294967296) 4294967295 _ (by omega) (by omega), rNum_put (m % 4294967296) 4294967295 _ (by omega) (by omega), e1]
  rw [if_pos ⟨trivial, hg⟩]
theorem i64_wf {n : Int} (h : -9223372036854775808 ≤ n ∧ n ≤ 9223372036854775807) : (Lit.int .i64 n).wf = true := by
  simp [Lit.wf, IntKind.min, IntKind.max, IntKind.signed, IntKind.bits]
  omega
theorem u64_wf {n : Nat} (h : n < 18446744073709551616) : (Lit.int .u64 (n : Int)).wf = true := by
  simp [Lit.wf, IntKind.min, IntKind.max, IntKind.signed, IntKind.bits]
  omega
/-- A window was read, and the reader stands so. -/
def isWG (rb db : Nat) (b : Int) (m : Nat) (s : List UInt8 × Nat) : Value → World → Prop := fun v w => v = .agg #[.int .i64 b, .int .u64 (m : Nat)] ∧ Rdr w rb db s
theorem isWG_stable (rb db : Nat) (b : Int) (m : Nat) (s : List UInt8 × Nat) : Stable Same (isWG rb db b m s) := fun _ _ _ k ⟨h, h1⟩ => ⟨h, h1.same k⟩
set_option maxRecDepth 100000 in
set_option maxHeartbeats 6400000 in
theorem walk_WindowBack (w : World) (a : Win) (ha : (Lit.int .i64 a.base).wf = true ∧ a.bits < 18446744073709551616) (ao : Option Addr) (n c : Nat) (xs : List UInt8) (hsl : Sl w 1 ao n c (bv xs)) (hT : Tab w) :
    Calls Tryd.prog 10 #[.agg #[.int .i64 a.base, .int .u64 (a.bits : Nat)], .slice ao n c] w fun e w' => e = .returned (.bool true) ∧ Same w w' := by
  obtain ⟨b, m⟩ := a
  obtain ⟨hbw, hm⟩ := ha
  simp only at hm hbw ⊢
  have hl := Lib.hid (fun w h => lives9 w h)
  have hinf := Lib.hid hinfW
  have hlen : xs.length = n := by have := hsl.len; rw [bv_length] at this; omega
  have hmostn : n ≤ 9223372036854775807 := by have := hsl.cap; have := hsl.most; unfold maxLen at this; omega
  replace hT := Lib.hid hT
  replace hsl := Lib.hid hsl
  replace hlen := Lib.hid hlen
  go_enter Tryd.func10, Tryd.ntmps10
  go_upto_region 1 with fail
  obtain ⟨w0, hw0⟩ : ∃ x, x = w.alloc (.cells #[.int .i64 b, .int .u64 m] 38) := ⟨_, rfl⟩
  have rB := heap_alloc_new w (.cells #[.int .i64 b, .int .u64 m] 38)
  have s0 : Same w w0 := by rw [hw0]; exact Same.refl.alloc _
  rw [← hw0] at rB ⊢
  clear hw0
  replace rB := Lib.hid rB
  replace s0 := Lib.hid s0
  by_cases hn : 2000 < n
  · have hdn : Decidable.decide (2000 < (n : Int)) = true := decide_eq_true (by omega)
    go_wp2_with fail
    refine (hl.out _ (hT.out.same s0.out)).mono ?_
    rintro e w6 ⟨rfl, hs6⟩
    replace s0 := Lib.hid (s0.out.trans hs6)
    clear hs6
    go_wp2
    go_ret
    exact ⟨rfl, s0.out⟩
  · have hdn : Decidable.decide (2000 < (n : Int)) = false := decide_eq_false (by omega)
    have hgd2 := fun w => wgood_any b m w hm
    cases hG : Win.good ⟨b, m⟩
    · rw [hG] at hgd2
      clear hG
      replace hgd2 := Lib.hid hgd2
      go_wp2_with (refine load_row rfl _ _ rfl w.heap.size rfl _ _ _ _ rB.out Tryd.underlying38 rfl hinf.out ?_)
      refine (hgd2.out _).mono ?_
      rintro e w1 ⟨rfl, hs⟩
      replace s0 := Lib.hid (s0.out.trans hs)
      clear hs hgd2
      go_wp2_with fail
      refine (hl.out _ (hT.out.same s0.out)).mono ?_
      rintro e w6 ⟨rfl, hs6⟩
      replace s0 := Lib.hid (s0.out.trans hs6)
      clear hs6
      go_wp2
      go_ret
      exact ⟨rfl, s0.out⟩
    · have hin := Win.good_in hG
      simp only at hin
      have hgot := wGot_put b m xs hm hG
      have hb63 : b ≤ 9223372036854775807 := by omega
      have hpt := fun w h => wput_any none 0 0 [] b m w h (by omega) hb63 hm
      simp only [List.nil_append] at hpt
      have hPl : (wPut b m).length ≤ 27 := by
        have h1 := putI_le9 hb63
        have h2 := Num.putN_le (n := m / 4294967296) (by omega)
        have h3 := Num.putN_le (n := m % 4294967296) (by omega)
        rw [wPut]
        simp only [List.length_append]
        omega
      have hget := fun rb db w h => wget_any rb db (wPut b m ++ xs, 0) w h
      rw [hgot] at hget
      unfold RetWin at hget
      unfold RetB at hpt
      rw [hG] at hgd2
      obtain ⟨A, hA⟩ : ∃ A, A = wPut b m := ⟨_, rfl⟩
      rw [← hA] at hpt hPl hget
      have hrd := fun ao cap w h => read_any ao (A.length + n) cap (A ++ xs) w h (by omega)
      unfold RetRead at hrd
      have hlf : Num.rLeft (xs, 0) = n := by simp [Num.rLeft, hlen.out]
      have hnn : ((n : Int) == (n : Int)) = true := by simp
      have hq : ∀ w : World, (binOp .eql 38 (.agg #[.int .i64 b, .int .u64 (m : Nat)]) (.agg #[.int .i64 b, .int .u64 (m : Nat)])).run Tryd.prog w = .ok (.bool true) w := by
        intro w
        have := win_eql b b m m hbw (u64_wf hm) hbw (u64_wf hm) w
        rw [decide_eq_true (And.intro rfl rfl)] at this
        exact this
      have hgd := Lib.hid win_guard
      clear hA hgot hG hin hb63
      replace hpt := Lib.hid hpt
      replace hget := Lib.hid hget
      replace hrd := Lib.hid hrd
      replace hlf := Lib.hid hlf
      replace hq := Lib.hid hq
      replace hgd2 := Lib.hid hgd2
      go_wp2_with (refine load_row rfl _ _ rfl w.heap.size rfl _ _ _ _ rB.out Tryd.underlying38 rfl hinf.out ?_)
      refine (hgd2.out _).mono ?_
      rintro e w1 ⟨rfl, hs⟩
      replace rB := Lib.hid (hs.row rB.out)
      replace s0 := Lib.hid (s0.out.trans hs)
      have hBlt := blk_lt rB.out
      clear hs hgd2
      go_wp2_with (refine load_row rfl _ _ rfl w.heap.size rfl _ _ _ _ rB.out Tryd.underlying38 rfl hinf.out ?_)
      refine (hpt.out _ (Sl.none _ 1)).mono ?_
      rintro e w4 ⟨v, rfl, ho, hs⟩
      have z34 := hs.size
      replace rB := Lib.hid (hs.row rB.out)
      have s1 := Lib.hid hs
      have hsl4 := Lib.hid (hsl.out.same (s0.out.trans hs))
      have z03 := s0.out.size
      clear hs hpt
      replace ho := Lib.hid ho
      go_wp2_with (at_builtin; refine append_sl rfl _ _ rfl byT ho.out rfl rfl hsl4.out bv_cell z34 (by omega) (by omega) ?_)
      intro v5 w5 ho5 hk5 hz5
      clear hz5
      rw [← bv_append] at ho5
      have hkm : Keep (fun k => w1.heap.size ≤ k) w4 w5 := hk5.mono (fun x _ hx => ho.out.base x hx)
      replace rB := Lib.hid (hkm.rowW rB.out (by omega))
      replace s0 := Lib.hid ((s0.out.trans s1.out).keep hkm (fun x hx hv => by omega))
      clear hkm hk5 ho s1 hsl4
      obtain ⟨ao5, c5, rfl, hsl5⟩ := ho5.sl
      clear ho5
      replace hsl5 := Lib.hid hsl5
      go_wp2_with fail
      refine (hrd.out _ _ _ hsl5.out).mono ?_
      rintro e w6 ⟨rb, db, rfl, hrr, hrb, hdb, hs⟩
      have z06 := blk_lt rB.out
      have zz6 := s0.out.size
      replace rB := Lib.hid (hs.row rB.out)
      replace s0 := Lib.hid (s0.out.trans hs)
      replace hrr := Lib.hid hrr
      have hbrb : w.heap.size ≠ rb := by omega
      have hT6 := Lib.hid (hT.out.same s0.out)
      have hTg := hT.out.lt
      clear hs hrd hsl5 hsl
      go_upto_region 4 with fail
      refine wp_region_mut (by kernel_rfl) [(20, 0), (21, 1), (22, 2), (23, 3), (24, 4), (25, 5), (26, 6), (27, 7), (28, 8), (29, 9), (30, 10), (31, 11), (32, 12), (33, 13), (34, 14), (35, 15), (36, 16), (37, 17), (38, 18)] [(1, (Keep (fun x => x = rb)))] [(1, [1]), (1000, [1])] [0, 1, 2, 3, 4, 5, 6, 7, 8, 9, 10, 11, 12, 13, 14, 15, 16, 17, 18] [[], [0, 1000], [], [1, 2], [3], [4], [5, 4, 1], [6, 4], [4, 7], [8], [9], [10, 9, 1], [9], [12, 9], [11, 13, 9], [9, 14], [15], [16], [16, 17]] Same (Keep (fun x => x = rb) w6) [(fun w => Rdr w rb db (A ++ xs, 0))] [isV (.pointer (some ⟨rb, 0, none⟩)), isWG rb db b m (xs, 0), isV (.agg #[.int .i64 b, .int .u64 m]), isV (.bool true), isV (.bool true), isV (.pointer (some ⟨rb, 0, none⟩)), isV (.int .i64 0), isV (.bool true), isV (.bool true), isV (.bool true), isV (.pointer (some ⟨rb, 0, none⟩)), isV (.int .i64 (n : Int)), isV (.slice ao n c), isV (.int .i64 (n : Int)), isV (.bool true), isV (.bool true), isV (.bool true), isV (.bool true), isV (.bool true)] (Keep.drew) (by intro g hg; simp only [List.mem_cons, List.not_mem_nil, or_false] at hg; obtain rfl := hg; exact (hrr.out.same Same.refl.drew)) (fun _ _ h k => h.trans (Keep.of_same (p := fun _ => False) k) (fun _ _ h => h.elim)) (by intro g hg; simp only [List.mem_cons, List.not_mem_nil, or_false] at hg; obtain rfl := hg; exact (fun _ _ h k => h.trans k (fun x _ hx => hx))) (by simp [isV_stable, isB_stable, isAny_stable, isWG_stable]) (by intro g hg; simp only [List.mem_cons, List.not_mem_nil, or_false] at hg; obtain rfl := hg; exact (fun _ _ k h => h.same k)) (by simp [killsOf, List.zipIdx_cons, isV_stable, isAny_stable]) (by simp [killsOf, List.zipIdx_cons]) (by decide) (l := [_, _, _, _, _, _, _, _, _, _, _, _, _, _, _, _, _, _, _]) rfl (by decide) (by kernel_rfl) (by kernel_rfl) (by kernel_rfl) (by decide) ?_ ?_
      · refine ⟨?_, ?_, ?_, ?_, ?_, ?_, ?_, ?_, ?_, ?_, ?_, ?_, ?_, ?_, ?_, ?_, ?_, ?_, ?_, trivial⟩
        all_goals (intro u wx hI hp; simp only [mkAct, List.foldl_cons, List.foldl_nil, List.setIfInBounds_toArray, List.set_cons_succ, List.set_cons_zero])
        · -- operation 0
          go_wp2
          refine stg_v (x := (.pointer (some ⟨rb, 0, none⟩))) rfl Same.refl ?_
          first | (simp only [mkAct, List.foldl_cons, List.foldl_nil, List.setIfInBounds_toArray, List.set_cons_succ, List.set_cons_zero, upd, reduceIte, Nat.reduceEqDiff, Nat.reduceAdd, str]; done) | (simp [mkAct, upd, str, *]; done)
        · -- operation 1
          obtain ⟨f0, fG0, -⟩ := hp
          replace f0 : u 0 = (.pointer (some ⟨rb, 0, none⟩)) := f0
          try simp only [f0, str]
          have fG := Lib.hid fG0
          go_wp2_with fail
          refine (hget.out _ _ _ fG.out).mono ?_
          rintro e w8 ⟨rfl, hr8, hk8⟩
          go_wp2
          refine stg_v (x := (.agg #[.int .i64 b, .int .u64 m])) ⟨rfl, hr8⟩ hk8 ?_
          first | (simp only [mkAct, List.foldl_cons, List.foldl_nil, List.setIfInBounds_toArray, List.set_cons_succ, List.set_cons_zero, upd, reduceIte, Nat.reduceEqDiff, Nat.reduceAdd, f0, str]; done) | (simp [mkAct, upd, f0, str, *]; done)
        · -- operation 2
          go_wp2_with (refine load_row rfl _ _ rfl w.heap.size rfl _ _ _ _ (hI.rowW rB.out hbrb) Tryd.underlying38 rfl hinf.out ?_)
          refine stg_v (x := (.agg #[.int .i64 b, .int .u64 m])) rfl Same.refl ?_
          first | (simp only [mkAct, List.foldl_cons, List.foldl_nil, List.setIfInBounds_toArray, List.set_cons_succ, List.set_cons_zero, upd, reduceIte, Nat.reduceEqDiff, Nat.reduceAdd, str]; done) | (simp [mkAct, upd, str, *]; done)
        · -- operation 3
          obtain ⟨f1, f2, -⟩ := hp
          replace f2 : u 2 = (.agg #[.int .i64 b, .int .u64 m]) := f2
          try simp only [f2, str]
          obtain ⟨f1, -⟩ := f1
          try simp only [f1]
          have hq' := hq.out
          have hgd' := hgd.out
          go_wp2
          refine stg_v (x := (.bool true)) rfl Same.refl ?_
          first | (simp only [mkAct, List.foldl_cons, List.foldl_nil, List.setIfInBounds_toArray, List.set_cons_succ, List.set_cons_zero, upd, reduceIte, Nat.reduceEqDiff, Nat.reduceAdd, f2, str]; done) | (simp [mkAct, upd, f2, str, *]; done)
        · -- operation 4
          obtain ⟨f3, -⟩ := hp
          replace f3 : u 3 = (.bool true) := f3
          try simp only [f3, str]
          go_wp2
          refine stg_v (x := (.bool true)) rfl Same.refl ?_
          first | (simp only [mkAct, List.foldl_cons, List.foldl_nil, List.setIfInBounds_toArray, List.set_cons_succ, List.set_cons_zero, upd, reduceIte, Nat.reduceEqDiff, Nat.reduceAdd, f3, str]; done) | (simp [mkAct, upd, f3, str, *]; done)
        · -- operation 5
          obtain ⟨f4, -⟩ := hp
          replace f4 : u 4 = (.bool true) := f4
          try simp only [f4, str]
          go_wp2
          refine stg_v (x := (.pointer (some ⟨rb, 0, none⟩))) rfl Same.refl ?_
          first | (simp only [mkAct, List.foldl_cons, List.foldl_nil, List.setIfInBounds_toArray, List.set_cons_succ, List.set_cons_zero, upd, reduceIte, Nat.reduceEqDiff, Nat.reduceAdd, f4, str]; done) | (simp [mkAct, upd, f4, str, *]; done)
        · -- operation 6
          obtain ⟨f5, f4, f1, -⟩ := hp
          replace f5 : u 5 = (.pointer (some ⟨rb, 0, none⟩)) := f5
          replace f4 : u 4 = (.bool true) := f4
          try simp only [f5, f4, str]
          obtain ⟨f1, hr1⟩ := f1
          have hr2 := Lib.hid hr1
          clear hr1
          go_wp2_with fail
          refine (err_any _ _ _ _ hr2.out).mono ?_
          rintro e w8 ⟨rfl, rfl⟩
          go_wp2
          refine stg_v (x := (.int .i64 0)) rfl Same.refl ?_
          first | (simp only [mkAct, List.foldl_cons, List.foldl_nil, List.setIfInBounds_toArray, List.set_cons_succ, List.set_cons_zero, upd, reduceIte, Nat.reduceEqDiff, Nat.reduceAdd, f5, f4, str]; done) | (simp [mkAct, upd, f5, f4, str, *]; done)
        · -- operation 7
          obtain ⟨f6, f4, -⟩ := hp
          replace f6 : u 6 = (.int .i64 0) := f6
          replace f4 : u 4 = (.bool true) := f4
          try simp only [f6, f4, str]
          go_wp2
          refine stg_v (x := (.bool true)) rfl Same.refl ?_
          first | (simp only [mkAct, List.foldl_cons, List.foldl_nil, List.setIfInBounds_toArray, List.set_cons_succ, List.set_cons_zero, upd, reduceIte, Nat.reduceEqDiff, Nat.reduceAdd, f6, f4, str]; done) | (simp [mkAct, upd, f6, f4, str, *]; done)
        · -- operation 8
          obtain ⟨f4, f7, -⟩ := hp
          replace f4 : u 4 = (.bool true) := f4
          replace f7 : u 7 = (.bool true) := f7
          try simp only [f4, f7, str]
          go_wp2
          refine stg_v (x := (.bool true)) rfl Same.refl ?_
          first | (simp only [mkAct, List.foldl_cons, List.foldl_nil, List.setIfInBounds_toArray, List.set_cons_succ, List.set_cons_zero, upd, reduceIte, Nat.reduceEqDiff, Nat.reduceAdd, f4, f7, str]; done) | (simp [mkAct, upd, f4, f7, str, *]; done)
        · -- operation 9
          obtain ⟨f8, -⟩ := hp
          replace f8 : u 8 = (.bool true) := f8
          try simp only [f8, str]
          go_wp2
          refine stg_v (x := (.bool true)) rfl Same.refl ?_
          first | (simp only [mkAct, List.foldl_cons, List.foldl_nil, List.setIfInBounds_toArray, List.set_cons_succ, List.set_cons_zero, upd, reduceIte, Nat.reduceEqDiff, Nat.reduceAdd, f8, str]; done) | (simp [mkAct, upd, f8, str, *]; done)
        · -- operation 10
          obtain ⟨f9, -⟩ := hp
          replace f9 : u 9 = (.bool true) := f9
          try simp only [f9, str]
          go_wp2
          refine stg_v (x := (.pointer (some ⟨rb, 0, none⟩))) rfl Same.refl ?_
          first | (simp only [mkAct, List.foldl_cons, List.foldl_nil, List.setIfInBounds_toArray, List.set_cons_succ, List.set_cons_zero, upd, reduceIte, Nat.reduceEqDiff, Nat.reduceAdd, f9, str]; done) | (simp [mkAct, upd, f9, str, *]; done)
        · -- operation 11
          obtain ⟨f10, f9, f1, -⟩ := hp
          replace f10 : u 10 = (.pointer (some ⟨rb, 0, none⟩)) := f10
          replace f9 : u 9 = (.bool true) := f9
          try simp only [f10, f9, str]
          obtain ⟨f1, hr1⟩ := f1
          have hr2 := Lib.hid hr1
          clear hr1
          go_wp2_with fail
          refine (left2_any _ _ _ _ hr2.out).mono ?_
          rintro e w8 ⟨rfl, rfl⟩
          rw [hlf.out]
          go_wp2
          refine stg_v (x := (.int .i64 (n : Int))) rfl Same.refl ?_
          first | (simp only [mkAct, List.foldl_cons, List.foldl_nil, List.setIfInBounds_toArray, List.set_cons_succ, List.set_cons_zero, upd, reduceIte, Nat.reduceEqDiff, Nat.reduceAdd, f10, f9, str]; done) | (simp [mkAct, upd, f10, f9, str, *]; done)
        · -- operation 12
          obtain ⟨f9, -⟩ := hp
          replace f9 : u 9 = (.bool true) := f9
          try simp only [f9, str]
          go_wp2
          refine stg_v (x := (.slice ao n c)) rfl Same.refl ?_
          first | (simp only [mkAct, List.foldl_cons, List.foldl_nil, List.setIfInBounds_toArray, List.set_cons_succ, List.set_cons_zero, upd, reduceIte, Nat.reduceEqDiff, Nat.reduceAdd, f9, str]; done) | (simp [mkAct, upd, f9, str, *]; done)
        · -- operation 13
          obtain ⟨f12, f9, -⟩ := hp
          replace f12 : u 12 = (.slice ao n c) := f12
          replace f9 : u 9 = (.bool true) := f9
          try simp only [f12, f9, str]
          go_wp2
          refine stg_v (x := (.int .i64 (n : Int))) rfl Same.refl ?_
          first | (simp only [mkAct, List.foldl_cons, List.foldl_nil, List.setIfInBounds_toArray, List.set_cons_succ, List.set_cons_zero, upd, reduceIte, Nat.reduceEqDiff, Nat.reduceAdd, f12, f9, str]; done) | (simp [mkAct, upd, f12, f9, str, *]; done)
        · -- operation 14
          obtain ⟨f11, f13, f9, -⟩ := hp
          replace f11 : u 11 = (.int .i64 (n : Int)) := f11
          replace f13 : u 13 = (.int .i64 (n : Int)) := f13
          replace f9 : u 9 = (.bool true) := f9
          try simp only [f11, f13, f9, str]
          go_wp2
          refine stg_v (x := (.bool true)) rfl Same.refl ?_
          first | (simp only [mkAct, List.foldl_cons, List.foldl_nil, List.setIfInBounds_toArray, List.set_cons_succ, List.set_cons_zero, upd, reduceIte, Nat.reduceEqDiff, Nat.reduceAdd, f11, f13, f9, str]; done) | (simp [mkAct, upd, f11, f13, f9, str, *]; done)
        · -- operation 15
          obtain ⟨f9, f14, -⟩ := hp
          replace f9 : u 9 = (.bool true) := f9
          replace f14 : u 14 = (.bool true) := f14
          try simp only [f9, f14, str]
          go_wp2
          refine stg_v (x := (.bool true)) rfl Same.refl ?_
          first | (simp only [mkAct, List.foldl_cons, List.foldl_nil, List.setIfInBounds_toArray, List.set_cons_succ, List.set_cons_zero, upd, reduceIte, Nat.reduceEqDiff, Nat.reduceAdd, f9, f14, str]; done) | (simp [mkAct, upd, f9, f14, str, *]; done)
        · -- operation 16
          obtain ⟨f15, -⟩ := hp
          replace f15 : u 15 = (.bool true) := f15
          try simp only [f15, str]
          go_wp2
          refine stg_v (x := (.bool true)) rfl Same.refl ?_
          first | (simp only [mkAct, List.foldl_cons, List.foldl_nil, List.setIfInBounds_toArray, List.set_cons_succ, List.set_cons_zero, upd, reduceIte, Nat.reduceEqDiff, Nat.reduceAdd, f15, str]; done) | (simp [mkAct, upd, f15, str, *]; done)
        · -- operation 17
          obtain ⟨f16, -⟩ := hp
          replace f16 : u 16 = (.bool true) := f16
          try simp only [f16, str]
          have hTx : Tab wx := fun j hj => hI.cell (hT6.out j hj) (by show ¬ 0 = rb; omega)
          replace hTx := Lib.hid hTx
          go_wp2_with fail
          refine (hl.out _ hTx.out).mono ?_
          rintro e w1 ⟨rfl, hs'⟩
          go_wp2
          refine stg_v (x := (.bool true)) rfl hs' ?_
          first | (simp only [mkAct, List.foldl_cons, List.foldl_nil, List.setIfInBounds_toArray, List.set_cons_succ, List.set_cons_zero, upd, reduceIte, Nat.reduceEqDiff, Nat.reduceAdd, f16, str]; done) | (simp [mkAct, upd, f16, str, *]; done)
        · -- operation 18
          obtain ⟨f16, f17, -⟩ := hp
          replace f16 : u 16 = (.bool true) := f16
          replace f17 : u 17 = (.bool true) := f17
          try simp only [f16, f17, str]
          go_wp2
          refine stg_v (x := (.bool true)) rfl Same.refl ?_
          first | (simp only [mkAct, List.foldl_cons, List.foldl_nil, List.setIfInBounds_toArray, List.set_cons_succ, List.set_cons_zero, upd, reduceIte, Nat.reduceEqDiff, Nat.reduceAdd, f16, f17, str]; done) | (simp [mkAct, upd, f16, f17, str, *]; done)
      · intro u wx hI hR
        obtain ⟨r0, r1, r2, r3, r4, r5, r6, r7, r8, r9, r10, r11, r12, r13, r14, r15, r16, r17, r18, -⟩ := hR
        replace r0 : u 0 = (.pointer (some ⟨rb, 0, none⟩)) := r0
        replace r2 : u 2 = (.agg #[.int .i64 b, .int .u64 m]) := r2
        replace r3 : u 3 = (.bool true) := r3
        replace r4 : u 4 = (.bool true) := r4
        replace r5 : u 5 = (.pointer (some ⟨rb, 0, none⟩)) := r5
        replace r6 : u 6 = (.int .i64 0) := r6
        replace r7 : u 7 = (.bool true) := r7
        replace r8 : u 8 = (.bool true) := r8
        replace r9 : u 9 = (.bool true) := r9
        replace r10 : u 10 = (.pointer (some ⟨rb, 0, none⟩)) := r10
        replace r11 : u 11 = (.int .i64 (n : Int)) := r11
        replace r12 : u 12 = (.slice ao n c) := r12
        replace r13 : u 13 = (.int .i64 (n : Int)) := r13
        replace r14 : u 14 = (.bool true) := r14
        replace r15 : u 15 = (.bool true) := r15
        replace r16 : u 16 = (.bool true) := r16
        replace r17 : u 17 = (.bool true) := r17
        replace r18 : u 18 = (.bool true) := r18
        simp only [mkAct, List.foldl_cons, List.foldl_nil, List.setIfInBounds_toArray, List.set_cons_succ, List.set_cons_zero]
        try simp only [str, r0, r2, r3, r4, r5, r6, r7, r8, r9, r10, r11, r12, r13, r14, r15, r16, r17, r18]
        go_wp2
        go_ret
        exact ⟨rfl, s0.out.keep hI (fun x hx hv => by omega)⟩
end Go.Proofs.YtkhloanpdehegaaDoor
