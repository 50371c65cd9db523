/-
  The walk of the law WindowReads: any window has the bytes that the document says; any bytes are read as it says.
-/
-- @law bytes, rep win
import Derived.Test.YtkhloanpdehegaaDoorWinO
import Derived.Test.YtkhloanpdehegaaDoorWinL
import Derived.Test.YtkhloanpdehegaaDoorWinI
namespace Go.Proofs.YtkhloanpdehegaaDoor
open Go Go.RowKit
set_option linter.unusedSimpArgs false
set_option linter.unusedVariables false

theorem i64_le {n : Int} (h : (Lit.int .i64 n).wf = true) : -9223372036854775808 ≤ n ∧ n ≤ 9223372036854775807 := by
  simp [Lit.wf, IntKind.min, IntKind.max, IntKind.signed, IntKind.bits] at h
  omega
theorem i64_wf {n : Int} (h : -9223372036854775808 ≤ n ∧ n ≤ 9223372036854775807) : (Lit.int .i64 n).wf = true := by
  simp [Lit.wf, IntKind.min, IntKind.max, IntKind.signed, IntKind.bits]
  omega
theorem u64_wf {n : Nat} (h : n < 18446744073709551616) : (Lit.int .u64 (n : Int)).wf = true := by
  simp [Lit.wf, IntKind.min, IntKind.max, IntKind.signed, IntKind.bits]
  omega
theorem wGot_wf (s : List UInt8 × Nat) : (Lit.int .i64 (wGot s).1.base).wf = true ∧ (wGot s).1.bits < 18446744073709551616 := by
  have m1 := rNum_most s 1099511627777 (by omega)
  have m2 := rNum_most (Num.rNum s 1099511627777).2 4294967295 (by omega)
  have m3 := rNum_most (Num.rNum (Num.rNum s 1099511627777).2 4294967295).2 4294967295 (by omega)
  unfold wGot
  simp only
  split
  · exact ⟨i64_wf (by simp only; omega), by simp only; omega⟩
  · exact ⟨rfl, by decide⟩
/-- A window was read, and the reader stands so. -/
def isWG (rb db : Nat) (b : Int) (m : Nat) (s : List UInt8 × Nat) : Value → World → Prop := fun v w => v = .agg #[.int .i64 b, .int .u64 (m : Nat)] ∧ Rdr w rb db s
theorem isWG_stable (rb db : Nat) (b : Int) (m : Nat) (s : List UInt8 × Nat) : Stable Same (isWG rb db b m s) := fun _ _ _ k ⟨h, h1⟩ => ⟨h, h1.same k⟩
theorem isWG_keep {rb db rb2 : Nat} {b : Int} {m : Nat} {s : List UInt8 × Nat} (h1 : ¬ rb = rb2) (h2 : ¬ db = rb2) : Stable (Keep (fun x => x = rb2)) (isWG rb db b m s) := fun _ _ _ k ⟨h, hr⟩ => ⟨h, hr.keep k h1 h2⟩
def isRWG (rb db : Nat) (b : Int) (m : Nat) (s : List UInt8 × Nat) : Value → World → Prop := fun v w => v = .agg #[.int .i64 b, .int .u64 (m : Nat)] ∧ RRdr w rb db s
theorem isRWG_stable (rb db : Nat) (b : Int) (m : Nat) (s : List UInt8 × Nat) : Stable Same (isRWG rb db b m s) := fun _ _ _ k ⟨h, h1⟩ => ⟨h, h1.same k⟩
set_option maxRecDepth 100000 in
set_option maxHeartbeats 6400000 in
theorem walk_WindowReads (w : World) (ao : Option Addr) (n c : Nat) (xs : List UInt8) (hsl : Sl w 1 ao n c (bv xs)) (a : Win) (ha : (Lit.int .i64 a.base).wf = true ∧ a.bits < 18446744073709551616) (hT : Tab w) :
    Calls Tryd.prog 9 #[.slice ao n c, .agg #[.int .i64 a.base, .int .u64 (a.bits : Nat)]] w fun e w' => e = .returned (.bool true) ∧ Same w w' := by
  obtain ⟨b, m⟩ := a
  obtain ⟨hbw, hm⟩ := ha
  simp only at hm hbw ⊢
  have hl := Lib.hid (fun w h => lives9 w h)
  have hinf := Lib.hid hinfW
  have hlen : xs.length = n := by have := hsl.len; rw [bv_length] at this; omega
  have hmostn : n ≤ 9223372036854775807 := by have := hsl.cap; have := hsl.most; unfold maxLen at this; omega
  replace hT := Lib.hid hT
  replace hsl := Lib.hid hsl
  replace hlen := Lib.hid hlen
  go_enter Tryd.func9, Tryd.ntmps9
  go_upto_region 1 with fail
  obtain ⟨w1, hw1⟩ : ∃ x, x = w.alloc (.cells #[.int .i64 b, .int .u64 m] 38) := ⟨_, rfl⟩
  have rB := heap_alloc_new w (.cells #[.int .i64 b, .int .u64 m] 38)
  have s0 : Same w w1 := by rw [hw1]; exact Same.refl.alloc _
  have z01 : w1.heap.size = w.heap.size + 1 := by rw [hw1]; simp
  rw [← hw1] at rB ⊢
  clear hw1
  replace rB := Lib.hid rB
  replace s0 := Lib.hid s0
  by_cases hn : 2000 < n
  · have hdn : Decidable.decide (2000 < (n : Int)) = true := decide_eq_true (by omega)
    go_wp2_with fail
    refine (hl.out _ (hT.out.same s0.out)).mono ?_
    rintro e w6 ⟨rfl, hs6⟩
    replace s0 := Lib.hid (s0.out.trans hs6)
    clear hs6
    go_wp2
    go_ret
    exact ⟨rfl, s0.out⟩
  · have hdn : Decidable.decide (2000 < (n : Int)) = false := decide_eq_false (by omega)
    have hb63 := (i64_le hbw).2
    have hrd := fun w h => read_any ao n c xs w h (by omega)
    have hrrd := fun w h => rread_any ao n c xs w h (by omega)
    unfold RetRead at hrd
    unfold RRetRead at hrrd
    have hpA := fun w h1 => (wput_any ao n c xs b m w h1 (by omega) hb63 hm).mono fun _ _ h => RetB.s h
    have hpB := fun w h1 => (rwput_any ao n c xs b m w h1 (by omega) hb63 hm).mono fun _ _ h => RetB.s h
    obtain ⟨A, hA⟩ : ∃ A, A = xs ++ wPut b m := ⟨_, rfl⟩
    rw [← hA] at hpA hpB
    unfold RetS at hpA hpB
    have hgA := fun rb db w h => wget_any rb db (xs, 0) w h
    have hgB := fun rb db w h => rwget_any rb db (xs, 0) w h
    have hgw := wGot_wf (xs, 0)
    obtain ⟨G, hG⟩ : ∃ G, G = wGot (xs, 0) := ⟨_, rfl⟩
    rw [← hG] at hgA hgB hgw
    obtain ⟨⟨gb, gm⟩, sx⟩ := G
    unfold RetWin at hgA
    unfold RRetWin at hgB
    simp only at hgA hgB hgw
    have hq : ∀ w : World, (binOp .eql 38 (.agg #[.int .i64 gb, .int .u64 (gm : Nat)]) (.agg #[.int .i64 gb, .int .u64 (gm : Nat)])).run Tryd.prog w = .ok (.bool true) w := by
      intro w
      have := win_eql gb gb gm gm hgw.1 (u64_wf hgw.2) hgw.1 (u64_wf hgw.2) w
      rw [decide_eq_true (And.intro rfl rfl)] at this
      exact this
    have hgd := Lib.hid win_guard
    clear hA hG hgw hbw hb63
    replace hrd := Lib.hid hrd
    replace hrrd := Lib.hid hrrd
    replace hpA := Lib.hid hpA
    replace hpB := Lib.hid hpB
    replace hgA := Lib.hid hgA
    replace hgB := Lib.hid hgB
    replace hq := Lib.hid hq
    go_wp2_with fail
    refine (hrd.out _ (hsl.out.same s0.out)).mono ?_
    rintro e w3 ⟨rb, db, rfl, hr, hrb, hdb, hs⟩
    have zB := blk_lt rB.out
    replace rB := Lib.hid (hs.row rB.out)
    replace s0 := Lib.hid (s0.out.trans hs)
    have z13 := hs.size
    replace hr := Lib.hid hr
    have hrl := hr.out.lt
    clear hs hrd
    go_wp2_with fail
    refine (hrrd.out _ (hsl.out.same s0.out)).mono ?_
    rintro e w4 ⟨rb2, db2, rfl, hq2, hrb2, hdb2, hs⟩
    replace rB := Lib.hid (hs.row rB.out)
    replace s0 := Lib.hid (s0.out.trans hs)
    have hr4 := Lib.hid (hr.out.same hs)
    have z34 := hs.size
    replace hq2 := Lib.hid hq2
    have hql := hq2.out.lt
    clear hs hrrd hr
    obtain ⟨p1, p2, p3, p4⟩ : ¬ rb = rb2 ∧ ¬ db = rb2 ∧ ¬ rb2 = rb ∧ ¬ db2 = rb := ⟨by omega, by omega, by omega, by omega⟩
    have p6 : ¬ w.heap.size = rb := by omega
    have p7 : ¬ w.heap.size = rb2 := by omega
    have p8 : w.heap.size ≤ rb ∧ w.heap.size ≤ rb2 := ⟨by omega, by omega⟩
    have hsk : Stable (Keep (fun x => x = rb2)) (isWG rb db gb gm sx) := isWG_keep p1 p2
    have hxx : xs ≠ [] → ∀ a, ao = some a → a.block < w.heap.size := by
      intro hne a ha
      refine hsl.out.lt ?_ ha
      intro h2
      exact hne (by simpa [bv] using h2)
    have hslx : ∀ wx, Keep (fun x => x = rb ∨ x = rb2) w4 wx → Sl wx 1 ao n c (bv xs) := fun wx hI => (hsl.out.same s0.out).keep hI (fun a ha hne hx => by have := hxx (fun h => hne (by simp [bv, h])) a ha; omega)
    have hTg := hT.out.lt
    have hTx : ∀ wx, Keep (fun x => x = rb ∨ x = rb2) w4 wx → Tab wx := fun wx hI j hj => hI.cell ((hT.out.same s0.out) j hj) (by
      show ¬ (0 = rb ∨ 0 = rb2)
      omega)
    clear hxx hrb hdb hrb2 hdb2 hrl hql hT
    replace hslx := Lib.hid hslx
    replace hTx := Lib.hid hTx
    replace hsk := Lib.hid hsk
    go_upto_region 4 with fail
    have hsk := hsk.out
    refine wp_region_mut (by kernel_rfl) [(15, 0), (16, 1), (17, 2), (18, 3), (19, 4), (20, 5), (21, 6), (22, 7), (23, 8), (24, 9), (25, 10), (26, 11), (27, 12), (28, 13), (29, 14), (30, 15), (31, 16), (32, 17), (33, 18), (34, 19), (35, 20), (36, 21), (37, 22), (38, 23), (39, 24), (40, 25), (41, 26), (42, 27), (43, 28), (44, 29), (45, 30), (46, 31), (47, 32), (48, 33), (49, 34)] [(11, (Keep (fun x => x = rb))), (13, (Keep (fun x => x = rb2)))] [(2, [11, 13]), (6, [11, 13]), (11, [11]), (13, [11, 13]), (1000, [11]), (1001, [13])] [0, 1, 3, 4, 5, 7, 8, 9, 10, 11, 12, 13, 14, 15, 16, 17, 18, 19, 20, 21, 22, 23, 24, 25, 26, 27, 28, 29, 30, 31, 32, 33, 34] [[], [], [0, 1], [2], [], [], [4, 5], [6], [3, 7], [8], [9], [10, 9, 1000], [9], [12, 9, 1001], [11, 13, 9], [9, 14], [15], [16], [17, 16, 11], [16], [19, 16], [20, 16], [21, 16, 13], [18, 22, 16], [16, 23], [24], [25], [26, 25, 11], [25], [28, 25, 13], [27, 29, 25], [25, 30], [31], [32], [32, 33]] Same (Keep (fun x => x = rb ∨ x = rb2) w4) [(fun w => Rdr w rb db (xs, 0)), (fun w => RRdr w rb2 db2 (xs, 0))] [isV (.slice ao n c), isV (.agg #[.int .i64 b, .int .u64 m]), isB A, isV (str A), isV (.slice ao n c), isV (.agg #[.int .i64 b, .int .u64 m]), isB A, isV (str A), isV (.bool true), isV (.bool true), isV (.pointer (some ⟨rb, 0, none⟩)), isWG rb db gb gm sx, isV (.pointer (some ⟨rb2, 0, none⟩)), isRWG rb2 db2 gb gm sx, isV (.bool true), isV (.bool true), isV (.bool true), isV (.pointer (some ⟨rb, 0, none⟩)), isV (.int .i64 (sx.2 : Int)), isV (.pointer (some ⟨rb2, 0, none⟩)), isV (.pointer (some ⟨rb2, 0, none⟩)), isV (.pointer (some ⟨rb2, 2, none⟩)), isV (.int .i64 (sx.2 : Int)), isV (.bool true), isV (.bool true), isV (.bool true), isV (.pointer (some ⟨rb, 0, none⟩)), isV (.int .i64 (Num.rLeft sx : Int)), isV (.pointer (some ⟨rb2, 0, none⟩)), isV (.int .i64 (Num.rLeft sx : Int)), isV (.bool true), isV (.bool true), isV (.bool true), isV (.bool true), isV (.bool true)] (Keep.drew) (by intro g hg; simp only [List.mem_cons, List.not_mem_nil, or_false] at hg; rcases hg with rfl | rfl; exact (hr4.out.same Same.refl.drew); exact (hq2.out.same Same.refl.drew)) (fun _ _ h k => h.trans (Keep.of_same (p := fun _ => False) k) (fun _ _ h => h.elim)) (by intro g hg; simp only [List.mem_cons, List.not_mem_nil, or_false] at hg; rcases hg with rfl | rfl; exact (fun _ _ h k => h.trans k (fun x _ hx => .inl hx)); exact (fun _ _ h k => h.trans k (fun x _ hx => .inr hx))) (by simp [isV_stable, isB_stable, isAny_stable, isWG_stable, isRWG_stable]) (by intro g hg; simp only [List.mem_cons, List.not_mem_nil, or_false] at hg; rcases hg with rfl | rfl; exact (fun _ _ k h => h.same k); exact (fun _ _ k h => h.same k)) (by simp [killsOf, List.zipIdx_cons, isV_stable, isAny_stable, hsk]) (by simp [killsOf, List.zipIdx_cons]; exact ⟨fun _ _ k h => h.keep k p3 p4, fun _ _ k h => h.keep k p1 p2⟩) (by decide) (l := [_, _, _, _, _, _, _, _, _, _, _, _, _, _, _, _, _, _, _, _, _, _, _, _, _, _, _, _, _, _, _, _, _, _, _]) rfl (by decide) (by kernel_rfl) (by kernel_rfl) (by kernel_rfl) (by decide) ?_ ?_
    · refine ⟨?_, ?_, ?_, ?_, ?_, ?_, ?_, ?_, ?_, ?_, ?_, ?_, ?_, ?_, ?_, ?_, ?_, ?_, ?_, ?_, ?_, ?_, ?_, ?_, ?_, ?_, ?_, ?_, ?_, ?_, ?_, ?_, ?_, ?_, ?_, trivial⟩
      all_goals (intro u wx hI hp; simp only [mkAct, List.foldl_cons, List.foldl_nil, List.setIfInBounds_toArray, List.set_cons_succ, List.set_cons_zero])
      · -- operation 0
        go_wp2
        refine stg_v (x := (.slice ao n c)) rfl Same.refl ?_
        first | (simp only [mkAct, List.foldl_cons, List.foldl_nil, List.setIfInBounds_toArray, List.set_cons_succ, List.set_cons_zero, upd, reduceIte, Nat.reduceEqDiff, Nat.reduceAdd, str]; done) | (simp [mkAct, upd, str, *]; done)
      · -- operation 1
        go_wp2_with (refine load_row rfl _ _ rfl w.heap.size rfl _ _ _ _ (hI.rowW rB.out (fun h => h.elim p6 p7)) Tryd.underlying38 rfl hinf.out ?_)
        refine stg_v (x := (.agg #[.int .i64 b, .int .u64 m])) rfl Same.refl ?_
        first | (simp only [mkAct, List.foldl_cons, List.foldl_nil, List.setIfInBounds_toArray, List.set_cons_succ, List.set_cons_zero, upd, reduceIte, Nat.reduceEqDiff, Nat.reduceAdd, str]; done) | (simp [mkAct, upd, str, *]; done)
      · -- operation 2
        obtain ⟨f0, f1, -⟩ := hp
        replace f0 : u 0 = (.slice ao n c) := f0
        replace f1 : u 1 = (.agg #[.int .i64 b, .int .u64 m]) := f1
        try simp only [f0, f1, str]
        have hsw := Lib.hid (hslx.out _ hI)
        go_wp2_with fail
        refine (hpA.out _ hsw.out).mono ?_
        rintro e w1 ⟨ao', c', rfl, hsl', hs'⟩
        go_wp2
        refine stg_v (x := (.slice ao' _ c')) ⟨ao', c', rfl, hsl'⟩ hs' ?_
        first | (simp only [mkAct, List.foldl_cons, List.foldl_nil, List.setIfInBounds_toArray, List.set_cons_succ, List.set_cons_zero, upd, reduceIte, Nat.reduceEqDiff, Nat.reduceAdd, f0, f1, str]; done) | (simp [mkAct, upd, f0, f1, str, *]; done)
      · -- operation 3
        obtain ⟨⟨ao2, c2, f2, hsl2⟩, -⟩ := hp
        try simp only [f2, str]
        go_wp2_with (refine conv_string rfl _ rfl byT u8T strT rfl hsl2 ?_)
        refine stg_v (x := (str A)) rfl Same.refl ?_
        first | (simp only [mkAct, List.foldl_cons, List.foldl_nil, List.setIfInBounds_toArray, List.set_cons_succ, List.set_cons_zero, upd, reduceIte, Nat.reduceEqDiff, Nat.reduceAdd, f2, str]; done) | (simp [mkAct, upd, f2, str, *]; done)
      · -- operation 4
        go_wp2
        refine stg_v (x := (.slice ao n c)) rfl Same.refl ?_
        first | (simp only [mkAct, List.foldl_cons, List.foldl_nil, List.setIfInBounds_toArray, List.set_cons_succ, List.set_cons_zero, upd, reduceIte, Nat.reduceEqDiff, Nat.reduceAdd, str]; done) | (simp [mkAct, upd, str, *]; done)
      · -- operation 5
        go_wp2_with (refine load_row rfl _ _ rfl w.heap.size rfl _ _ _ _ (hI.rowW rB.out (fun h => h.elim p6 p7)) Tryd.underlying38 rfl hinf.out ?_)
        refine stg_v (x := (.agg #[.int .i64 b, .int .u64 m])) rfl Same.refl ?_
        first | (simp only [mkAct, List.foldl_cons, List.foldl_nil, List.setIfInBounds_toArray, List.set_cons_succ, List.set_cons_zero, upd, reduceIte, Nat.reduceEqDiff, Nat.reduceAdd, str]; done) | (simp [mkAct, upd, str, *]; done)
      · -- operation 6
        obtain ⟨f4, f5, -⟩ := hp
        replace f4 : u 4 = (.slice ao n c) := f4
        replace f5 : u 5 = (.agg #[.int .i64 b, .int .u64 m]) := f5
        try simp only [f4, f5, str]
        have hsw := Lib.hid (hslx.out _ hI)
        go_wp2_with fail
        refine (hpB.out _ hsw.out).mono ?_
        rintro e w1 ⟨ao', c', rfl, hsl', hs'⟩
        go_wp2
        refine stg_v (x := (.slice ao' _ c')) ⟨ao', c', rfl, hsl'⟩ hs' ?_
        first | (simp only [mkAct, List.foldl_cons, List.foldl_nil, List.setIfInBounds_toArray, List.set_cons_succ, List.set_cons_zero, upd, reduceIte, Nat.reduceEqDiff, Nat.reduceAdd, f4, f5, str]; done) | (simp [mkAct, upd, f4, f5, str, *]; done)
      · -- operation 7
        obtain ⟨⟨ao6, c6, f6, hsl6⟩, -⟩ := hp
        try simp only [f6, str]
        go_wp2_with (refine conv_string rfl _ rfl byT u8T strT rfl hsl6 ?_)
        refine stg_v (x := (str A)) rfl Same.refl ?_
        first | (simp only [mkAct, List.foldl_cons, List.foldl_nil, List.setIfInBounds_toArray, List.set_cons_succ, List.set_cons_zero, upd, reduceIte, Nat.reduceEqDiff, Nat.reduceAdd, f6, str]; done) | (simp [mkAct, upd, f6, str, *]; done)
      · -- operation 8
        obtain ⟨f3, f7, -⟩ := hp
        replace f3 : u 3 = (str A) := f3
        replace f7 : u 7 = (str A) := f7
        try simp only [f3, f7, str]
        go_wp2
        refine stg_v (x := (.bool true)) rfl Same.refl ?_
        first | (simp only [mkAct, List.foldl_cons, List.foldl_nil, List.setIfInBounds_toArray, List.set_cons_succ, List.set_cons_zero, upd, reduceIte, Nat.reduceEqDiff, Nat.reduceAdd, f3, f7, str]; done) | (simp [mkAct, upd, f3, f7, str, *]; done)
      · -- operation 9
        obtain ⟨f8, -⟩ := hp
        replace f8 : u 8 = (.bool true) := f8
        try simp only [f8, str]
        go_wp2
        refine stg_v (x := (.bool true)) rfl Same.refl ?_
        first | (simp only [mkAct, List.foldl_cons, List.foldl_nil, List.setIfInBounds_toArray, List.set_cons_succ, List.set_cons_zero, upd, reduceIte, Nat.reduceEqDiff, Nat.reduceAdd, f8, str]; done) | (simp [mkAct, upd, f8, str, *]; done)
      · -- operation 10
        obtain ⟨f9, -⟩ := hp
        replace f9 : u 9 = (.bool true) := f9
        try simp only [f9, str]
        go_wp2
        refine stg_v (x := (.pointer (some ⟨rb, 0, none⟩))) rfl Same.refl ?_
        first | (simp only [mkAct, List.foldl_cons, List.foldl_nil, List.setIfInBounds_toArray, List.set_cons_succ, List.set_cons_zero, upd, reduceIte, Nat.reduceEqDiff, Nat.reduceAdd, f9, str]; done) | (simp [mkAct, upd, f9, str, *]; done)
      · -- operation 11
        obtain ⟨f10, f9, fG0, -⟩ := hp
        replace f10 : u 10 = (.pointer (some ⟨rb, 0, none⟩)) := f10
        replace f9 : u 9 = (.bool true) := f9
        try simp only [f10, f9, str]
        have fG := Lib.hid fG0
        go_wp2_with fail
        refine (hgA.out _ _ _ fG.out).mono ?_
        rintro e w8 ⟨rfl, hr8, hk8⟩
        go_wp2
        refine stg_v (x := (.agg #[.int .i64 gb, .int .u64 gm])) ⟨rfl, hr8⟩ hk8 ?_
        first | (simp only [mkAct, List.foldl_cons, List.foldl_nil, List.setIfInBounds_toArray, List.set_cons_succ, List.set_cons_zero, upd, reduceIte, Nat.reduceEqDiff, Nat.reduceAdd, f10, f9, str]; done) | (simp [mkAct, upd, f10, f9, str, *]; done)
      · -- operation 12
        obtain ⟨f9, -⟩ := hp
        replace f9 : u 9 = (.bool true) := f9
        try simp only [f9, str]
        go_wp2
        refine stg_v (x := (.pointer (some ⟨rb2, 0, none⟩))) rfl Same.refl ?_
        first | (simp only [mkAct, List.foldl_cons, List.foldl_nil, List.setIfInBounds_toArray, List.set_cons_succ, List.set_cons_zero, upd, reduceIte, Nat.reduceEqDiff, Nat.reduceAdd, f9, str]; done) | (simp [mkAct, upd, f9, str, *]; done)
      · -- operation 13
        obtain ⟨f12, f9, fG1, -⟩ := hp
        replace f12 : u 12 = (.pointer (some ⟨rb2, 0, none⟩)) := f12
        replace f9 : u 9 = (.bool true) := f9
        try simp only [f12, f9, str]
        have fG := Lib.hid fG1
        go_wp2_with fail
        refine (hgB.out _ _ _ fG.out).mono ?_
        rintro e w8 ⟨rfl, hr8, hk8⟩
        go_wp2
        refine stg_v (x := (.agg #[.int .i64 gb, .int .u64 gm])) ⟨rfl, hr8⟩ hk8 ?_
        first | (simp only [mkAct, List.foldl_cons, List.foldl_nil, List.setIfInBounds_toArray, List.set_cons_succ, List.set_cons_zero, upd, reduceIte, Nat.reduceEqDiff, Nat.reduceAdd, f12, f9, str]; done) | (simp [mkAct, upd, f12, f9, str, *]; done)
      · -- operation 14
        obtain ⟨f11, f13, f9, -⟩ := hp
        replace f9 : u 9 = (.bool true) := f9
        try simp only [f9, str]
        obtain ⟨f11, -⟩ := f11
        obtain ⟨f13, -⟩ := f13
        try simp only [f11, f13]
        have hq' := hq.out
        have hgd' := hgd.out
        go_wp2
        refine stg_v (x := .bool true) rfl Same.refl ?_
        simp [mkAct, upd, *]
      · -- operation 15
        obtain ⟨f9, f14, -⟩ := hp
        replace f9 : u 9 = (.bool true) := f9
        replace f14 : u 14 = (.bool true) := f14
        try simp only [f9, f14, str]
        go_wp2
        refine stg_v (x := (.bool true)) rfl Same.refl ?_
        first | (simp only [mkAct, List.foldl_cons, List.foldl_nil, List.setIfInBounds_toArray, List.set_cons_succ, List.set_cons_zero, upd, reduceIte, Nat.reduceEqDiff, Nat.reduceAdd, f9, f14, str]; done) | (simp [mkAct, upd, f9, f14, str, *]; done)
      · -- operation 16
        obtain ⟨f15, -⟩ := hp
        replace f15 : u 15 = (.bool true) := f15
        try simp only [f15, str]
        go_wp2
        refine stg_v (x := (.bool true)) rfl Same.refl ?_
        first | (simp only [mkAct, List.foldl_cons, List.foldl_nil, List.setIfInBounds_toArray, List.set_cons_succ, List.set_cons_zero, upd, reduceIte, Nat.reduceEqDiff, Nat.reduceAdd, f15, str]; done) | (simp [mkAct, upd, f15, str, *]; done)
      · -- operation 17
        obtain ⟨f16, -⟩ := hp
        replace f16 : u 16 = (.bool true) := f16
        try simp only [f16, str]
        go_wp2
        refine stg_v (x := (.pointer (some ⟨rb, 0, none⟩))) rfl Same.refl ?_
        first | (simp only [mkAct, List.foldl_cons, List.foldl_nil, List.setIfInBounds_toArray, List.set_cons_succ, List.set_cons_zero, upd, reduceIte, Nat.reduceEqDiff, Nat.reduceAdd, f16, str]; done) | (simp [mkAct, upd, f16, str, *]; done)
      · -- operation 18
        obtain ⟨f17, f16, f11, -⟩ := hp
        replace f17 : u 17 = (.pointer (some ⟨rb, 0, none⟩)) := f17
        replace f16 : u 16 = (.bool true) := f16
        try simp only [f17, f16, str]
        obtain ⟨f11, hr1⟩ := f11
        have hr2 := Lib.hid hr1
        clear hr1
        go_wp2_with fail
        refine (err_any _ _ _ _ hr2.out).mono ?_
        rintro e w8 ⟨rfl, rfl⟩
        go_wp2
        refine stg_v (x := (.int .i64 (sx.2 : Int))) rfl Same.refl ?_
        first | (simp only [mkAct, List.foldl_cons, List.foldl_nil, List.setIfInBounds_toArray, List.set_cons_succ, List.set_cons_zero, upd, reduceIte, Nat.reduceEqDiff, Nat.reduceAdd, f17, f16, str]; done) | (simp [mkAct, upd, f17, f16, str, *]; done)
      · -- operation 19
        obtain ⟨f16, -⟩ := hp
        replace f16 : u 16 = (.bool true) := f16
        try simp only [f16, str]
        go_wp2
        refine stg_v (x := (.pointer (some ⟨rb2, 0, none⟩))) rfl Same.refl ?_
        first | (simp only [mkAct, List.foldl_cons, List.foldl_nil, List.setIfInBounds_toArray, List.set_cons_succ, List.set_cons_zero, upd, reduceIte, Nat.reduceEqDiff, Nat.reduceAdd, f16, str]; done) | (simp [mkAct, upd, f16, str, *]; done)
      · -- operation 20
        obtain ⟨f19, f16, -⟩ := hp
        replace f19 : u 19 = (.pointer (some ⟨rb2, 0, none⟩)) := f19
        replace f16 : u 16 = (.bool true) := f16
        try simp only [f19, f16, str]
        go_wp2
        refine stg_v (x := (.pointer (some ⟨rb2, 0, none⟩))) rfl Same.refl ?_
        first | (simp only [mkAct, List.foldl_cons, List.foldl_nil, List.setIfInBounds_toArray, List.set_cons_succ, List.set_cons_zero, upd, reduceIte, Nat.reduceEqDiff, Nat.reduceAdd, f19, f16, str]; done) | (simp [mkAct, upd, f19, f16, str, *]; done)
      · -- operation 21
        obtain ⟨f20, f16, -⟩ := hp
        replace f20 : u 20 = (.pointer (some ⟨rb2, 0, none⟩)) := f20
        replace f16 : u 16 = (.bool true) := f16
        try simp only [f20, f16, str]
        go_wp2
        refine stg_v (x := (.pointer (some ⟨rb2, 2, none⟩))) rfl Same.refl ?_
        first | (simp only [mkAct, List.foldl_cons, List.foldl_nil, List.setIfInBounds_toArray, List.set_cons_succ, List.set_cons_zero, upd, reduceIte, Nat.reduceEqDiff, Nat.reduceAdd, f20, f16, str]; done) | (simp [mkAct, upd, f20, f16, str, *]; done)
      · -- operation 22
        obtain ⟨f21, f16, f13, -⟩ := hp
        replace f21 : u 21 = (.pointer (some ⟨rb2, 2, none⟩)) := f21
        replace f16 : u 16 = (.bool true) := f16
        try simp only [f21, f16, str]
        obtain ⟨f13, hr1⟩ := f13
        have cE := hr1.err
        clear hr1
        go_wp2
        refine stg_v (x := (.int .i64 (sx.2 : Int))) rfl Same.refl ?_
        first | (simp only [mkAct, List.foldl_cons, List.foldl_nil, List.setIfInBounds_toArray, List.set_cons_succ, List.set_cons_zero, upd, reduceIte, Nat.reduceEqDiff, Nat.reduceAdd, f21, f16, str]; done) | (simp [mkAct, upd, f21, f16, str, *]; done)
      · -- operation 23
        obtain ⟨f18, f22, f16, -⟩ := hp
        replace f18 : u 18 = (.int .i64 (sx.2 : Int)) := f18
        replace f22 : u 22 = (.int .i64 (sx.2 : Int)) := f22
        replace f16 : u 16 = (.bool true) := f16
        try simp only [f18, f22, f16, str]
        go_wp2
        refine stg_v (x := (.bool true)) rfl Same.refl ?_
        first | (simp only [mkAct, List.foldl_cons, List.foldl_nil, List.setIfInBounds_toArray, List.set_cons_succ, List.set_cons_zero, upd, reduceIte, Nat.reduceEqDiff, Nat.reduceAdd, f18, f22, f16, str]; done) | (simp [mkAct, upd, f18, f22, f16, str, *]; done)
      · -- operation 24
        obtain ⟨f16, f23, -⟩ := hp
        replace f16 : u 16 = (.bool true) := f16
        replace f23 : u 23 = (.bool true) := f23
        try simp only [f16, f23, str]
        go_wp2
        refine stg_v (x := (.bool true)) rfl Same.refl ?_
        first | (simp only [mkAct, List.foldl_cons, List.foldl_nil, List.setIfInBounds_toArray, List.set_cons_succ, List.set_cons_zero, upd, reduceIte, Nat.reduceEqDiff, Nat.reduceAdd, f16, f23, str]; done) | (simp [mkAct, upd, f16, f23, str, *]; done)
      · -- operation 25
        obtain ⟨f24, -⟩ := hp
        replace f24 : u 24 = (.bool true) := f24
        try simp only [f24, str]
        go_wp2
        refine stg_v (x := (.bool true)) rfl Same.refl ?_
        first | (simp only [mkAct, List.foldl_cons, List.foldl_nil, List.setIfInBounds_toArray, List.set_cons_succ, List.set_cons_zero, upd, reduceIte, Nat.reduceEqDiff, Nat.reduceAdd, f24, str]; done) | (simp [mkAct, upd, f24, str, *]; done)
      · -- operation 26
        obtain ⟨f25, -⟩ := hp
        replace f25 : u 25 = (.bool true) := f25
        try simp only [f25, str]
        go_wp2
        refine stg_v (x := (.pointer (some ⟨rb, 0, none⟩))) rfl Same.refl ?_
        first | (simp only [mkAct, List.foldl_cons, List.foldl_nil, List.setIfInBounds_toArray, List.set_cons_succ, List.set_cons_zero, upd, reduceIte, Nat.reduceEqDiff, Nat.reduceAdd, f25, str]; done) | (simp [mkAct, upd, f25, str, *]; done)
      · -- operation 27
        obtain ⟨f26, f25, f11, -⟩ := hp
        replace f26 : u 26 = (.pointer (some ⟨rb, 0, none⟩)) := f26
        replace f25 : u 25 = (.bool true) := f25
        try simp only [f26, f25, str]
        obtain ⟨f11, hr1⟩ := f11
        have hr2 := Lib.hid hr1
        clear hr1
        go_wp2_with fail
        refine (left2_any _ _ _ _ hr2.out).mono ?_
        rintro e w8 ⟨rfl, rfl⟩
        go_wp2
        refine stg_v (x := (.int .i64 (Num.rLeft sx : Int))) rfl Same.refl ?_
        first | (simp only [mkAct, List.foldl_cons, List.foldl_nil, List.setIfInBounds_toArray, List.set_cons_succ, List.set_cons_zero, upd, reduceIte, Nat.reduceEqDiff, Nat.reduceAdd, f26, f25, str]; done) | (simp [mkAct, upd, f26, f25, str, *]; done)
      · -- operation 28
        obtain ⟨f25, -⟩ := hp
        replace f25 : u 25 = (.bool true) := f25
        try simp only [f25, str]
        go_wp2
        refine stg_v (x := (.pointer (some ⟨rb2, 0, none⟩))) rfl Same.refl ?_
        first | (simp only [mkAct, List.foldl_cons, List.foldl_nil, List.setIfInBounds_toArray, List.set_cons_succ, List.set_cons_zero, upd, reduceIte, Nat.reduceEqDiff, Nat.reduceAdd, f25, str]; done) | (simp [mkAct, upd, f25, str, *]; done)
      · -- operation 29
        obtain ⟨f28, f25, f13, -⟩ := hp
        replace f28 : u 28 = (.pointer (some ⟨rb2, 0, none⟩)) := f28
        replace f25 : u 25 = (.bool true) := f25
        try simp only [f28, f25, str]
        obtain ⟨f13, hr1⟩ := f13
        have hr2 := Lib.hid hr1
        clear hr1
        go_wp2_with fail
        refine (rleft_any _ _ _ _ hr2.out).mono ?_
        rintro e w8 ⟨rfl, hs8⟩
        go_wp2
        refine stg_v (x := (.int .i64 (Num.rLeft sx : Int))) rfl hs8 ?_
        first | (simp only [mkAct, List.foldl_cons, List.foldl_nil, List.setIfInBounds_toArray, List.set_cons_succ, List.set_cons_zero, upd, reduceIte, Nat.reduceEqDiff, Nat.reduceAdd, f28, f25, str]; done) | (simp [mkAct, upd, f28, f25, str, *]; done)
      · -- operation 30
        obtain ⟨f27, f29, f25, -⟩ := hp
        replace f27 : u 27 = (.int .i64 (Num.rLeft sx : Int)) := f27
        replace f29 : u 29 = (.int .i64 (Num.rLeft sx : Int)) := f29
        replace f25 : u 25 = (.bool true) := f25
        try simp only [f27, f29, f25, str]
        go_wp2
        refine stg_v (x := (.bool true)) rfl Same.refl ?_
        first | (simp only [mkAct, List.foldl_cons, List.foldl_nil, List.setIfInBounds_toArray, List.set_cons_succ, List.set_cons_zero, upd, reduceIte, Nat.reduceEqDiff, Nat.reduceAdd, f27, f29, f25, str]; done) | (simp [mkAct, upd, f27, f29, f25, str, *]; done)
      · -- operation 31
        obtain ⟨f25, f30, -⟩ := hp
        replace f25 : u 25 = (.bool true) := f25
        replace f30 : u 30 = (.bool true) := f30
        try simp only [f25, f30, str]
        go_wp2
        refine stg_v (x := (.bool true)) rfl Same.refl ?_
        first | (simp only [mkAct, List.foldl_cons, List.foldl_nil, List.setIfInBounds_toArray, List.set_cons_succ, List.set_cons_zero, upd, reduceIte, Nat.reduceEqDiff, Nat.reduceAdd, f25, f30, str]; done) | (simp [mkAct, upd, f25, f30, str, *]; done)
      · -- operation 32
        obtain ⟨f31, -⟩ := hp
        replace f31 : u 31 = (.bool true) := f31
        try simp only [f31, str]
        go_wp2
        refine stg_v (x := (.bool true)) rfl Same.refl ?_
        first | (simp only [mkAct, List.foldl_cons, List.foldl_nil, List.setIfInBounds_toArray, List.set_cons_succ, List.set_cons_zero, upd, reduceIte, Nat.reduceEqDiff, Nat.reduceAdd, f31, str]; done) | (simp [mkAct, upd, f31, str, *]; done)
      · -- operation 33
        obtain ⟨f32, -⟩ := hp
        replace f32 : u 32 = (.bool true) := f32
        try simp only [f32, str]
        have hTw := Lib.hid (hTx.out _ hI)
        go_wp2_with fail
        refine (hl.out _ hTw.out).mono ?_
        rintro e w1 ⟨rfl, hs'⟩
        go_wp2
        refine stg_v (x := (.bool true)) rfl hs' ?_
        first | (simp only [mkAct, List.foldl_cons, List.foldl_nil, List.setIfInBounds_toArray, List.set_cons_succ, List.set_cons_zero, upd, reduceIte, Nat.reduceEqDiff, Nat.reduceAdd, f32, str]; done) | (simp [mkAct, upd, f32, str, *]; done)
      · -- operation 34
        obtain ⟨f32, f33, -⟩ := hp
        replace f32 : u 32 = (.bool true) := f32
        replace f33 : u 33 = (.bool true) := f33
        try simp only [f32, f33, str]
        go_wp2
        refine stg_v (x := (.bool true)) rfl Same.refl ?_
        first | (simp only [mkAct, List.foldl_cons, List.foldl_nil, List.setIfInBounds_toArray, List.set_cons_succ, List.set_cons_zero, upd, reduceIte, Nat.reduceEqDiff, Nat.reduceAdd, f32, f33, str]; done) | (simp [mkAct, upd, f32, f33, str, *]; done)
    · intro u wx hI hR
      obtain ⟨r0, r1, r3, r4, r5, r7, r8, r9, r10, r11, r12, r13, r14, r15, r16, r17, r18, r19, r20, r21, r22, r23, r24, r25, r26, r27, r28, r29, r30, r31, r32, r33, r34, -⟩ := hR
      replace r0 : u 0 = (.slice ao n c) := r0
      replace r1 : u 1 = (.agg #[.int .i64 b, .int .u64 m]) := r1
      replace r3 : u 3 = (str A) := r3
      replace r4 : u 4 = (.slice ao n c) := r4
      replace r5 : u 5 = (.agg #[.int .i64 b, .int .u64 m]) := r5
      replace r7 : u 7 = (str A) := r7
      replace r8 : u 8 = (.bool true) := r8
      replace r9 : u 9 = (.bool true) := r9
      replace r10 : u 10 = (.pointer (some ⟨rb, 0, none⟩)) := r10
      replace r12 : u 12 = (.pointer (some ⟨rb2, 0, none⟩)) := r12
      replace r14 : u 14 = (.bool true) := r14
      replace r15 : u 15 = (.bool true) := r15
      replace r16 : u 16 = (.bool true) := r16
      replace r17 : u 17 = (.pointer (some ⟨rb, 0, none⟩)) := r17
      replace r18 : u 18 = (.int .i64 (sx.2 : Int)) := r18
      replace r19 : u 19 = (.pointer (some ⟨rb2, 0, none⟩)) := r19
      replace r20 : u 20 = (.pointer (some ⟨rb2, 0, none⟩)) := r20
      replace r21 : u 21 = (.pointer (some ⟨rb2, 2, none⟩)) := r21
      replace r22 : u 22 = (.int .i64 (sx.2 : Int)) := r22
      replace r23 : u 23 = (.bool true) := r23
      replace r24 : u 24 = (.bool true) := r24
      replace r25 : u 25 = (.bool true) := r25
      replace r26 : u 26 = (.pointer (some ⟨rb, 0, none⟩)) := r26
      replace r27 : u 27 = (.int .i64 (Num.rLeft sx : Int)) := r27
      replace r28 : u 28 = (.pointer (some ⟨rb2, 0, none⟩)) := r28
      replace r29 : u 29 = (.int .i64 (Num.rLeft sx : Int)) := r29
      replace r30 : u 30 = (.bool true) := r30
      replace r31 : u 31 = (.bool true) := r31
      replace r32 : u 32 = (.bool true) := r32
      replace r33 : u 33 = (.bool true) := r33
      replace r34 : u 34 = (.bool true) := r34
      simp only [mkAct, List.foldl_cons, List.foldl_nil, List.setIfInBounds_toArray, List.set_cons_succ, List.set_cons_zero]
      try simp only [str, r0, r1, r3, r4, r5, r7, r8, r9, r10, r12, r14, r15, r16, r17, r18, r19, r20, r21, r22, r23, r24, r25, r26, r27, r28, r29, r30, r31, r32, r33, r34]
      go_wp2
      go_ret
      exact ⟨rfl, s0.out.keep hI (fun x hx hv => by have := p8; rcases hv with hv | hv <;> omega)⟩
end Go.Proofs.YtkhloanpdehegaaDoor
