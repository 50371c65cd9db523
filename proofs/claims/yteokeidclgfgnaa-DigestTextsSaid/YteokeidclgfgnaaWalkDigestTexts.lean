/-
  The walk of the law DigestTexts: whatever digest and text, it answers true and turns nothing that was there.
-/
-- @law rep digest, str
import Derived.Test.YteokeidclgfgnaaParse
import Derived.Test.YteokeidclgfgnaaLives3
import Derived.Test.YteokeidclgfgnaaRd
import Derived.Deep.DeepCutAuto
namespace Go.Proofs.Yteokeidclgfgnaa
open Go Go.RowKit
set_option linter.unusedSimpArgs false
set_option linter.unusedVariables false

set_option maxRecDepth 100000 in
set_option maxHeartbeats 1600000 in
theorem walk_DigestTexts (w : World) (d : List UInt8) (hd : d.length = 32) (s : ByteArray) (hs : s.size ≤ maxLen) :
    Calls Try.prog 9 #[.agg (bv d).toArray, .string s] w fun e w' => e = .returned (.bool true) ∧ Same w w' := by
  have hlives := Lib.hid lives3
  have hinf := Lib.hid (dig_info hd)
  by_cases h : 5000 < s.size
  · go_enter Try.func9, Try.ntmps9
    go_wp2_with (refine box_row rfl _ _ rfl _ rfl hinf.out ?_; intro w0 hbx hs0; clear hbx; replace hs0 := Lib.hid hs0)
    go_wp2_with fail
    refine (hlives.out _).mono ?_
    rintro e w7 ⟨rfl, hs7⟩
    go_wp2
    go_ret
    exact ⟨rfl, hs0.out.trans hs7⟩
  · have h5 : s.size ≤ 5000 := by omega
    have hpar := parse_any s (by omega)
    have hrpar := rparse_any s (by omega)
    have htx := dtext_any d hd
    have hrtx := rtext_any d hd
    have hpt := Sha.parse_text d hd
    have hback := parse_any ⟨(Sha.text d).toArray⟩ (by
      have : (⟨(Sha.text d).toArray⟩ : ByteArray).size = (Sha.text d).length := by simp [ByteArray.size]
      rw [this, Sha.text_length]
      omega)
    simp only [List.toList_toArray] at hback
    rw [hpt] at hback
    have hpl := Sha.parse_length s.data.toList
    obtain ⟨X, hX⟩ : ∃ X, X = (Sha.parse s.data.toList).1 := ⟨_, rfl⟩
    obtain ⟨E, hE⟩ : ∃ E, E = (Sha.parse s.data.toList).2 := ⟨_, rfl⟩
    obtain ⟨T, hT⟩ : ∃ T, T = (⟨(Sha.text d).toArray⟩ : ByteArray) := ⟨_, rfl⟩
    rw [← hX, ← hE] at hpar hrpar
    rw [← hX] at hpl
    rw [← hT] at htx hrtx hback
    have hinfX := Lib.hid (dig_info hpl)
    have e1 := fun w => dig_eql X X hpl hpl w
    have e2 := fun w => dig_eql d d hd hd w
    rw [beq_self_eq_true] at e1 e2
    clear hX hE hT hpt
    replace hpar := Lib.hid hpar
    replace hrpar := Lib.hid hrpar
    replace htx := Lib.hid htx
    replace hrtx := Lib.hid hrtx
    replace hback := Lib.hid hback
    replace e1 := Lib.hid e1
    replace e2 := Lib.hid e2
    go_enter Try.func9, Try.ntmps9
    go_wp2_with (refine box_row rfl _ _ rfl _ rfl hinf.out ?_; intro w0 hbx hs0; have hb0 := blk_lt hbx; replace hbx := Lib.hid hbx; replace hs0 := Lib.hid hs0)
    refine (hpar.out _).mono ?_
    rintro e w1 ⟨rfl, hs1⟩
    go_wp2_with (first | (refine alloc_new rfl 28 rfl (bv (List.replicate 32 0)).toArray (by kernel_rfl) ?_; intro w2 hb5 hs2; have hb5l := blk_lt hb5; replace hb5 := Lib.hid hb5; replace hs2 := Lib.hid hs2) | (refine store_row rfl _ _ _ rfl w1.heap.size _ rfl rfl _ _ hb5.out hinfX.out (by rw [List.size_toArray, List.size_toArray, bv_length, bv_length, hpl]; rfl) (by simpa using bv_cell) ?_; intro w3 hb5' hk3))
    have hs03 : Same w0 w3 := (hs1.trans hs2.out).keep hk3 (fun x hx hv => by have := hs1.size; omega)
    have xz := hs1.size
    obtain ⟨B5, hB5⟩ : ∃ B, B = w1.heap.size := ⟨_, rfl⟩
    rw [← hB5] at hb5' xz
    rw [← hB5]
    clear hs1 hs2 hk3 hb5 hB5 hb5l
    replace hb5' := Lib.hid hb5'
    refine (hrpar.out _).mono ?_
    rintro e w4 ⟨rfl, hs4⟩
    go_wp2_with (first | (refine alloc_new rfl 28 rfl (bv (List.replicate 32 0)).toArray (by kernel_rfl) ?_; intro w5 hb7 hs5; have hb7l := blk_lt hb7; replace hb7 := Lib.hid hb7; replace hs5 := Lib.hid hs5) | (refine store_row rfl _ _ _ rfl w4.heap.size _ rfl rfl _ _ hb7.out hinfX.out (by rw [List.size_toArray, List.size_toArray, bv_length, bv_length, hpl]; rfl) (by simpa using bv_cell) ?_; intro w6 hb7' hk6; have hs06 : Same w0 w6 := ((hs03.trans hs4).trans hs5.out).keep hk6 (fun x hx hv => by have := (hs03.trans hs4).size; omega); have hb56 := (hk6.block _ (by have := blk_lt hb5'.out; have := hs4.size; have := hs5.out.size; omega) (by have := blk_lt hb5'.out; have := hs4.size; omega)).trans (((hs4.trans hs5.out).block _ (blk_lt hb5'.out)).trans hb5'.out); have hbx6 := (hs06.block _ hb0).trans hbx.out; replace hb56 := Lib.hid hb56; replace hb7' := Lib.hid hb7'; replace hs06 := Lib.hid hs06; replace hbx6 := Lib.hid hbx6; clear hk6 hs5 hb7 hb5') | (refine load_row rfl _ _ rfl w.heap.size rfl _ _ _ _ hbx6.out Try.underlying28 rfl hinf.out ?_))
    obtain ⟨B7, hB7⟩ : ∃ B, B = w4.heap.size := ⟨_, rfl⟩
    rw [← hB7] at hb7' hb7l
    rw [← hB7]
    clear hs4 hB7 hs03
    refine (htx.out _).mono ?_
    rintro e w7 ⟨rfl, hs7⟩
    go_wp2_with fail
    refine (hback.out _).mono ?_
    rintro e w8 ⟨rfl, hs8⟩
    have hs08 := (hs06.out.trans hs7).trans hs8
    have hb58 := ((hs7.trans hs8).block _ (blk_lt hb56.out)).trans hb56.out
    have hb78 := ((hs7.trans hs8).block _ (blk_lt hb7'.out)).trans hb7'.out
    replace hb58 := Lib.hid hb58
    replace hb78 := Lib.hid hb78
    replace hs08 := Lib.hid hs08
    clear hs7 hs8 hs06 hb56 hb7' hbx6
    go_wp2_with (first | (refine alloc_new rfl 28 rfl (bv (List.replicate 32 0)).toArray (by kernel_rfl) ?_; intro w9 hb9 hs9; have hb9l := blk_lt hb9; replace hb9 := Lib.hid hb9; replace hs9 := Lib.hid hs9) | (refine store_row rfl _ _ _ rfl w8.heap.size _ rfl rfl _ _ hb9.out hinf.out (by rw [List.size_toArray, List.size_toArray, bv_length, bv_length, hd]; rfl) (by simpa using bv_cell) ?_; intro wa hba hka; have hs0a : Same w0 wa := (hs08.out.trans hs9.out).keep hka (fun x hx hv => by have := hs08.out.size; omega); have hb5a := (hka.block _ (by have := blk_lt hb58.out; have := hs9.out.size; omega) (by have := blk_lt hb58.out; omega)).trans ((hs9.out.block _ (blk_lt hb58.out)).trans hb58.out); have hb7a := (hka.block _ (by have := blk_lt hb78.out; have := hs9.out.size; omega) (by have := blk_lt hb78.out; omega)).trans ((hs9.out.block _ (blk_lt hb78.out)).trans hb78.out); have hbxa := (hs0a.block _ hb0).trans hbx.out; have hbla := blk_lt hba; replace hba := Lib.hid hba; replace hb5a := Lib.hid hb5a; replace hb7a := Lib.hid hb7a; replace hbxa := Lib.hid hbxa; replace hs0a := Lib.hid hs0a; clear hka hs9 hb9 hs08 hb58 hb78))
    have x5 := blk_lt hb5a.out
    have x7 := blk_lt hb7a.out
    have xx := blk_lt hbxa.out
    refine wp_region_tails (by kernel_rfl) [(31, 0), (32, 1), (33, 2), (34, 3), (35, 4), (36, 5), (37, 6), (38, 7), (39, 8), (40, 9), (41, 10), (42, 11), (43, 12), (44, 13), (45, 14), (46, 15), (47, 16), (48, 17), (49, 18), (50, 19), (51, 20), (52, 21), (53, 22), (54, 23), (55, 24), (56, 25), (57, 26)] Same (Same _) [isV (.agg (bv d).toArray), isV (.string T), isV (.agg (bv d).toArray), isV (.string T), isV (.bool true), isV (.bool true), isV (.agg (bv X).toArray), isV (.agg (bv X).toArray), isV (.bool true), isV (.bool true), isV (.bool true), isV (.int .i64 (E : Int)), isV (.int .i64 (E : Int)), isV (.bool true), isV (.bool true), isV (.bool true), isV (.agg (bv d).toArray), isV (.agg (bv d).toArray), isV (.bool true), isV (.bool true), isV (.bool true), isV (.int .i64 0), isV (.bool true), isV (.bool true), isV (.bool true), isV (.bool true), isV (.bool true)] Same.refl.drew (fun _ _ h k => h.trans k) (by simp [isV_stable, isB_stable, isAny_stable]) (by decide) (l := [_, _, _, _, _, _, _, _, _, _, _, _, _, _, _, _, _, _, _, _, _, _, _, _, _, _, _]) rfl (by decide) (by kernel_rfl) ?_ ?_
    · refine ⟨?_, ?_, ?_, ?_, ?_, ?_, ?_, ?_, ?_, ?_, ?_, ?_, ?_, ?_, ?_, ?_, ?_, ?_, ?_, ?_, ?_, ?_, ?_, ?_, ?_, ?_, ?_, trivial⟩
      all_goals (intro u wx hI hp; simp only [mkAct, List.foldl_cons, List.foldl_nil, List.setIfInBounds_toArray, List.set_cons_succ, List.set_cons_zero])
      · -- operation 0
        go_wp2_with (refine load_row rfl _ _ rfl w.heap.size rfl _ _ _ _ ((hI.block _ xx).trans hbxa.out) Try.underlying28 rfl hinf.out ?_)
        refine stq_v rfl Same.refl ?_
        first | (simp only [mkAct, List.foldl_cons, List.foldl_nil, List.setIfInBounds_toArray, List.set_cons_succ, List.set_cons_zero, upd, reduceIte, Nat.reduceEqDiff, Nat.reduceAdd, str]; done) | (simp [mkAct, upd, str, *]; done)
      · -- operation 1
        obtain ⟨f0, -⟩ := hp
        replace f0 : u 0 = (.agg (bv d).toArray) := f0
        try simp only [f0, str]
        go_wp2_with fail
        refine (htx.out _).mono ?_
        rintro e w1 ⟨rfl, hs'⟩
        go_wp2
        refine stq_v rfl hs' ?_
        first | (simp only [mkAct, List.foldl_cons, List.foldl_nil, List.setIfInBounds_toArray, List.set_cons_succ, List.set_cons_zero, upd, reduceIte, Nat.reduceEqDiff, Nat.reduceAdd, f0, str]; done) | (simp [mkAct, upd, f0, str, *]; done)
      · -- operation 2
        go_wp2_with (refine load_row rfl _ _ rfl w.heap.size rfl _ _ _ _ ((hI.block _ xx).trans hbxa.out) Try.underlying28 rfl hinf.out ?_)
        refine stq_v rfl Same.refl ?_
        first | (simp only [mkAct, List.foldl_cons, List.foldl_nil, List.setIfInBounds_toArray, List.set_cons_succ, List.set_cons_zero, upd, reduceIte, Nat.reduceEqDiff, Nat.reduceAdd, str]; done) | (simp [mkAct, upd, str, *]; done)
      · -- operation 3
        obtain ⟨f2, -, -⟩ := hp
        replace f2 : u 2 = (.agg (bv d).toArray) := f2
        try simp only [f2, str]
        go_wp2_with fail
        refine (hrtx.out _).mono ?_
        rintro e w1 ⟨rfl, hs'⟩
        go_wp2
        refine stq_v rfl hs' ?_
        first | (simp only [mkAct, List.foldl_cons, List.foldl_nil, List.setIfInBounds_toArray, List.set_cons_succ, List.set_cons_zero, upd, reduceIte, Nat.reduceEqDiff, Nat.reduceAdd, f2, str]; done) | (simp [mkAct, upd, f2, str, *]; done)
      · -- operation 4
        obtain ⟨f1, f3, -⟩ := hp
        replace f1 : u 1 = (.string T) := f1
        replace f3 : u 3 = (.string T) := f3
        try simp only [f1, f3, str]
        go_wp2
        refine stq_v rfl Same.refl ?_
        first | (simp only [mkAct, List.foldl_cons, List.foldl_nil, List.setIfInBounds_toArray, List.set_cons_succ, List.set_cons_zero, upd, reduceIte, Nat.reduceEqDiff, Nat.reduceAdd, f1, f3, str]; done) | (simp [mkAct, upd, f1, f3, str, *]; done)
      · -- operation 5
        obtain ⟨f4, -, -⟩ := hp
        replace f4 : u 4 = (.bool true) := f4
        try simp only [f4, str]
        go_wp2
        refine stq_v rfl Same.refl ?_
        first | (simp only [mkAct, List.foldl_cons, List.foldl_nil, List.setIfInBounds_toArray, List.set_cons_succ, List.set_cons_zero, upd, reduceIte, Nat.reduceEqDiff, Nat.reduceAdd, f4, str]; done) | (simp [mkAct, upd, f4, str, *]; done)
      · -- operation 6
        obtain ⟨f5, -⟩ := hp
        replace f5 : u 5 = (.bool true) := f5
        try simp only [f5, str]
        go_wp2_with (refine load_row rfl _ _ rfl B5 rfl _ _ _ _ ((hI.block _ x5).trans hb5a.out) Try.underlying28 rfl hinfX.out ?_)
        refine stq_v rfl Same.refl ?_
        first | (simp only [mkAct, List.foldl_cons, List.foldl_nil, List.setIfInBounds_toArray, List.set_cons_succ, List.set_cons_zero, upd, reduceIte, Nat.reduceEqDiff, Nat.reduceAdd, f5, str]; done) | (simp [mkAct, upd, f5, str, *]; done)
      · -- operation 7
        obtain ⟨f5, -⟩ := hp
        replace f5 : u 5 = (.bool true) := f5
        try simp only [f5, str]
        go_wp2_with (refine load_row rfl _ _ rfl B7 rfl _ _ _ _ ((hI.block _ x7).trans hb7a.out) Try.underlying28 rfl hinfX.out ?_)
        refine stq_v rfl Same.refl ?_
        first | (simp only [mkAct, List.foldl_cons, List.foldl_nil, List.setIfInBounds_toArray, List.set_cons_succ, List.set_cons_zero, upd, reduceIte, Nat.reduceEqDiff, Nat.reduceAdd, f5, str]; done) | (simp [mkAct, upd, f5, str, *]; done)
      · -- operation 8
        obtain ⟨f6, f7, f5, -⟩ := hp
        replace f6 : u 6 = (.agg (bv X).toArray) := f6
        replace f7 : u 7 = (.agg (bv X).toArray) := f7
        replace f5 : u 5 = (.bool true) := f5
        try simp only [f6, f7, f5, str]
        have e1 := e1.out
        have hgd := dig_guard
        go_wp2
        refine stq_v rfl Same.refl ?_
        first | (simp only [mkAct, List.foldl_cons, List.foldl_nil, List.setIfInBounds_toArray, List.set_cons_succ, List.set_cons_zero, upd, reduceIte, Nat.reduceEqDiff, Nat.reduceAdd, f6, f7, f5, str]; done) | (simp [mkAct, upd, f6, f7, f5, str, *]; done)
      · -- operation 9
        obtain ⟨f5, f8, -⟩ := hp
        replace f5 : u 5 = (.bool true) := f5
        replace f8 : u 8 = (.bool true) := f8
        try simp only [f5, f8, str]
        go_wp2
        refine stq_v rfl Same.refl ?_
        first | (simp only [mkAct, List.foldl_cons, List.foldl_nil, List.setIfInBounds_toArray, List.set_cons_succ, List.set_cons_zero, upd, reduceIte, Nat.reduceEqDiff, Nat.reduceAdd, f5, f8, str]; done) | (simp [mkAct, upd, f5, f8, str, *]; done)
      · -- operation 10
        obtain ⟨f9, -, -⟩ := hp
        replace f9 : u 9 = (.bool true) := f9
        try simp only [f9, str]
        go_wp2
        refine stq_v rfl Same.refl ?_
        first | (simp only [mkAct, List.foldl_cons, List.foldl_nil, List.setIfInBounds_toArray, List.set_cons_succ, List.set_cons_zero, upd, reduceIte, Nat.reduceEqDiff, Nat.reduceAdd, f9, str]; done) | (simp [mkAct, upd, f9, str, *]; done)
      · -- operation 11
        obtain ⟨f10, -⟩ := hp
        replace f10 : u 10 = (.bool true) := f10
        try simp only [f10, str]
        go_wp2
        refine stq_v rfl Same.refl ?_
        first | (simp only [mkAct, List.foldl_cons, List.foldl_nil, List.setIfInBounds_toArray, List.set_cons_succ, List.set_cons_zero, upd, reduceIte, Nat.reduceEqDiff, Nat.reduceAdd, f10, str]; done) | (simp [mkAct, upd, f10, str, *]; done)
      · -- operation 12
        obtain ⟨f10, -⟩ := hp
        replace f10 : u 10 = (.bool true) := f10
        try simp only [f10, str]
        go_wp2
        refine stq_v rfl Same.refl ?_
        first | (simp only [mkAct, List.foldl_cons, List.foldl_nil, List.setIfInBounds_toArray, List.set_cons_succ, List.set_cons_zero, upd, reduceIte, Nat.reduceEqDiff, Nat.reduceAdd, f10, str]; done) | (simp [mkAct, upd, f10, str, *]; done)
      · -- operation 13
        obtain ⟨f11, f12, f10, -⟩ := hp
        replace f11 : u 11 = (.int .i64 (E : Int)) := f11
        replace f12 : u 12 = (.int .i64 (E : Int)) := f12
        replace f10 : u 10 = (.bool true) := f10
        try simp only [f11, f12, f10, str]
        go_wp2
        refine stq_v rfl Same.refl ?_
        first | (simp only [mkAct, List.foldl_cons, List.foldl_nil, List.setIfInBounds_toArray, List.set_cons_succ, List.set_cons_zero, upd, reduceIte, Nat.reduceEqDiff, Nat.reduceAdd, f11, f12, f10, str]; done) | (simp [mkAct, upd, f11, f12, f10, str, *]; done)
      · -- operation 14
        obtain ⟨f10, f13, -⟩ := hp
        replace f10 : u 10 = (.bool true) := f10
        replace f13 : u 13 = (.bool true) := f13
        try simp only [f10, f13, str]
        go_wp2
        refine stq_v rfl Same.refl ?_
        first | (simp only [mkAct, List.foldl_cons, List.foldl_nil, List.setIfInBounds_toArray, List.set_cons_succ, List.set_cons_zero, upd, reduceIte, Nat.reduceEqDiff, Nat.reduceAdd, f10, f13, str]; done) | (simp [mkAct, upd, f10, f13, str, *]; done)
      · -- operation 15
        obtain ⟨f14, -, -⟩ := hp
        replace f14 : u 14 = (.bool true) := f14
        try simp only [f14, str]
        go_wp2
        refine stq_v rfl Same.refl ?_
        first | (simp only [mkAct, List.foldl_cons, List.foldl_nil, List.setIfInBounds_toArray, List.set_cons_succ, List.set_cons_zero, upd, reduceIte, Nat.reduceEqDiff, Nat.reduceAdd, f14, str]; done) | (simp [mkAct, upd, f14, str, *]; done)
      · -- operation 16
        obtain ⟨f15, -⟩ := hp
        replace f15 : u 15 = (.bool true) := f15
        try simp only [f15, str]
        go_wp2_with (refine load_row rfl _ _ rfl w8.heap.size rfl _ _ _ _ ((hI.block _ hbla).trans hba.out) Try.underlying28 rfl hinf.out ?_)
        refine stq_v rfl Same.refl ?_
        first | (simp only [mkAct, List.foldl_cons, List.foldl_nil, List.setIfInBounds_toArray, List.set_cons_succ, List.set_cons_zero, upd, reduceIte, Nat.reduceEqDiff, Nat.reduceAdd, f15, str]; done) | (simp [mkAct, upd, f15, str, *]; done)
      · -- operation 17
        obtain ⟨f15, -⟩ := hp
        replace f15 : u 15 = (.bool true) := f15
        try simp only [f15, str]
        go_wp2_with (refine load_row rfl _ _ rfl w.heap.size rfl _ _ _ _ ((hI.block _ xx).trans hbxa.out) Try.underlying28 rfl hinf.out ?_)
        refine stq_v rfl Same.refl ?_
        first | (simp only [mkAct, List.foldl_cons, List.foldl_nil, List.setIfInBounds_toArray, List.set_cons_succ, List.set_cons_zero, upd, reduceIte, Nat.reduceEqDiff, Nat.reduceAdd, f15, str]; done) | (simp [mkAct, upd, f15, str, *]; done)
      · -- operation 18
        obtain ⟨f16, f17, f15, -⟩ := hp
        replace f16 : u 16 = (.agg (bv d).toArray) := f16
        replace f17 : u 17 = (.agg (bv d).toArray) := f17
        replace f15 : u 15 = (.bool true) := f15
        try simp only [f16, f17, f15, str]
        have e2 := e2.out
        have hgd := dig_guard
        go_wp2
        refine stq_v rfl Same.refl ?_
        first | (simp only [mkAct, List.foldl_cons, List.foldl_nil, List.setIfInBounds_toArray, List.set_cons_succ, List.set_cons_zero, upd, reduceIte, Nat.reduceEqDiff, Nat.reduceAdd, f16, f17, f15, str]; done) | (simp [mkAct, upd, f16, f17, f15, str, *]; done)
      · -- operation 19
        obtain ⟨f15, f18, -⟩ := hp
        replace f15 : u 15 = (.bool true) := f15
        replace f18 : u 18 = (.bool true) := f18
        try simp only [f15, f18, str]
        go_wp2
        refine stq_v rfl Same.refl ?_
        first | (simp only [mkAct, List.foldl_cons, List.foldl_nil, List.setIfInBounds_toArray, List.set_cons_succ, List.set_cons_zero, upd, reduceIte, Nat.reduceEqDiff, Nat.reduceAdd, f15, f18, str]; done) | (simp [mkAct, upd, f15, f18, str, *]; done)
      · -- operation 20
        obtain ⟨f19, -, -⟩ := hp
        replace f19 : u 19 = (.bool true) := f19
        try simp only [f19, str]
        go_wp2
        refine stq_v rfl Same.refl ?_
        first | (simp only [mkAct, List.foldl_cons, List.foldl_nil, List.setIfInBounds_toArray, List.set_cons_succ, List.set_cons_zero, upd, reduceIte, Nat.reduceEqDiff, Nat.reduceAdd, f19, str]; done) | (simp [mkAct, upd, f19, str, *]; done)
      · -- operation 21
        obtain ⟨f20, -⟩ := hp
        replace f20 : u 20 = (.bool true) := f20
        try simp only [f20, str]
        go_wp2
        refine stq_v rfl Same.refl ?_
        first | (simp only [mkAct, List.foldl_cons, List.foldl_nil, List.setIfInBounds_toArray, List.set_cons_succ, List.set_cons_zero, upd, reduceIte, Nat.reduceEqDiff, Nat.reduceAdd, f20, str]; done) | (simp [mkAct, upd, f20, str, *]; done)
      · -- operation 22
        obtain ⟨f21, f20, -⟩ := hp
        replace f21 : u 21 = (.int .i64 0) := f21
        replace f20 : u 20 = (.bool true) := f20
        try simp only [f21, f20, str]
        go_wp2
        refine stq_v rfl Same.refl ?_
        first | (simp only [mkAct, List.foldl_cons, List.foldl_nil, List.setIfInBounds_toArray, List.set_cons_succ, List.set_cons_zero, upd, reduceIte, Nat.reduceEqDiff, Nat.reduceAdd, f21, f20, str]; done) | (simp [mkAct, upd, f21, f20, str, *]; done)
      · -- operation 23
        obtain ⟨f20, f22, -⟩ := hp
        replace f20 : u 20 = (.bool true) := f20
        replace f22 : u 22 = (.bool true) := f22
        try simp only [f20, f22, str]
        go_wp2
        refine stq_v rfl Same.refl ?_
        first | (simp only [mkAct, List.foldl_cons, List.foldl_nil, List.setIfInBounds_toArray, List.set_cons_succ, List.set_cons_zero, upd, reduceIte, Nat.reduceEqDiff, Nat.reduceAdd, f20, f22, str]; done) | (simp [mkAct, upd, f20, f22, str, *]; done)
      · -- operation 24
        obtain ⟨f23, -, -⟩ := hp
        replace f23 : u 23 = (.bool true) := f23
        try simp only [f23, str]
        go_wp2
        refine stq_v rfl Same.refl ?_
        first | (simp only [mkAct, List.foldl_cons, List.foldl_nil, List.setIfInBounds_toArray, List.set_cons_succ, List.set_cons_zero, upd, reduceIte, Nat.reduceEqDiff, Nat.reduceAdd, f23, str]; done) | (simp [mkAct, upd, f23, str, *]; done)
      · -- operation 25
        obtain ⟨-, f24, -⟩ := hp
        replace f24 : u 24 = (.bool true) := f24
        try simp only [f24, str]
        go_wp2_with fail
        refine (hlives.out _).mono ?_
        rintro e w1 ⟨rfl, hs'⟩
        go_wp2
        refine stq_v rfl hs' ?_
        first | (simp only [mkAct, List.foldl_cons, List.foldl_nil, List.setIfInBounds_toArray, List.set_cons_succ, List.set_cons_zero, upd, reduceIte, Nat.reduceEqDiff, Nat.reduceAdd, f24, str]; done) | (simp [mkAct, upd, f24, str, *]; done)
      · -- operation 26
        obtain ⟨f24, f25, -⟩ := hp
        replace f24 : u 24 = (.bool true) := f24
        replace f25 : u 25 = (.bool true) := f25
        try simp only [f24, f25, str]
        go_wp2
        refine stq_v rfl Same.refl ?_
        first | (simp only [mkAct, List.foldl_cons, List.foldl_nil, List.setIfInBounds_toArray, List.set_cons_succ, List.set_cons_zero, upd, reduceIte, Nat.reduceEqDiff, Nat.reduceAdd, f24, f25, str]; done) | (simp [mkAct, upd, f24, f25, str, *]; done)
    · intro u wx hI hR
      obtain ⟨r0, r1, r2, r3, r4, r5, r6, r7, r8, r9, r10, r11, r12, r13, r14, r15, r16, r17, r18, r19, r20, r21, r22, r23, r24, r25, r26, -⟩ := hR
      replace r0 : u 0 = (.agg (bv d).toArray) := r0
      replace r1 : u 1 = (.string T) := r1
      replace r2 : u 2 = (.agg (bv d).toArray) := r2
      replace r3 : u 3 = (.string T) := r3
      replace r4 : u 4 = (.bool true) := r4
      replace r5 : u 5 = (.bool true) := r5
      replace r6 : u 6 = (.agg (bv X).toArray) := r6
      replace r7 : u 7 = (.agg (bv X).toArray) := r7
      replace r8 : u 8 = (.bool true) := r8
      replace r9 : u 9 = (.bool true) := r9
      replace r10 : u 10 = (.bool true) := r10
      replace r11 : u 11 = (.int .i64 (E : Int)) := r11
      replace r12 : u 12 = (.int .i64 (E : Int)) := r12
      replace r13 : u 13 = (.bool true) := r13
      replace r14 : u 14 = (.bool true) := r14
      replace r15 : u 15 = (.bool true) := r15
      replace r16 : u 16 = (.agg (bv d).toArray) := r16
      replace r17 : u 17 = (.agg (bv d).toArray) := r17
      replace r18 : u 18 = (.bool true) := r18
      replace r19 : u 19 = (.bool true) := r19
      replace r20 : u 20 = (.bool true) := r20
      replace r21 : u 21 = (.int .i64 0) := r21
      replace r22 : u 22 = (.bool true) := r22
      replace r23 : u 23 = (.bool true) := r23
      replace r24 : u 24 = (.bool true) := r24
      replace r25 : u 25 = (.bool true) := r25
      replace r26 : u 26 = (.bool true) := r26
      simp only [mkAct, List.foldl_cons, List.foldl_nil, List.setIfInBounds_toArray, List.set_cons_succ, List.set_cons_zero]
      try simp only [str, r0, r1, r2, r3, r4, r5, r6, r7, r8, r9, r10, r11, r12, r13, r14, r15, r16, r17, r18, r19, r20, r21, r22, r23, r24, r25, r26]
      go_wp2
      go_ret
      exact ⟨rfl, (hs0.out.trans hs0a.out).trans hI⟩
end Go.Proofs.Yteokeidclgfgnaa
