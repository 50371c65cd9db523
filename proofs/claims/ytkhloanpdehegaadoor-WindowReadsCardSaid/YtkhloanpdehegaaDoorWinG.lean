/-
  A window's bytes: put by both, read by both.
-/
import Derived.Test.YtkhloanpdehegaaDoorWinK
import Derived.Test.YtkhloanpdehegaaDoorRRdD
namespace Go.Proofs.YtkhloanpdehegaaDoor
open Go Go.RowKit
set_option linter.unusedSimpArgs false
set_option linter.unusedVariables false

theorem putI_le9 {n : Int} (h : n ≤ 9223372036854775807) : (Num.putI n).length ≤ 9 := by
  by_cases h0 : n < 0
  · rw [Num.putI_neg h0]; simp
  · obtain ⟨k, rfl⟩ : ∃ k : Nat, n = (k : Int) := ⟨n.toNat, by omega⟩
    rw [Num.putI_nat]
    exact Num.putN_le (by omega)
def wPut (b : Int) (m : Nat) : List UInt8 := Num.putI b ++ Num.putN (m / 4294967296) ++ Num.putN (m % 4294967296)
theorem mask_lo (m : Nat) (hm : m < 18446744073709551616) : bits BinOp.and IntKind.u64 (m : Int) 4294967295 = ((m % 4294967296 : Nat) : Int) := by
  have e : bits BinOp.and IntKind.u64 (m : Int) ((4294967295 : Nat) : Int) = ((m &&& 4294967295 : Nat) : Int) := bits_and_u64_nat m 4294967295 hm (by decide)
  have e2 : m &&& 4294967295 = m % 4294967296 := Nat.and_two_pow_sub_one_eq_mod m 32
  rw [← e2]
  exact e
theorem isOwn_any (v : Value) (w : World) (base n : Nat) (xs : List Value) (h : isOwn base n xs v w) : Own w base 5 1 v n xs := h
set_option maxRecDepth 100000 in
set_option maxHeartbeats 1600000 in
theorem wput_any (ao : Option Addr) (len cap : Nat) (xs : List UInt8) (b : Int) (m : Nat) (w : World) (hsl : Sl w 1 ao len cap (bv xs)) (hmax : len ≤ 40737487000000) (hb : b ≤ 9223372036854775807) (hm : m < 18446744073709551616) :
    Calls Tryd.prog 36 #[.slice ao len cap, .agg #[.int .i64 b, .int .u64 m]] w (RetB w (xs ++ wPut b m)) := by
  have hml := mask_lo m hm
  have hlen : xs.length = len := by have := hsl.len; rw [bv_length] at this; omega
  have hl1 := putI_le9 hb
  have hl2 := Num.putN_le (n := m / 4294967296) (by omega)
  have hp1 := fun w h => put_any ao len cap xs b w h (by omega) (by omega)
  obtain ⟨A1, hA1⟩ : ∃ A, A = xs ++ Num.putI b := ⟨_, rfl⟩
  have hA1l : A1.length ≤ len + 9 := by rw [hA1]; simp; omega
  have hp2 := fun ao cap w h => put_nat ao A1.length cap A1 (m / 4294967296) w h (by omega) (by omega)
  obtain ⟨A2, hA2⟩ : ∃ A, A = A1 ++ Num.putN (m / 4294967296) := ⟨_, rfl⟩
  have hA2l : A2.length ≤ len + 18 := by rw [hA2]; simp; omega
  have hp3 := fun ao cap w h => put_nat ao A2.length cap A2 (m % 4294967296) w h (by omega) (by omega)
  have hB : xs ++ wPut b m = A2 ++ Num.putN (m % 4294967296) := by rw [hA2, hA1, wPut]; simp
  rw [← hA1] at hp1
  rw [← hA2] at hp2
  rw [hB]
  obtain ⟨A3, hA3⟩ : ∃ A, A = A2 ++ Num.putN (m % 4294967296) := ⟨_, rfl⟩
  rw [← hA3] at hp3 ⊢
  obtain ⟨hi, hhi⟩ : ∃ x, x = m / 4294967296 := ⟨_, rfl⟩
  obtain ⟨lo, hlo⟩ : ∃ x, x = m % 4294967296 := ⟨_, rfl⟩
  have hhl : hi < 4294967296 := by omega
  have hll : lo < 4294967296 := by omega
  rw [← hhi] at hp2
  rw [← hlo] at hp3
  clear hA1 hA2 hA3 hB hl1 hl2 hA1l hA2l
  replace hp1 := Lib.hid hp1
  replace hp2 := Lib.hid hp2
  replace hp3 := Lib.hid hp3
  replace hsl := Lib.hid hsl
  rw [← hlo] at hml
  have hdv : (m : Int) / 4294967296 = (hi : Int) := by omega
  replace hml := Lib.hid hml
  replace hdv := Lib.hid hdv
  clear hhi hlo
  go_enter Tryd.func36, Tryd.ntmps36
  go_upto_region 1 with fail
  obtain ⟨b0, b1, hs0⟩ := box_w w b m
  obtain ⟨w0, hw0⟩ : ∃ x, x = w.alloc (.cells #[.int .i64 b, .int .u64 m] 38) := ⟨_, rfl⟩
  rw [← hw0] at b0 b1 hs0 ⊢
  clear hw0
  have hsl0 := Lib.hid (hsl.out.same hs0)
  replace hs0 := Lib.hid hs0
  clear hsl
  refine wp_region_tails (by kernel_rfl) [(5, 0), (6, 1), (7, 2), (8, 3), (9, 4), (10, 5), (11, 6), (12, 7), (13, 8), (14, 9), (15, 10), (16, 11), (17, 12), (18, 13)] Same (Same _) [isV (.slice ao len cap), isV (.pointer (some ⟨w.heap.size, 0, none⟩)), isV (.int .i64 b), isB A1, isV (.pointer (some ⟨w.heap.size, 1, none⟩)), isV (.int .u64 m), isV (.int .u64 hi), isV (.int .i64 hi), isB A2, isV (.pointer (some ⟨w.heap.size, 1, none⟩)), isV (.int .u64 m), isV (.int .u64 lo), isV (.int .i64 lo), isOwn w0.heap.size A3.length (bv A3)] Same.refl.drew (fun _ _ h k => h.trans k) (by simp [isV_stable, isB_stable, isAny_stable, isOwn_stable]) (by decide) (l := [_, _, _, _, _, _, _, _, _, _, _, _, _, _]) rfl (by decide) (by kernel_rfl) ?_ ?_
  · refine ⟨?_, ?_, ?_, ?_, ?_, ?_, ?_, ?_, ?_, ?_, ?_, ?_, ?_, ?_, trivial⟩
    all_goals (intro u wx hI hp; simp only [mkAct, List.foldl_cons, List.foldl_nil, List.setIfInBounds_toArray, List.set_cons_succ, List.set_cons_zero])
    · -- operation 0
      go_wp2
      refine stq_v rfl Same.refl ?_
      first | (simp only [mkAct, List.foldl_cons, List.foldl_nil, List.setIfInBounds_toArray, List.set_cons_succ, List.set_cons_zero, upd, reduceIte, Nat.reduceEqDiff, Nat.reduceAdd, str]; done) | (simp [mkAct, upd, str, *]; done)
    · -- operation 1
      go_wp2
      refine stq_v rfl Same.refl ?_
      first | (simp only [mkAct, List.foldl_cons, List.foldl_nil, List.setIfInBounds_toArray, List.set_cons_succ, List.set_cons_zero, upd, reduceIte, Nat.reduceEqDiff, Nat.reduceAdd, str]; done) | (simp [mkAct, upd, str, *]; done)
    · -- operation 2
      obtain ⟨f1, -⟩ := hp
      replace f1 : u 1 = (.pointer (some ⟨w.heap.size, 0, none⟩)) := f1
      try simp only [f1, str]
      have cx := hI.cell (b0)
      go_wp2
      refine stq_v rfl Same.refl ?_
      first | (simp only [mkAct, List.foldl_cons, List.foldl_nil, List.setIfInBounds_toArray, List.set_cons_succ, List.set_cons_zero, upd, reduceIte, Nat.reduceEqDiff, Nat.reduceAdd, f1, str]; done) | (simp [mkAct, upd, f1, str, *]; done)
    · -- operation 3
      obtain ⟨f0, f2, -⟩ := hp
      replace f0 : u 0 = (.slice ao len cap) := f0
      replace f2 : u 2 = (.int .i64 b) := f2
      try simp only [f0, f2, str]
      go_wp2_with fail
      refine (hp1.out _ (hsl0.out.same hI)).mono ?_
      rintro e w1 ⟨ao', c', rfl, hsl', hs'⟩
      go_wp2
      refine stq_x (.slice ao' _ c') rfl ⟨ao', c', rfl, hsl'⟩ hs' ?_
      first | (simp only [mkAct, List.foldl_cons, List.foldl_nil, List.setIfInBounds_toArray, List.set_cons_succ, List.set_cons_zero, upd, reduceIte, Nat.reduceEqDiff, Nat.reduceAdd, f0, f2, str]; done) | (simp [mkAct, upd, f0, f2, str, *]; done)
    · -- operation 4
      go_wp2
      refine stq_v rfl Same.refl ?_
      first | (simp only [mkAct, List.foldl_cons, List.foldl_nil, List.setIfInBounds_toArray, List.set_cons_succ, List.set_cons_zero, upd, reduceIte, Nat.reduceEqDiff, Nat.reduceAdd, str]; done) | (simp [mkAct, upd, str, *]; done)
    · -- operation 5
      obtain ⟨f4, -⟩ := hp
      replace f4 : u 4 = (.pointer (some ⟨w.heap.size, 1, none⟩)) := f4
      try simp only [f4, str]
      have cx := hI.cell (b1)
      go_wp2
      refine stq_v rfl Same.refl ?_
      first | (simp only [mkAct, List.foldl_cons, List.foldl_nil, List.setIfInBounds_toArray, List.set_cons_succ, List.set_cons_zero, upd, reduceIte, Nat.reduceEqDiff, Nat.reduceAdd, f4, str]; done) | (simp [mkAct, upd, f4, str, *]; done)
    · -- operation 6
      obtain ⟨f5, -⟩ := hp
      replace f5 : u 5 = (.int .u64 m) := f5
      try simp only [f5, str]
      have hd := hdv.out
      go_wp2
      refine stq_v rfl Same.refl ?_
      first | (simp only [mkAct, List.foldl_cons, List.foldl_nil, List.setIfInBounds_toArray, List.set_cons_succ, List.set_cons_zero, upd, reduceIte, Nat.reduceEqDiff, Nat.reduceAdd, f5, str]; done) | (simp [mkAct, upd, f5, str, *]; done)
    · -- operation 7
      obtain ⟨f6, -⟩ := hp
      replace f6 : u 6 = (.int .u64 hi) := f6
      try simp only [f6, str]
      go_wp2
      refine stq_v rfl Same.refl ?_
      first | (simp only [mkAct, List.foldl_cons, List.foldl_nil, List.setIfInBounds_toArray, List.set_cons_succ, List.set_cons_zero, upd, reduceIte, Nat.reduceEqDiff, Nat.reduceAdd, f6, str]; done) | (simp [mkAct, upd, f6, str, *]; done)
    · -- operation 8
      obtain ⟨⟨ao3, c3, f3, hsl3⟩, f7, -, -⟩ := hp
      replace f7 : u 7 = (.int .i64 hi) := f7
      try simp only [f3, f7, str]
      go_wp2_with fail
      refine ((hp2.out _ _ _ hsl3).mono fun _ _ h => RetB.s h).mono ?_
      rintro e w1 ⟨ao', c', rfl, hsl', hs'⟩
      go_wp2
      refine stq_x (.slice ao' _ c') rfl ⟨ao', c', rfl, hsl'⟩ hs' ?_
      first | (simp only [mkAct, List.foldl_cons, List.foldl_nil, List.setIfInBounds_toArray, List.set_cons_succ, List.set_cons_zero, upd, reduceIte, Nat.reduceEqDiff, Nat.reduceAdd, f3, f7, str]; done) | (simp [mkAct, upd, f3, f7, str, *]; done)
    · -- operation 9
      go_wp2
      refine stq_v rfl Same.refl ?_
      first | (simp only [mkAct, List.foldl_cons, List.foldl_nil, List.setIfInBounds_toArray, List.set_cons_succ, List.set_cons_zero, upd, reduceIte, Nat.reduceEqDiff, Nat.reduceAdd, str]; done) | (simp [mkAct, upd, str, *]; done)
    · -- operation 10
      obtain ⟨f9, -⟩ := hp
      replace f9 : u 9 = (.pointer (some ⟨w.heap.size, 1, none⟩)) := f9
      try simp only [f9, str]
      have cx := hI.cell (b1)
      go_wp2
      refine stq_v rfl Same.refl ?_
      first | (simp only [mkAct, List.foldl_cons, List.foldl_nil, List.setIfInBounds_toArray, List.set_cons_succ, List.set_cons_zero, upd, reduceIte, Nat.reduceEqDiff, Nat.reduceAdd, f9, str]; done) | (simp [mkAct, upd, f9, str, *]; done)
    · -- operation 11
      obtain ⟨f10, -⟩ := hp
      replace f10 : u 10 = (.int .u64 m) := f10
      try simp only [f10, str]
      have hd := hml.out
      go_wp2
      refine stq_v rfl Same.refl ?_
      first | (simp only [mkAct, List.foldl_cons, List.foldl_nil, List.setIfInBounds_toArray, List.set_cons_succ, List.set_cons_zero, upd, reduceIte, Nat.reduceEqDiff, Nat.reduceAdd, f10, str]; done) | (simp [mkAct, upd, f10, str, *]; done)
    · -- operation 12
      obtain ⟨f11, -⟩ := hp
      replace f11 : u 11 = (.int .u64 lo) := f11
      try simp only [f11, str]
      go_wp2
      refine stq_v rfl Same.refl ?_
      first | (simp only [mkAct, List.foldl_cons, List.foldl_nil, List.setIfInBounds_toArray, List.set_cons_succ, List.set_cons_zero, upd, reduceIte, Nat.reduceEqDiff, Nat.reduceAdd, f11, str]; done) | (simp [mkAct, upd, f11, str, *]; done)
    · -- operation 13
      obtain ⟨⟨ao8, c8, f8, hsl8⟩, f12, -, -⟩ := hp
      replace f12 : u 12 = (.int .i64 lo) := f12
      try simp only [f8, f12, str]
      go_wp2_with fail
      refine (hp3.out _ _ _ hsl8).mono ?_
      rintro e w1 ⟨v, rfl, ho, hs'⟩
      go_wp2
      refine stq_x v rfl (ho.lower hI.size) hs' ?_
      first | (simp only [mkAct, List.foldl_cons, List.foldl_nil, List.setIfInBounds_toArray, List.set_cons_succ, List.set_cons_zero, upd, reduceIte, Nat.reduceEqDiff, Nat.reduceAdd, f8, f12, str]; done) | (simp [mkAct, upd, f8, f12, str, *]; done)
  · intro u wx hI hR
    obtain ⟨r0, r1, r2, r3, r4, r5, r6, r7, r8, r9, r10, r11, r12, r13, -⟩ := hR
    replace r0 : u 0 = (.slice ao len cap) := r0
    replace r1 : u 1 = (.pointer (some ⟨w.heap.size, 0, none⟩)) := r1
    replace r2 : u 2 = (.int .i64 b) := r2
    obtain ⟨ao3, c3, r3, hsl3⟩ := r3
    replace r4 : u 4 = (.pointer (some ⟨w.heap.size, 1, none⟩)) := r4
    replace r5 : u 5 = (.int .u64 m) := r5
    replace r6 : u 6 = (.int .u64 hi) := r6
    replace r7 : u 7 = (.int .i64 hi) := r7
    obtain ⟨ao8, c8, r8, hsl8⟩ := r8
    replace r9 : u 9 = (.pointer (some ⟨w.heap.size, 1, none⟩)) := r9
    replace r10 : u 10 = (.int .u64 m) := r10
    replace r11 : u 11 = (.int .u64 lo) := r11
    replace r12 : u 12 = (.int .i64 lo) := r12
    simp only [mkAct, List.foldl_cons, List.foldl_nil, List.setIfInBounds_toArray, List.set_cons_succ, List.set_cons_zero]
    try simp only [str, r0, r1, r2, r3, r4, r5, r6, r7, r8, r9, r10, r11, r12]
    have z0 := hs0.out.size
    go_wp2
    go_ret
    exact ⟨_, rfl, (isOwn_any _ _ _ _ _ r13).lower z0, hs0.out.trans hI⟩
set_option maxRecDepth 100000 in
set_option maxHeartbeats 1600000 in
theorem rwput_any (ao : Option Addr) (len cap : Nat) (xs : List UInt8) (b : Int) (m : Nat) (w : World) (hsl : Sl w 1 ao len cap (bv xs)) (hmax : len ≤ 40737487000000) (hb : b ≤ 9223372036854775807) (hm : m < 18446744073709551616) :
    Calls Tryd.prog 37 #[.slice ao len cap, .agg #[.int .i64 b, .int .u64 m]] w (RetB w (xs ++ wPut b m)) := by
  have hlen : xs.length = len := by have := hsl.len; rw [bv_length] at this; omega
  have hl1 := putI_le9 hb
  have hl2 := Num.putN_le (n := m / 4294967296) (by omega)
  have hp1 := fun w h => rput_any ao len cap xs b w h (by omega) (by omega)
  obtain ⟨A1, hA1⟩ : ∃ A, A = xs ++ Num.putI b := ⟨_, rfl⟩
  have hA1l : A1.length ≤ len + 9 := by rw [hA1]; simp; omega
  have hp2 := fun ao cap w h => rput_nat ao A1.length cap A1 (m / 4294967296) w h (by omega) (by omega)
  obtain ⟨A2, hA2⟩ : ∃ A, A = A1 ++ Num.putN (m / 4294967296) := ⟨_, rfl⟩
  have hA2l : A2.length ≤ len + 18 := by rw [hA2]; simp; omega
  have hp3 := fun ao cap w h => rput_nat ao A2.length cap A2 (m % 4294967296) w h (by omega) (by omega)
  have hB : xs ++ wPut b m = A2 ++ Num.putN (m % 4294967296) := by rw [hA2, hA1, wPut]; simp
  rw [← hA1] at hp1
  rw [← hA2] at hp2
  rw [hB]
  obtain ⟨A3, hA3⟩ : ∃ A, A = A2 ++ Num.putN (m % 4294967296) := ⟨_, rfl⟩
  rw [← hA3] at hp3 ⊢
  obtain ⟨hi, hhi⟩ : ∃ x, x = m / 4294967296 := ⟨_, rfl⟩
  obtain ⟨lo, hlo⟩ : ∃ x, x = m % 4294967296 := ⟨_, rfl⟩
  have hhl : hi < 4294967296 := by omega
  have hll : lo < 4294967296 := by omega
  rw [← hhi] at hp2
  rw [← hlo] at hp3
  clear hA1 hA2 hA3 hB hl1 hl2 hA1l hA2l
  replace hp1 := Lib.hid hp1
  replace hp2 := Lib.hid hp2
  replace hp3 := Lib.hid hp3
  replace hsl := Lib.hid hsl
  have hdv : (m : Int) / 4294967296 = (hi : Int) := by omega
  have hmv : (m : Int) % 4294967296 = (lo : Int) := by omega
  clear hhi hlo
  go_enter Tryd.func37, Tryd.ntmps37
  go_upto_region 1 with fail
  obtain ⟨b0, b1, hs0⟩ := box_w w b m
  obtain ⟨w0, hw0⟩ : ∃ x, x = w.alloc (.cells #[.int .i64 b, .int .u64 m] 38) := ⟨_, rfl⟩
  rw [← hw0] at b0 b1 hs0 ⊢
  clear hw0
  go_wp2_with fail
  refine (hp1.out _ (hsl.out.same hs0)).mono ?_
  rintro e w1 ⟨v, rfl, ho, hs1⟩
  obtain ⟨ao1, c1, rfl, hsl1⟩ := ho.sl
  have c0 := hs1.cell b1
  replace hs0 := Lib.hid (hs0.trans hs1)
  clear hs1 ho b0 b1
  replace hsl1 := Lib.hid hsl1
  go_wp2_with fail
  refine (hp2.out _ _ _ hsl1.out).mono ?_
  rintro e w2 ⟨v, rfl, ho, hs1⟩
  obtain ⟨ao2, c2, rfl, hsl2⟩ := ho.sl
  replace c0 := hs1.cell c0
  replace hs0 := Lib.hid (hs0.out.trans hs1)
  clear hs1 ho hsl1
  replace hsl2 := Lib.hid hsl2
  go_wp2_with fail
  refine (hp3.out _ _ _ hsl2.out).mono ?_
  rintro e w3 ⟨v, rfl, ho, hs1⟩
  have z0 := hs0.out.size
  replace hs0 := Lib.hid (hs0.out.trans hs1)
  clear hs1 c0
  replace ho := Lib.hid ho
  go_wp2
  go_ret
  exact ⟨_, rfl, ho.out.lower z0, hs0.out⟩
end Go.Proofs.YtkhloanpdehegaaDoor
