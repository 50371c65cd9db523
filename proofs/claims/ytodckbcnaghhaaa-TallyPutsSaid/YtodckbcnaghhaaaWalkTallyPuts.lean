/-
  The walk of the law TallyPuts: whatever bytes, number and text, it answers true and turns nothing that was there.
-/
-- @law bytes, int, str
import Derived.Test.YtodckbcnaghhaaaLives1
import Derived.Test.YtodckbcnaghhaaaRef1
import Derived.Test.YtodckbcnaghhaaaStab
import Derived.Deep.DeepCutAuto
import Derived.OpenShut
namespace Go.Proofs.Ytodckbcnaghhaaa
open Go Go.RowKit
set_option linter.unusedSimpArgs false
set_option linter.unusedVariables false

theorem size_any (n : Int) (w : World) (hn : n ≤ 9223372036854775807) :
    Calls Try.prog 12 #[.int .i64 n] w fun e w' => e = .returned (.int .i64 ((Num.putI n).length : Int)) ∧ w = w' := by
  rcases Int.lt_or_le n 0 with h | h
  · rw [Num.putI_neg h]
    exact size_neg n w h
  · obtain ⟨m, rfl⟩ := Int.eq_ofNat_of_zero_le h
    rw [Num.putI_nat, Num.putN_length]
    exact size_nat m w (by omega)
set_option maxRecDepth 100000 in
set_option maxHeartbeats 400000 in
theorem puts_big (ao : Option Addr) (len cap : Nat) (n : Int) (s : ByteArray) (w : World) (h : 5000 < len ∨ len ≤ 5000 ∧ 5000 < s.size) :
    Calls Try.prog 4 #[.slice ao len cap, .int .i64 n, .string s] w fun e w' => e = .returned (.bool true) ∧ Same w w' := by
  have hl := Lib.hid (lives1)
  rcases h with h | ⟨h, h'⟩
  all_goals
    go_enter Try.func4, Try.ntmps4
    go_wp2_with fail
    refine (hl.out _).mono ?_
    rintro e w2 ⟨rfl, hs2⟩
    go_wp2
    go_ret
    exact ⟨rfl, hs2⟩
set_option maxRecDepth 100000 in
set_option maxHeartbeats 1600000 in
theorem puts_main (ao : Option Addr) (len cap : Nat) (xs : List UInt8) (n : Int) (s : ByteArray) (w : World) (hsl : Sl w 1 ao len cap (bv xs)) (hlen : len ≤ 5000) (hs : s.size ≤ 5000) (hn : n ≤ 9223372036854775807) :
    Calls Try.prog 4 #[.slice ao len cap, .int .i64 n, .string s] w fun e w' => e = .returned (.bool true) ∧ Same w w' := by
  have hlx : xs.length = len := by have := hsl.len; rw [bv_length] at this; omega
  replace hlx := Lib.hid hlx
  have hl := Lib.hid (lives1)
  have hput := fun ao len cap w hsl hm => put_any ao len cap xs n w hsl hm hn
  have htxt := fun ao len cap w hsl hm => putText_any ao len cap xs s w hsl hm (by omega)
  have hrput := fun w hsl => rput_any ao len cap xs n w hsl (by omega) hn
  have hrtxt := fun w hsl => rputText_any ao len cap xs s w hsl (by omega) (by omega)
  have hsize := fun w => size_any n w hn
  have hrsize := fun w => rsize_any n w hn
  obtain ⟨A, hA⟩ : ∃ A, A = xs ++ Num.putI n := ⟨_, rfl⟩
  obtain ⟨B, hB⟩ : ∃ B, B = xs ++ Num.putT s.data.toList := ⟨_, rfl⟩
  rw [← hA] at hput hrput
  rw [← hB] at htxt hrtxt
  clear hA hB
  replace hput := Lib.hid hput
  replace htxt := Lib.hid htxt
  replace hrput := Lib.hid hrput
  replace hrtxt := Lib.hid hrtxt
  replace hsize := Lib.hid hsize
  replace hrsize := Lib.hid hrsize
  go_enter Try.func4, Try.ntmps4
  go_upto_region 3 with fail
  go_wp2_with (refine make_cap rfl _ _ rfl byT .i64 .i64 _ (len + 20) rfl rfl (by omega) (by omega) (by omega) ?_)
  intro w1 ho1 hs1 _
  have hsl1 := hsl.same hs1
  have hb1 := hs1.size
  go_wp2_with (at_builtin; refine append_sl rfl _ _ rfl byT ho1 rfl rfl hsl1 bv_cell hb1 (by omega) (by omega) ?_)
  intro v2 w2 ho2 hk2 _
  have hs2 : Same w w2 := hs1.keep hk2 (fun x hx hv => by simp [Value.ownBlock] at hv; omega)
  obtain ⟨ao2, c2, rfl, hslo⟩ := ho2.sl
  clear ho1 hk2 ho2
  go_wp2_with fail
  refine (hput.out _ _ _ _ hslo (by omega)).mono ?_
  rintro e w3 ⟨ao3, c3, rfl, hsl3, hs3⟩
  have hslo3 := hslo.same hs3
  go_wp2_with fail
  refine (htxt.out _ _ _ _ hslo3 (by omega)).mono ?_
  rintro e w4 ⟨v4, rfl, ho4, hs4⟩
  obtain ⟨ao4, c4, rfl, hsl4⟩ := ho4.sl
  have hslo4 := hslo3.same hs4
  have hsl34 := hsl3.same hs4
  have hsall : Same w w4 := (hs2.trans hs3).trans hs4
  have hslb := hsl.same hsall
  clear hslo hslo3 hsl3 ho4 hs1 hs2 hs3 hs4 hsl1
  go_upto_region 6 with fail
  go_cut [6] (fun v wx => v = .bool true ∧ Same w wx)
  case first =>
    refine wp_region_facts (by kernel_rfl) [(31, 0), (32, 1), (33, 2), (34, 3), (35, 4), (36, 5), (37, 6), (38, 7), (39, 8), (40, 9), (41, 10), (42, 11), (43, 12), (44, 13), (45, 14), (46, 15), (47, 16), (48, 17), (49, 18), (50, 19), (51, 20), (52, 21), (53, 22), (54, 23), (55, 24), (56, 25), (57, 26), (58, 27), (59, 28), (60, 29), (61, 30), (62, 31), (63, 32), (6, 33)] Same (Same _) [isV (.slice ao3 A.length c3), isV (str A), isV (.slice ao len cap), isV (.int .i64 n), isB A, isV (str A), isV (.bool true), isV (.bool true), isV (.slice ao4 B.length c4), isV (str B), isV (.slice ao len cap), isV (.string s), isB B, isV (str B), isV (.bool true), isV (.bool true), isV (.bool true), isV (.slice ao2 len c2), isV (str xs), isV (.slice ao len cap), isV (str xs), isV (.bool true), isV (.bool true), isV (.bool true), isV (.int .i64 n), isV (.int .i64 ((Num.putI n).length : Int)), isV (.int .i64 n), isV (.int .i64 ((Num.putI n).length : Int)), isV (.bool true), isV (.bool true), isV (.bool true), isV (.bool true), isV (.bool true), isV (.bool true)] Same.refl.drew (fun _ _ h k => h.trans k) (by simp [isV_stable, isB_stable, isAny_stable]) (by decide) (by decide) ?_ ?_
    · refine ⟨?_, ?_, ?_, ?_, ?_, ?_, ?_, ?_, ?_, ?_, ?_, ?_, ?_, ?_, ?_, ?_, ?_, ?_, ?_, ?_, ?_, ?_, ?_, ?_, ?_, ?_, ?_, ?_, ?_, ?_, ?_, ?_, ?_, ?_, trivial⟩
      all_goals (intro u wx hI hp; simp only [mkAct, List.foldl_cons, List.foldl_nil, List.setIfInBounds_toArray, List.set_cons_succ, List.set_cons_zero])
      · -- operation 0
        go_wp2
        refine stq_v rfl Same.refl ?_
        simp only [mkAct, List.foldl_cons, List.foldl_nil, List.setIfInBounds_toArray, List.set_cons_succ, List.set_cons_zero, upd, reduceIte, Nat.reduceEqDiff, Nat.reduceAdd, str]
      · -- operation 1
        obtain ⟨f0, -⟩ := hp
        replace f0 : u 0 = (.slice ao3 A.length c3) := f0
        try simp only [f0, str]
        go_wp2_with (refine conv_string rfl _ rfl byT u8T strT rfl (hsl34.same hI) ?_)
        refine stq_v rfl Same.refl ?_
        simp only [mkAct, List.foldl_cons, List.foldl_nil, List.setIfInBounds_toArray, List.set_cons_succ, List.set_cons_zero, upd, reduceIte, Nat.reduceEqDiff, Nat.reduceAdd, f0, str]
      · -- operation 2
        go_wp2
        refine stq_v rfl Same.refl ?_
        simp only [mkAct, List.foldl_cons, List.foldl_nil, List.setIfInBounds_toArray, List.set_cons_succ, List.set_cons_zero, upd, reduceIte, Nat.reduceEqDiff, Nat.reduceAdd, str]
      · -- operation 3
        go_wp2
        refine stq_v rfl Same.refl ?_
        simp only [mkAct, List.foldl_cons, List.foldl_nil, List.setIfInBounds_toArray, List.set_cons_succ, List.set_cons_zero, upd, reduceIte, Nat.reduceEqDiff, Nat.reduceAdd, str]
      · -- operation 4
        obtain ⟨f2, f3, -⟩ := hp
        replace f2 : u 2 = (.slice ao len cap) := f2
        replace f3 : u 3 = (.int .i64 n) := f3
        try simp only [f2, f3, str]
        go_wp2_with fail
        refine ((hrput.out _ (hslb.same hI)).mono fun _ _ h => RetB.s h).mono ?_
        rintro e w1 ⟨ao', c', rfl, hsl', hs'⟩
        go_wp2
        refine stq_x (.slice ao' _ c') rfl ⟨ao', c', rfl, hsl'⟩ hs' ?_
        simp only [mkAct, List.foldl_cons, List.foldl_nil, List.setIfInBounds_toArray, List.set_cons_succ, List.set_cons_zero, upd, reduceIte, Nat.reduceEqDiff, Nat.reduceAdd, f2, f3, str]
      · -- operation 5
        obtain ⟨⟨ao4, c4, f4, hsl4⟩, -⟩ := hp
        try simp only [f4, str]
        go_wp2_with (refine conv_string rfl _ rfl byT u8T strT rfl hsl4 ?_)
        refine stq_v rfl Same.refl ?_
        simp only [mkAct, List.foldl_cons, List.foldl_nil, List.setIfInBounds_toArray, List.set_cons_succ, List.set_cons_zero, upd, reduceIte, Nat.reduceEqDiff, Nat.reduceAdd, f4, str]
      · -- operation 6
        obtain ⟨f1, f5, -⟩ := hp
        replace f1 : u 1 = (str A) := f1
        replace f5 : u 5 = (str A) := f5
        try simp only [f1, f5, str]
        go_wp2
        refine stq_v rfl Same.refl ?_
        simp only [mkAct, List.foldl_cons, List.foldl_nil, List.setIfInBounds_toArray, List.set_cons_succ, List.set_cons_zero, upd, reduceIte, Nat.reduceEqDiff, Nat.reduceAdd, f1, f5, str]
      · -- operation 7
        obtain ⟨f6, -, -⟩ := hp
        replace f6 : u 6 = (.bool true) := f6
        try simp only [f6, str]
        go_wp2
        refine stq_v rfl Same.refl ?_
        simp only [mkAct, List.foldl_cons, List.foldl_nil, List.setIfInBounds_toArray, List.set_cons_succ, List.set_cons_zero, upd, reduceIte, Nat.reduceEqDiff, Nat.reduceAdd, f6, str]
      · -- operation 8
        obtain ⟨f7, -⟩ := hp
        replace f7 : u 7 = (.bool true) := f7
        try simp only [f7, str]
        go_wp2
        refine stq_v rfl Same.refl ?_
        simp only [mkAct, List.foldl_cons, List.foldl_nil, List.setIfInBounds_toArray, List.set_cons_succ, List.set_cons_zero, upd, reduceIte, Nat.reduceEqDiff, Nat.reduceAdd, f7, str]
      · -- operation 9
        obtain ⟨f8, f7, -⟩ := hp
        replace f8 : u 8 = (.slice ao4 B.length c4) := f8
        replace f7 : u 7 = (.bool true) := f7
        try simp only [f8, f7, str]
        go_wp2_with (refine conv_string rfl _ rfl byT u8T strT rfl (hsl4.same hI) ?_)
        refine stq_v rfl Same.refl ?_
        simp only [mkAct, List.foldl_cons, List.foldl_nil, List.setIfInBounds_toArray, List.set_cons_succ, List.set_cons_zero, upd, reduceIte, Nat.reduceEqDiff, Nat.reduceAdd, f8, f7, str]
      · -- operation 10
        obtain ⟨f7, -⟩ := hp
        replace f7 : u 7 = (.bool true) := f7
        try simp only [f7, str]
        go_wp2
        refine stq_v rfl Same.refl ?_
        simp only [mkAct, List.foldl_cons, List.foldl_nil, List.setIfInBounds_toArray, List.set_cons_succ, List.set_cons_zero, upd, reduceIte, Nat.reduceEqDiff, Nat.reduceAdd, f7, str]
      · -- operation 11
        obtain ⟨f7, -⟩ := hp
        replace f7 : u 7 = (.bool true) := f7
        try simp only [f7, str]
        go_wp2
        refine stq_v rfl Same.refl ?_
        simp only [mkAct, List.foldl_cons, List.foldl_nil, List.setIfInBounds_toArray, List.set_cons_succ, List.set_cons_zero, upd, reduceIte, Nat.reduceEqDiff, Nat.reduceAdd, f7, str]
      · -- operation 12
        obtain ⟨f10, f11, -, f7, -⟩ := hp
        replace f10 : u 10 = (.slice ao len cap) := f10
        replace f11 : u 11 = (.string s) := f11
        replace f7 : u 7 = (.bool true) := f7
        try simp only [f10, f11, f7, str]
        go_wp2_with fail
        refine ((hrtxt.out _ (hslb.same hI)).mono fun _ _ h => RetB.s h).mono ?_
        rintro e w1 ⟨ao', c', rfl, hsl', hs'⟩
        go_wp2
        refine stq_x (.slice ao' _ c') rfl ⟨ao', c', rfl, hsl'⟩ hs' ?_
        simp only [mkAct, List.foldl_cons, List.foldl_nil, List.setIfInBounds_toArray, List.set_cons_succ, List.set_cons_zero, upd, reduceIte, Nat.reduceEqDiff, Nat.reduceAdd, f10, f11, f7, str]
      · -- operation 13
        obtain ⟨⟨ao12, c12, f12, hsl12⟩, f7, -⟩ := hp
        replace f7 : u 7 = (.bool true) := f7
        try simp only [f12, f7, str]
        go_wp2_with (refine conv_string rfl _ rfl byT u8T strT rfl hsl12 ?_)
        refine stq_v rfl Same.refl ?_
        simp only [mkAct, List.foldl_cons, List.foldl_nil, List.setIfInBounds_toArray, List.set_cons_succ, List.set_cons_zero, upd, reduceIte, Nat.reduceEqDiff, Nat.reduceAdd, f12, f7, str]
      · -- operation 14
        obtain ⟨f9, f13, f7, -⟩ := hp
        replace f9 : u 9 = (str B) := f9
        replace f13 : u 13 = (str B) := f13
        replace f7 : u 7 = (.bool true) := f7
        try simp only [f9, f13, f7, str]
        go_wp2
        refine stq_v rfl Same.refl ?_
        simp only [mkAct, List.foldl_cons, List.foldl_nil, List.setIfInBounds_toArray, List.set_cons_succ, List.set_cons_zero, upd, reduceIte, Nat.reduceEqDiff, Nat.reduceAdd, f9, f13, f7, str]
      · -- operation 15
        obtain ⟨f7, f14, -⟩ := hp
        replace f7 : u 7 = (.bool true) := f7
        replace f14 : u 14 = (.bool true) := f14
        try simp only [f7, f14, str]
        go_wp2
        refine stq_v rfl Same.refl ?_
        simp only [mkAct, List.foldl_cons, List.foldl_nil, List.setIfInBounds_toArray, List.set_cons_succ, List.set_cons_zero, upd, reduceIte, Nat.reduceEqDiff, Nat.reduceAdd, f7, f14, str]
      · -- operation 16
        obtain ⟨f15, -, -⟩ := hp
        replace f15 : u 15 = (.bool true) := f15
        try simp only [f15, str]
        go_wp2
        refine stq_v rfl Same.refl ?_
        simp only [mkAct, List.foldl_cons, List.foldl_nil, List.setIfInBounds_toArray, List.set_cons_succ, List.set_cons_zero, upd, reduceIte, Nat.reduceEqDiff, Nat.reduceAdd, f15, str]
      · -- operation 17
        obtain ⟨f16, -⟩ := hp
        replace f16 : u 16 = (.bool true) := f16
        try simp only [f16, str]
        go_wp2
        refine stq_v rfl Same.refl ?_
        simp only [mkAct, List.foldl_cons, List.foldl_nil, List.setIfInBounds_toArray, List.set_cons_succ, List.set_cons_zero, upd, reduceIte, Nat.reduceEqDiff, Nat.reduceAdd, f16, str]
      · -- operation 18
        obtain ⟨f17, f16, -⟩ := hp
        replace f17 : u 17 = (.slice ao2 len c2) := f17
        replace f16 : u 16 = (.bool true) := f16
        try simp only [f17, f16, str]
        go_wp2_with (refine conv_string rfl _ rfl byT u8T strT rfl (hslo4.same hI) ?_)
        refine stq_v rfl Same.refl ?_
        simp only [mkAct, List.foldl_cons, List.foldl_nil, List.setIfInBounds_toArray, List.set_cons_succ, List.set_cons_zero, upd, reduceIte, Nat.reduceEqDiff, Nat.reduceAdd, f17, f16, str]
      · -- operation 19
        obtain ⟨f16, -⟩ := hp
        replace f16 : u 16 = (.bool true) := f16
        try simp only [f16, str]
        go_wp2
        refine stq_v rfl Same.refl ?_
        simp only [mkAct, List.foldl_cons, List.foldl_nil, List.setIfInBounds_toArray, List.set_cons_succ, List.set_cons_zero, upd, reduceIte, Nat.reduceEqDiff, Nat.reduceAdd, f16, str]
      · -- operation 20
        obtain ⟨f19, f16, -⟩ := hp
        replace f19 : u 19 = (.slice ao len cap) := f19
        replace f16 : u 16 = (.bool true) := f16
        try simp only [f19, f16, str]
        go_wp2_with (refine conv_string rfl _ rfl byT u8T strT rfl (hslb.same hI) ?_)
        refine stq_v rfl Same.refl ?_
        simp only [mkAct, List.foldl_cons, List.foldl_nil, List.setIfInBounds_toArray, List.set_cons_succ, List.set_cons_zero, upd, reduceIte, Nat.reduceEqDiff, Nat.reduceAdd, f19, f16, str]
      · -- operation 21
        obtain ⟨f18, f20, f16, -⟩ := hp
        replace f18 : u 18 = (str xs) := f18
        replace f20 : u 20 = (str xs) := f20
        replace f16 : u 16 = (.bool true) := f16
        try simp only [f18, f20, f16, str]
        go_wp2
        refine stq_v rfl Same.refl ?_
        simp only [mkAct, List.foldl_cons, List.foldl_nil, List.setIfInBounds_toArray, List.set_cons_succ, List.set_cons_zero, upd, reduceIte, Nat.reduceEqDiff, Nat.reduceAdd, f18, f20, f16, str]
      · -- operation 22
        obtain ⟨f16, f21, -⟩ := hp
        replace f16 : u 16 = (.bool true) := f16
        replace f21 : u 21 = (.bool true) := f21
        try simp only [f16, f21, str]
        go_wp2
        refine stq_v rfl Same.refl ?_
        simp only [mkAct, List.foldl_cons, List.foldl_nil, List.setIfInBounds_toArray, List.set_cons_succ, List.set_cons_zero, upd, reduceIte, Nat.reduceEqDiff, Nat.reduceAdd, f16, f21, str]
      · -- operation 23
        obtain ⟨f22, -, -⟩ := hp
        replace f22 : u 22 = (.bool true) := f22
        try simp only [f22, str]
        go_wp2
        refine stq_v rfl Same.refl ?_
        simp only [mkAct, List.foldl_cons, List.foldl_nil, List.setIfInBounds_toArray, List.set_cons_succ, List.set_cons_zero, upd, reduceIte, Nat.reduceEqDiff, Nat.reduceAdd, f22, str]
      · -- operation 24
        obtain ⟨f23, -⟩ := hp
        replace f23 : u 23 = (.bool true) := f23
        try simp only [f23, str]
        go_wp2
        refine stq_v rfl Same.refl ?_
        simp only [mkAct, List.foldl_cons, List.foldl_nil, List.setIfInBounds_toArray, List.set_cons_succ, List.set_cons_zero, upd, reduceIte, Nat.reduceEqDiff, Nat.reduceAdd, f23, str]
      · -- operation 25
        obtain ⟨f24, -, f23, -⟩ := hp
        replace f24 : u 24 = (.int .i64 n) := f24
        replace f23 : u 23 = (.bool true) := f23
        try simp only [f24, f23, str]
        go_wp2_with fail
        refine (hsize.out _).mono ?_
        rintro e w1 ⟨rfl, rfl⟩
        go_wp2
        refine stq_v rfl Same.refl ?_
        simp only [mkAct, List.foldl_cons, List.foldl_nil, List.setIfInBounds_toArray, List.set_cons_succ, List.set_cons_zero, upd, reduceIte, Nat.reduceEqDiff, Nat.reduceAdd, f24, f23, str]
      · -- operation 26
        obtain ⟨f23, -⟩ := hp
        replace f23 : u 23 = (.bool true) := f23
        try simp only [f23, str]
        go_wp2
        refine stq_v rfl Same.refl ?_
        simp only [mkAct, List.foldl_cons, List.foldl_nil, List.setIfInBounds_toArray, List.set_cons_succ, List.set_cons_zero, upd, reduceIte, Nat.reduceEqDiff, Nat.reduceAdd, f23, str]
      · -- operation 27
        obtain ⟨f26, -, f23, -⟩ := hp
        replace f26 : u 26 = (.int .i64 n) := f26
        replace f23 : u 23 = (.bool true) := f23
        try simp only [f26, f23, str]
        go_wp2_with fail
        refine (hrsize.out _).mono ?_
        rintro e w1 ⟨rfl, hs'⟩
        go_wp2
        refine stq_v rfl hs' ?_
        simp only [mkAct, List.foldl_cons, List.foldl_nil, List.setIfInBounds_toArray, List.set_cons_succ, List.set_cons_zero, upd, reduceIte, Nat.reduceEqDiff, Nat.reduceAdd, f26, f23, str]
      · -- operation 28
        obtain ⟨f25, f27, f23, -⟩ := hp
        replace f25 : u 25 = (.int .i64 ((Num.putI n).length : Int)) := f25
        replace f27 : u 27 = (.int .i64 ((Num.putI n).length : Int)) := f27
        replace f23 : u 23 = (.bool true) := f23
        try simp only [f25, f27, f23, str]
        go_wp2
        refine stq_v rfl Same.refl ?_
        simp only [mkAct, List.foldl_cons, List.foldl_nil, List.setIfInBounds_toArray, List.set_cons_succ, List.set_cons_zero, upd, reduceIte, Nat.reduceEqDiff, Nat.reduceAdd, f25, f27, f23, str]
      · -- operation 29
        obtain ⟨f23, f28, -⟩ := hp
        replace f23 : u 23 = (.bool true) := f23
        replace f28 : u 28 = (.bool true) := f28
        try simp only [f23, f28, str]
        go_wp2
        refine stq_v rfl Same.refl ?_
        simp only [mkAct, List.foldl_cons, List.foldl_nil, List.setIfInBounds_toArray, List.set_cons_succ, List.set_cons_zero, upd, reduceIte, Nat.reduceEqDiff, Nat.reduceAdd, f23, f28, str]
      · -- operation 30
        obtain ⟨f29, -, -⟩ := hp
        replace f29 : u 29 = (.bool true) := f29
        try simp only [f29, str]
        go_wp2
        refine stq_v rfl Same.refl ?_
        simp only [mkAct, List.foldl_cons, List.foldl_nil, List.setIfInBounds_toArray, List.set_cons_succ, List.set_cons_zero, upd, reduceIte, Nat.reduceEqDiff, Nat.reduceAdd, f29, str]
      · -- operation 31
        obtain ⟨-, f30, -⟩ := hp
        replace f30 : u 30 = (.bool true) := f30
        try simp only [f30, str]
        go_wp2_with fail
        refine (hl.out _).mono ?_
        rintro e w1 ⟨rfl, hs'⟩
        go_wp2
        refine stq_v rfl hs' ?_
        simp only [mkAct, List.foldl_cons, List.foldl_nil, List.setIfInBounds_toArray, List.set_cons_succ, List.set_cons_zero, upd, reduceIte, Nat.reduceEqDiff, Nat.reduceAdd, f30, str]
      · -- operation 32
        obtain ⟨f30, f31, -⟩ := hp
        replace f30 : u 30 = (.bool true) := f30
        replace f31 : u 31 = (.bool true) := f31
        try simp only [f30, f31, str]
        go_wp2
        refine stq_v rfl Same.refl ?_
        simp only [mkAct, List.foldl_cons, List.foldl_nil, List.setIfInBounds_toArray, List.set_cons_succ, List.set_cons_zero, upd, reduceIte, Nat.reduceEqDiff, Nat.reduceAdd, f30, f31, str]
      · -- operation 33
        obtain ⟨f32, -, -, -, -, -, -, -, -, -, -, -, -, -, -, -, -, -, -, -, -, -, -, -, -, -, -, -, -, -, -, -, -, -, -, -⟩ := hp
        replace f32 : u 32 = (.bool true) := f32
        try simp only [f32, str]
        go_wp2
        refine stq_v rfl Same.refl ?_
        simp only [mkAct, List.foldl_cons, List.foldl_nil, List.setIfInBounds_toArray, List.set_cons_succ, List.set_cons_zero, upd, reduceIte, Nat.reduceEqDiff, Nat.reduceAdd, f32, str]
    · intro u wx hI hR
      obtain ⟨r0, r1, r2, r3, r4, r5, r6, r7, r8, r9, r10, r11, r12, r13, r14, r15, r16, r17, r18, r19, r20, r21, r22, r23, r24, r25, r26, r27, r28, r29, r30, r31, r32, r33, -⟩ := hR
      replace r0 : u 0 = (.slice ao3 A.length c3) := r0
      replace r1 : u 1 = (str A) := r1
      replace r2 : u 2 = (.slice ao len cap) := r2
      replace r3 : u 3 = (.int .i64 n) := r3
      replace r5 : u 5 = (str A) := r5
      replace r6 : u 6 = (.bool true) := r6
      replace r7 : u 7 = (.bool true) := r7
      replace r8 : u 8 = (.slice ao4 B.length c4) := r8
      replace r9 : u 9 = (str B) := r9
      replace r10 : u 10 = (.slice ao len cap) := r10
      replace r11 : u 11 = (.string s) := r11
      replace r13 : u 13 = (str B) := r13
      replace r14 : u 14 = (.bool true) := r14
      replace r15 : u 15 = (.bool true) := r15
      replace r16 : u 16 = (.bool true) := r16
      replace r17 : u 17 = (.slice ao2 len c2) := r17
      replace r18 : u 18 = (str xs) := r18
      replace r19 : u 19 = (.slice ao len cap) := r19
      replace r20 : u 20 = (str xs) := r20
      replace r21 : u 21 = (.bool true) := r21
      replace r22 : u 22 = (.bool true) := r22
      replace r23 : u 23 = (.bool true) := r23
      replace r24 : u 24 = (.int .i64 n) := r24
      replace r25 : u 25 = (.int .i64 ((Num.putI n).length : Int)) := r25
      replace r26 : u 26 = (.int .i64 n) := r26
      replace r27 : u 27 = (.int .i64 ((Num.putI n).length : Int)) := r27
      replace r28 : u 28 = (.bool true) := r28
      replace r29 : u 29 = (.bool true) := r29
      replace r30 : u 30 = (.bool true) := r30
      replace r31 : u 31 = (.bool true) := r31
      replace r32 : u 32 = (.bool true) := r32
      replace r33 : u 33 = (.bool true) := r33
      simp only [mkAct, List.foldl_cons, List.foldl_nil, List.setIfInBounds_toArray, List.set_cons_succ, List.set_cons_zero]
      go_wp2_with fail
      go_meet
      exact ⟨by first | assumption | rfl, hsall.trans hI⟩
  case rest =>
    obtain ⟨rfl, hs⟩ := hcut
    go_wp2
    go_ret
    exact ⟨rfl, hs⟩
theorem walk_TallyPuts (w : World) (ao : Option Addr) (len cap : Nat) (xs : List UInt8) (hsl : Sl w 1 ao len cap (bv xs)) (n : Int) (hn : (Lit.int .i64 n).wf = true) (s : ByteArray) (hs : s.size ≤ maxLen) :
    Calls Try.prog 4 #[.slice ao len cap, .int .i64 n, .string s] w fun e w' => e = .returned (.bool true) ∧ Same w w' := by
  have b1 := bounds_i64 hn
  by_cases h : 5000 < len ∨ len ≤ 5000 ∧ 5000 < s.size
  · exact puts_big ao len cap n s w h
  · exact puts_main ao len cap xs n s w hsl (by omega) (by omega) (by omega)
end Go.Proofs.Ytodckbcnaghhaaa
