/-
  The walk of the law TallyForm: whatever bytes, it answers true and turns nothing that was there.
-/
-- @law bytes
import Derived.Test.YtodckbcnaghhaaaLives1
import Derived.Test.YtodckbcnaghhaaaStab
import Derived.Deep.DeepCutAuto
import Derived.OpenShut
namespace Go.Proofs.Ytodckbcnaghhaaa
open Go Go.RowKit
set_option linter.unusedSimpArgs false
set_option linter.unusedVariables false

set_option maxRecDepth 100000 in
set_option maxHeartbeats 400000 in
theorem form_big (ao : Option Addr) (len cap : Nat) (w : World) (h : 5000 < len) :
    Calls Try.prog 5 #[.slice ao len cap] w fun e w' => e = .returned (.bool true) ∧ Same w w' := by
  have hl := Lib.hid (lives1)
  go_enter Try.func5, Try.ntmps5
  go_wp2_with fail
  refine (hl.out _).mono ?_
  rintro e w2 ⟨rfl, hs2⟩
  go_wp2
  go_ret
  exact ⟨rfl, hs2⟩
theorem keep_reader {w w1 w2 : World} {rb : Nat} (h : Same w w1) (k : Keep (· = rb) w1 w2) (hr : w.heap.size ≤ rb) : Same w w2 := h.keep k (fun x hx hv => by subst hv; omega)
set_option maxRecDepth 100000 in
set_option maxHeartbeats 400000 in
theorem form_bad (ao : Option Addr) (len cap : Nat) (xs : List UInt8) (e : Nat) (w : World) (hsl : Sl w 1 ao len cap (bv xs)) (hlen : len ≤ 5000) (hn : Num.numAt xs = (0, 0, e)) (he : e = 10 ∨ e = 11) :
    Calls Try.prog 5 #[.slice ao len cap] w fun e w' => e = .returned (.bool true) ∧ Same w w' := by
  have hl := Lib.hid (lives1)
  have hread := Lib.hid (read_any ao len cap xs w hsl (by omega))
  have hnum := fun rb db w h => num_any rb db (xs, 0) 9223372036854775807 w h
  have hr : Num.rNum (xs, 0) 9223372036854775807 = (0, ([], e)) := by
    rw [Num.rNum, if_neg (by simp), hn]
    simp only
    rw [if_pos (by omega)]
  rw [hr] at hnum
  replace hnum := Lib.hid hnum
  have herr := Lib.hid (fun rb db w h => err_any rb db ([], e) w h)
  have h1 : ((e : Int) != 0) = true := by simp; omega
  clear hr hn he
  go_enter Try.func5, Try.ntmps5
  go_wp2_with fail
  refine hread.out.mono ?_
  rintro e w' ⟨rb, db, rfl, hr, hrb, hdb, hs1⟩
  rename_i w1
  go_wp2_with fail
  refine (hnum.out _ _ _ hr).mono ?_
  rintro e w2 ⟨rfl, hr2, hk2⟩
  have hs2 := keep_reader hs1 hk2 hrb
  clear hs1 hk2 hr
  go_wp2_with fail
  refine (herr.out _ _ _ hr2).mono ?_
  rintro e w3 ⟨rfl, rfl⟩
  go_wp2_with fail
  refine (hl.out _).mono ?_
  rintro e w4 ⟨rfl, hs4⟩
  go_wp2
  go_ret
  exact ⟨rfl, hs2.trans hs4⟩
set_option maxRecDepth 100000 in
set_option maxHeartbeats 1600000 in
theorem form_ok (ao : Option Addr) (len cap : Nat) (xs : List UInt8) (n size : Nat) (w : World) (hsl : Sl w 1 ao len cap (bv xs)) (hlen : len ≤ 5000) (hn : Num.numAt xs = (n, size, 0)) (hs0 : 0 < size) (hs9 : size ≤ 9) (hsz : size ≤ xs.length) (hmax : n ≤ 9223372036854775807) (htake : xs.take size = Num.putN n) :
    Calls Try.prog 5 #[.slice ao len cap] w fun e w' => e = .returned (.bool true) ∧ Same w w' := by
  have hlx : xs.length = len := by have := hsl.len; rw [bv_length] at this; omega
  have hl := Lib.hid (lives1)
  have hread := Lib.hid (read_any ao len cap xs w hsl (by omega))
  have hnum := fun rb db w h => num_any rb db (xs, 0) 9223372036854775807 w h
  have hr : Num.rNum (xs, 0) 9223372036854775807 = (n, (xs.drop size, 0)) := by
    rw [Num.rNum, if_neg (by simp), hn]
    simp only
    rw [if_neg (by simp), if_neg (by omega)]
  rw [hr] at hnum
  replace hnum := Lib.hid hnum
  have herr := Lib.hid (fun rb db w h => err_any rb db (xs.drop size, 0) w h)
  have hleft := fun rb db w h => left2_any rb db (xs.drop size, 0) w h
  have hll : Num.rLeft (xs.drop size, 0) = len - size := by
    rw [Num.rLeft, if_neg (by simp), List.length_drop, hlx]
  rw [hll] at hleft
  replace hleft := Lib.hid hleft
  have hlp : (Num.putN n).length = size := by rw [← htake, List.length_take]; omega
  have hsize := fun w => size_nat n w hmax
  rw [← Num.putN_length, hlp] at hsize
  replace hsize := Lib.hid hsize
  have hput := Lib.hid (fun w => (put_nat none 0 0 [] n w (Sl.none w 1) (by omega) hmax).mono fun _ _ h => RetB.s h)
  obtain ⟨b, rfl⟩ := hsl.addr (by omega)
  have hcap := hsl.cap
  have hmost := hsl.most
  unfold maxLen at hmost
  have htk := hsl.take (k := size) (by omega)
  rw [Nat.mul_one, bv_take, htake] at htk
  replace htk := Lib.hid htk
  obtain ⟨A, hA⟩ : ∃ A, A = Num.putN n := ⟨_, rfl⟩
  rw [List.nil_append, ← hA] at hput
  rw [← hA] at htk
  rw [← hA] at hlp
  replace hlp := Lib.hid hlp
  have hsz2 : size ≤ len := by omega
  clear hr hn hll hlx htake hA hsz
  go_enter Try.func5, Try.ntmps5
  go_wp2_with fail
  refine hread.out.mono ?_
  rintro e w' ⟨rb, db, rfl, hr, hrb, hdb, hs1⟩
  rename_i w1
  go_wp2_with fail
  refine (hnum.out _ _ _ hr).mono ?_
  rintro e w2 ⟨rfl, hr2, hk2⟩
  have hs2 := keep_reader hs1 hk2 hrb
  clear hs1 hk2 hr
  go_wp2_with fail
  refine (herr.out _ _ _ hr2).mono ?_
  rintro e w3 ⟨rfl, rfl⟩
  go_wp2_with fail
  refine (hleft.out _ _ _ hr2).mono ?_
  rintro e w3 ⟨rfl, rfl⟩
  have hsub : ((len : Int) - ((len - size : Nat) : Int)) = (size : Int) := by omega
  go_upto_region 8 with fail
  go_cut [2] (fun v wx => v = .bool true ∧ Same w wx)
  case first =>
    refine wp_region_facts (by kernel_rfl) [(27, 0), (28, 1), (29, 2), (30, 3), (31, 4), (32, 5), (33, 6), (34, 7), (35, 8), (36, 9), (37, 10), (38, 11), (39, 12), (40, 13), (41, 14), (42, 15), (43, 16), (2, 17)] Same (Same _) [isV (.int .i64 size), isV (.int .i64 n), isV (.int .i64 size), isV (.bool true), isV (.bool true), isV (.int .i64 n), isB A, isV (str A), isV (.slice (some b) len cap), isV (.int .i64 size), isV (.slice (some b) size cap), isV (str A), isV (.bool true), isV (.bool true), isV (.bool true), isV (.bool true), isV (.bool true), isV (.bool true)] Same.refl.drew (fun _ _ h k => h.trans k) (by simp [isV_stable, isB_stable, isAny_stable]) (by decide) (by decide) ?_ ?_
    · refine ⟨?_, ?_, ?_, ?_, ?_, ?_, ?_, ?_, ?_, ?_, ?_, ?_, ?_, ?_, ?_, ?_, ?_, ?_, trivial⟩
      all_goals (intro u wx hI hp; simp only [mkAct, List.foldl_cons, List.foldl_nil, List.setIfInBounds_toArray, List.set_cons_succ, List.set_cons_zero])
      · -- operation 0
        go_wp2
        refine stq_v rfl Same.refl ?_
        simp only [mkAct, List.foldl_cons, List.foldl_nil, List.setIfInBounds_toArray, List.set_cons_succ, List.set_cons_zero, upd, reduceIte, Nat.reduceEqDiff, Nat.reduceAdd, str]
      · -- operation 1
        go_wp2
        refine stq_v rfl Same.refl ?_
        simp only [mkAct, List.foldl_cons, List.foldl_nil, List.setIfInBounds_toArray, List.set_cons_succ, List.set_cons_zero, upd, reduceIte, Nat.reduceEqDiff, Nat.reduceAdd, str]
      · -- operation 2
        obtain ⟨f1, -⟩ := hp
        replace f1 : u 1 = (.int .i64 n) := f1
        try simp only [f1, str]
        go_wp2_with fail
        refine (hsize.out _).mono ?_
        rintro e w1 ⟨rfl, rfl⟩
        go_wp2
        refine stq_v rfl Same.refl ?_
        simp only [mkAct, List.foldl_cons, List.foldl_nil, List.setIfInBounds_toArray, List.set_cons_succ, List.set_cons_zero, upd, reduceIte, Nat.reduceEqDiff, Nat.reduceAdd, f1, str]
      · -- operation 3
        obtain ⟨f0, f2, -⟩ := hp
        replace f0 : u 0 = (.int .i64 size) := f0
        replace f2 : u 2 = (.int .i64 size) := f2
        try simp only [f0, f2, str]
        go_wp2
        refine stq_v rfl Same.refl ?_
        simp only [mkAct, List.foldl_cons, List.foldl_nil, List.setIfInBounds_toArray, List.set_cons_succ, List.set_cons_zero, upd, reduceIte, Nat.reduceEqDiff, Nat.reduceAdd, f0, f2, str]
      · -- operation 4
        obtain ⟨f3, -, -⟩ := hp
        replace f3 : u 3 = (.bool true) := f3
        try simp only [f3, str]
        go_wp2
        refine stq_v rfl Same.refl ?_
        simp only [mkAct, List.foldl_cons, List.foldl_nil, List.setIfInBounds_toArray, List.set_cons_succ, List.set_cons_zero, upd, reduceIte, Nat.reduceEqDiff, Nat.reduceAdd, f3, str]
      · -- operation 5
        obtain ⟨f4, -⟩ := hp
        replace f4 : u 4 = (.bool true) := f4
        try simp only [f4, str]
        go_wp2
        refine stq_v rfl Same.refl ?_
        simp only [mkAct, List.foldl_cons, List.foldl_nil, List.setIfInBounds_toArray, List.set_cons_succ, List.set_cons_zero, upd, reduceIte, Nat.reduceEqDiff, Nat.reduceAdd, f4, str]
      · -- operation 6
        obtain ⟨f5, -, f4, -⟩ := hp
        replace f5 : u 5 = (.int .i64 n) := f5
        replace f4 : u 4 = (.bool true) := f4
        try simp only [f5, f4, str]
        go_wp2_with fail
        refine (hput.out _).mono ?_
        rintro e w1 ⟨ao', c', rfl, hsl', hs'⟩
        go_wp2
        refine stq_x (.slice ao' _ c') rfl ⟨ao', c', rfl, hsl'⟩ hs' ?_
        simp only [mkAct, List.foldl_cons, List.foldl_nil, List.setIfInBounds_toArray, List.set_cons_succ, List.set_cons_zero, upd, reduceIte, Nat.reduceEqDiff, Nat.reduceAdd, f5, f4, str]
      · -- operation 7
        obtain ⟨⟨ao6, c6, f6, hsl6⟩, f4, -⟩ := hp
        replace f4 : u 4 = (.bool true) := f4
        try simp only [f6, f4, str]
        go_wp2_with (refine conv_string rfl _ rfl byT u8T strT rfl hsl6 ?_)
        refine stq_v rfl Same.refl ?_
        simp only [mkAct, List.foldl_cons, List.foldl_nil, List.setIfInBounds_toArray, List.set_cons_succ, List.set_cons_zero, upd, reduceIte, Nat.reduceEqDiff, Nat.reduceAdd, f6, f4, str]
      · -- operation 8
        obtain ⟨f4, -⟩ := hp
        replace f4 : u 4 = (.bool true) := f4
        try simp only [f4, str]
        go_wp2
        refine stq_v rfl Same.refl ?_
        simp only [mkAct, List.foldl_cons, List.foldl_nil, List.setIfInBounds_toArray, List.set_cons_succ, List.set_cons_zero, upd, reduceIte, Nat.reduceEqDiff, Nat.reduceAdd, f4, str]
      · -- operation 9
        obtain ⟨f4, -⟩ := hp
        replace f4 : u 4 = (.bool true) := f4
        try simp only [f4, str]
        go_wp2
        refine stq_v rfl Same.refl ?_
        simp only [mkAct, List.foldl_cons, List.foldl_nil, List.setIfInBounds_toArray, List.set_cons_succ, List.set_cons_zero, upd, reduceIte, Nat.reduceEqDiff, Nat.reduceAdd, f4, str]
      · -- operation 10
        obtain ⟨f8, f9, f4, -⟩ := hp
        replace f8 : u 8 = (.slice (some b) len cap) := f8
        replace f9 : u 9 = (.int .i64 size) := f9
        replace f4 : u 4 = (.bool true) := f4
        try simp only [f8, f9, f4, str]
        go_wp2
        refine stq_v rfl Same.refl ?_
        simp only [mkAct, List.foldl_cons, List.foldl_nil, List.setIfInBounds_toArray, List.set_cons_succ, List.set_cons_zero, upd, reduceIte, Nat.reduceEqDiff, Nat.reduceAdd, f8, f9, f4, str]
      · -- operation 11
        obtain ⟨f10, f4, -⟩ := hp
        replace f10 : u 10 = (.slice (some b) size cap) := f10
        replace f4 : u 4 = (.bool true) := f4
        try simp only [f10, f4, str]
        go_wp2_with (refine conv_string rfl _ rfl byT u8T strT rfl (htk.out.same (hs2.trans hI)) ?_)
        refine stq_v rfl Same.refl ?_
        simp only [mkAct, List.foldl_cons, List.foldl_nil, List.setIfInBounds_toArray, List.set_cons_succ, List.set_cons_zero, upd, reduceIte, Nat.reduceEqDiff, Nat.reduceAdd, f10, f4, str]
      · -- operation 12
        obtain ⟨f7, f11, f4, -⟩ := hp
        replace f7 : u 7 = (str A) := f7
        replace f11 : u 11 = (str A) := f11
        replace f4 : u 4 = (.bool true) := f4
        try simp only [f7, f11, f4, str]
        go_wp2
        refine stq_v rfl Same.refl ?_
        simp only [mkAct, List.foldl_cons, List.foldl_nil, List.setIfInBounds_toArray, List.set_cons_succ, List.set_cons_zero, upd, reduceIte, Nat.reduceEqDiff, Nat.reduceAdd, f7, f11, f4, str]
      · -- operation 13
        obtain ⟨f4, f12, -⟩ := hp
        replace f4 : u 4 = (.bool true) := f4
        replace f12 : u 12 = (.bool true) := f12
        try simp only [f4, f12, str]
        go_wp2
        refine stq_v rfl Same.refl ?_
        simp only [mkAct, List.foldl_cons, List.foldl_nil, List.setIfInBounds_toArray, List.set_cons_succ, List.set_cons_zero, upd, reduceIte, Nat.reduceEqDiff, Nat.reduceAdd, f4, f12, str]
      · -- operation 14
        obtain ⟨f13, -, -⟩ := hp
        replace f13 : u 13 = (.bool true) := f13
        try simp only [f13, str]
        go_wp2
        refine stq_v rfl Same.refl ?_
        simp only [mkAct, List.foldl_cons, List.foldl_nil, List.setIfInBounds_toArray, List.set_cons_succ, List.set_cons_zero, upd, reduceIte, Nat.reduceEqDiff, Nat.reduceAdd, f13, str]
      · -- operation 15
        obtain ⟨-, f14, -⟩ := hp
        replace f14 : u 14 = (.bool true) := f14
        try simp only [f14, str]
        go_wp2_with fail
        refine (hl.out _).mono ?_
        rintro e w1 ⟨rfl, hs'⟩
        go_wp2
        refine stq_v rfl hs' ?_
        simp only [mkAct, List.foldl_cons, List.foldl_nil, List.setIfInBounds_toArray, List.set_cons_succ, List.set_cons_zero, upd, reduceIte, Nat.reduceEqDiff, Nat.reduceAdd, f14, str]
      · -- operation 16
        obtain ⟨f14, f15, -⟩ := hp
        replace f14 : u 14 = (.bool true) := f14
        replace f15 : u 15 = (.bool true) := f15
        try simp only [f14, f15, str]
        go_wp2
        refine stq_v rfl Same.refl ?_
        simp only [mkAct, List.foldl_cons, List.foldl_nil, List.setIfInBounds_toArray, List.set_cons_succ, List.set_cons_zero, upd, reduceIte, Nat.reduceEqDiff, Nat.reduceAdd, f14, f15, str]
      · -- operation 17
        obtain ⟨f16, -, -, -, -, -, -, -, -, -, -, -, -, -, -, -, -, -, -, -⟩ := hp
        replace f16 : u 16 = (.bool true) := f16
        try simp only [f16, str]
        go_wp2
        refine stq_v rfl Same.refl ?_
        simp only [mkAct, List.foldl_cons, List.foldl_nil, List.setIfInBounds_toArray, List.set_cons_succ, List.set_cons_zero, upd, reduceIte, Nat.reduceEqDiff, Nat.reduceAdd, f16, str]
    · intro u wx hI hR
      obtain ⟨r0, r1, r2, r3, r4, r5, r6, r7, r8, r9, r10, r11, r12, r13, r14, r15, r16, r17, -⟩ := hR
      replace r0 : u 0 = (.int .i64 size) := r0
      replace r1 : u 1 = (.int .i64 n) := r1
      replace r2 : u 2 = (.int .i64 size) := r2
      replace r3 : u 3 = (.bool true) := r3
      replace r4 : u 4 = (.bool true) := r4
      replace r5 : u 5 = (.int .i64 n) := r5
      replace r7 : u 7 = (str A) := r7
      replace r8 : u 8 = (.slice (some b) len cap) := r8
      replace r9 : u 9 = (.int .i64 size) := r9
      replace r10 : u 10 = (.slice (some b) size cap) := r10
      replace r11 : u 11 = (str A) := r11
      replace r12 : u 12 = (.bool true) := r12
      replace r13 : u 13 = (.bool true) := r13
      replace r14 : u 14 = (.bool true) := r14
      replace r15 : u 15 = (.bool true) := r15
      replace r16 : u 16 = (.bool true) := r16
      replace r17 : u 17 = (.bool true) := r17
      simp only [mkAct, List.foldl_cons, List.foldl_nil, List.setIfInBounds_toArray, List.set_cons_succ, List.set_cons_zero]
      go_wp2_with fail
      go_meet
      exact ⟨by first | assumption | rfl, hs2.trans hI⟩
  case rest =>
    obtain ⟨rfl, hs⟩ := hcut
    go_wp2
    go_ret
    exact ⟨rfl, hs⟩
theorem walk_TallyForm (w : World) (ao : Option Addr) (len cap : Nat) (xs : List UInt8) (hsl : Sl w 1 ao len cap (bv xs)) :
    Calls Try.prog 5 #[.slice ao len cap] w fun e w' => e = .returned (.bool true) ∧ Same w w' := by
  by_cases h : 5000 < len
  · exact form_big ao len cap w h
  · rcases Num.numAt_cases xs with ⟨e, hn, he⟩ | ⟨n, size, hn, hs0, hs9, hsz, hmax, htake⟩
    · exact form_bad ao len cap xs e w hsl (by omega) hn he
    · exact form_ok ao len cap xs n size w hsl (by omega) hn hs0 hs9 hsz hmax htake
end Go.Proofs.Ytodckbcnaghhaaa
