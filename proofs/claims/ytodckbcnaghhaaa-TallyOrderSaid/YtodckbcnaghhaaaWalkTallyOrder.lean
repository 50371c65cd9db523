/-
  The walk of the law TallyOrder: whatever two numbers, it answers true and turns nothing that was there.
-/
-- @law int, int
import Derived.Test.YtodckbcnaghhaaaLives1
import Derived.Test.YtodckbcnaghhaaaStab
import Derived.Deep.DeepCutAuto
import Derived.OpenShut
namespace Go.Proofs.Ytodckbcnaghhaaa
open Go Go.RowKit
set_option linter.unusedSimpArgs false
set_option linter.unusedVariables false

/-- The lesser number has the lesser bytes. -/
theorem less_beN (k : Nat) : ∀ m n : Nat, m < 256 ^ k → n < 256 ^ k → Op.bytesLess (Num.beN k m) (Num.beN k n) = decide (m < n) := by
  induction k with
  | zero =>
    intro m n hm hn
    simp at hm hn
    subst hm hn
    rfl
  | succ k ih =>
    intro m n hm hn
    have hp : 0 < 256 ^ k := Nat.pow_pos (by omega)
    have hb : ∀ n, Num.beN k n = Num.beN k (n % 256 ^ k) := by
      intro n
      unfold Num.beN
      apply List.map_congr_left
      intro j hj
      rw [List.mem_range] at hj
      have e : 256 ^ k = 256 ^ (k - 1 - j) * 256 * 256 ^ j := by
        rw [← Nat.pow_succ, ← Nat.pow_add]; congr 1; omega
      apply UInt8.toNat_inj.1
      simp only [UInt8.toNat_ofNat']
      rw [e, Nat.mul_assoc, Nat.mod_mul_right_div_self, Nat.mod_mul_right_mod]
    have hq : ∀ n, n < 256 ^ (k + 1) → n / 256 ^ k < 256 := by
      intro n hn
      rw [Nat.div_lt_iff_lt_mul hp, Nat.mul_comm]
      rw [Nat.pow_succ] at hn
      omega
    have ht : ∀ n, n < 256 ^ (k + 1) → (UInt8.ofNat (n / 256 ^ k)).toNat = n / 256 ^ k := by
      intro n hn
      have := hq n hn
      rw [UInt8.toNat_ofNat', Nat.mod_eq_of_lt this]
    rw [Num.beN_succ, Num.beN_succ, hb m, hb n, Op.bytesLess, ih _ _ (Nat.mod_lt _ hp) (Nat.mod_lt _ hp)]
    have hm2 := Nat.div_add_mod m (256 ^ k)
    have hn2 := Nat.div_add_mod n (256 ^ k)
    have hlm := Nat.mod_lt m hp
    have hln := Nat.mod_lt n hp
    have e1 : decide (UInt8.ofNat (m / 256 ^ k) < UInt8.ofNat (n / 256 ^ k)) = decide (m / 256 ^ k < n / 256 ^ k) := by
      rw [decide_eq_decide, UInt8.lt_iff_toNat_lt, ht m hm, ht n hn]
    have e2 : (UInt8.ofNat (m / 256 ^ k) == UInt8.ofNat (n / 256 ^ k)) = decide (m / 256 ^ k = n / 256 ^ k) := by
      rw [Bool.eq_iff_iff, beq_iff_eq, decide_eq_true_eq, ← UInt8.toNat_inj, ht m hm, ht n hn]
    rw [e1, e2]
    generalize m / 256 ^ k = a at *
    generalize n / 256 ^ k = b at *
    generalize m % 256 ^ k = c at *
    generalize n % 256 ^ k = d at *
    generalize 256 ^ k = p at *
    rw [Bool.eq_iff_iff]
    simp only [Bool.or_eq_true, Bool.and_eq_true, decide_eq_true_eq]
    rcases Nat.lt_trichotomy a b with h | h | h
    · have : p * a + p ≤ p * b := by rw [← Nat.mul_succ]; exact Nat.mul_le_mul_left _ h
      exact ⟨fun _ => by omega, fun _ => .inl h⟩
    · subst h
      exact ⟨fun h => h.elim (fun h => absurd h (Nat.lt_irrefl _)) (fun h => by omega), fun h => .inr ⟨rfl, by omega⟩⟩
    · have : p * b + p ≤ p * a := by rw [← Nat.mul_succ]; exact Nat.mul_le_mul_left _ h
      exact ⟨fun h' => h'.elim (fun h' => absurd h' (by omega)) (fun h' => absurd h'.1 (by omega)), fun h' => absurd h' (by omega)⟩
theorem less_putN (m n : Nat) (hm : m ≤ 9223372036854775807) (hn : n ≤ 9223372036854775807) : Op.bytesLess (Num.putN m) (Num.putN n) = decide (m < n) := by
  have hm8 := Num.nd_eight hm
  have hn8 := Num.nd_eight hn
  have tm : (UInt8.ofNat (Num.nd m)).toNat = Num.nd m := by rw [UInt8.toNat_ofNat']; omega
  have tn : (UInt8.ofNat (Num.nd n)).toNat = Num.nd n := by rw [UInt8.toNat_ofNat']; omega
  have e1 : decide (UInt8.ofNat (Num.nd m) < UInt8.ofNat (Num.nd n)) = decide (Num.nd m < Num.nd n) := by
    rw [decide_eq_decide, UInt8.lt_iff_toNat_lt, tm, tn]
  have e2 : (UInt8.ofNat (Num.nd m) == UInt8.ofNat (Num.nd n)) = decide (Num.nd m = Num.nd n) := by
    rw [Bool.eq_iff_iff, beq_iff_eq, decide_eq_true_eq, ← UInt8.toNat_inj, tm, tn]
  rw [Num.putN, Num.putN, Op.bytesLess, e1, e2]
  have lm := Num.lt_nd m
  have ln := Num.lt_nd n
  rcases Nat.lt_trichotomy (Num.nd m) (Num.nd n) with h | h | h
  · have h1 : m < n := by
      rcases Nat.lt_or_ge m n with h' | h'
      · exact h'
      · have := Num.nd_le (Num.nd m) n (by omega)
        omega
    simp [h, h1]
  · rw [← h] at ln
    rw [← h, less_beN _ _ _ lm ln]
    simp
  · have h1 : ¬ m < n := by
      intro h'
      have := Num.nd_le (Num.nd n) m (by omega)
      omega
    have h2 : ¬ Num.nd m < Num.nd n := by omega
    have h3 : Num.nd m ≠ Num.nd n := by omega
    simp [h1, h2, h3]
theorem putN_inj (m n : Nat) (h : Num.putN m = Num.putN n) (hm : m ≤ 9223372036854775807) (hn : n ≤ 9223372036854775807) : m = n := by
  have h1 := Num.numAt_put m [] hm
  have h2 := Num.numAt_put n [] hn
  rw [h, h2] at h1
  injection h1 with h1 _
  exact h1.symm
theorem eq_putN (m n : Nat) (hm : m ≤ 9223372036854775807) (hn : n ≤ 9223372036854775807) : (Num.putN m == Num.putN n) = ((m : Int) == (n : Int)) := by
  rw [Bool.eq_iff_iff, beq_iff_eq, beq_iff_eq]
  exact ⟨fun h => by rw [putN_inj m n h hm hn], fun h => by rw [Int.ofNat_inj.1 h]⟩

set_option maxRecDepth 100000 in
set_option maxHeartbeats 800000 in
theorem order_nat (m n : Nat) (w : World) (hm : m ≤ 9223372036854775807) (hn : n ≤ 9223372036854775807) :
    Calls Try.prog 3 #[.int .i64 m, .int .i64 n] w fun e w' => e = .returned (.bool true) ∧ Same w w' := by
  have hpm := fun w => (put_nat none 0 0 [] m w (Sl.none w 1) (by omega) hm).mono fun _ _ h => RetB.s h
  have hpn := fun w => (put_nat none 0 0 [] n w (Sl.none w 1) (by omega) hn).mono fun _ _ h => RetB.s h
  have hl := Lib.hid (lives1)
  have hless := less_putN m n hm hn
  have heq := eq_putN m n hm hn
  replace hpm := Lib.hid hpm
  replace hpn := Lib.hid hpn
  go_enter Try.func3, Try.ntmps3
  go_upto_region 3 with fail
  go_cut [5, 6] (fun x y wx => x = str (Num.putN m) ∧ y = str (Num.putN n) ∧ Same w wx)
  case first =>
    clear hless heq
    refine wp_region_facts (by kernel_rfl) [(19, 0), (20, 1), (21, 2), (22, 3), (23, 4), (24, 5), (5, 6), (6, 7)] Same (Same _) [isV (.int .i64 m), isB (Num.putN m), isV (str (Num.putN m)), isV (.int .i64 n), isB (Num.putN n), isV (str (Num.putN n)), isV (str (Num.putN m)), isV (str (Num.putN n))] Same.refl.drew (fun _ _ h k => h.trans k) (by simp [isV_stable, isB_stable]) (by decide) (by decide) ?_ ?_
    · refine ⟨?_, ?_, ?_, ?_, ?_, ?_, ?_, ?_, trivial⟩
      all_goals (intro u wx hI hp; simp only [mkAct, List.foldl_cons, List.foldl_nil, List.setIfInBounds_toArray, List.set_cons_succ, List.set_cons_zero])
      · go_wp2
        refine stq_v rfl Same.refl ?_
        simp only [mkAct, List.foldl_cons, List.foldl_nil, List.setIfInBounds_toArray, List.set_cons_succ, List.set_cons_zero, upd, reduceIte, Nat.reduceEqDiff, Nat.reduceAdd, str]
      · obtain ⟨h0, _⟩ := hp
        replace h0 : u 0 = _ := h0
        go_wp2_with fail
        refine (hpm.out _).mono ?_
        rintro e w1 ⟨ao1, c1, rfl, hsl1, hs1⟩
        go_wp2
        refine stq_x (.slice ao1 (Num.putN m).length c1) rfl ⟨ao1, c1, rfl, hsl1⟩ hs1 ?_
        simp only [mkAct, List.foldl_cons, List.foldl_nil, List.setIfInBounds_toArray, List.set_cons_succ, List.set_cons_zero, upd, reduceIte, Nat.reduceEqDiff, Nat.reduceAdd, str, h0]
      · obtain ⟨⟨ao, c, h1, hsl⟩, _⟩ := hp
        go_wp2_with (refine conv_string rfl _ rfl byT u8T strT h1 hsl ?_)
        refine stq_v rfl Same.refl ?_
        simp only [mkAct, List.foldl_cons, List.foldl_nil, List.setIfInBounds_toArray, List.set_cons_succ, List.set_cons_zero, upd, reduceIte, Nat.reduceEqDiff, Nat.reduceAdd, str, h1]
      · go_wp2
        refine stq_v rfl Same.refl ?_
        simp only [mkAct, List.foldl_cons, List.foldl_nil, List.setIfInBounds_toArray, List.set_cons_succ, List.set_cons_zero, upd, reduceIte, Nat.reduceEqDiff, Nat.reduceAdd, str]
      · obtain ⟨h3, _⟩ := hp
        replace h3 : u 3 = _ := h3
        go_wp2_with fail
        refine (hpn.out _).mono ?_
        rintro e w1 ⟨ao1, c1, rfl, hsl1, hs1⟩
        go_wp2
        refine stq_x (.slice ao1 (Num.putN n).length c1) rfl ⟨ao1, c1, rfl, hsl1⟩ hs1 ?_
        simp only [mkAct, List.foldl_cons, List.foldl_nil, List.setIfInBounds_toArray, List.set_cons_succ, List.set_cons_zero, upd, reduceIte, Nat.reduceEqDiff, Nat.reduceAdd, str, h3]
      · obtain ⟨⟨ao, c, h4, hsl⟩, _⟩ := hp
        go_wp2_with (refine conv_string rfl _ rfl byT u8T strT h4 hsl ?_)
        refine stq_v rfl Same.refl ?_
        simp only [mkAct, List.foldl_cons, List.foldl_nil, List.setIfInBounds_toArray, List.set_cons_succ, List.set_cons_zero, upd, reduceIte, Nat.reduceEqDiff, Nat.reduceAdd, str, h4]
      · obtain ⟨h2, _⟩ := hp
        replace h2 : u 2 = _ := h2
        go_wp2
        refine stq_v rfl Same.refl ?_
        simp only [mkAct, List.foldl_cons, List.foldl_nil, List.setIfInBounds_toArray, List.set_cons_succ, List.set_cons_zero, upd, reduceIte, Nat.reduceEqDiff, Nat.reduceAdd, str, h2]
      · obtain ⟨h5, _⟩ := hp
        replace h5 : u 5 = _ := h5
        go_wp2
        refine stq_v rfl Same.refl ?_
        simp only [mkAct, List.foldl_cons, List.foldl_nil, List.setIfInBounds_toArray, List.set_cons_succ, List.set_cons_zero, upd, reduceIte, Nat.reduceEqDiff, Nat.reduceAdd, str, h5]
    · intro u wx hI hR
      obtain ⟨_, _, _, _, _, _, h6, h7, _⟩ := hR
      replace h6 : u 6 = _ := h6
      replace h7 : u 7 = _ := h7
      simp only [mkAct, List.foldl_cons, List.foldl_nil, List.setIfInBounds_toArray, List.set_cons_succ, List.set_cons_zero]
      go_wp2_with fail
      go_meet
      exact ⟨rfl, rfl, hI⟩
  case rest =>
    obtain ⟨rfl, rfl, hs⟩ := hcut
    unfold str
    go_wp2_with fail
    refine (hl.out _).mono ?_
    rintro e w2 ⟨rfl, hs2⟩
    go_wp2
    go_ret
    exact ⟨rfl, hs.trans hs2⟩
set_option maxRecDepth 100000 in
set_option maxHeartbeats 400000 in
theorem order_neg (m n : Int) (w : World) (h : m < 0 ∨ 0 ≤ m ∧ n < 0) :
    Calls Try.prog 3 #[.int .i64 m, .int .i64 n] w fun e w' => e = .returned (.bool true) ∧ Same w w' := by
  have hl := Lib.hid (lives1)
  have hp := Lib.hid (fun w => put_neg none 0 0 (-1) w (by omega) (Nat.le_refl 0))
  rcases h with h | ⟨h, h'⟩
  all_goals
    go_enter Try.func3, Try.ntmps3
    go_wp2_with fail
    refine (hp.out _).mono ?_
    rintro e w1 ⟨rfl, rfl⟩
    go_wp2_with fail
    refine (hl.out _).mono ?_
    rintro e w2 ⟨rfl, hs2⟩
    go_wp2
    go_ret
    exact ⟨rfl, hs2⟩
theorem walk_TallyOrder (w : World) (m : Int) (hm : (Lit.int .i64 m).wf = true) (n : Int) (hn : (Lit.int .i64 n).wf = true) :
    Calls Try.prog 3 #[.int .i64 m, .int .i64 n] w fun e w' => e = .returned (.bool true) ∧ Same w w' := by
  have b1 := bounds_i64 hm
  have b2 := bounds_i64 hn
  by_cases h : m < 0 ∨ 0 ≤ m ∧ n < 0
  · exact order_neg m n w h
  · obtain ⟨a, rfl⟩ := Int.eq_ofNat_of_zero_le (by omega : 0 ≤ m)
    obtain ⟨b, rfl⟩ := Int.eq_ofNat_of_zero_le (by omega : 0 ≤ n)
    exact order_nat a b w (by omega) (by omega)
end Go.Proofs.Ytodckbcnaghhaaa
