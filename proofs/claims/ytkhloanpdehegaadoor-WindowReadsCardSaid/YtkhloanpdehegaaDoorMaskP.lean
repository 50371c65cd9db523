/-
  The walks of the mask's calls that loop over no function: TrailingZeros64, is, Has, With, Down, Ones, fold, Of; and the document's.
-/
import Derived.Test.YtkhloanpdehegaaDoorProg
import Derived.Test.YtkhloanpdehegaaDoorBase
import Derived.Test.YtkhloanpdehegaaDoorMask
namespace Go.Proofs.YtkhloanpdehegaaDoor
open Go Go.RowKit
set_option linter.unusedSimpArgs false
set_option linter.unusedVariables false

/-- The table in its variable. -/
def Tab (w : World) : Prop := ∀ j, j < 64 → w.cell? ⟨0, j, none⟩ = some (.int .u8 (Lib.deBruijn64tab.getD j 0 : Nat))
theorem Tab.same {w w' : World} (h : Tab w) (hs : Same w w') : Tab w' := fun j hj => hs.cell (h j hj)
def RetI (w : World) (l : List Int) (e : Ending) (w' : World) : Prop := ∃ v, e = .returned v ∧ Own w' w.heap.size 3 1 v l.length (iv l) ∧ Same w w'
theorem isT : SlT Tryd.prog 29 3 (.int .i64 0) 1 8 := ⟨Tryd.underlying29, by kernel_rfl, rfl, by decide⟩
theorem tz_key (x a : Nat) (hx : x < 18446744073709551616) (hx0 : x ≠ 0) (hlow : x &&& (18446744073709551616 - x) = a) :
    IntKind.u64.wrap (bits BinOp.and IntKind.u64 (x : Int) (IntKind.u64.wrap (-(x : Int))) * 285870213051353865) / 288230376151711744 = ((a * 285870213051353865 % 18446744073709551616 / 288230376151711744 : Nat) : Int) := by
  have e1 : IntKind.u64.wrap (-(x : Int)) = ((18446744073709551616 - x : Nat) : Int) := by rw [IntKind.wrap_u64]; omega
  rw [e1, bits_and_u64_nat x _ hx (by omega), hlow, IntKind.wrap_u64]
  omega
set_option maxRecDepth 100000 in
set_option maxHeartbeats 1000000 in
theorem tz_core (x k idx : Nat) (w : World) (hx0 : ((x : Int) == 0) = false)
    (key : IntKind.u64.wrap (bits BinOp.and IntKind.u64 (x : Int) (IntKind.u64.wrap (-(x : Int))) * 285870213051353865) / 288230376151711744 = (idx : Int))
    (hi : idx < 64) (hk : k < 64) (hcell : w.cell? ⟨0, idx, none⟩ = some (.int .u8 k)) :
    Calls Tryd.prog 44 #[.int .u64 x] w fun e w' => e = .returned (.int .i64 k) ∧ w' = w := by
  go_enter Tryd.func44, Tryd.ntmps44
  go_wp2_with (simp only [key])
  go_ret
  exact ⟨rfl, rfl⟩
set_option maxRecDepth 100000 in
set_option maxHeartbeats 400000 in
theorem tz_any (x : Nat) (hx : x < 18446744073709551616) (w : World) (hT : Tab w) :
    Calls Tryd.prog 44 #[.int .u64 x] w fun e w' => e = .returned (.int .i64 (Lib.ctz 64 x : Nat)) ∧ w' = w := by
  by_cases hx0 : x = 0
  · subst hx0
    go_enter Tryd.func44, Tryd.ntmps44
    go_wp2
    go_ret
    exact ⟨rfl, rfl⟩
  · obtain ⟨hlow, hk⟩ := Lib.lowest_bit 64 x hx0 hx
    obtain ⟨hi, htab⟩ := Lib.deBruijn64_at _ hk
    have hcell := hT _ hi
    rw [htab] at hcell
    exact tz_core x _ _ w (by simp; omega) (tz_key x _ hx hx0 hlow) hi hk hcell
set_option maxRecDepth 100000 in
set_option maxHeartbeats 400000 in
theorem mis_any (i : Int) (w : World) : Calls Tryd.prog 51 #[.int .i64 i] w fun e w' => e = .returned (.bool (Decidable.decide (0 ≤ i) && Decidable.decide (i < 64))) ∧ w' = w := by
  by_cases h : 0 ≤ i
  · rw [decide_eq_true h, Bool.true_and]
    go_enter Tryd.func51, Tryd.ntmps51
    go_wp2
    go_ret
    exact ⟨rfl, rfl⟩
  · rw [decide_eq_false h, Bool.false_and]
    go_enter Tryd.func51, Tryd.ntmps51
    go_wp2
    go_ret
    exact ⟨rfl, rfl⟩
set_option maxRecDepth 100000 in
set_option maxHeartbeats 400000 in
theorem mhas_any (m : Nat) (i : Int) (w : World) (hm : m < 18446744073709551616) : Calls Tryd.prog 19 #[.int .u64 m, .int .i64 i] w fun e w' => e = .returned (.bool (mhas m i)) ∧ w' = w := by
  have his := fun w => mis_any i w
  obtain ⟨R, hR⟩ : ∃ R, R = mhas m i := ⟨_, rfl⟩
  rw [← hR]
  unfold mhas at hR
  by_cases h : 0 ≤ i ∧ i < 64
  · rw [decide_eq_true h.1, decide_eq_true h.2] at his hR
    obtain ⟨j, rfl⟩ : ∃ j : Nat, i = (j : Int) := ⟨i.toNat, by omega⟩
    have hR2 : m.testBit j = R := by simpa using hR.symm
    have key : (bits BinOp.and IntKind.u64 ((m : Int) / 2 ^ j) 1 == 1) = R := by
      have e : ((m : Int) / 2 ^ j) = ((m / 2 ^ j : Nat) : Int) := by simp
      have e1 := bits_and_u64_nat (m / 2 ^ j) 1 (Nat.lt_of_le_of_lt (Nat.div_le_self _ _) hm) (by decide)
      rw [e]
      have e2 : bits BinOp.and IntKind.u64 ((m / 2 ^ j : Nat) : Int) 1 = ((m / 2 ^ j &&& 1 : Nat) : Int) := e1
      rw [e2, Nat.and_one_is_mod, ← hR2, testBit_div, Bool.eq_iff_iff]
      simp only [beq_iff_eq, decide_eq_true_eq]
      omega
    have hmin : min j 64 = j := by omega
    have q0 : 0 ≤ (j : Int) := by omega
    clear hR hR2
    replace his := Lib.hid his
    go_enter Tryd.func19, Tryd.ntmps19
    go_wp2_with (refine (his.out _).mono ?_; rintro e w' ⟨rfl, rfl⟩)
    go_ret
    exact ⟨rfl, rfl⟩
  · have hf : (Decidable.decide (0 ≤ i) && Decidable.decide (i < 64)) = false := by rw [← Bool.decide_and]; exact decide_eq_false h
    rw [hf] at his hR
    subst hR
    replace his := Lib.hid his
    go_enter Tryd.func19, Tryd.ntmps19
    go_wp2_with (refine (his.out _).mono ?_; rintro e w' ⟨rfl, rfl⟩)
    go_ret
    exact ⟨rfl, rfl⟩
set_option maxRecDepth 100000 in
set_option maxHeartbeats 400000 in
theorem mwith_any (m : Nat) (i : Int) (w : World) (hm : m < 18446744073709551616) : Calls Tryd.prog 49 #[.int .u64 m, .int .i64 i] w fun e w' => e = .returned (.int .u64 (mwith m i : Nat)) ∧ w' = w := by
  have his := fun w => mis_any i w
  obtain ⟨R, hR⟩ : ∃ R, R = mwith m i := ⟨_, rfl⟩
  rw [← hR]
  unfold mwith at hR
  by_cases h : 0 ≤ i ∧ i < 64
  · rw [decide_eq_true h.1, decide_eq_true h.2] at his
    rw [if_pos h] at hR
    obtain ⟨j, rfl⟩ : ∃ j : Nat, i = (j : Int) := ⟨i.toNat, by omega⟩
    have key : bits BinOp.or IntKind.u64 (m : Int) (IntKind.u64.wrap (2 ^ j)) = (R : Int) := by
      have hp : 2 ^ j < 2 ^ 64 := Nat.pow_lt_pow_right (by decide) (by omega)
      have e : IntKind.u64.wrap (2 ^ j) = ((2 ^ j : Nat) : Int) := by
        rw [IntKind.wrap_u64]
        have e0 : (2 : Int) ^ j = ((2 ^ j : Nat) : Int) := by simp
        rw [e0]
        obtain ⟨P, hP⟩ : ∃ P, P = 2 ^ j := ⟨_, rfl⟩
        rw [← hP] at hp ⊢
        omega
      rw [e, bits_or_u64_nat m _ hm (by omega), hR, Int.toNat_natCast]
    have hmin : min j 64 = j := by omega
    have q0 : 0 ≤ (j : Int) := by omega
    clear hR
    replace his := Lib.hid his
    go_enter Tryd.func49, Tryd.ntmps49
    go_wp2_with (refine (his.out _).mono ?_; rintro e w' ⟨rfl, rfl⟩)
    go_ret
    exact ⟨rfl, rfl⟩
  · have hf : (Decidable.decide (0 ≤ i) && Decidable.decide (i < 64)) = false := by rw [← Bool.decide_and]; exact decide_eq_false h
    rw [hf] at his
    rw [if_neg h] at hR
    subst hR
    replace his := Lib.hid his
    go_enter Tryd.func49, Tryd.ntmps49
    go_wp2_with (refine (his.out _).mono ?_; rintro e w' ⟨rfl, rfl⟩)
    go_ret
    exact ⟨rfl, rfl⟩
set_option maxRecDepth 100000 in
set_option maxHeartbeats 400000 in
theorem mdown_any (m : Nat) (n : Int) (w : World) : Calls Tryd.prog 20 #[.int .u64 m, .int .i64 n] w fun e w' => e = .returned (.int .u64 (mdown m n : Nat)) ∧ w' = w := by
  have his := fun w => mis_any n w
  obtain ⟨R, hR⟩ : ∃ R, R = mdown m n := ⟨_, rfl⟩
  rw [← hR]
  unfold mdown at hR
  by_cases h1 : n < 1
  · rw [if_pos h1] at hR
    subst hR
    clear his
    have d1 : Decidable.decide (n < 1) = true := decide_eq_true h1
    go_enter Tryd.func20, Tryd.ntmps20
    go_wp2
    go_ret
    exact ⟨rfl, rfl⟩
  · rw [if_neg h1] at hR
    have d1 : Decidable.decide (n < 1) = false := decide_eq_false h1
    by_cases h2 : 64 ≤ n
    · rw [if_pos h2] at hR
      subst hR
      rw [decide_eq_true (show 0 ≤ n by omega), decide_eq_false (show ¬ n < 64 by omega)] at his
      replace his := Lib.hid his
      go_enter Tryd.func20, Tryd.ntmps20
      go_wp2_with (refine (his.out _).mono ?_; rintro e w' ⟨rfl, rfl⟩)
      go_ret
      exact ⟨rfl, rfl⟩
    · rw [if_neg h2] at hR
      rw [decide_eq_true (show 0 ≤ n by omega), decide_eq_true (show n < 64 by omega)] at his
      obtain ⟨j, rfl⟩ : ∃ j : Nat, n = (j : Int) := ⟨n.toNat, by omega⟩
      have key : ((m : Int) / 2 ^ j) = (R : Int) := by
        rw [hR, Int.toNat_natCast, Nat.shiftRight_eq_div_pow]
        simp
      have hmin : min j 64 = j := by omega
      have q0 : 0 ≤ (j : Int) := by omega
      clear hR
      replace his := Lib.hid his
      go_enter Tryd.func20, Tryd.ntmps20
      go_wp2_with (refine (his.out _).mono ?_; rintro e w' ⟨rfl, rfl⟩)
      go_ret
      exact ⟨rfl, rfl⟩
theorem not_key (m x : Nat) (hm : m < 18446744073709551616) (hx : x = 18446744073709551615 - m) : bits BinOp.xor IntKind.u64 IntKind.u64.max (m : Int) = (x : Int) := by
  have h1 : (BitVec.ofInt 64 IntKind.u64.max) = BitVec.allOnes 64 := by decide
  have h2 : (BitVec.ofInt 64 (m : Int)).toNat = m := by
    rw [BitVec.ofInt_natCast, BitVec.toNat_ofNat]; exact Nat.mod_eq_of_lt (by omega)
  show IntKind.u64.wrap ((BitVec.ofInt 64 IntKind.u64.max ^^^ BitVec.ofInt 64 (m : Int)).toNat : Int) = _
  rw [h1, BitVec.allOnes_xor, BitVec.toNat_not, h2, IntKind.wrap_u64, hx]
  omega
set_option maxRecDepth 100000 in
set_option maxHeartbeats 400000 in
theorem ones_core (m x R : Nat) (w : World) (key : bits BinOp.xor IntKind.u64 IntKind.u64.max (m : Int) = (x : Int)) (htz0 : Calls Tryd.prog 44 #[.int .u64 x] w fun e w' => e = .returned (.int .i64 (R : Nat)) ∧ w' = w) :
    Calls Tryd.prog 46 #[.int .u64 m] w fun e w' => e = .returned (.int .i64 (R : Nat)) ∧ w' = w := by
  have htz := Lib.hid htz0
  clear htz0
  go_enter Tryd.func46, Tryd.ntmps46
  go_wp2_with fail
  rename_i h
  clear h key
  refine htz.out.mono ?_
  rintro e w' ⟨rfl, rfl⟩
  go_wp2
  go_ret
  exact ⟨rfl, rfl⟩
theorem mones_any (m : Nat) (w : World) (hm : m < 18446744073709551616) (hT : Tab w) : Calls Tryd.prog 46 #[.int .u64 m] w fun e w' => e = .returned (.int .i64 (mones m : Nat)) ∧ w' = w :=
  ones_core m _ _ w (not_key m _ hm rfl) (tz_any _ (by omega) w hT)
set_option maxRecDepth 100000 in
set_option maxHeartbeats 400000 in
theorem of1_any (m : Nat) (i : Int) (w : World) (hm : m < 18446744073709551616) : Calls Tryd.prog 48 #[.int .u64 m, .int .i64 i] w fun e w' => e = .returned (.int .u64 (mwith m i : Nat)) ∧ w' = w := by
  have his := fun w => mwith_any m i w hm
  obtain ⟨R, hR⟩ : ∃ R, R = mwith m i := ⟨_, rfl⟩
  rw [← hR] at his ⊢
  clear hR
  replace his := Lib.hid his
  go_enter Tryd.func48, Tryd.ntmps48
  go_wp2_with (refine (his.out _).mono ?_; rintro e w' ⟨rfl, rfl⟩)
  go_ret
  exact ⟨rfl, rfl⟩
theorem fold_step (l : List Int) (m k : Nat) (h : k < l.length) : (l.take (k + 1)).foldl mwith m = mwith ((l.take k).foldl mwith m) (l.getD k 0) := by
  rw [List.take_succ_eq_append_getElem h, List.foldl_append]
  simp [List.getD, h]
set_option maxRecDepth 100000 in
set_option maxHeartbeats 400000 in
theorem fold_any (ao : Option Addr) (len cap : Nat) (l : List Int) (w : World) (hsl : Sl w 1 ao len cap (iv l)) :
    Calls Tryd.prog 47 #[.slice ao len cap, .int .u64 0, .func (.func 48) #[] #[]] w fun e w' => e = .returned (.int .u64 (mof l : Nat)) ∧ Same w w' := by
  have hll : l.length = len := by have := hsl.len; rw [iv_length] at this; omega
  have hcap := hsl.cap
  have hmost := hsl.most
  unfold maxLen at hmost
  have hst := fold_step l 0
  have hlt0 := fun k => mfold_lt (l.take k) (show 0 < 18446744073709551616 by decide)
  obtain ⟨S, hS⟩ : ∃ S : Nat → Nat, S = fun k => (l.take k).foldl mwith 0 := ⟨_, rfl⟩
  have hS0 : S 0 = 0 := by rw [hS]; rfl
  have hSe : S len = mof l := by rw [hS]; show (l.take len).foldl mwith 0 = _; rw [List.take_of_length_le (by omega)]; rfl
  have hSs : ∀ k, k < len → S (k + 1) = mwith (S k) (l.getD k 0) := by intro k hk; rw [hS]; exact hst k (by omega)
  have hSl : ∀ k, S k < 18446744073709551616 := by intro k; rw [hS]; exact hlt0 k
  rw [← hSe]
  have hof := fun m i w h => of1_any m i w h
  clear hst hlt0 hS hSe
  replace hS0 := Lib.hid hS0
  replace hSs := Lib.hid hSs
  replace hSl := Lib.hid hSl
  replace hof := Lib.hid hof
  replace hsl := Lib.hid hsl
  go_enter Tryd.func47, Tryd.ntmps47
  go_wp2
  go_loopw [1, 11] (fun v i wr => ∃ k : Nat, k ≤ len ∧ i = .int .i64 k ∧ v = .int .u64 (S k : Nat) ∧ Same w wr) (fun _ i _ => len - (intOf i).toNat)
  case atStart => exact ⟨0, by omega, rfl, by rw [hS0.out]; rfl, Same.refl⟩
  case round =>
    obtain ⟨k, hk, rfl, rfl, hs⟩ := hrel
    by_cases hlt : k < len
    · obtain ⟨bk, off, rfl, _, hcell⟩ := hsl.out.at (by intro h2; rw [iv, List.map_eq_nil_iff] at h2; rw [h2] at hll; simp at hll; omega)
      have cc := hs.cell (hcell k _ (iv_get (by omega)))
      have hx : l[k]'(by omega) = l.getD k 0 := by simp [List.getD, show k < l.length by omega]
      rw [hx] at cc
      have hsk := hSs.out k hlt
      obtain ⟨x, hxe⟩ : ∃ x, x = l.getD k 0 := ⟨_, rfl⟩
      rw [← hxe] at cc hsk
      have q0 : 0 ≤ (k : Int) := by omega
      have q1 : (k : Int) < (len : Int) := by omega
      have hc := hof.out (S k) x wr (hSl.out k)
      rw [← hsk] at hc
      clear hcell hx hxe hsk
      replace hs := Lib.hid hs
      replace hc := Lib.hid hc
      go_wp2_with (refine hc.out.mono ?_; rintro e w' ⟨rfl, rfl⟩)
      go_roundw
      case rel => exact ⟨k + 1, by omega, by go_num, rfl, hs.out⟩
      case measure => simp [intOf]; omega
    · obtain rfl : k = len := by omega
      go_wp2
      go_ret
      exact ⟨rfl, hs⟩
set_option maxRecDepth 100000 in
set_option maxHeartbeats 400000 in
theorem mof_any (ao : Option Addr) (len cap : Nat) (l : List Int) (w : World) (hsl : Sl w 1 ao len cap (iv l)) :
    Calls Tryd.prog 17 #[.slice ao len cap] w fun e w' => e = .returned (.int .u64 (mof l : Nat)) ∧ Same w w' := by
  have hc := fold_any ao len cap l w hsl
  obtain ⟨R, hR⟩ : ∃ R, R = mof l := ⟨_, rfl⟩
  rw [← hR] at hc ⊢
  clear hR
  replace hc := Lib.hid hc
  replace hsl := Lib.hid hsl
  go_enter Tryd.func17, Tryd.ntmps17
  go_wp2_with (refine hc.out.mono ?_; rintro e w' ⟨rfl, hs⟩)
  go_ret
  exact ⟨rfl, hs⟩
end Go.Proofs.YtkhloanpdehegaaDoor
