/-
  The walks of the document's answers of masks: Has, power, With, List, Of, Down, Ones.
-/
import Derived.Test.YtkhloanpdehegaaDoorMaskP
namespace Go.Proofs.YtkhloanpdehegaaDoor
open Go Go.RowKit
set_option linter.unusedSimpArgs false
set_option linter.unusedVariables false

set_option maxRecDepth 100000 in
set_option maxHeartbeats 400000 in
theorem rhas_any (m : Nat) (i : Int) (w : World) (hm : m < 18446744073709551616) : Calls Tryd.prog 45 #[.int .u64 m, .int .i64 i] w fun e w' => e = .returned (.bool (mhas m i)) ∧ w' = w := by
  obtain ⟨R, hR⟩ : ∃ R, R = mhas m i := ⟨_, rfl⟩
  rw [← hR]
  unfold mhas at hR
  by_cases h : 0 ≤ i ∧ i < 64
  · obtain ⟨j, rfl⟩ : ∃ j : Nat, i = (j : Int) := ⟨i.toNat, by omega⟩
    have hR2 : R = Decidable.decide (m / 2 ^ j % 2 = 1) := by
      rw [hR, decide_eq_true h.1, decide_eq_true h.2, Int.toNat_natCast, testBit_div]
      rfl
    have d1 : ((j : Int) < 0) = False := by simp
    have d2 : Decidable.decide (63 < (j : Int)) = false := decide_eq_false (by omega)
    obtain ⟨S, hS⟩ : ∃ S : Nat → Nat, S = fun k => m / 2 ^ k := ⟨_, rfl⟩
    have hS0 : S 0 = m := by rw [hS]; simp
    have hSs : ∀ k, (S k : Int).tdiv 2 = (S (k + 1) : Nat) := by
      intro k
      rw [hS]
      show ((m / 2 ^ k : Nat) : Int).tdiv 2 = ((m / 2 ^ (k + 1) : Nat) : Int)
      rw [← half_times]
      rfl
    have hSw : ∀ k, IntKind.u64.wrap (S k : Int) = (S k : Nat) := by
      intro k
      have : S k ≤ m := by rw [hS]; exact Nat.div_le_self _ _
      rw [IntKind.wrap_u64]
      omega
    have hSe : R = Decidable.decide (S j % 2 = 1) := by rw [hS]; exact hR2
    have h64 := h.2
    clear hR hR2 hS h
    replace hS0 := Lib.hid hS0
    replace hSs := Lib.hid hSs
    replace hSw := Lib.hid hSw
    replace hSe := Lib.hid hSe
    go_enter Tryd.func45, Tryd.ntmps45
    go_wp2
    go_loopw [0, 5] (fun v i wr => ∃ k : Nat, k ≤ j ∧ i = .int .i64 k ∧ v = .int .u64 (S k : Nat) ∧ wr = w) (fun _ i _ => j - (intOf i).toNat)
    case atStart => exact ⟨0, by omega, rfl, by rw [hS0.out], rfl⟩
    case round =>
      obtain ⟨k, hk, rfl, rfl, rfl⟩ := hrel
      by_cases hlt : k < j
      · have hq := hSs.out k
        have hqw := hSw.out (k + 1)
        go_wp2
        go_roundw
        case rel => exact ⟨k + 1, by omega, by go_num, by first | rfl | simp, by first | rfl | trivial⟩
        case measure => simp [intOf]; omega
      · obtain rfl : k = j := by omega
        have hq : ((S k : Int) % 2 == 1) = R := by
          rw [hSe.out, Bool.eq_iff_iff]
          simp only [beq_iff_eq, decide_eq_true_eq]
          omega
        go_wp2
        go_ret
        exact ⟨rfl, rfl⟩
  · have hf : R = false := by
      have : (Decidable.decide (0 ≤ i) && Decidable.decide (i < 64)) = false := by rw [← Bool.decide_and]; exact decide_eq_false h
      rw [hR, this]
      rfl
    subst hf
    clear hR
    have h2 : (i < 0) ∨ (¬ i < 0 ∧ 63 < i) := by omega
    rcases h2 with h2 | ⟨h2, h3⟩
    · have d1 : Decidable.decide (i < 0) = true := decide_eq_true h2
      go_enter Tryd.func45, Tryd.ntmps45
      go_wp2
      go_ret
      exact ⟨rfl, rfl⟩
    · have d1 : Decidable.decide (i < 0) = false := decide_eq_false h2
      have d2 : Decidable.decide (63 < i) = true := decide_eq_true h3
      go_enter Tryd.func45, Tryd.ntmps45
      go_wp2
      go_ret
      exact ⟨rfl, rfl⟩
set_option maxRecDepth 100000 in
set_option maxHeartbeats 400000 in
theorem rpow_any (j : Nat) (w : World) (h : j < 64) : Calls Tryd.prog 60 #[.int .i64 j] w fun e w' => e = .returned (.int .u64 (2 ^ j : Nat)) ∧ w' = w := by
  obtain ⟨S, hS⟩ : ∃ S : Nat → Nat, S = fun k => 2 ^ k := ⟨_, rfl⟩
  have hS0 : S 0 = 1 := by rw [hS]
  have hSs : ∀ k, k < 64 → k + 1 < 64 → IntKind.u64.wrap (2 * (S k : Int)) = (S (k + 1) : Nat) := by
    intro k _ hk
    have hp : 2 ^ (k + 1) < 2 ^ 64 := Nat.pow_lt_pow_right (by decide) hk
    rw [hS]
    show IntKind.u64.wrap (2 * ((2 ^ k : Nat) : Int)) = ((2 ^ (k + 1) : Nat) : Int)
    rw [IntKind.wrap_u64]
    have e : 2 ^ (k + 1) = 2 * 2 ^ k := by rw [Nat.pow_succ, Nat.mul_comm]
    rw [e] at hp ⊢
    obtain ⟨P, hP⟩ : ∃ P, P = 2 ^ k := ⟨_, rfl⟩
    rw [← hP] at hp ⊢
    omega
  have hSe : S j = 2 ^ j := by rw [hS]
  rw [← hSe]
  clear hS hSe
  replace hS0 := Lib.hid hS0
  replace hSs := Lib.hid hSs
  go_enter Tryd.func60, Tryd.ntmps60
  go_wp2
  go_loopw [3, 4] (fun v i wr => ∃ k : Nat, k ≤ j ∧ i = .int .i64 k ∧ v = .int .u64 (S k : Nat) ∧ wr = w) (fun _ i _ => j - (intOf i).toNat)
  case atStart => exact ⟨0, by omega, rfl, by rw [hS0.out]; rfl, rfl⟩
  case round =>
    obtain ⟨k, hk, rfl, rfl, rfl⟩ := hrel
    by_cases hlt : k < j
    · have hq := hSs.out k (by omega) (by omega)
      go_wp2
      go_roundw
      case rel => exact ⟨k + 1, by omega, by go_num, by first | rfl | simp, by first | rfl | trivial⟩
      case measure => simp [intOf]; omega
    · obtain rfl : k = j := by omega
      go_wp2
      go_ret
      exact ⟨rfl, rfl⟩
set_option maxRecDepth 100000 in
set_option maxHeartbeats 400000 in
theorem rwith_any (m : Nat) (i : Int) (w : World) (hm : m < 18446744073709551616) : Calls Tryd.prog 50 #[.int .u64 m, .int .i64 i] w fun e w' => e = .returned (.int .u64 (mwith m i : Nat)) ∧ w' = w := by
  have hh := fun w => rhas_any m i w hm
  have hlt := mwith_lt hm i
  rw [mwith_add] at hlt ⊢
  obtain ⟨R, hR⟩ : ∃ R, R = (if mhas m i = true ∨ i < 0 ∨ 63 < i then m else m + 2 ^ i.toNat) := ⟨_, rfl⟩
  rw [← hR] at hlt ⊢
  by_cases h1 : i < 0
  · rw [if_pos (.inr (.inl h1))] at hR
    subst hR
    clear hh
    have d1 : Decidable.decide (i < 0) = true := decide_eq_true h1
    go_enter Tryd.func50, Tryd.ntmps50
    go_wp2
    go_ret
    exact ⟨rfl, rfl⟩
  · have d1 : Decidable.decide (i < 0) = false := decide_eq_false h1
    by_cases h2 : 63 < i
    · rw [if_pos (.inr (.inr h2))] at hR
      subst hR
      clear hh
      have d2 : Decidable.decide (63 < i) = true := decide_eq_true h2
      go_enter Tryd.func50, Tryd.ntmps50
      go_wp2
      go_ret
      exact ⟨rfl, rfl⟩
    · have d2 : Decidable.decide (63 < i) = false := decide_eq_false h2
      cases hb : mhas m i
      · rw [hb] at hh
        rw [if_neg (by rw [hb]; simp; omega)] at hR
        obtain ⟨j, rfl⟩ : ∃ j : Nat, i = (j : Int) := ⟨i.toNat, by omega⟩
        rw [Int.toNat_natCast] at hR
        have hp := fun w => rpow_any j w (by omega)
        obtain ⟨P, hP⟩ : ∃ P, P = 2 ^ j := ⟨_, rfl⟩
        rw [← hP] at hp hR
        have key : IntKind.u64.wrap ((m : Int) + (P : Int)) = (R : Nat) := by
          rw [IntKind.wrap_u64]
          omega
        clear hR hb hP hlt
        replace hh := Lib.hid hh
        replace hp := Lib.hid hp
        go_enter Tryd.func50, Tryd.ntmps50
        go_wp2_with (first | (refine (hh.out _).mono ?_; rintro e w' ⟨rfl, rfl⟩) | (refine (hp.out _).mono ?_; rintro e w' ⟨rfl, rfl⟩))
        go_ret
        exact ⟨rfl, rfl⟩
      · rw [hb] at hh
        rw [if_pos (.inl hb)] at hR
        subst hR
        clear hb hlt
        replace hh := Lib.hid hh
        go_enter Tryd.func50, Tryd.ntmps50
        go_wp2_with (refine (hh.out _).mono ?_; rintro e w' ⟨rfl, rfl⟩)
        go_ret
        exact ⟨rfl, rfl⟩
set_option maxRecDepth 100000 in
set_option maxHeartbeats 800000 in
theorem rlist_any (m : Nat) (w : World) (hm : m < 18446744073709551616) : Calls Tryd.prog 15 #[.int .u64 m] w (RetI w (nints (mlist m))) := by
  have hh := fun i w => rhas_any m i w hm
  obtain ⟨S, hS⟩ : ∃ S : Nat → List Int, S = fun k => nints (mtake m k) := ⟨_, rfl⟩
  have hS0 : S 0 = [] := by rw [hS]; rfl
  have hSe : nints (mlist m) = S 64 := by rw [hS]; rfl
  have hSs : ∀ k, k < 64 → S (k + 1) = if mhas m (k : Int) = true then S k ++ [(k : Int)] else S k := by
    intro k hk
    rw [hS]
    show nints (mtake m (k + 1)) = if mhas m (k : Int) = true then nints (mtake m k) ++ [(k : Int)] else nints (mtake m k)
    have e : mhas m (k : Int) = m.testBit k := by simp [mhas]; omega
    rw [e, mtake_succ]
    by_cases hb : m.testBit k = true
    · rw [if_pos hb, if_pos hb]
      simp [nints]
    · rw [if_neg hb, if_neg hb]
  have hSl : ∀ k, (S k).length ≤ k := by
    intro k
    rw [hS]
    show (nints (mtake m k)).length ≤ k
    rw [nints, List.length_map]
    exact mtake_le m k
  rw [hSe]
  clear hS hSe
  replace hS0 := Lib.hid hS0
  replace hSs := Lib.hid hSs
  replace hSl := Lib.hid hSl
  replace hh := Lib.hid hh
  go_enter Tryd.func15, Tryd.ntmps15
  go_wp2
  go_loopw [3, 4] (fun v i wr => ∃ k : Nat, k ≤ 64 ∧ i = .int .i64 k ∧ Own wr w.heap.size 3 1 v (S k).length (iv (S k)) ∧ Same w wr) (fun _ i _ => 64 - (intOf i).toNat)
  case atStart => exact ⟨0, by omega, rfl, by rw [hS0.out]; exact World.ownsRow_nil _ _ _ _, Same.refl⟩
  case round =>
    obtain ⟨k, hk, rfl, ho, hs⟩ := hrel
    by_cases hlt : k < 64
    · have hsk := hSs.out k hlt
      have hsl := hSl.out k
      have hc := hh.out (k : Int)
      obtain ⟨n, hn⟩ : ∃ n, n = (S k).length := ⟨_, rfl⟩
      obtain ⟨o4, ho4'⟩ : ∃ o, o = iv (S k) := ⟨_, rfl⟩
      rw [← hn, ← ho4'] at ho
      rw [← hn] at hsl
      have hsR := hs
      have hszR := hs.size
      cases hb : mhas m (k : Int)
      · rw [hb] at hsk hc
        rw [if_neg (by decide)] at hsk
        replace hc := Lib.hid hc
        replace hsk := Lib.hid hsk
        replace hn := Lib.hid hn
        replace ho4' := Lib.hid ho4'
        replace ho := Lib.hid ho
        replace hs := Lib.hid hs
        clear hb hsR
        go_wp2_with (refine (hc.out _).mono ?_; rintro e w' ⟨rfl, rfl⟩)
        go_roundw
        case rel => exact ⟨k + 1, by omega, by go_num, by rw [hsk.out, ← hn.out, ← ho4'.out]; exact ho.out, hs.out⟩
        case measure => simp [intOf]; omega
      · rw [hb] at hsk hc
        rw [if_pos rfl] at hsk
        have hsl2 : (S (k + 1)).length = (S k).length + 1 := by rw [hsk]; simp
        replace hc := Lib.hid hc
        replace hsk := Lib.hid hsk
        replace hsl2 := Lib.hid hsl2
        replace hn := Lib.hid hn
        replace ho4' := Lib.hid ho4'
        replace ho := Lib.hid ho
        clear hb hsR
        replace hs := Lib.hid hs
        go_wp2_with (first | (refine (hc.out _).mono ?_; rintro e w' ⟨rfl, rfl⟩) | (at_builtin; refine append_own (l := [.int .i64 (k : Int)]) rfl _ _ rfl isT ho.out rfl rfl rfl (by simp [Value.oneCell']) hszR (by omega) (by omega) ?_; intro v4 w4 ho4 hk4 hz4; clear hz4; replace ho4 := Lib.hid ho4; replace hk4 := Lib.hid hk4))
        go_roundw
        case rel => exact ⟨k + 1, by omega, by go_num, by rw [hsl2.out, ← hn.out, hsk.out, iv_append, ← ho4'.out]; exact ho4.out, hs.out.keep hk4.out (fun x hx hv => by have := ho.out.base x hv; omega)⟩
        case measure => simp [intOf]; omega
    · obtain rfl : k = 64 := by omega
      go_wp2
      go_ret
      exact ⟨_, rfl, ho, hs⟩
end Go.Proofs.YtkhloanpdehegaaDoor
namespace Go.Proofs.YtkhloanpdehegaaDoor
open Go Go.RowKit
set_option linter.unusedSimpArgs false
set_option linter.unusedVariables false
set_option maxRecDepth 100000 in
set_option maxHeartbeats 400000 in
theorem rof_any (ao : Option Addr) (len cap : Nat) (l : List Int) (w : World) (hsl : Sl w 1 ao len cap (iv l)) :
    Calls Tryd.prog 18 #[.slice ao len cap] w fun e w' => e = .returned (.int .u64 (mof l : Nat)) ∧ Same w w' := by
  have hll : l.length = len := by have := hsl.len; rw [iv_length] at this; omega
  have hcap := hsl.cap
  have hmost := hsl.most
  unfold maxLen at hmost
  have hst := fold_step l 0
  have hlt0 := fun k => mfold_lt (l.take k) (show 0 < 18446744073709551616 by decide)
  obtain ⟨S, hS⟩ : ∃ S : Nat → Nat, S = fun k => (l.take k).foldl mwith 0 := ⟨_, rfl⟩
  have hS0 : S 0 = 0 := by rw [hS]; rfl
  have hSe : S len = mof l := by rw [hS]; show (l.take len).foldl mwith 0 = _; rw [List.take_of_length_le (by omega)]; rfl
  have hSs : ∀ k, k < len → S (k + 1) = mwith (S k) (l.getD k 0) := by intro k hk; rw [hS]; exact hst k (by omega)
  have hSl : ∀ k, S k < 18446744073709551616 := by intro k; rw [hS]; exact hlt0 k
  rw [← hSe]
  have hof := fun m i w h => rwith_any m i w h
  clear hst hlt0 hS hSe
  replace hS0 := Lib.hid hS0
  replace hSs := Lib.hid hSs
  replace hSl := Lib.hid hSl
  replace hof := Lib.hid hof
  replace hsl := Lib.hid hsl
  go_enter Tryd.func18, Tryd.ntmps18
  go_wp2
  go_loopw [3, 4] (fun v i wr => ∃ k : Nat, k ≤ len ∧ i = .int .i64 k ∧ v = .int .u64 (S k : Nat) ∧ Same w wr) (fun _ i _ => len - (intOf i).toNat)
  case atStart => exact ⟨0, by omega, rfl, by rw [hS0.out]; rfl, Same.refl⟩
  case round =>
    obtain ⟨k, hk, rfl, rfl, hs⟩ := hrel
    by_cases hlt : k < len
    · obtain ⟨bk, off, rfl, _, hcell⟩ := hsl.out.at (by intro h2; rw [iv, List.map_eq_nil_iff] at h2; rw [h2] at hll; simp at hll; omega)
      have cc := hs.cell (hcell k _ (iv_get (by omega)))
      have hx : l[k]'(by omega) = l.getD k 0 := by simp [List.getD, show k < l.length by omega]
      rw [hx] at cc
      have hsk := hSs.out k hlt
      obtain ⟨x, hxe⟩ : ∃ x, x = l.getD k 0 := ⟨_, rfl⟩
      rw [← hxe] at cc hsk
      have q0 : 0 ≤ (k : Int) := by omega
      have q1 : (k : Int) < (len : Int) := by omega
      have hc := fun w => hof.out (S k) x w (hSl.out k)
      rw [← hsk] at hc
      clear hcell hx hxe hsk
      replace hs := Lib.hid hs
      replace hc := Lib.hid hc
      go_wp2_with (refine (hc.out _).mono ?_; rintro e w' ⟨rfl, rfl⟩)
      go_roundw
      case rel => exact ⟨k + 1, by omega, by go_num, rfl, hs.out⟩
      case measure => simp [intOf]; omega
    · obtain rfl : k = len := by omega
      go_wp2
      go_ret
      exact ⟨rfl, hs⟩
set_option maxRecDepth 100000 in
set_option maxHeartbeats 400000 in
theorem rones_any (m : Nat) (w : World) (hm : m < 18446744073709551616) : Calls Tryd.prog 52 #[.int .u64 m] w fun e w' => e = .returned (.int .i64 (mones m : Nat)) ∧ w' = w := by
  have hh := fun i w => rhas_any m i w hm
  obtain ⟨s1, s2, s3⟩ := mones_spec hm
  obtain ⟨R, hR⟩ : ∃ R, R = mones m := ⟨_, rfl⟩
  rw [← hR] at s1 s2 s3 ⊢
  clear hR
  have hyes : ∀ k, k < R → mhas m (k : Int) = true := by intro k hk; rw [← s2 k hk]; simp [mhas]; omega
  have hno : R < 64 → mhas m (R : Int) = false := by intro h; simp [mhas, s3 h]
  clear s2 s3
  replace hh := Lib.hid hh
  replace hyes := Lib.hid hyes
  replace hno := Lib.hid hno
  go_enter Tryd.func52, Tryd.ntmps52
  go_wp2
  go_loopw [3] (fun i wr => ∃ k : Nat, k ≤ R ∧ i = .int .i64 k ∧ wr = w) (fun i _ => 64 - (intOf i).toNat)
  case atStart => exact ⟨0, by omega, rfl, rfl⟩
  case round =>
    obtain ⟨k, hk, rfl, rfl⟩ := hrel
    by_cases hlt : k < R
    · have hc := hh.out (k : Int)
      rw [hyes.out k hlt] at hc
      replace hc := Lib.hid hc
      go_wp2_with (refine (hc.out _).mono ?_; rintro e w' ⟨rfl, rfl⟩)
      go_roundw
      case rel => exact ⟨k + 1, by omega, by go_num, by first | rfl | trivial⟩
      case measure => simp [intOf]; omega
    · obtain rfl : k = R := by omega
      by_cases h64 : k < 64
      · have hc := hh.out (k : Int)
        rw [hno.out h64] at hc
        replace hc := Lib.hid hc
        go_wp2_with (refine (hc.out _).mono ?_; rintro e w' ⟨rfl, rfl⟩)
        go_ret
        exact ⟨rfl, rfl⟩
      · obtain rfl : k = 64 := by omega
        go_wp2
        go_ret
        exact ⟨rfl, rfl⟩
theorem down_step (l : List Int) (n : Int) (k : Nat) (h : k < l.length) : ((l.map (fun x => x - n)).take (k + 1)).foldl mwith 0 = mwith (((l.map (fun x => x - n)).take k).foldl mwith 0) (l.getD k 0 - n) := by
  rw [fold_step _ _ _ (by rw [List.length_map]; exact h)]
  simp [List.getD, h]
set_option maxRecDepth 100000 in
set_option maxHeartbeats 400000 in
theorem rdown_any (m : Nat) (n : Int) (w : World) (hm : m < 18446744073709551616) : Calls Tryd.prog 53 #[.int .u64 m, .int .i64 n] w fun e w' => e = .returned (.int .u64 (mdown m n : Nat)) ∧ Same w w' := by
  by_cases h1 : n < 1
  · have e : mdown m n = m := by rw [mdown, if_pos h1]
    rw [e]
    have d1 : Decidable.decide (n < 1) = true := decide_eq_true h1
    go_enter Tryd.func53, Tryd.ntmps53
    go_wp2
    go_ret
    exact ⟨rfl, Same.refl⟩
  · by_cases h2 : 63 < n
    · have e : mdown m n = 0 := by rw [mdown, if_neg h1, if_pos (by omega)]
      rw [e]
      have d1 : Decidable.decide (n < 1) = false := decide_eq_false h1
      have d2 : Decidable.decide (63 < n) = true := decide_eq_true h2
      go_enter Tryd.func53, Tryd.ntmps53
      go_wp2
      go_ret
      exact ⟨rfl, Same.refl⟩
    · have d1 : Decidable.decide (n < 1) = false := decide_eq_false h1
      have d2 : Decidable.decide (63 < n) = false := decide_eq_false h2
      have hli := rlist_any m w hm
      have hst := down_step (nints (mlist m)) n
      have hlt0 := fun k => mfold_lt (((nints (mlist m)).map (fun x => x - n)).take k) (show 0 < 18446744073709551616 by decide)
      have hl64 : ∀ k, 0 ≤ (nints (mlist m)).getD k 0 ∧ (nints (mlist m)).getD k 0 < 64 := by
        intro k
        by_cases hk : k < (nints (mlist m)).length
        · have hx : (nints (mlist m)).getD k 0 ∈ nints (mlist m) := by
            simp only [List.getD, List.getElem?_eq_getElem hk, Option.getD_some]
            exact List.getElem_mem _
          obtain ⟨a, ha, he⟩ := List.mem_map.1 hx
          have := ((mlist_mem _ _).1 ha).1
          rw [← he]
          omega
        · rw [List.getD, List.getElem?_eq_none (by omega)]
          simp
      have hll64 : (nints (mlist m)).length ≤ 64 := by rw [nints, List.length_map]; exact mlist_le m
      obtain ⟨S, hS⟩ : ∃ S : Nat → Nat, S = fun k => (((nints (mlist m)).map (fun x => x - n)).take k).foldl mwith 0 := ⟨_, rfl⟩
      have hS0 : S 0 = 0 := by rw [hS]; rfl
      have hSe : S (nints (mlist m)).length = mdown m n := by
        rw [hS]
        show (((nints (mlist m)).map (fun x => x - n)).take (nints (mlist m)).length).foldl mwith 0 = _
        rw [List.take_of_length_le (by rw [List.length_map]; exact Nat.le_refl _)]
        exact mdown_fold hm n (by omega) (by omega)
      obtain ⟨l, hl⟩ : ∃ l, l = nints (mlist m) := ⟨_, rfl⟩
      rw [← hl] at hli hst hl64 hll64 hSe
      have hSs : ∀ k, k < l.length → S (k + 1) = mwith (S k) (l.getD k 0 - n) := by intro k hk; rw [hS, ← hl]; exact hst k (by omega)
      have hSl : ∀ k, S k < 18446744073709551616 := by intro k; rw [hS]; exact hlt0 k
      rw [← hSe]
      have hof := fun m i w h => rwith_any m i w h
      clear hst hlt0 hS hSe hl
      obtain ⟨len, hlen⟩ : ∃ n, n = l.length := ⟨_, rfl⟩
      unfold RetI at hli
      rw [← hlen] at hSs hll64 hli ⊢
      replace hlen := Lib.hid hlen
      replace hli := Lib.hid hli
      replace hS0 := Lib.hid hS0
      replace hSs := Lib.hid hSs
      replace hSl := Lib.hid hSl
      replace hof := Lib.hid hof
      replace hl64 := Lib.hid hl64
      go_enter Tryd.func53, Tryd.ntmps53
      go_wp2_with (refine hli.out.mono ?_; rintro e w1 ⟨v, rfl, ho, hs1⟩; obtain ⟨ao, cap, rfl, hsl⟩ := ho.sl; have hcap := hsl.cap; have hmost := hsl.most; unfold maxLen at hmost; clear ho; replace hsl := Lib.hid hsl; replace hs1 := Lib.hid hs1)
      go_loopw [6, 7] (fun v i wr => ∃ k : Nat, k ≤ len ∧ i = .int .i64 k ∧ v = .int .u64 (S k : Nat) ∧ Same w1 wr) (fun _ i _ => len - (intOf i).toNat)
      case atStart => exact ⟨0, by omega, rfl, by rw [hS0.out]; rfl, Same.refl⟩
      case round =>
        obtain ⟨k, hk, rfl, rfl, hs⟩ := hrel
        by_cases hlt : k < len
        · obtain ⟨bk, off, rfl, _, hcell⟩ := hsl.out.at (by intro h2; rw [iv, List.map_eq_nil_iff] at h2; have := hlen.out; rw [h2] at this; simp at this; omega)
          have cc := hs.cell (hcell k _ (iv_get (by have := hlen.out; omega)))
          have hx : l[k]'(by have := hlen.out; omega) = l.getD k 0 := by simp [List.getD, show k < l.length by have := hlen.out; omega]
          rw [hx] at cc
          have hsk := hSs.out k hlt
          have hx64 := hl64.out k
          obtain ⟨x, hxe⟩ : ∃ x, x = l.getD k 0 := ⟨_, rfl⟩
          rw [← hxe] at cc hsk hx64
          have q0 : 0 ≤ (k : Int) := by omega
          have q1 : (k : Int) < (len : Int) := by omega
          have hc := fun w => hof.out (S k) (x - n) w (hSl.out k)
          rw [← hsk] at hc
          have hwr : IntKind.i64.wrap (x - n) = x - n := IntWalk.i64_in _ ⟨by omega, by omega⟩
          clear hcell hx hxe hsk
          replace hs := Lib.hid hs
          replace hc := Lib.hid hc
          go_wp2_with (refine (hc.out _).mono ?_; rintro e w' ⟨rfl, rfl⟩)
          go_roundw
          case rel => exact ⟨k + 1, by omega, by go_num, rfl, hs.out⟩
          case measure => simp [intOf]; omega
        · obtain rfl : k = len := by omega
          go_wp2
          go_ret
          exact ⟨rfl, hs1.out.trans hs⟩
end Go.Proofs.YtkhloanpdehegaaDoor
