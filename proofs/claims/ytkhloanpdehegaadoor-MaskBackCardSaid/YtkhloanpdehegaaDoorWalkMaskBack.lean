/-
  The walk of the law MaskBack: a mask is that of its numbers; any numbers are those of their mask, each once, rising.
-/
-- @law u64, ints
import Derived.Test.YtkhloanpdehegaaDoorMaskL
namespace Go.Proofs.YtkhloanpdehegaaDoor
open Go Go.RowKit
set_option linter.unusedSimpArgs false
set_option linter.unusedVariables false

theorem mask_in (l : List Int) (k : Nat) (h : k < (mlist (mof l)).length) : (nints (mlist (mof l))).getD k 0 ∈ l := by
  have hk : k < (nints (mlist (mof l))).length := by rw [nints_length]; exact h
  have hx : (nints (mlist (mof l))).getD k 0 ∈ nints (mlist (mof l)) := by
    simp only [List.getD, List.getElem?_eq_getElem hk, Option.getD_some]
    exact List.getElem_mem _
  obtain ⟨a, ha, he⟩ := List.mem_map.1 hx
  rw [← he]
  exact mof_in l a ha
set_option maxRecDepth 100000 in
set_option maxHeartbeats 1600000 in
theorem walk_MaskBack (w : World) (a : Int) (ha : (Lit.int .u64 a).wf = true) (ao : Option Addr) (n cap : Nat) (l : List Int) (hsl : Sl w 1 ao n cap (iv l)) (hy : ∀ x ∈ l, (Lit.int .i64 x).wf = true) (hT : Tab w) :
    Calls Tryd.prog 4 #[.int .u64 a, .slice ao n cap] w fun e w' => e = .returned (.bool true) ∧ Same w w' := by
  clear hy
  obtain ⟨m, rfl, hm⟩ := u64_nat ha
  clear ha
  have hll : l.length = n := by have := hsl.len; rw [iv_length] at this; omega
  have hcap := hsl.cap
  have hl := Lib.hid (fun w h => lives8 w h)
  replace hT := Lib.hid hT
  by_cases hbig : 1000 < n
  · have d1 : Decidable.decide (1000 < (n : Int)) = true := decide_eq_true (by omega)
    go_enter Tryd.func4, Tryd.ntmps4
    go_wp2_with (refine (hl.out _ hT.out).mono ?_; rintro e w6 ⟨rfl, hs6⟩)
    go_ret
    exact ⟨rfl, hs6⟩
  · have d1 : Decidable.decide (1000 < (n : Int)) = false := decide_eq_false (by omega)
    have hof := fun w h => mof_any ao n cap l w h
    have hrof := fun w h => rof_any ao n cap l w h
    have hallm := fun w h => lawall_any m w hm h
    have hofm := fun ao n cap w h => mof_any ao n cap (nints (mlist m)) w h
    rw [mof_list hm] at hofm
    obtain ⟨x, hx⟩ : ∃ x, x = mof l := ⟨_, rfl⟩
    have hxl : x < 18446744073709551616 := by rw [hx]; exact mof_lt l
    have hallx := fun w h => lawall_any x w hxl h
    have hhas := fun i w => mhas_any x i w hxl
    have hin := fun k => mask_in l k
    have hho := fun i hi => mhas_of l i hi
    rw [← hx] at hof hrof hin hho
    clear hx hxl
    unfold RetI at hallm hallx
    obtain ⟨L, hL⟩ : ∃ L, L = nints (mlist m) := ⟨_, rfl⟩
    rw [← hL] at hallm hofm
    obtain ⟨X, hX⟩ : ∃ X, X = nints (mlist x) := ⟨_, rfl⟩
    have hXl : X.length = (mlist x).length := by rw [hX, nints_length]
    have hX64 : X.length ≤ 64 := by rw [hXl]; exact mlist_le x
    rw [← hX] at hallx hin
    rw [← hXl] at hin
    obtain ⟨xn, hxn⟩ : ∃ n, n = X.length := ⟨_, rfl⟩
    rw [← hxn] at hallx hin hX64
    clear hL hX hXl hm
    have hmm : ((m : Int) != (m : Int)) = false := by simp
    have hxx : ((x : Int) != (x : Int)) = false := by simp
    replace hof := Lib.hid hof
    replace hrof := Lib.hid hrof
    replace hallm := Lib.hid hallm
    replace hallx := Lib.hid hallx
    replace hofm := Lib.hid hofm
    replace hhas := Lib.hid hhas
    replace hin := Lib.hid hin
    replace hho := Lib.hid hho
    replace hsl := Lib.hid hsl
    replace hxn := Lib.hid hxn
    go_enter Tryd.func4, Tryd.ntmps4
    go_wp2_with fail
    refine (hof.out _ hsl.out).mono ?_
    rintro e w1 ⟨rfl, hs1⟩
    replace hs1 := Lib.hid hs1
    go_wp2_with fail
    refine (hallm.out _ (hT.out.same hs1.out)).mono ?_
    rintro e w2 ⟨v, rfl, ho, hs2⟩
    obtain ⟨ao2, cap2, rfl, hsl2⟩ := ho.sl
    clear ho
    replace hs2 := Lib.hid (hs1.out.trans hs2)
    replace hsl2 := Lib.hid hsl2
    go_wp2_with fail
    refine (hofm.out _ _ _ _ hsl2.out).mono ?_
    rintro e w3 ⟨rfl, hs3⟩
    replace hs3 := Lib.hid (hs2.out.trans hs3)
    clear hs1 hs2 hsl2
    go_wp2_with fail
    refine (hrof.out _ (hsl.out.same hs3.out)).mono ?_
    rintro e w4 ⟨rfl, hs4⟩
    replace hs4 := Lib.hid (hs3.out.trans hs4)
    clear hs3 hof hrof hofm hallm
    go_wp2
    go_loopw [32] (fun i wr => ∃ k : Nat, k ≤ n ∧ i = .int .i64 k ∧ Same w wr) (fun i _ => n - (intOf i).toNat)
    case atStart => exact ⟨0, by omega, rfl, hs4.out⟩
    case round =>
      obtain ⟨k, hk, rfl, hs⟩ := hrel
      by_cases hlt : k < n
      · obtain ⟨bk, off, rfl, _, hcell⟩ := hsl.out.at (by intro h2; rw [iv, List.map_eq_nil_iff] at h2; rw [h2] at hll; simp at hll; omega)
        have cc := hs.cell (hcell k _ (iv_get (by omega)))
        have hx1 : l[k]'(by omega) = l.getD k 0 := by simp [List.getD, show k < l.length by omega]
        have hmem : l.getD k 0 ∈ l := by rw [← hx1]; exact List.getElem_mem _
        rw [hx1] at cc
        obtain ⟨i, hie⟩ : ∃ x, x = l.getD k 0 := ⟨_, rfl⟩
        rw [← hie] at cc hmem
        have q0 : 0 ≤ (k : Int) := by omega
        have q1 : (k : Int) < (n : Int) := by omega
        have hh := fun w => hhas.out i w
        rw [hho.out i hmem] at hh
        have hne : ∀ b : Bool, (b != b) = false := by intro b; simp
        clear hcell hx1 hie hmem
        replace hs := Lib.hid hs
        replace hh := Lib.hid hh
        by_cases h0 : 0 ≤ i
        · have g0 : Decidable.decide (0 ≤ i) = true := decide_eq_true h0
          go_wp2_with (refine (hh.out _).mono ?_; rintro e w' ⟨rfl, rfl⟩)
          go_roundw
          case rel => exact ⟨k + 1, by omega, by go_num, hs.out⟩
          case measure => simp [intOf]; omega
        · have g0 : Decidable.decide (0 ≤ i) = false := decide_eq_false h0
          go_wp2_with (refine (hh.out _).mono ?_; rintro e w' ⟨rfl, rfl⟩)
          go_roundw
          case rel => exact ⟨k + 1, by omega, by go_num, hs.out⟩
          case measure => simp [intOf]; omega
      · obtain rfl : k = n := by omega
        clear hk hlt
        replace hs := Lib.hid hs
        go_wp2_with fail
        refine (hallx.out _ (hT.out.same hs.out)).mono ?_
        rintro e w5 ⟨v, rfl, ho, hs5⟩
        obtain ⟨ao5, cap5, rfl, hsl5⟩ := ho.sl
        have hcap5 := hsl5.cap
        clear ho
        replace hs5 := Lib.hid (hs.out.trans hs5)
        replace hsl5 := Lib.hid hsl5
        go_wp2
        go_loopw [50] (fun i wr => ∃ k : Nat, k ≤ xn ∧ i = .int .i64 k ∧ Same w5 wr) (fun i _ => xn - (intOf i).toNat)
        case atStart => exact ⟨0, by omega, rfl, Same.refl⟩
        case round =>
          obtain ⟨j, hj, rfl, hsj⟩ := hrel
          by_cases hlt : j < xn
          · obtain ⟨b5, o5, rfl, _, hcell⟩ := hsl5.out.at (by intro h2; rw [iv, List.map_eq_nil_iff] at h2; have := hxn.out; rw [h2] at this; simp at this; omega)
            have cc := hsj.cell (hcell j _ (iv_get (by have := hxn.out; omega)))
            have hx1 : X[j]'(by have := hxn.out; omega) = X.getD j 0 := by simp [List.getD, show j < X.length by have := hxn.out; omega]
            rw [hx1] at cc
            have hmem := hin.out j hlt
            obtain ⟨i, hie⟩ : ∃ x, x = X.getD j 0 := ⟨_, rfl⟩
            rw [← hie] at cc hmem
            have q0 : 0 ≤ (j : Int) := by omega
            have q1 : (j : Int) < (xn : Int) := by omega
            clear hcell hx1 hie
            replace hsj := Lib.hid hsj
            replace hmem := Lib.hid hmem
            go_wp2
            go_loopw [10, 56] (fun b i2 wr2 => ∃ k2 : Nat, k2 ≤ k ∧ i2 = .int .i64 k2 ∧ b = .bool (Decidable.decide (i ∈ l.take k2)) ∧ Same w5 wr2) (fun _ i2 _ => k - (intOf i2).toNat)
            case atStart => exact ⟨0, by omega, rfl, by simp, hsj.out⟩
            case round =>
              obtain ⟨k2, hk2, rfl, rfl, hs2⟩ := hrel
              by_cases hlt2 : k2 < k
              · obtain ⟨bk, off, rfl, _, hcell⟩ := hsl.out.at (by intro h2; rw [iv, List.map_eq_nil_iff] at h2; rw [h2] at hll; simp at hll; omega)
                have cc2 := (hs5.out.trans hs2).cell (hcell k2 _ (iv_get (by omega)))
                have hx2 : l[k2]'(by omega) = l.getD k2 0 := by simp [List.getD, show k2 < l.length by omega]
                rw [hx2] at cc2
                have hst : Decidable.decide (i ∈ l.take (k2 + 1)) = (Decidable.decide (i ∈ l.take k2) || (l.getD k2 0 == i)) := by
                  rw [List.take_succ_eq_append_getElem (by omega), hx2, Bool.eq_iff_iff, Bool.or_eq_true, decide_eq_true_iff, decide_eq_true_iff, List.mem_append, List.mem_singleton, beq_iff_eq]
                  exact ⟨fun h => h.elim .inl (fun h => .inr h.symm), fun h => h.elim .inl (fun h => .inr h.symm)⟩
                obtain ⟨y, hye⟩ : ∃ x, x = l.getD k2 0 := ⟨_, rfl⟩
                rw [← hye] at cc2 hst
                obtain ⟨B, hB⟩ : ∃ B, B = Decidable.decide (i ∈ l.take k2) := ⟨_, rfl⟩
                obtain ⟨B2, hB2⟩ : ∃ B, B = Decidable.decide (i ∈ l.take (k2 + 1)) := ⟨_, rfl⟩
                rw [← hB, ← hB2] at hst
                rw [← hB]
                have p0 : 0 ≤ (k2 : Int) := by omega
                have p1 : (k2 : Int) < (k : Int) := by omega
                clear hcell hx2 hye hB cc
                replace hB2 := Lib.hid hB2
                replace hs2 := Lib.hid hs2
                cases B
                · rw [Bool.false_or] at hst
                  have hyi : (y == i) = B2 := hst.symm
                  clear hst
                  go_wp2
                  go_roundw
                  case rel => exact ⟨k2 + 1, by omega, by go_num, by rw [← hB2.out], hs2.out⟩
                  case measure => simp [intOf]; omega
                · rw [Bool.true_or] at hst
                  subst hst
                  go_wp2
                  go_roundw
                  case rel => exact ⟨k2 + 1, by omega, by go_num, by rw [← hB2.out], hs2.out⟩
                  case measure => simp [intOf]; omega
              · obtain rfl : k2 = k := by omega
                have hdd : Decidable.decide (i ∈ l.take k2) = true := by rw [List.take_of_length_le (by omega)]; exact decide_eq_true hmem.out
                rw [hdd]
                clear hdd
                go_wp2
                go_roundw
                case rel => exact ⟨j + 1, by omega, by go_num, hs2⟩
                case measure => simp [intOf]; omega
          · obtain rfl : j = xn := by omega
            have hsT := Lib.hid (hs5.out.trans hsj)
            go_wp2_with (refine (hl.out _ (hT.out.same hsT.out)).mono ?_; rintro e w6 ⟨rfl, hs6⟩)
            go_ret
            exact ⟨rfl, hsT.out.trans hs6⟩
end Go.Proofs.YtkhloanpdehegaaDoor
