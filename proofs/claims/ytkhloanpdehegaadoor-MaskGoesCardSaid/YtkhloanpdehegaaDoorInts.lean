/-
  When two lists of numbers are told the same by the document.
-/
import Derived.Test.YtkhloanpdehegaaDoorBase
import Derived.Deep.DeepCutAuto
import Derived.Deep.QuietTactic
import Derived.BigQuiet
import Derived.Test.YtkhloanpdehegaaDoorProg
namespace Go.Proofs.YtkhloanpdehegaaDoor
open Go Go.RowKit
set_option linter.unusedSimpArgs false
set_option linter.unusedVariables false

set_option maxRecDepth 100000 in
set_option maxHeartbeats 800000 in
theorem ints_any (ao : Option Addr) (an ac : Nat) (a : List Int) (bo : Option Addr) (bn bc : Nat) (b : List Int) (w : World) (ha : Sl w 1 ao an ac (iv a)) (hb : Sl w 1 bo bn bc (iv b)) :
    Calls Tryd.prog 13 #[.slice ao an ac, .slice bo bn bc] w fun e w' => e = .returned (.bool (decide (a = b))) ∧ Same w w' := by
  have hal : a.length = an := by have := ha.len; rw [iv_length] at this; omega
  have hbl : b.length = bn := by have := hb.len; rw [iv_length] at this; omega
  have hcap := ha.cap
  have hmost := ha.most
  have hcapb := hb.cap
  unfold maxLen at hmost
  obtain ⟨R, hR⟩ : ∃ R, R = decide (a = b) := ⟨_, rfl⟩
  rw [← hR]
  by_cases hn : an = bn
  · subst hn
    have hstop : a.take an = b.take an → R = true := by
      intro h
      rw [List.take_of_length_le (by omega), List.take_of_length_le (by omega)] at h
      rw [hR, h]
      simp
    have hbad : ∀ k, k < an → a.getD k 0 ≠ b.getD k 0 → R = false := by
      intro k hk hne
      rw [hR, decide_eq_false]
      rintro rfl
      exact hne rfl
    have hnx : ∀ k, k < an → a.take k = b.take k → a.getD k 0 = b.getD k 0 → a.take (k + 1) = b.take (k + 1) := by
      intro k hk h1 h2
      rw [List.take_succ_eq_append_getElem (by omega), List.take_succ_eq_append_getElem (by omega), h1]
      simp only [List.getD, List.getElem?_eq_getElem (show k < a.length by omega), List.getElem?_eq_getElem (show k < b.length by omega), Option.getD_some] at h2
      rw [h2]
    have hne : ((an : Int) != (an : Int)) = false := by simp
    replace hR := Lib.hid hR
    replace hstop := Lib.hid hstop
    replace hbad := Lib.hid hbad
    replace hnx := Lib.hid hnx
    replace ha := Lib.hid ha
    replace hb := Lib.hid hb
    go_enter Tryd.func13, Tryd.ntmps13
    go_wp2
    go_loopw [5] (fun i wr => ∃ k : Nat, k ≤ an ∧ i = .int .i64 k ∧ a.take k = b.take k ∧ Same w wr) (fun i _ => an - (intOf i).toNat)
    case atStart => exact ⟨0, by omega, rfl, rfl, Same.refl⟩
    case round =>
      obtain ⟨k, hk, rfl, htk, hs⟩ := hrel
      by_cases hlt : k < an
      · obtain ⟨b1, o1, rfl, _, hc1⟩ := ha.out.at (by intro h2; rw [iv, List.map_eq_nil_iff] at h2; rw [h2] at hal; simp at hal; omega)
        obtain ⟨b2, o2, rfl, _, hc2⟩ := hb.out.at (by intro h2; rw [iv, List.map_eq_nil_iff] at h2; rw [h2] at hbl; simp at hbl; omega)
        have cc1 := hs.cell (hc1 k _ (iv_get (by omega)))
        have cc2 := hs.cell (hc2 k _ (iv_get (by omega)))
        have hx1 : a[k]'(by omega) = a.getD k 0 := by simp [List.getD, show k < a.length by omega]
        have hx2 : b[k]'(by omega) = b.getD k 0 := by simp [List.getD, show k < b.length by omega]
        rw [hx1] at cc1
        rw [hx2] at cc2
        have hbd := hbad.out k hlt
        have hnk := hnx.out k hlt htk
        obtain ⟨x, hxe⟩ : ∃ x, x = a.getD k 0 := ⟨_, rfl⟩
        obtain ⟨y, hye⟩ : ∃ y, y = b.getD k 0 := ⟨_, rfl⟩
        rw [← hxe] at cc1 hbd hnk
        rw [← hye] at cc2 hbd hnk
        have q0 : 0 ≤ (k : Int) := by omega
        have q1 : (k : Int) < (an : Int) := by omega
        clear hc1 hc2 hx1 hx2 hxe hye htk
        replace hs := Lib.hid hs
        by_cases hxy : x = y
        · subst hxy
          have hnk2 := hnk rfl
          have hxx : (x != x) = false := by simp
          clear hbd hnk
          replace hnk2 := Lib.hid hnk2
          go_upto_region 6 with fail
          go_quiet (fail)
          go_wp2
          go_roundw
          case rel => exact ⟨k + 1, by omega, by go_num, hnk2.out, by first | exact hs.out | exact hs.out.drewN _⟩
          case measure => simp [intOf]; omega
        · have hxx : (x != y) = true := by simpa using hxy
          have hR2 := hbd hxy
          clear hbd hnk hxy
          replace hR2 := Lib.hid hR2
          go_upto_region 6 with fail
          go_quiet (fail)
          go_wp2
          go_ret
          exact ⟨by rw [hR2.out]; rfl, by first | exact hs.out | exact hs.out.drewN _⟩
      · obtain rfl : k = an := by omega
        have hR2 := hstop.out htk
        clear htk
        replace hR2 := Lib.hid hR2
        go_wp2
        go_ret
        exact ⟨by rw [hR2.out]; rfl, hs⟩
  · have hR2 : R = false := by
      rw [hR, decide_eq_false]
      rintro rfl
      omega
    have hne : ((an : Int) != (bn : Int)) = true := by simp; omega
    clear hR
    replace hR2 := Lib.hid hR2
    replace hal := Lib.hid hal
    replace hbl := Lib.hid hbl
    go_enter Tryd.func13, Tryd.ntmps13
    go_wp2
    go_ret
    exact ⟨by rw [hR2.out]; rfl, Same.refl⟩
end Go.Proofs.YtkhloanpdehegaaDoor
