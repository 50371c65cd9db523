/-
  When two configs are told the same; lists of numbers that are told the same; the document's epochs that are told the same.
-/
import Derived.Test.YtmacgmmjgdmleaaCfg
import Derived.Test.YtmacgmmjgdmleaaEq
import Derived.Deep.QuietTactic
import Derived.BigQuiet
namespace Go.Proofs.Ytmacgmmjgdmleaa
open Go Go.RowKit
set_option linter.unusedSimpArgs false
set_option linter.unusedVariables false

def Cfg.wf (c : Cfg) : Prop := ∀ x ∈ c.list, (Lit.int .i64 x).wf = true
def litsC (c : Cfg) : List Lit := c.list.map fun x => .int .i64 x
theorem litsC_inj {a b : Cfg} : litsC a = litsC b ↔ a.list = b.list := by
  unfold litsC
  constructor
  · intro h
    exact (List.map_inj_right (fun x y h => by simpa using h)).1 h
  · intro h
    rw [h]
set_option maxRecDepth 100000 in
set_option maxHeartbeats 400000 in
theorem keyLits_cfg (c : Cfg) (h : c.wf) : Try.prog.keyLits 3 68 c.cells = some (litsC c) := by
  have hi : ∀ x : Int, (Lit.int .i64 x).wf = true → Try.prog.keyLits 2 3 [.int .i64 x] = some [.int .i64 x] := by
    intro x hx
    unfold Program.keyLits
    rw [Try.underlying3]
    simp [hx]
  have hx := fun x hm => hi x (h x hm)
  simp only [Cfg.list, List.mem_cons, List.not_mem_nil, or_false] at hx
  unfold Program.keyLits
  rw [Try.underlying68]
  have h3 : Try.prog.cellsOf 3 = 1 := by kernel_rfl
  have h4 : Try.prog.cellsOf 68 = 10 := by kernel_rfl
  simp [Cfg.cells, Cfg.list, iv, h3, h4, hx, litsC]
theorem Cfg.eq_of_list {a b : Cfg} (h : a.list = b.list) : a = b := by
  cases a
  cases b
  simpa [Cfg.list] using h
/-- Are they the same? -/
def Cfg.same (a b : Cfg) : Bool := decide (a.list = b.list)
theorem Cfg.same_self (a : Cfg) : Cfg.same a a = true := by simp [Cfg.same]
theorem cfg_eql (a b : Cfg) (ha : a.wf) (hb : b.wf) (w : World) : (binOp .eql 68 (.agg a.cells.toArray) (.agg b.cells.toArray)).run Try.prog w = .ok (.bool (Cfg.same a b)) w := by
  have h4 : Try.prog.cellsOf 68 = 10 := by kernel_rfl
  obtain ⟨r, hr, hiff⟩ := equal_lits w (by decide : 2 ≤ 10000) (by kernel_rfl) (by rw [Try.underlying68]) a.cells b.cells _ _ 3 (keyLits_cfg a ha) (keyLits_cfg b hb) (by rw [h4]; rfl) (by rw [h4]; rfl)
  rw [run_eql_struct, hr]
  have e : r = Cfg.same a b := by
    rw [Bool.eq_iff_iff, hiff, litsC_inj, Cfg.same, decide_eq_true_iff]
  rw [e]
  rfl
theorem cfg_guard (op : BinOp) (x y : Operand) (a b : Array Value) (w : World) : (eqGuard op 68 x y (.agg a) (.agg b)).run Try.prog w = .ok () w := run_eqGuard_agg w op _ x y a b (by kernel_rfl)
set_option maxRecDepth 100000 in
set_option maxHeartbeats 800000 in
theorem ints_any (ao : Option Addr) (an ac : Nat) (a : List Int) (bo : Option Addr) (bn bc : Nat) (b : List Int) (w : World) (ha : Sl w 1 ao an ac (iv a)) (hb : Sl w 1 bo bn bc (iv b)) :
    Calls Try.prog 64 #[.slice ao an ac, .slice bo bn bc] w fun e w' => e = .returned (.bool (decide (a = b))) ∧ Same w w' := by
  have hal : a.length = an := by have := ha.len; rw [iv_length] at this; omega
  have hbl : b.length = bn := by have := hb.len; rw [iv_length] at this; omega
  have hcap := ha.cap
  have hmost := ha.most
  have hcapb := hb.cap
  unfold maxLen at hmost
  obtain ⟨R, hR⟩ : ∃ R, R = decide (a = b) := ⟨_, rfl⟩
  rw [← hR]
  by_cases hn : an = bn
  · subst hn
    have hstop : a.take an = b.take an → R = true := by
      intro h
      rw [List.take_of_length_le (by omega), List.take_of_length_le (by omega)] at h
      rw [hR, h]
      simp
    have hbad : ∀ k, k < an → a.getD k 0 ≠ b.getD k 0 → R = false := by
      intro k hk hne
      rw [hR, decide_eq_false]
      rintro rfl
      exact hne rfl
    have hnx : ∀ k, k < an → a.take k = b.take k → a.getD k 0 = b.getD k 0 → a.take (k + 1) = b.take (k + 1) := by
      intro k hk h1 h2
      rw [List.take_succ_eq_append_getElem (by omega), List.take_succ_eq_append_getElem (by omega), h1]
      simp only [List.getD, List.getElem?_eq_getElem (show k < a.length by omega), List.getElem?_eq_getElem (show k < b.length by omega), Option.getD_some] at h2
      rw [h2]
    have hne : ((an : Int) != (an : Int)) = false := by simp
    replace hR := Lib.hid hR
    replace hstop := Lib.hid hstop
    replace hbad := Lib.hid hbad
    replace hnx := Lib.hid hnx
    replace ha := Lib.hid ha
    replace hb := Lib.hid hb
    go_enter Try.func64, Try.ntmps64
    go_wp2
    go_loopw [5] (fun i wr => ∃ k : Nat, k ≤ an ∧ i = .int .i64 k ∧ a.take k = b.take k ∧ Same w wr) (fun i _ => an - (intOf i).toNat)
    case atStart => exact ⟨0, by omega, rfl, rfl, Same.refl⟩
    case round =>
      obtain ⟨k, hk, rfl, htk, hs⟩ := hrel
      by_cases hlt : k < an
      · obtain ⟨b1, o1, rfl, _, hc1⟩ := ha.out.at (by intro h2; rw [iv, List.map_eq_nil_iff] at h2; rw [h2] at hal; simp at hal; omega)
        obtain ⟨b2, o2, rfl, _, hc2⟩ := hb.out.at (by intro h2; rw [iv, List.map_eq_nil_iff] at h2; rw [h2] at hbl; simp at hbl; omega)
        have cc1 := hs.cell (hc1 k _ (iv_get (by omega)))
        have cc2 := hs.cell (hc2 k _ (iv_get (by omega)))
        have hx1 : a[k]'(by omega) = a.getD k 0 := by simp [List.getD, show k < a.length by omega]
        have hx2 : b[k]'(by omega) = b.getD k 0 := by simp [List.getD, show k < b.length by omega]
        rw [hx1] at cc1
        rw [hx2] at cc2
        have hbd := hbad.out k hlt
        have hnk := hnx.out k hlt htk
        obtain ⟨x, hxe⟩ : ∃ x, x = a.getD k 0 := ⟨_, rfl⟩
        obtain ⟨y, hye⟩ : ∃ y, y = b.getD k 0 := ⟨_, rfl⟩
        rw [← hxe] at cc1 hbd hnk
        rw [← hye] at cc2 hbd hnk
        have q0 : 0 ≤ (k : Int) := by omega
        have q1 : (k : Int) < (an : Int) := by omega
        clear hc1 hc2 hx1 hx2 hxe hye htk
        replace hs := Lib.hid hs
        by_cases hxy : x = y
        · subst hxy
          have hnk2 := hnk rfl
          have hxx : (x != x) = false := by simp
          clear hbd hnk
          replace hnk2 := Lib.hid hnk2
          go_upto_region 6 with fail
          go_quiet (fail)
          go_wp2
          go_roundw
          case rel => exact ⟨k + 1, by omega, by go_num, hnk2.out, by first | exact hs.out | exact hs.out.drewN _⟩
          case measure => simp [intOf]; omega
        · have hxx : (x != y) = true := by simpa using hxy
          have hR2 := hbd hxy
          clear hbd hnk hxy
          replace hR2 := Lib.hid hR2
          go_upto_region 6 with fail
          go_quiet (fail)
          go_wp2
          go_ret
          exact ⟨by rw [hR2.out]; rfl, by first | exact hs.out | exact hs.out.drewN _⟩
      · obtain rfl : k = an := by omega
        have hR2 := hstop.out htk
        clear htk
        replace hR2 := Lib.hid hR2
        go_wp2
        go_ret
        exact ⟨by rw [hR2.out]; rfl, hs⟩
  · have hR2 : R = false := by
      rw [hR, decide_eq_false]
      rintro rfl
      omega
    have hne : ((an : Int) != (bn : Int)) = true := by simp; omega
    clear hR
    replace hR2 := Lib.hid hR2
    replace hal := Lib.hid hal
    replace hbl := Lib.hid hbl
    go_enter Try.func64, Try.ntmps64
    go_wp2
    go_ret
    exact ⟨by rw [hR2.out]; rfl, Same.refl⟩
end Go.Proofs.Ytmacgmmjgdmleaa
