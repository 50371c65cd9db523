/-
  The digest's Less and Share, the program's and the document's.
-/
import Derived.Test.YtmacgmmjgdmleaaText
import Derived.Test.YtmacgmmjgdmleaaSha8
namespace Go.Proofs.Ytmacgmmjgdmleaa
open Go Go.RowKit
set_option linter.unusedSimpArgs false
set_option linter.unusedVariables false

theorem dig_cell {w : World} {b T : Nat} {l : List UInt8} (h : w.heap[b]? = some (.cells (bv l).toArray T (0, 0))) {j : Nat} (hj : j < l.length) : w.cell? ⟨b, j, none⟩ = some (.int .u8 ((l.getD j 0).toNat : Int)) := by
  rw [blk_cell h, List.getElem?_toArray, bv_get hj]
  simp [List.getD, hj]
theorem dig_info {l : List UInt8} (hl : l.length = 32) : (Try.prog.info? 28).map (·.size) = some (bv l).toArray.size := by
  rw [List.size_toArray, bv_length, hl]
  kernel_rfl
theorem dig_conv {w : World} {b T : Nat} {l : List UInt8} (hl : l.length = 32) (h : w.heap[b]? = some (.cells (bv l).toArray T (0, 0))) : Sl w 1 (some ⟨b, 0, none⟩) 32 32 (bv l) := sl_of_row h (by rw [bv_length]; exact hl) (by omega : 32 ≤ 2 ^ 60)
/-- A share. -/
def shareOf (l : List UInt8) (n : Int) : Int := if n < 1 then 0 else (Num.val (l.take 7) : Int) % n
theorem val7 (l : List UInt8) : Num.val (l.take 7) < 72057594037927936 := by
  have h1 := Num.val_lt (l.take 7)
  have h2 : (l.take 7).length ≤ 7 := List.length_take_le _ _
  exact Nat.lt_of_lt_of_le h1 (Nat.pow_le_pow_right (by omega) h2)
theorem take7_get {l : List UInt8} {j : Nat} (hj : j < 7) : (l.take 7).getD j 0 = l.getD j 0 := by
  simp only [List.getD, List.getElem?_take, if_pos hj]
set_option maxRecDepth 100000 in
set_option maxHeartbeats 1600000 in
theorem share_any (l : List UInt8) (hl : l.length = 32) (n : Int) (w : World) :
    Calls Try.prog 162 #[.agg (bv l).toArray, .int .i64 n] w fun e w' => e = .returned (.int .i64 (shareOf l n)) ∧ Same w w' := by
  have hinf := Lib.hid (dig_info hl)
  by_cases hn : n < 1
  · rw [shareOf, if_pos hn]
    go_enter Try.func162, Try.ntmps162
    go_wp2_with (refine box_row rfl _ _ rfl _ rfl hinf.out ?_; intro w0 hbx hs0; have hb0 := blk_lt hbx; replace hbx := Lib.hid hbx; replace hs0 := Lib.hid hs0)
    go_ret
    exact ⟨rfl, hs0.out⟩
  · rw [shareOf, if_neg hn]
    go_enter Try.func162, Try.ntmps162
    go_wp2_with (refine box_row rfl _ _ rfl _ rfl hinf.out ?_; intro w0 hbx hs0; have hb0 := blk_lt hbx; replace hbx := Lib.hid hbx; replace hs0 := Lib.hid hs0)
    go_loop [5, 12] (fun x i => ∃ k : Nat, k ≤ 7 ∧ i = .int .i64 k ∧ x = .int .i64 (Num.val ((l.take 7).take k))) (fun _ i => 7 - (intOf i).toNat)
    case atStart => exact ⟨0, by omega, rfl, rfl⟩
    case round =>
      obtain ⟨k, hk, rfl, rfl⟩ := hrel
      by_cases hlt : k < 7
      · have hl7 : (l.take 7).length = 7 := by rw [List.length_take]; omega
        have hor := or_digit (l.take 7) k 7 hl7 hlt (by omega) (fun h => by omega)
        rw [take7_get hlt] at hor
        have cl := dig_cell hbx.out (j := k) (by omega)
        obtain ⟨x, hx⟩ : ∃ x, x = Num.val ((l.take 7).take k) := ⟨_, rfl⟩
        obtain ⟨y, hy⟩ : ∃ y, y = Num.val ((l.take 7).take (k + 1)) := ⟨_, rfl⟩
        obtain ⟨c, hc⟩ : ∃ c, c = l.getD k 0 := ⟨_, rfl⟩
        rw [← hx, ← hy, ← hc] at hor
        rw [← hc] at cl
        rw [← hx]
        obtain ⟨h1, h2⟩ := hor
        have hc2 : c.toNat < 256 := c.toNat_lt
        have q0 : 0 ≤ (k : Int) := by omega
        have q1 : (k : Int) < 7 := by omega
        clear hx hc hl7
        replace hy := Lib.hid hy
        go_wp2
        go_round
        case rel => exact ⟨k + 1, by omega, by go_num, by rw [← hy.out]⟩
        case measure => simp [intOf]; omega
      · obtain rfl : k = 7 := by omega
        have e7 : (l.take 7).take 7 = l.take 7 := by rw [List.take_take]; rfl
        have hv := val7 l
        rw [e7]
        obtain ⟨x, hx⟩ : ∃ x, x = Num.val (l.take 7) := ⟨_, rfl⟩
        rw [← hx] at hv
        rw [← hx]
        replace hx := Lib.hid hx
        clear e7
        go_wp2
        go_ret
        exact ⟨by rw [← hx.out]; rfl, hs0.out⟩
set_option maxRecDepth 100000 in
set_option maxHeartbeats 1600000 in
theorem rshare_any (l : List UInt8) (hl : l.length = 32) (n : Int) (w : World) :
    Calls Try.prog 167 #[.agg (bv l).toArray, .int .i64 n] w fun e w' => e = .returned (.int .i64 (shareOf l n)) ∧ Same w w' := by
  have hinf := Lib.hid (dig_info hl)
  by_cases hn : n < 1
  · rw [shareOf, if_pos hn]
    go_enter Try.func167, Try.ntmps167
    go_wp2_with (refine box_row rfl _ _ rfl _ rfl hinf.out ?_; intro w0 hbx hs0; have hb0 := blk_lt hbx; replace hbx := Lib.hid hbx; replace hs0 := Lib.hid hs0)
    go_ret
    exact ⟨rfl, hs0.out⟩
  · rw [shareOf, if_neg hn]
    go_enter Try.func167, Try.ntmps167
    go_wp2_with (refine box_row rfl _ _ rfl _ rfl hinf.out ?_; intro w0 hbx hs0; have hb0 := blk_lt hbx; replace hbx := Lib.hid hbx; replace hs0 := Lib.hid hs0)
    go_loop [5, 6] (fun x i => ∃ k : Nat, k ≤ 7 ∧ i = .int .i64 k ∧ x = .int .i64 (Num.val ((l.take 7).take k))) (fun _ i => 7 - (intOf i).toNat)
    case atStart => exact ⟨0, by omega, rfl, rfl⟩
    case round =>
      obtain ⟨k, hk, rfl, rfl⟩ := hrel
      by_cases hlt : k < 7
      · have hl7 : (l.take 7).length = 7 := by rw [List.length_take]; omega
        have hor := (or_digit (l.take 7) k 7 hl7 hlt (by omega) (fun h => by omega)).2
        have hsn : Num.val ((l.take 7).take (k + 1)) = 256 * Num.val ((l.take 7).take k) + (l.getD k 0).toNat := by
          rw [List.take_succ_eq_append_getElem (by omega), Num.val_snoc, ← take7_get hlt]
          simp only [List.getD, List.getElem?_eq_getElem (show k < (l.take 7).length by omega), Option.getD_some]
        have cl := dig_cell hbx.out (j := k) (by omega)
        obtain ⟨x, hx⟩ : ∃ x, x = Num.val ((l.take 7).take k) := ⟨_, rfl⟩
        obtain ⟨c, hc⟩ : ∃ c, c = (l.getD k 0).toNat := ⟨_, rfl⟩
        have hc2 : c < 256 := by rw [hc]; exact (l.getD k 0).toNat_lt
        rw [← hx] at hor
        rw [← hx, ← hc] at hsn
        rw [← hc] at cl
        rw [← hx]
        have q0 : 0 ≤ (k : Int) := by omega
        have q1 : (k : Int) < 7 := by omega
        clear hx hc hl7
        replace hsn := Lib.hid hsn
        go_wp2
        go_round
        case rel => exact ⟨k + 1, by omega, by go_num, by rw [hsn.out]; go_num⟩
        case measure => simp [intOf]; omega
      · obtain rfl : k = 7 := by omega
        have e7 : (l.take 7).take 7 = l.take 7 := by rw [List.take_take]; rfl
        have hv := val7 l
        rw [e7]
        obtain ⟨x, hx⟩ : ∃ x, x = Num.val (l.take 7) := ⟨_, rfl⟩
        rw [← hx] at hv
        rw [← hx]
        replace hx := Lib.hid hx
        clear e7
        go_wp2
        go_ret
        exact ⟨by rw [← hx.out]; rfl, hs0.out⟩
end Go.Proofs.Ytmacgmmjgdmleaa
