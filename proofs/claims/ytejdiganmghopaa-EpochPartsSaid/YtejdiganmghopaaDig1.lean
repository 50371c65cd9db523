/-
  The digest's Less and Share, the program's and the document's.
-/
import Derived.Test.YtejdiganmghopaaText
import Derived.Test.YtejdiganmghopaaSha8
namespace Go.Proofs.Ytejdiganmghopaa
open Go Go.RowKit
set_option linter.unusedSimpArgs false
set_option linter.unusedVariables false

theorem dig_cell {w : World} {b T : Nat} {l : List UInt8} (h : w.heap[b]? = some (.cells (bv l).toArray T (0, 0))) {j : Nat} (hj : j < l.length) : w.cell? ⟨b, j, none⟩ = some (.int .u8 ((l.getD j 0).toNat : Int)) := by
  rw [blk_cell h, List.getElem?_toArray, bv_get hj]
  simp [List.getD, hj]
theorem dig_info {l : List UInt8} (hl : l.length = 32) : (Try.prog.info? 25).map (·.size) = some (bv l).toArray.size := by
  rw [List.size_toArray, bv_length, hl]
  kernel_rfl
theorem dig_conv {w : World} {b T : Nat} {l : List UInt8} (hl : l.length = 32) (h : w.heap[b]? = some (.cells (bv l).toArray T (0, 0))) : Sl w 1 (some ⟨b, 0, none⟩) 32 32 (bv l) := sl_of_row h (by rw [bv_length]; exact hl) (by omega : 32 ≤ 2 ^ 60)
/-- A share. -/
def shareOf (l : List UInt8) (n : Int) : Int := if n < 1 then 0 else (Num.val (l.take 7) : Int) % n
theorem val7 (l : List UInt8) : Num.val (l.take 7) < 72057594037927936 := by
  have h1 := Num.val_lt (l.take 7)
  have h2 : (l.take 7).length ≤ 7 := List.length_take_le _ _
  exact Nat.lt_of_lt_of_le h1 (Nat.pow_le_pow_right (by omega) h2)
theorem take7_get {l : List UInt8} {j : Nat} (hj : j < 7) : (l.take 7).getD j 0 = l.getD j 0 := by
  simp only [List.getD, List.getElem?_take, if_pos hj]
end Go.Proofs.Ytejdiganmghopaa
