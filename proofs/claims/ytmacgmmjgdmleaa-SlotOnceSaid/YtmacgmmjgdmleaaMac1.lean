/-
  The seal's Mac, the program's.
-/
import Derived.Test.YtmacgmmjgdmleaaLives3
import Derived.Test.YtmacgmmjgdmleaaCut
import Derived.Test.YtmacgmmjgdmleaaRef1
import Derived.Deep.DeepCutAuto
import Derived.StillTailTactics
namespace Go.Proofs.Ytmacgmmjgdmleaa
open Go Go.RowKit
set_option linter.unusedSimpArgs false
set_option linter.unusedVariables false

/-- A key's block. -/
def Sha.kblk (key : List UInt8) : List UInt8 := (if 64 < key.length then Sha.sum key else key) ++ List.replicate (64 - (if 64 < key.length then Sha.sum key else key).length) 0
theorem Sha.kblk_length (key : List UInt8) : (Sha.kblk key).length = 64 := by
  unfold Sha.kblk
  by_cases h : 64 < key.length
  · rw [if_pos h, List.length_append, List.length_replicate, Sha.sum_length]
  · rw [if_neg h, List.length_append, List.length_replicate]
    omega
def Sha.xorl (l : List UInt8) (x : UInt8) : List UInt8 := l.map (· ^^^ x)
theorem Sha.xorl_length (l : List UInt8) (x : UInt8) : (Sha.xorl l x).length = l.length := by simp [Sha.xorl]
def Sha.mac (key b : List UInt8) : List UInt8 := Sha.sum (Sha.xorl (Sha.kblk key) 0x5c ++ Sha.sum (Sha.xorl (Sha.kblk key) 0x36 ++ b))
def xorPart (l : List UInt8) (x : UInt8) (k : Nat) : List UInt8 := (Sha.xorl l x).take k ++ l.drop k
theorem xorPart_length (l : List UInt8) (x : UInt8) (k : Nat) (h : k ≤ l.length) : (xorPart l x k).length = l.length := by
  simp [xorPart, Sha.xorl]
  omega
theorem xorPart_get (l : List UInt8) (x : UInt8) (k : Nat) (h : k < l.length) : (xorPart l x k).getD k 0 = l.getD k 0 := by
  have h1 : ((Sha.xorl l x).take k).length = k := by rw [List.length_take, Sha.xorl_length]; omega
  simp only [xorPart, List.getD]
  rw [List.getElem?_append_right (by omega), h1, Nat.sub_self, List.getElem?_drop, Nat.add_zero]
theorem xorPart_set (l : List UInt8) (x : UInt8) (k : Nat) (h : k < l.length) : (bv (xorPart l x k)).toArray.setIfInBounds k (.int .u8 ((l.getD k 0 ^^^ x).toNat : Int)) = (bv (xorPart l x (k + 1))).toArray := by
  have e : (xorPart l x k).set k (l.getD k 0 ^^^ x) = xorPart l x (k + 1) := by
    have h1 : ((Sha.xorl l x).take k).length = k := by rw [List.length_take, Sha.xorl_length]; omega
    have h2 : (Sha.xorl l x).take (k + 1) = (Sha.xorl l x).take k ++ [l.getD k 0 ^^^ x] := by
      rw [List.take_succ_eq_append_getElem (by rw [Sha.xorl_length]; exact h)]
      simp [Sha.xorl, List.getD, h]
    unfold xorPart
    obtain ⟨z, hz⟩ : ∃ z, l.drop k = z :: l.drop (k + 1) := ⟨_, List.drop_eq_getElem_cons h⟩
    rw [List.set_append_right _ _ (by omega), h1, Nat.sub_self, h2, hz]
    simp
  rw [← e]
  simp [bv, List.map_set]
theorem xorPart_zero (l : List UInt8) (x : UInt8) : xorPart l x 0 = l := by simp [xorPart]
theorem xorPart_all (l : List UInt8) (x : UInt8) (h : l.length = 64) : xorPart l x 64 = Sha.xorl l x := by
  unfold xorPart
  rw [List.take_of_length_le (by rw [Sha.xorl_length, h]; exact Nat.le_refl _), List.drop_of_length_le (by omega), List.append_nil]
theorem u8_xor_words (x y : UInt8) : bits BinOp.xor .u8 (x.toNat : Int) (y.toNat : Int) = ((x ^^^ y).toNat : Int) := by
  rw [u8_xor_nat _ _ x.toNat_lt y.toNat_lt, UInt8.toNat_xor]
theorem blk_info {l : List UInt8} (hl : l.length = 64) : (Try.prog.info? 252).map (·.size) = some (bv l).toArray.size := by
  rw [List.size_toArray, bv_length, hl]
  kernel_rfl
end Go.Proofs.Ytmacgmmjgdmleaa
