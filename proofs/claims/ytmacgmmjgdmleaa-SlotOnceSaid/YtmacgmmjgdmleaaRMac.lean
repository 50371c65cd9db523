/-
  The document's mac (raddleref04.pad, Mac).
-/
import Derived.Test.YtmacgmmjgdmleaaShaRef3
import Derived.Test.YtmacgmmjgdmleaaMac2
import Derived.Deep.DeepCutAuto
import Derived.Test.YtmacgmmjgdmleaaMut
namespace Go.Proofs.Ytmacgmmjgdmleaa
open Go Go.RowKit
set_option linter.unusedSimpArgs false
set_option linter.unusedVariables false

theorem kblk_get (K : List UInt8) (j : Nat) (hj : j < 64) : (K ++ List.replicate (64 - K.length) (0 : UInt8)).getD j 0 = if j < K.length then K.getD j 0 else 0 := by
  by_cases h : j < K.length
  · rw [if_pos h]
    simp [List.getD, List.getElem?_append_left h]
  · rw [if_neg h]
    simp only [List.getD]
    rw [List.getElem?_append_right (by omega), List.getElem?_replicate]
    split <;> rfl
end Go.Proofs.Ytmacgmmjgdmleaa
