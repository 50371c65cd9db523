/-
  Requests, the document's: how one is made.
-/
import Derived.Test.YtmacgmmjgdmleaaReq3
import Derived.Test.YtmacgmmjgdmleaaMutL
namespace Go.Proofs.Ytmacgmmjgdmleaa
open Go Go.RowKit
set_option linter.unusedSimpArgs false
set_option linter.unusedVariables false

/-- A whole value in a block of the call's own, from block B on. -/
def isCell (B : Nat) (cs : List Value) (T : TypeId) : Value → World → Prop := fun v w => ∃ g, v = .pointer (some ⟨g, 0, none⟩) ∧ B ≤ g ∧ w.heap[g]? = some (.cells cs.toArray T (0, 0))
theorem isCell_stable (B : Nat) (cs : List Value) (T : TypeId) : Stable Same (isCell B cs T) := fun _ _ _ k ⟨g, h, hB, hb⟩ => ⟨g, h, hB, (k.block _ (blk_lt hb)).trans hb⟩
end Go.Proofs.Ytmacgmmjgdmleaa
