/-
  The digest's Chain.
-/
import Derived.Test.YtejdiganmghopaaSha7
namespace Go.Proofs.Ytejdiganmghopaa
open Go Go.RowKit
set_option linter.unusedSimpArgs false
set_option linter.unusedVariables false

end Go.Proofs.Ytejdiganmghopaa
