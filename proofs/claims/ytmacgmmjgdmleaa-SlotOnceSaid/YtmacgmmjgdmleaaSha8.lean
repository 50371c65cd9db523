/-
  The digest's Chain.
-/
import Derived.Test.YtmacgmmjgdmleaaSha7
namespace Go.Proofs.Ytmacgmmjgdmleaa
open Go Go.RowKit
set_option linter.unusedSimpArgs false
set_option linter.unusedVariables false

end Go.Proofs.Ytmacgmmjgdmleaa
