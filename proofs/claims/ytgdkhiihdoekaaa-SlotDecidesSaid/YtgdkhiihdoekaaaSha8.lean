/-
  The digest's Chain.
-/
import Derived.Test.YtgdkhiihdoekaaaSha7
namespace Go.Proofs.Ytgdkhiihdoekaaa
open Go Go.RowKit
set_option linter.unusedSimpArgs false
set_option linter.unusedVariables false

end Go.Proofs.Ytgdkhiihdoekaaa
