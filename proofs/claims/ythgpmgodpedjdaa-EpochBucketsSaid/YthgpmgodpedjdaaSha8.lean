/-
  The digest's Chain.
-/
import Derived.Test.YthgpmgodpedjdaaSha7
namespace Go.Proofs.Ythgpmgodpedjdaa
open Go Go.RowKit
set_option linter.unusedSimpArgs false
set_option linter.unusedVariables false

end Go.Proofs.Ythgpmgodpedjdaa
