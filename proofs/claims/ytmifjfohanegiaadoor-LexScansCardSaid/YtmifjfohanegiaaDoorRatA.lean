/-
  Contracts of rat's gcd.
-/
import Derived.Test.YtmifjfohanegiaaDoorRows
import Derived.Test.YtmifjfohanegiaaDoorBaseB
import Derived.BigQuiet
namespace Go.Proofs.YtmifjfohanegiaaDoor
set_option linter.unusedVariables false
open Go.RowKit

end Go.Proofs.YtmifjfohanegiaaDoor
