/-
  Contract of rat's size.
-/
import Derived.Test.YtmifjfohanegiaaDoorRatA
namespace Go.Proofs.YtmifjfohanegiaaDoor
set_option linter.unusedVariables false
open Go.RowKit

end Go.Proofs.YtmifjfohanegiaaDoor
