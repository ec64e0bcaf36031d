/-
  Contract of rat's size.
-/
import Derived.Test.YtpcdmdhnfcfciaaDoorRatA
namespace Go.Proofs.YtpcdmdhnfcfciaaDoor
set_option linter.unusedVariables false
open Go.RowKit

end Go.Proofs.YtpcdmdhnfcfciaaDoor
