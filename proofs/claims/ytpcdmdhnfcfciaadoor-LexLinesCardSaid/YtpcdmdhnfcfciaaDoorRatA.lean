/-
  Contracts of rat's gcd.
-/
import Derived.Test.YtpcdmdhnfcfciaaDoorRows
import Derived.Test.YtpcdmdhnfcfciaaDoorBaseB
import Derived.BigQuiet
namespace Go.Proofs.YtpcdmdhnfcfciaaDoor
set_option linter.unusedVariables false
open Go.RowKit

end Go.Proofs.YtpcdmdhnfcfciaaDoor
