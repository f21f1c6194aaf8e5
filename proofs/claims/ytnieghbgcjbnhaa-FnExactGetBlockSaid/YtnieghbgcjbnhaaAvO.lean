/-
The types, as arguments are opened.
Conditions: none.
-/
import Derived.Test.YtnieghbgcjbnhaaAvOpen
import Derived.Test.YtnieghbgcjbnhaaAvT
set_option linter.unusedVariables false
namespace Go.Proofs.Ytnieghbgcjbnhaa.Av
open Go.RowKit
set_option maxRecDepth 20000
end Go.Proofs.Ytnieghbgcjbnhaa.Av
