/-
A region that draws its order, whose operations read or make: what each yields is told by a property that lasts; whatever order is drawn, in the end each place holds a value of its property.
Conditions: none beside those that each theorem names.
-/
import Derived.Test.YtadkhkpchankjaaBW
import Derived.Test.YtadkhkpchankjaaWInv
import Derived.Laws.Rows
set_option linter.unusedVariables false
namespace Go.Proofs.Ytadkhkpchankjaa.BW
open Go.RowKit Go.Proofs.YtadkhkpchankjaaW.PrintWords Go.Proofs.YtadkhkpchankjaaW.PrintLast

section
variable {P : Program} {ops : Array Oper} {Q : Exit → Act → World → Prop} {B O : List Nat} {W0 : World} {a : Act} {L : List (Nat × Tmp)} {V : Nat → World → Value → Prop} {b : Nat → Bool} {vs : Nat → Value}
end
end Go.Proofs.Ytadkhkpchankjaa.BW
