/-
Structs of plain cells compared, and truth values.
Conditions: none beside those that each theorem names.
-/
import Derived.Test.YtnldeeefiidcaaaAv22
import Derived.Laws.StructEq
set_option linter.unusedVariables false
set_option linter.unusedSimpArgs false
namespace Go.Proofs.Ytnldeeefiidcaaa.Av
open Go.RowKit Go.Proofs.YtnldeeefiidcaaaW.PrintLast

section
variable {P : Program}
variable {N : Nat} {o : Oper} {T : Tm} {H : Hp}
end
section
variable {c : Cn} {ops : Array Oper} {m : Cf} {K : List (Oper × Rec) → St → Prop} {τ : Ty}
end
end Go.Proofs.Ytnldeeefiidcaaa.Av
