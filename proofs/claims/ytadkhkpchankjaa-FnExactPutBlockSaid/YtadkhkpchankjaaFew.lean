/-
Three small words that printed texts name: a cheap look at a call ahead of a dear step, and the greater of two whole numbers.
Conditions: none beside those that each theorem names.
-/
import Derived.Test.YtadkhkpchankjaaWWords
set_option linter.unusedVariables false
namespace Go.Proofs.Ytadkhkpchankjaa.Few
open Go.RowKit Go.Proofs.YtadkhkpchankjaaW.PrintWords
section
variable {P : Program} {ops : Array Oper} {o : Oper} {rest : List Oper} {a : Act} {W : World} {Q : Exit → Act → World → Prop}
theorem gate_callee {f : FuncId} {xs : Array Operand} {us : Array TypeId} (_ : o.op = .call { callee := .value (.func f), args := xs, argTypes := us }) (k : wpList P ops Q (o :: rest) a W) : wpList P ops Q (o :: rest) a W := k
end
def mx (x y : Int) : Int := if x < y then y else x
theorem max2_int (k k' : IntKind) (x y : Int) : Builtin.max2 (.int k x) (.int k' y) = pure (.int k (if x < y then y else x)) := by simp [Builtin.max2]
theorem max_two (us : Array TypeId) (u : TypeId) (x y : Value) : Builtin.max_ us u #[x, y] = (Builtin.max2 x y >>= fun s => pure s) := by simp [Builtin.max_]
end Go.Proofs.Ytadkhkpchankjaa.Few
