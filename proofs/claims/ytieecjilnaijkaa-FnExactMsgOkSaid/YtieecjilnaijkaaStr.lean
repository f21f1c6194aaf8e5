/-
Strings compared, as the printed walks spell it.
Conditions: none.
-/
import Derived.WalkKit
set_option linter.unusedVariables false
namespace Go.Proofs.Ytieecjilnaijkaa.Str
theorem less_total : ∀ a b : List UInt8, (Op.bytesLess a b || a == b) = !(Op.bytesLess b a)
  | [], [] => rfl
  | [], _ :: _ => rfl
  | _ :: _, [] => rfl
  | x :: xs, y :: ys => by
    have ih := less_total xs ys
    rcases Nat.lt_trichotomy x.toNat y.toNat with h | h | h
    · have h1 : x < y := h
      have h2 : ¬ y < x := fun q => by have : y.toNat < x.toNat := q; omega
      have h3 : ¬ y = x := fun q => by subst q; omega
      simp [Op.bytesLess, h1, h2, h3]
    · obtain rfl : x = y := UInt8.toNat_inj.1 h
      simp only [Op.bytesLess]
      have h1 : ¬ x < x := UInt8.lt_irrefl x
      simp only [h1, decide_false, Bool.false_or, beq_self_eq_true, Bool.true_and]
      rw [← ih]
      simp
    · have h1 : y < x := h
      have h2 : ¬ x < y := fun q => by have : x.toNat < y.toNat := q; omega
      have h3 : ¬ x = y := fun q => by subst q; omega
      simp [Op.bytesLess, h1, h2, h3]
@[go_sem] theorem binOp_str_geq (t : TypeId) (a b : ByteArray) : binOp .geq t (.string a) (.string b) = pure (.bool !(Op.bytesLess a.toList b.toList)) := by simp [binOp, Op.stringOp]
@[go_sem] theorem binOp_str_leq (t : TypeId) (a b : ByteArray) : binOp .leq t (.string a) (.string b) = pure (.bool !(Op.bytesLess b.toList a.toList)) := by
  simp only [binOp, Op.stringOp]
  rw [← less_total]
@[go_sem] theorem binOp_str_gtr (t : TypeId) (a b : ByteArray) : binOp .gtr t (.string a) (.string b) = pure (.bool (Op.bytesLess b.toList a.toList)) := by
  simp only [binOp, Op.stringOp]
  rw [less_total, Bool.not_not]
end Go.Proofs.Ytieecjilnaijkaa.Str
