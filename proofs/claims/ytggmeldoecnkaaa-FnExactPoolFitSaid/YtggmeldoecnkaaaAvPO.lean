/-
What functions of the program come to, walked one by one.
Conditions: none beside those that each theorem names.
-/
import Derived.Test.YtggmeldoecnkaaaAvL
set_option linter.unusedVariables false
set_option linter.unusedSimpArgs false
namespace Go.Proofs.Ytggmeldoecnkaaa.Av
open Go.RowKit
set_option maxRecDepth 20000
set_option maxHeartbeats 4000000

/-! the order of orders -/
theorem bl_trans : ∀ a b c : List UInt8, Op.bytesLess a b = true → Op.bytesLess b c = true → Op.bytesLess a c = true
  | [], [], _, h, _ => by simp [Op.bytesLess] at h
  | _ :: _, [], _, h, _ => by simp [Op.bytesLess] at h
  | _, _ :: _, [], _, h => by simp [Op.bytesLess] at h
  | [], _ :: _, _ :: _, _, _ => rfl
  | x :: xs, y :: ys, z :: zs, h, h' => by
    have ih := bl_trans xs ys zs
    simp only [Op.bytesLess, Bool.or_eq_true, decide_eq_true_eq, Bool.and_eq_true, beq_iff_eq] at h h' ⊢
    have e1 : (x < y) = (x.toNat < y.toNat) := rfl
    have e2 : (y < z) = (y.toNat < z.toNat) := rfl
    have e3 : (x < z) = (x.toNat < z.toNat) := rfl
    rw [e1] at h
    rw [e2] at h'
    rw [e3]
    rcases h with h | ⟨rfl, h⟩ <;> rcases h' with h' | ⟨rfl, h'⟩
    · exact .inl (by omega)
    · exact .inl h
    · exact .inl h'
    · exact .inr ⟨rfl, ih h h'⟩
structure IsC {α : Type} (c : α → α → Int) : Prop where
  sw : ∀ a b, c a b < 0 ↔ 0 < c b a
  tr : ∀ a b d, c a b < 0 → c b d < 0 → c a d < 0
  cg : ∀ a b, c a b = 0 → ∀ d, c a d = c b d
  rf : ∀ a, c a a = 0
theorem IsC.on {α β : Type} {c : β → β → Int} (h : IsC c) (f : α → β) : IsC fun a b => c (f a) (f b) where
  sw _ _ := h.sw _ _
  tr _ _ _ := h.tr _ _ _
  cg _ _ e _ := h.cg _ _ e _
  rf _ := h.rf _
theorem IsC.z {α : Type} {c : α → α → Int} (h : IsC c) {a b : α} (e : c a b = 0) : c b a = 0 := by
  have h1 := h.sw a b
  have h2 := h.sw b a
  omega
section
variable {l L : List S35} {t : S35}
end
section
variable {a b : S35}
end
section
variable {l : List S35} {t : S35} {at_ : Int} {has : Bool}
end
end Go.Proofs.Ytggmeldoecnkaaa.Av
