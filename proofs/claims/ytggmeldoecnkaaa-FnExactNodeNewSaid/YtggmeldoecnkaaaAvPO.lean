/-
What functions of the program come to, walked one by one.
Conditions: none beside those that each theorem names.
-/
import Derived.Test.YtggmeldoecnkaaaAvK
set_option linter.unusedVariables false
set_option linter.unusedSimpArgs false
namespace Go.Proofs.Ytggmeldoecnkaaa.Av
open Go.RowKit
set_option maxRecDepth 20000
set_option maxHeartbeats 4000000

structure IsC {α : Type} (c : α → α → Int) : Prop where
  sw : ∀ a b, c a b < 0 ↔ 0 < c b a
  tr : ∀ a b d, c a b < 0 → c b d < 0 → c a d < 0
  cg : ∀ a b, c a b = 0 → ∀ d, c a d = c b d
  rf : ∀ a, c a a = 0
theorem IsC.on {α β : Type} {c : β → β → Int} (h : IsC c) (f : α → β) : IsC fun a b => c (f a) (f b) where
  sw _ _ := h.sw _ _
  tr _ _ _ := h.tr _ _ _
  cg _ _ e _ := h.cg _ _ e _
  rf _ := h.rf _
theorem IsC.z {α : Type} {c : α → α → Int} (h : IsC c) {a b : α} (e : c a b = 0) : c b a = 0 := by
  have h1 := h.sw a b
  have h2 := h.sw b a
  omega
section
variable {l L : List S35} {t : S35}
end
section
variable {a b : S35}
end
section
variable {l : List S35} {t : S35} {at_ : Int} {has : Bool}
end
end Go.Proofs.Ytggmeldoecnkaaa.Av
