/-
What functions of the program come to, walked one by one.
Conditions: none beside those that each theorem names.
-/
import Derived.Test.YtggmeldoecnkaaaAvLE
import Derived.Test.YtggmeldoecnkaaaAv36
import Derived.Test.YtggmeldoecnkaaaAvPO
set_option linter.unusedVariables false
set_option linter.unusedSimpArgs false
namespace Go.Proofs.Ytggmeldoecnkaaa.Av
open Go.RowKit
set_option maxRecDepth 20000
set_option maxHeartbeats 4000000

section
variable {l L : List S35} {g : S27} {i : Int} {x : S35}
end
/-- Orders that fit, one behind the other; the ledger behind orders. -/
noncomputable def fitW (g : S27) : List S35 → List S35
  | [] => []
  | t :: l => if (apW g t).2 = 0 then t :: fitW (apW g t).1 l else fitW (apW g t).1 l
noncomputable def allW (g : S27) : List S35 → S27
  | [] => g
  | t :: l => allW (apW g t).1 l
theorem fit_len (g : S27) (l : List S35) : (fitW g l).length ≤ l.length := by
  induction l generalizing g with
  | nil => exact Nat.le_refl _
  | cons t l ih =>
    unfold fitW
    have := ih (apW g t).1
    split <;> simp <;> omega
section
variable {l L : List S35} {g g' : S27} {i n : Int} {x : S35}
def fitI (l : List S35) (g : S27) (L : List S35) (g' : S27) (i : Int) : Prop := L ++ fitW g' (l.drop i.toNat) = fitW g l ∧ allW g' (l.drop i.toNat) = allW g l ∧ L.length ≤ i.toNat
theorem fi_i0 : fitI l g [] g 0 := ⟨by simp, by simp, Nat.zero_le _⟩
theorem fi_y (h0 : 0 ≤ i) (hx : l[i.toNat]? = some x) (h : fitI l g L g' i) (hb : (apW g' x).2 = 0) : fitI l g (L ++ [x]) (apW g' x).1 (i + 1) := by
  obtain ⟨h1, h2, h3⟩ := h
  obtain ⟨hl, e⟩ := List.getElem?_eq_some_iff.1 hx
  have ed : l.drop i.toNat = x :: l.drop (i + 1).toNat := by rw [List.drop_eq_getElem_cons hl, e, show (i + 1).toNat = i.toNat + 1 by omega]
  rw [ed] at h1 h2
  refine ⟨?_, ?_, by simp; omega⟩
  · rw [← h1, List.append_assoc]
    conv => rhs; rhs; unfold fitW
    rw [if_pos hb]
    rfl
  · rw [← h2]; rfl
theorem fi_n (h0 : 0 ≤ i) (hx : l[i.toNat]? = some x) (h : fitI l g L g' i) (hb : (apW g' x).2 ≠ 0) : fitI l g L (apW g' x).1 (i + 1) := by
  obtain ⟨h1, h2, h3⟩ := h
  obtain ⟨hl, e⟩ := List.getElem?_eq_some_iff.1 hx
  have ed : l.drop i.toNat = x :: l.drop (i + 1).toNat := by rw [List.drop_eq_getElem_cons hl, e, show (i + 1).toNat = i.toNat + 1 by omega]
  rw [ed] at h1 h2
  refine ⟨?_, ?_, by omega⟩
  · rw [← h1]
    conv => rhs; rhs; unfold fitW
    rw [if_neg hb]
  · rw [← h2]; rfl
theorem fi_n2 (h0 : 0 ≤ i) (hx : l[i.toNat]? = some x) (h : fitI l g L g' i) (hb : (apW g' x).2 ≠ 0) : fitI l g L g' (i + 1) := by
  have e := fi_n h0 hx h hb
  have hg : (apW g' x).1 = g' := by
    rcases ap_cases g' x with ⟨h1, _⟩ | ⟨h1, _⟩
    · exact h1
    · exact absurd h1 hb
  rwa [hg] at e
theorem fi_e (h : fitI l g L g' i) (hi : (l.length : Int) ≤ i) : L = fitW g l := by
  have := h.1
  rw [List.drop_eq_nil_of_le (by omega)] at this
  rw [← this]
  simp [fitW]
end
end Go.Proofs.Ytggmeldoecnkaaa.Av
