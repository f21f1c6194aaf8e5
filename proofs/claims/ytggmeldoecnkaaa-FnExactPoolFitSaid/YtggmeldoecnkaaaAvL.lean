/-
What functions of the program come to, walked one by one.
Conditions: none beside those that each theorem names.
-/
import Derived.Test.YtggmeldoecnkaaaAvK
set_option linter.unusedVariables false
set_option linter.unusedSimpArgs false
namespace Go.Proofs.Ytggmeldoecnkaaa.Av
open Go.RowKit
set_option maxRecDepth 20000
set_option maxHeartbeats 4000000

/-- Put in ahead of place k. -/
def insAt {α : Type} (l m : List α) (k : Nat) : List α := l.take k ++ m ++ l.drop k
section
variable {α : Type} {l L : List α} {b : α} {k : Nat}
theorem ins_len (hk : k ≤ l.length) : (insAt l [b] k).length = l.length + 1 := by simp [insAt]; omega
theorem ins_mem {x : α} (h : x ∈ insAt l [b] k) : x ∈ l ∨ x = b := by
  simp only [insAt, List.mem_append, List.mem_singleton] at h
  rcases h with (h | h) | h
  · exact .inl (List.mem_of_mem_take h)
  · exact .inr h
  · exact .inl (List.mem_of_mem_drop h)
theorem ins_lo (hk : k ≤ l.length) {j : Nat} (hj : j < k) : (insAt l [b] k)[j]? = l[j]? := by
  unfold insAt
  rw [List.append_assoc, List.getElem?_append_left (by rw [List.length_take]; omega), List.getElem?_take, if_pos hj]
theorem ins_k (hk : k ≤ l.length) : (insAt l [b] k)[k]? = some b := by
  unfold insAt
  rw [List.append_assoc, List.getElem?_append_right (by rw [List.length_take]; omega), List.length_take, Nat.min_eq_left hk, Nat.sub_self]
  rfl
theorem ins_hi (hk : k ≤ l.length) {j : Nat} (hj : k ≤ j) : (insAt l [b] k)[j + 1]? = l[j]? := by
  unfold insAt
  rw [List.getElem?_append_right (by rw [List.length_append, List.length_take]; simp; omega), List.length_append, List.length_take, Nat.min_eq_left hk, List.getElem?_drop]
  congr 1
  simp
  omega
theorem bub_next {i : Int} {x y : α} (h0 : i > 0) (hk : i ≤ (l.length : Int)) (e : L = insAt l [b] i.toNat) (hx : L[(i - 1).toNat]? = some x) (hy : L[i.toNat]? = some y) : (L.set (i - 1).toNat y).set i.toNat x = insAt l [b] (i - 1).toNat := by
  subst e
  obtain ⟨n, rfl⟩ : ∃ n : Nat, i = n + 1 := ⟨(i - 1).toNat, by omega⟩
  have e1 : ((n : Int) + 1).toNat = n + 1 := by omega
  have e2 : ((n : Int) + 1 - 1).toNat = n := by omega
  rw [e1] at hx hy ⊢
  rw [e2] at hx ⊢
  rw [ins_k (by omega)] at hy
  cases hy
  rw [ins_lo (by omega) (by omega)] at hx
  apply List.ext_getElem?
  intro j
  have hl := ins_len (l := l) (b := b) (k := n + 1) (by omega)
  rw [List.getElem?_set, List.getElem?_set]
  simp only [List.length_set, hl]
  rcases Nat.lt_trichotomy j n with q | q | q
  · rw [if_neg (by omega), if_neg (by omega), ins_lo (by omega) (by omega), ins_lo (by omega) q]
  · subst q
    rw [if_neg (by omega), if_pos rfl, if_pos (by omega), ins_k (by omega)]
  · rcases Nat.lt_or_ge (n + 1) j with q2 | q2
    · obtain ⟨m, rfl⟩ : ∃ m, j = m + 1 := ⟨j - 1, by omega⟩
      rw [if_neg (by omega), if_neg (by omega), ins_hi (by omega) (by omega), ins_hi (by omega) (by omega)]
    · obtain rfl : j = n + 1 := by omega
      rw [if_pos rfl, if_pos (by omega), ins_hi (by omega) (Nat.le_refl _), hx]
end

section
variable {l L : List S72} {b : S72} {k : Nat}
end
end Go.Proofs.Ytggmeldoecnkaaa.Av
