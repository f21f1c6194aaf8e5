/-
What functions of the program come to, walked one by one.
Conditions: none beside those that each theorem names.
-/
import Derived.Test.YtggmeldoecnkaaaAvM
import Derived.Test.YtggmeldoecnkaaaAv25
import Derived.Test.YtggmeldoecnkaaaAvI70
set_option linter.unusedVariables false
set_option linter.unusedSimpArgs false
namespace Go.Proofs.Ytggmeldoecnkaaa.Av
open Go.RowKit
set_option maxRecDepth 20000
set_option maxHeartbeats 4000000

noncomputable def sameQ (q r : S68) : Bool := q.f0 == r.f0 && (q.f1 == r.f1 && allEq q.f2 r.f2)
noncomputable def sameT (q r : S69) : Bool := q.f0 == r.f0 && (allEq q.f1 r.f1 && allEq q.f2 r.f2)
noncomputable def sameB (a b : S72) : Bool := a.f0 == b.f0 && (a.f1 == b.f1 && (a.f2 == b.f2 && (a.f3.toList == b.f3.toList && (a.f7 == b.f7 && (a.f9.toList == b.f9.toList && (sameQ a.f4 b.f4 && (sameT a.f5 b.f5 && (allEq a.f6 b.f6 && allEq a.f8 b.f8))))))))
theorem sameB_self (b : S72) : sameB b b = true := by simp [sameB, sameQ, sameT, allEq_self]

noncomputable def addR (l : List S72) (b : S72) : List S72 := if addOk l b = true then addTo l b else l
theorem addR_no {l : List S72} {b : S72} (h : addOk l b = false) : addR l b = l := by unfold addR; rw [h]; rfl
theorem addR_yes {l : List S72} {b : S72} (h : addOk l b = true) : addR l b = addTo l b := by unfold addR; rw [h]; rfl
theorem addR_len (l : List S72) (b : S72) : (addR l b).length ≤ l.length + 1 := by
  unfold addR addTo
  split
  · rw [ins_len atOf_le]; omega
  · omega
theorem addR_sm {l : List S72} {b : S72} (hl : SmL l) (hb : Sm72 b) (hs : l.length < 2000000) : SmL (addR l b) := by
  refine ⟨by have := addR_len l b; omega, fun x hx => ?_⟩
  unfold addR addTo at hx
  split at hx
  · rcases ins_mem hx with h | h
    · exact hl.2 x h
    · rw [h]; exact hb
  · exact hl.2 x hx
theorem addTo_sm {l : List S72} {b : S72} (hl : SmL l) (hb : Sm72 b) (hs : l.length < 2000000) : SmL (addTo l b) := by
  refine ⟨by unfold addTo; rw [ins_len atOf_le]; omega, fun x hx => ?_⟩
  rcases ins_mem hx with h | h
  · exact hl.2 x h
  · rw [h]; exact hb
theorem add_no {l : List S72} {b : S72} (h : idAt l b.f0 ≥ 0) : l = addR l b ∧ false = addOk l b := by
  have := addOk_id h
  exact ⟨(addR_no this.symm).symm, this⟩
theorem at_is {l : List S72} {b : S72} {i : Int} (h0 : 0 ≤ i) (hi : i ≤ (l.length : Int)) (hA : Upto (fun _ x => x.f0 < b.f0) (fun n => l[n]?) i) (hst : ¬ i < (l.length : Int) ∨ ∃ x, l[i.toNat]? = some x ∧ ¬ x.f0 < b.f0) : insAt l [b] i.toNat = addTo l b := by
  unfold addTo
  rw [atOf_is (k := i.toNat) (by omega) (fun j x hj hx => hA j x (by omega) (by omega) (by simpa using hx)) (fun x hx => by
    rcases hst with q | ⟨y, hy, hn⟩
    · have := (List.getElem?_eq_some_iff.1 hx).1; omega
    · rw [hx] at hy; cases hy; exact hn)]
theorem add_bad {l : List S72} {b : S72} {i : Int} (e : insAt l [b] i.toNat = addTo l b) (h : treeOk (insAt l [b] i.toNat) = false) : l = addR l b ∧ false = addOk l b := by
  rw [e] at h
  have : addOk l b = false := by unfold addOk; rw [h]; simp
  exact ⟨(addR_no this).symm, this.symm⟩
theorem add_good {l : List S72} {b : S72} {i : Int} (e : insAt l [b] i.toNat = addTo l b) (hid : ¬ idAt l b.f0 ≥ 0) (h : treeOk (insAt l [b] i.toNat) = true) : insAt l [b] i.toNat = addR l b ∧ true = addOk l b := by
  rw [e] at h ⊢
  have : addOk l b = true := by unfold addOk; rw [h, decide_eq_true (by omega)]; rfl
  exact ⟨(addR_yes this).symm, this.symm⟩
/-! what is so where it was put in -/
section
variable {l : List S72} {b : S72}
end
end Go.Proofs.Ytggmeldoecnkaaa.Av
