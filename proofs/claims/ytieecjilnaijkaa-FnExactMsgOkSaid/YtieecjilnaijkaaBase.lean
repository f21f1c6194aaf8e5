/-
Plain words for functions with rounds: loops over a list's places, and what they come to.
Conditions: none beside those that each theorem names.
-/
import Derived.Test.YtieecjilnaijkaaWWords
set_option linter.unusedVariables false
namespace Go.Proofs.Ytieecjilnaijkaa.Base
open Go.RowKit Go.Proofs.YtieecjilnaijkaaW.PrintWords

theorem unw {x : Int} (h0 : -9223372036854775808 ≤ x) (h1 : x ≤ 9223372036854775807) : wrap64 x = x := by
  unfold wrap64
  omega

theorem Ev.cond {α : Type} {c : Prop} [Decidable c] {g f : Nat → Option α} {r : α} (h : c → Ev g r) (h' : ¬ c → Ev f r) : Ev (fun k => if c then g k else f k) r := by
  by_cases hc : c
  · simp only [if_pos hc]
    exact h hc
  · simp only [if_neg hc]
    exact h' hc
theorem Ev.yes {α : Type} {c : Prop} [Decidable c] {g f : Nat → Option α} {r : α} (hc : c) (h : Ev g r) : Ev (fun k => if c then g k else f k) r := by
  simp only [if_pos hc]
  exact h
theorem Ev.no {α : Type} {c : Prop} [Decidable c] {g f : Nat → Option α} {r : α} (hc : ¬ c) (h : Ev f r) : Ev (fun k => if c then g k else f k) r := by
  simp only [if_neg hc]
  exact h
theorem Ev.is {α : Type} {r r' : α} (h : r = r') : Ev (fun _ => some r) r' := h ▸ Ev.now r
theorem Ev.up {α : Type} {g : Nat → Option α} {r : α} (h : Ev (fun k => g (k + 1)) r) : Ev g r := Ev.step (f := fun k => g (k + 1)) (fun _ => rfl) h
theorem Ev.to {α : Type} {g : Nat → Option α} {r r' : α} (h : Ev g r) (e : r = r') : Ev g r' := e ▸ h

/-! ### how much a value holds -/
def szR (h left : Int) : Int := if h ≤ left then left - h else -1
theorem szR_zero {left : Int} (h : 0 ≤ left) : szR 0 left = left := by unfold szR; rw [if_pos h]; omega
theorem szR_lt {h left : Int} (hl : 0 ≤ left) : szR h left < 0 ↔ left < h := by unfold szR; split <;> omega
theorem szR_ge {h left : Int} (hl : h ≤ left) : szR h left = left - h := by unfold szR; rw [if_pos hl]
theorem szR_no {h left : Int} (hl : left < h) : szR h left = -1 := by unfold szR; rw [if_neg (by omega)]
theorem Ev.sz {g : Nat → Option Int} {f : Nat → Int → Option Int} {a b left : Int} (h : Ev g (szR a left)) (h0 : 0 ≤ left) (hb : 0 ≤ b) (k : a ≤ left → Ev (fun n => f n (left - a)) (szR b (left - a))) :
    Ev (fun n => (g n).bind fun t => if t < 0 then some (-1) else f n t) (szR (a + b) left) := by
  refine Ev.bind h ?_
  by_cases hc : a ≤ left
  · rw [szR_ge hc]
    refine Ev.no (by omega) (Ev.to (k hc) ?_)
    unfold szR
    split <;> split <;> omega
  · rw [szR_no (by omega)]
    exact Ev.yes (by omega) (Ev.is (szR_no (by omega)).symm)
def sums {α : Type} (h : α → Int) : List α → Int
  | [] => 0
  | x :: xs => h x + sums h xs
theorem sums_nn {α : Type} {h : α → Int} (hn : ∀ x, 0 ≤ h x) : ∀ xs : List α, 0 ≤ sums h xs
  | [] => Int.le_refl _
  | x :: xs => by have := hn x; have := sums_nn hn xs; unfold sums; omega
/-! ### a test at each place -/
def allUpto (n : Nat) (p : Nat → Bool) : Bool := (List.range' 0 n).all p
theorem allUpto_no {n i : Nat} {p : Nat → Bool} (h : i < n) (hp : p i = false) : allUpto n p = false := by
  unfold allUpto
  rw [List.all_eq_false]
  exact ⟨i, by simp [List.mem_range'_1]; omega, by simp [hp]⟩
theorem allUpto_yes {n : Nat} {p : Nat → Bool} (h : ∀ i, i < n → p i = true) : allUpto n p = true := by
  unfold allUpto
  rw [List.all_eq_true]
  intro i hi
  exact h i (by simp [List.mem_range'_1] at hi; omega)
theorem ev_all {n : Nat} {p : Nat → Bool} {tail : Bool} (l : Nat → Int → Option Bool) (h0 : Ev (fun k => l (k + 1) (n : Int)) tail)
    (h1 : ∀ i, i < n → ∀ r, Ev (fun k => l k ((i : Int) + 1)) r → Ev (fun k => l (k + 1) (i : Int)) (p i && r)) : Ev (fun k => l k 0) (allUpto n p && tail) := by
  have key : ∀ d i, i + d = n → Ev (fun k => l k (i : Int)) ((List.range' i d).all p && tail) := by
    intro d
    induction d with
    | zero =>
      intro i hi
      obtain rfl : i = n := by omega
      exact Ev.up (Ev.to h0 (by simp))
    | succ d ih =>
      intro i hi
      refine Ev.up (Ev.to (h1 i (by omega) _ (by simpa using ih (i + 1) (by omega))) ?_)
      simp [List.range'_succ, Bool.and_assoc]
  exact key n 0 (by omega)
/-- What is right at place i of a list whose elements are right and rise. -/
def okAt {α : Type} (ok : α → Bool) (less : α → α → Bool) (z : α) (l : List α) (i : Nat) : Bool := ok (l.getD i z) && (decide (i = 0) || less (l.getD (i - 1) z) (l.getD i z))
theorem getD_mem {α : Type} {l : List α} {i : Nat} (h : i < l.length) (z : α) : l.getD i z ∈ l := by
  rw [List.getD_eq_getElem?_getD, List.getElem?_eq_getElem h]
  exact List.getElem_mem h
theorem toNat_pred {i : Nat} (h : 0 < i) : ((i : Int) - 1).toNat = i - 1 := by omega

theorem upto_next {p : Nat → Prop} {i : Int} (h0 : 0 ≤ i) (h : ∀ j, j < i.toNat → p j) (hp : p i.toNat) : ∀ j, j < (i + 1).toNat → p j := by
  intro j hj
  rcases Nat.lt_or_ge j i.toNat with h1 | h1
  · exact h j h1
  · obtain rfl : j = i.toNat := by omega
    exact hp

end Go.Proofs.Ytieecjilnaijkaa.Base
