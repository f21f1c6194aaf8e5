/-
Plain words for functions with rounds: loops over a list's places, and what they come to.
Conditions: none beside those that each theorem names.
-/
import Derived.Test.YtadkhkpchankjaaWWords
set_option linter.unusedVariables false
namespace Go.Proofs.Ytadkhkpchankjaa.Base
open Go.RowKit Go.Proofs.YtadkhkpchankjaaW.PrintWords

theorem unw {x : Int} (h0 : -9223372036854775808 ≤ x) (h1 : x ≤ 9223372036854775807) : wrap64 x = x := by
  unfold wrap64
  omega

theorem Ev.cond {α : Type} {c : Prop} [Decidable c] {g f : Nat → Option α} {r : α} (h : c → Ev g r) (h' : ¬ c → Ev f r) : Ev (fun k => if c then g k else f k) r := by
  by_cases hc : c
  · simp only [if_pos hc]
    exact h hc
  · simp only [if_neg hc]
    exact h' hc
theorem Ev.yes {α : Type} {c : Prop} [Decidable c] {g f : Nat → Option α} {r : α} (hc : c) (h : Ev g r) : Ev (fun k => if c then g k else f k) r := by
  simp only [if_pos hc]
  exact h
theorem Ev.no {α : Type} {c : Prop} [Decidable c] {g f : Nat → Option α} {r : α} (hc : ¬ c) (h : Ev f r) : Ev (fun k => if c then g k else f k) r := by
  simp only [if_neg hc]
  exact h
theorem Ev.is {α : Type} {r r' : α} (h : r = r') : Ev (fun _ => some r) r' := h ▸ Ev.now r
theorem Ev.up {α : Type} {g : Nat → Option α} {r : α} (h : Ev (fun k => g (k + 1)) r) : Ev g r := Ev.step (f := fun k => g (k + 1)) (fun _ => rfl) h
theorem Ev.to {α : Type} {g : Nat → Option α} {r r' : α} (h : Ev g r) (e : r = r') : Ev g r' := e ▸ h

/-- A loop that fills a list of its own, place by place. -/
theorem ev_map {α β : Type} {xs : List α} (l : Nat → List β → Int → Option (List β)) (c : α → β) (z : β)
    (h0 : ∀ out, Ev (fun k => l (k + 1) out (xs.length : Int)) out)
    (h1 : ∀ pre y ys out r, xs = pre ++ y :: ys → out.length = xs.length → Ev (fun k => l k (out.set pre.length (c y)) ((pre.length : Int) + 1)) r → Ev (fun k => l (k + 1) out (pre.length : Int)) r) :
    Ev (fun k => l k (List.replicate xs.length z) 0) (xs.map c) := by
  have key : ∀ (ys pre : List α), xs = pre ++ ys → Ev (fun k => l k (pre.map c ++ List.replicate ys.length z) (pre.length : Int)) (xs.map c) := by
    intro ys
    induction ys with
    | nil =>
      intro pre hx
      have : pre = xs := by rw [hx, List.append_nil]
      subst this
      simpa using Ev.up (h0 (pre.map c))
    | cons y ys ih =>
      intro pre hx
      refine Ev.up (h1 pre y ys _ _ hx (by rw [hx]; simp) ?_)
      have := ih (pre ++ [y]) (by rw [hx]; simp)
      rw [show (pre.map c ++ List.replicate (y :: ys).length z).set pre.length (c y) = (pre ++ [y]).map c ++ List.replicate ys.length z by
        rw [List.set_append_right _ _ (by simp)]
        simp [List.replicate_succ]]
      simpa using this
  simpa using key xs [] rfl

theorem at_app {α : Type} (pre : List α) (y : α) (ys : List α) (z : α) : (pre ++ y :: ys).getD (pre.length : Int).toNat z = y := by simp
theorem len_app {α : Type} {xs pre : List α} {y : α} {ys : List α} (h : xs = pre ++ y :: ys) : (pre.length : Int) + 1 ≤ xs.length := by
  rw [h]
  simp
  omega

/-! ### how much a value holds -/
def szR (h left : Int) : Int := if h ≤ left then left - h else -1
theorem szR_zero {left : Int} (h : 0 ≤ left) : szR 0 left = left := by unfold szR; rw [if_pos h]; omega
theorem szR_lt {h left : Int} (hl : 0 ≤ left) : szR h left < 0 ↔ left < h := by unfold szR; split <;> omega
theorem szR_ge {h left : Int} (hl : h ≤ left) : szR h left = left - h := by unfold szR; rw [if_pos hl]
theorem szR_no {h left : Int} (hl : left < h) : szR h left = -1 := by unfold szR; rw [if_neg (by omega)]
theorem Ev.sz {g : Nat → Option Int} {f : Nat → Int → Option Int} {a b left : Int} (h : Ev g (szR a left)) (h0 : 0 ≤ left) (hb : 0 ≤ b) (k : a ≤ left → Ev (fun n => f n (left - a)) (szR b (left - a))) :
    Ev (fun n => (g n).bind fun t => if t < 0 then some (-1) else f n t) (szR (a + b) left) := by
  refine Ev.bind h ?_
  by_cases hc : a ≤ left
  · rw [szR_ge hc]
    refine Ev.no (by omega) (Ev.to (k hc) ?_)
    unfold szR
    split <;> split <;> omega
  · rw [szR_no (by omega)]
    exact Ev.yes (by omega) (Ev.is (szR_no (by omega)).symm)
def sums {α : Type} (h : α → Int) : List α → Int
  | [] => 0
  | x :: xs => h x + sums h xs
theorem sums_nn {α : Type} {h : α → Int} (hn : ∀ x, 0 ≤ h x) : ∀ xs : List α, 0 ≤ sums h xs
  | [] => Int.le_refl _
  | x :: xs => by have := hn x; have := sums_nn hn xs; unfold sums; omega
/-! ### a list made of another -/
theorem to_slice {α β γ : Type} {xs : List α} {z : α} {zb : β} {mk : γ → β} {tup : α → γ} {l : Nat → List β → Int → Option (List β)} {g : Nat → α → Option γ}
    (hl : ∀ k out i, l (k + 1) out i = if i < (xs.length : Int) then (if 0 ≤ i then ((g k (xs.getD i.toNat z)).bind fun t => (if i < (out.length : Int) then l k (out.set i.toNat (mk t)) (wrap64 (i + 1)) else none)) else none) else some out)
    (he : ∀ x ∈ xs, Ev (fun k => g k x) (tup x)) (hlen : xs.length ≤ 1048576) {N : Nat} (hN : 1048576 ≤ N) :
    Ev (fun k => if 0 ≤ (xs.length : Int) then (if ((xs.length : Int) : Int).toNat ≤ N then (l k (List.replicate ((xs.length : Int) : Int).toNat zb) 0) else none) else none) (xs.map fun x => mk (tup x)) := by
  refine Ev.yes (by omega) (Ev.yes (by omega) ?_)
  rw [Int.toNat_natCast]
  refine ev_map l (fun x => mk (tup x)) zb (fun out => ?_) (fun pre y ys out r hx ho h => ?_)
  · simp only [hl]
    exact Ev.no (by omega) (Ev.now _)
  · have hp := len_app hx
    have hrd : xs.getD (pre.length : Int).toNat z = y := by rw [hx]; exact at_app pre y ys z
    simp only [hl, hrd]
    refine Ev.yes (by omega) (Ev.yes (by omega) (Ev.bind (he y (by rw [hx]; simp)) (Ev.yes (by omega) ?_)))
    rw [unw (by omega) (by omega), Int.toNat_natCast]
    exact h
theorem to_slice0 {α : Type} {xs : List α} {z zb : α} {l : Nat → List α → Int → Option (List α)}
    (hl : ∀ k out i, l (k + 1) out i = if i < (xs.length : Int) then (if 0 ≤ i then (if i < (out.length : Int) then l k (out.set i.toNat (xs.getD i.toNat z)) (wrap64 (i + 1)) else none) else none) else some out)
    (hlen : xs.length ≤ 1048576) {N : Nat} (hN : 1048576 ≤ N) :
    Ev (fun k => if 0 ≤ (xs.length : Int) then (if ((xs.length : Int) : Int).toNat ≤ N then (l k (List.replicate ((xs.length : Int) : Int).toNat zb) 0) else none) else none) xs :=
  Ev.to (to_slice (l := l) (z := z) (zb := zb) (mk := fun x => x) (tup := fun x => x) (g := fun _ x => some x) (fun k out i => by rw [hl]; rfl) (fun x _ => Ev.now x) hlen hN) (by simp)

/-! ### a test at each place -/
def allUpto (n : Nat) (p : Nat → Bool) : Bool := (List.range' 0 n).all p
/-- What is right at place i of a list whose elements are right and rise. -/
def okAt {α : Type} (ok : α → Bool) (less : α → α → Bool) (z : α) (l : List α) (i : Nat) : Bool := ok (l.getD i z) && (decide (i = 0) || less (l.getD (i - 1) z) (l.getD i z))
theorem getD_mem {α : Type} {l : List α} {i : Nat} (h : i < l.length) (z : α) : l.getD i z ∈ l := by
  rw [List.getD_eq_getElem?_getD, List.getElem?_eq_getElem h]
  exact List.getElem_mem h
theorem upto_next {p : Nat → Prop} {i : Int} (h0 : 0 ≤ i) (h : ∀ j, j < i.toNat → p j) (hp : p i.toNat) : ∀ j, j < (i + 1).toNat → p j := by
  intro j hj
  rcases Nat.lt_or_ge j i.toNat with h1 | h1
  · exact h j h1
  · obtain rfl : j = i.toNat := by omega
    exact hp

end Go.Proofs.Ytadkhkpchankjaa.Base
