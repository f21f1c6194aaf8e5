/-
Plain words for functions with rounds: loops over a list's places, and what they come to.
Conditions: none beside those that each theorem names.
-/
import Derived.Test.YtnldeeefiidcaaaWWords
set_option linter.unusedVariables false
namespace Go.Proofs.Ytnldeeefiidcaaa.Base
open Go.RowKit Go.Proofs.YtnldeeefiidcaaaW.PrintWords

theorem unw {x : Int} (h0 : -9223372036854775808 ≤ x) (h1 : x ≤ 9223372036854775807) : wrap64 x = x := by
  unfold wrap64
  omega

theorem Ev.cond {α : Type} {c : Prop} [Decidable c] {g f : Nat → Option α} {r : α} (h : c → Ev g r) (h' : ¬ c → Ev f r) : Ev (fun k => if c then g k else f k) r := by
  by_cases hc : c
  · simp only [if_pos hc]
    exact h hc
  · simp only [if_neg hc]
    exact h' hc
theorem Ev.yes {α : Type} {c : Prop} [Decidable c] {g f : Nat → Option α} {r : α} (hc : c) (h : Ev g r) : Ev (fun k => if c then g k else f k) r := by
  simp only [if_pos hc]
  exact h
theorem Ev.no {α : Type} {c : Prop} [Decidable c] {g f : Nat → Option α} {r : α} (hc : ¬ c) (h : Ev f r) : Ev (fun k => if c then g k else f k) r := by
  simp only [if_neg hc]
  exact h
theorem Ev.is {α : Type} {r r' : α} (h : r = r') : Ev (fun _ => some r) r' := h ▸ Ev.now r
theorem Ev.up {α : Type} {g : Nat → Option α} {r : α} (h : Ev (fun k => g (k + 1)) r) : Ev g r := Ev.step (f := fun k => g (k + 1)) (fun _ => rfl) h
theorem Ev.to {α : Type} {g : Nat → Option α} {r r' : α} (h : Ev g r) (e : r = r') : Ev g r' := e ▸ h

/-- A loop over the places of a list, told by what is left of it. -/
theorem ev_loop {α σ ρ : Type} {xs : List α} (l : Nat → σ → Int → Option ρ) (G : List α → σ → ρ)
    (h0 : ∀ s, Ev (fun k => l (k + 1) s (xs.length : Int)) (G [] s))
    (h1 : ∀ pre y ys s, xs = pre ++ y :: ys → (∀ s', Ev (fun k => l k s' ((pre.length : Int) + 1)) (G ys s')) → Ev (fun k => l (k + 1) s (pre.length : Int)) (G (y :: ys) s)) (s : σ) :
    Ev (fun k => l k s 0) (G xs s) := by
  have key : ∀ (ys pre : List α) (s : σ), xs = pre ++ ys → Ev (fun k => l k s (pre.length : Int)) (G ys s) := by
    intro ys
    induction ys with
    | nil =>
      intro pre s hx
      have : pre = xs := by rw [hx, List.append_nil]
      subst this
      exact Ev.up (h0 s)
    | cons y ys ih =>
      intro pre s hx
      refine Ev.up (h1 pre y ys s hx (fun s' => ?_))
      have := ih (pre ++ [y]) s' (by rw [hx]; simp)
      simpa using this
  exact key xs [] s rfl

/-- A loop that fills a list of its own, place by place. -/
theorem ev_map {α β : Type} {xs : List α} (l : Nat → List β → Int → Option (List β)) (c : α → β) (z : β)
    (h0 : ∀ out, Ev (fun k => l (k + 1) out (xs.length : Int)) out)
    (h1 : ∀ pre y ys out r, xs = pre ++ y :: ys → out.length = xs.length → Ev (fun k => l k (out.set pre.length (c y)) ((pre.length : Int) + 1)) r → Ev (fun k => l (k + 1) out (pre.length : Int)) r) :
    Ev (fun k => l k (List.replicate xs.length z) 0) (xs.map c) := by
  have key : ∀ (ys pre : List α), xs = pre ++ ys → Ev (fun k => l k (pre.map c ++ List.replicate ys.length z) (pre.length : Int)) (xs.map c) := by
    intro ys
    induction ys with
    | nil =>
      intro pre hx
      have : pre = xs := by rw [hx, List.append_nil]
      subst this
      simpa using Ev.up (h0 (pre.map c))
    | cons y ys ih =>
      intro pre hx
      refine Ev.up (h1 pre y ys _ _ hx (by rw [hx]; simp) ?_)
      have := ih (pre ++ [y]) (by rw [hx]; simp)
      rw [show (pre.map c ++ List.replicate (y :: ys).length z).set pre.length (c y) = (pre ++ [y]).map c ++ List.replicate ys.length z by
        rw [List.set_append_right _ _ (by simp)]
        simp [List.replicate_succ]]
      simpa using this
  simpa using key xs [] rfl

/-- The same with what holds of the state. -/
theorem ev_loopI {α σ ρ : Type} {xs : List α} (Inv : σ → Prop) (l : Nat → σ → Int → Option ρ) (G : List α → σ → ρ)
    (h0 : ∀ s, Inv s → Ev (fun k => l (k + 1) s (xs.length : Int)) (G [] s))
    (h1 : ∀ pre y ys s, xs = pre ++ y :: ys → Inv s → (∀ s', Inv s' → Ev (fun k => l k s' ((pre.length : Int) + 1)) (G ys s')) → Ev (fun k => l (k + 1) s (pre.length : Int)) (G (y :: ys) s)) (s : σ) (hs : Inv s) :
    Ev (fun k => l k s 0) (G xs s) := by
  have key : ∀ (ys pre : List α) (s : σ), xs = pre ++ ys → Inv s → Ev (fun k => l k s (pre.length : Int)) (G ys s) := by
    intro ys
    induction ys with
    | nil =>
      intro pre s hx hs
      have : pre = xs := by rw [hx, List.append_nil]
      subst this
      exact Ev.up (h0 s hs)
    | cons y ys ih =>
      intro pre s hx hs
      refine Ev.up (h1 pre y ys s hx hs (fun s' hs' => ?_))
      have := ih (pre ++ [y]) s' (by rw [hx]; simp) hs'
      simpa using this
  exact key xs [] s rfl hs

theorem at_app {α : Type} (pre : List α) (y : α) (ys : List α) (z : α) : (pre ++ y :: ys).getD (pre.length : Int).toNat z = y := by simp
theorem len_app {α : Type} {xs pre : List α} {y : α} {ys : List α} (h : xs = pre ++ y :: ys) : (pre.length : Int) + 1 ≤ xs.length := by
  rw [h]
  simp
  omega

/-! ### how much a value holds -/
def szR (h left : Int) : Int := if h ≤ left then left - h else -1
theorem szR_zero {left : Int} (h : 0 ≤ left) : szR 0 left = left := by unfold szR; rw [if_pos h]; omega
theorem szR_lt {h left : Int} (hl : 0 ≤ left) : szR h left < 0 ↔ left < h := by unfold szR; split <;> omega
theorem szR_ge {h left : Int} (hl : h ≤ left) : szR h left = left - h := by unfold szR; rw [if_pos hl]
theorem szR_no {h left : Int} (hl : left < h) : szR h left = -1 := by unfold szR; rw [if_neg (by omega)]
theorem Ev.sz {g : Nat → Option Int} {f : Nat → Int → Option Int} {a b left : Int} (h : Ev g (szR a left)) (h0 : 0 ≤ left) (hb : 0 ≤ b) (k : a ≤ left → Ev (fun n => f n (left - a)) (szR b (left - a))) :
    Ev (fun n => (g n).bind fun t => if t < 0 then some (-1) else f n t) (szR (a + b) left) := by
  refine Ev.bind h ?_
  by_cases hc : a ≤ left
  · rw [szR_ge hc]
    refine Ev.no (by omega) (Ev.to (k hc) ?_)
    unfold szR
    split <;> split <;> omega
  · rw [szR_no (by omega)]
    exact Ev.yes (by omega) (Ev.is (szR_no (by omega)).symm)
theorem Ev.szl {f : Nat → Option Int} {s : Nat} {b left : Int} (hs : s ≤ maxLen) (h0 : 0 ≤ left) (h1 : left ≤ 1048576) (hb : 0 ≤ b) (k : (s : Int) ≤ left → Ev f (szR b (left - s))) :
    Ev (fun n => if wrap64 (left - (s : Int)) < 0 then some (-1) else f n) (szR ((s : Int) + b) left) := by
  have hm : maxLen = 9223372036854775807 := rfl
  rw [unw (by omega) (by omega)]
  refine Ev.cond (fun hc => Ev.is (szR_no (by omega)).symm) (fun hc => Ev.to (k (by omega)) ?_)
  unfold szR
  split <;> split <;> omega
def sums {α : Type} (h : α → Int) : List α → Int
  | [] => 0
  | x :: xs => h x + sums h xs
theorem sums_nn {α : Type} {h : α → Int} (hn : ∀ x, 0 ≤ h x) : ∀ xs : List α, 0 ≤ sums h xs
  | [] => Int.le_refl _
  | x :: xs => by have := hn x; have := sums_nn hn xs; unfold sums; omega
theorem sz_loop {α : Type} {xs : List α} {h : α → Int} {z : α} (hn : ∀ x, 0 ≤ h x) {l : Nat → Int → Int → Option Int} {g : Nat → α → Int → Option Int}
    (hl : ∀ k s i, l (k + 1) s i = if i < (xs.length : Int) then (if 0 ≤ i then ((g k (xs.getD i.toNat z) s).bind fun t => (if t < 0 then some (-1) else l k t (wrap64 (i + 1)))) else none) else some s)
    (he : ∀ x ∈ xs, ∀ left, 0 ≤ left → left ≤ 1048576 → Ev (fun k => g k x left) (szR (h x) left)) (hlen : xs.length ≤ 1048576) {left : Int} (h0 : 0 ≤ left) (h1 : left ≤ 1048576) :
    Ev (fun k => l k left 0) (szR (sums h xs) left) := by
  refine ev_loopI (fun s => 0 ≤ s ∧ s ≤ 1048576) l (fun ys s => szR (sums h ys) s) (fun s hs => ?_) (fun pre y ys s hx hs ih => ?_) left ⟨h0, h1⟩
  · simp only [hl]
    exact Ev.no (by omega) (Ev.is (szR_zero hs.1).symm)
  · have hp := len_app hx
    have hrd : xs.getD (pre.length : Int).toNat z = y := by rw [hx]; exact at_app pre y ys z
    simp only [hl, hrd]
    refine Ev.yes (by omega) (Ev.yes (by omega) ?_)
    rw [unw (by omega) (by omega)]
    have hy := hn y
    exact Ev.sz (he y (by rw [hx]; simp) s hs.1 hs.2) hs.1 (sums_nn hn ys) (fun hc => ih (s - h y) ⟨by omega, by omega⟩)
theorem sz_slice {α : Type} {xs : List α} {h : α → Int} {z : α} (hn : ∀ x, 0 ≤ h x) {l : Nat → Int → Int → Option Int} {g : Nat → α → Int → Option Int}
    (hl : ∀ k s i, l (k + 1) s i = if i < (xs.length : Int) then (if 0 ≤ i then ((g k (xs.getD i.toNat z) s).bind fun t => (if t < 0 then some (-1) else l k t (wrap64 (i + 1)))) else none) else some s)
    (he : ∀ x ∈ xs, ∀ left, 0 ≤ left → left ≤ 1048576 → Ev (fun k => g k x left) (szR (h x) left)) (hlen : xs.length ≤ maxLen) {left : Int} (h0 : 0 ≤ left) (h1 : left ≤ 1048576) :
    Ev (fun k => if wrap64 (left - (xs.length : Int)) < 0 then some (-1) else l k (wrap64 (left - (xs.length : Int))) 0) (szR ((xs.length : Int) + sums h xs) left) := by
  refine Ev.szl hlen h0 h1 (sums_nn hn xs) (fun hc => ?_)
  rw [unw (by omega) (by omega)]
  exact sz_loop hn hl he (by omega) (by omega) (by omega)
/-- The same where an element is looked at in place. -/
theorem sz_sliceS {xs : List ByteArray} {z : ByteArray} {l : Nat → Int → Int → Option Int}
    (hl : ∀ k s i, l (k + 1) s i = if i < (xs.length : Int) then (if 0 ≤ i then (if wrap64 (s - ((xs.getD i.toNat z).size : Int)) < 0 then some (-1) else l k (wrap64 (s - ((xs.getD i.toNat z).size : Int))) (wrap64 (i + 1))) else none) else some s)
    (he : ∀ x ∈ xs, x.size ≤ maxLen) (hlen : xs.length ≤ maxLen) {left : Int} (h0 : 0 ≤ left) (h1 : left ≤ 1048576) :
    Ev (fun k => if wrap64 (left - (xs.length : Int)) < 0 then some (-1) else l k (wrap64 (left - (xs.length : Int))) 0) (szR ((xs.length : Int) + sums (fun x : ByteArray => (x.size : Int)) xs) left) := by
  have hnn : ∀ x : ByteArray, 0 ≤ (x.size : Int) := fun x => by omega
  have hm : maxLen = 9223372036854775807 := rfl
  refine sz_slice (z := z) (h := fun x : ByteArray => (x.size : Int)) (g := fun _ x s => if wrap64 (s - (x.size : Int)) < 0 then some (-1) else some (wrap64 (s - (x.size : Int)))) hnn (fun k s i => ?_) (fun x hx left h0 h1 => ?_) hlen h0 h1
  · rw [hl]
    by_cases hc : wrap64 (s - ((xs.getD i.toNat z).size : Int)) < 0
    · simp only [if_pos hc, Option.bind_some, if_pos (show (-1 : Int) < 0 by omega)]
    · simp only [if_neg hc, Option.bind_some]
  · have := he x hx
    show Ev (fun _ => if wrap64 (left - (x.size : Int)) < 0 then some (-1) else some (wrap64 (left - (x.size : Int)))) (szR (x.size : Int) left)
    rw [unw (by omega) (by omega)]
    unfold szR
    exact Ev.cond (fun hc => Ev.is (by rw [if_neg (by omega)])) (fun hc => Ev.is (by rw [if_pos (by omega)]))

/-! ### a list made of another -/
theorem to_slice {α β γ : Type} {xs : List α} {z : α} {zb : β} {mk : γ → β} {tup : α → γ} {l : Nat → List β → Int → Option (List β)} {g : Nat → α → Option γ}
    (hl : ∀ k out i, l (k + 1) out i = if i < (xs.length : Int) then (if 0 ≤ i then ((g k (xs.getD i.toNat z)).bind fun t => (if i < (out.length : Int) then l k (out.set i.toNat (mk t)) (wrap64 (i + 1)) else none)) else none) else some out)
    (he : ∀ x ∈ xs, Ev (fun k => g k x) (tup x)) (hlen : xs.length ≤ 1048576) {N : Nat} (hN : 1048576 ≤ N) :
    Ev (fun k => if 0 ≤ (xs.length : Int) then (if ((xs.length : Int) : Int).toNat ≤ N then (l k (List.replicate ((xs.length : Int) : Int).toNat zb) 0) else none) else none) (xs.map fun x => mk (tup x)) := by
  refine Ev.yes (by omega) (Ev.yes (by omega) ?_)
  rw [Int.toNat_natCast]
  refine ev_map l (fun x => mk (tup x)) zb (fun out => ?_) (fun pre y ys out r hx ho h => ?_)
  · simp only [hl]
    exact Ev.no (by omega) (Ev.now _)
  · have hp := len_app hx
    have hrd : xs.getD (pre.length : Int).toNat z = y := by rw [hx]; exact at_app pre y ys z
    simp only [hl, hrd]
    refine Ev.yes (by omega) (Ev.yes (by omega) (Ev.bind (he y (by rw [hx]; simp)) (Ev.yes (by omega) ?_)))
    rw [unw (by omega) (by omega), Int.toNat_natCast]
    exact h
theorem to_slice0 {α : Type} {xs : List α} {z zb : α} {l : Nat → List α → Int → Option (List α)}
    (hl : ∀ k out i, l (k + 1) out i = if i < (xs.length : Int) then (if 0 ≤ i then (if i < (out.length : Int) then l k (out.set i.toNat (xs.getD i.toNat z)) (wrap64 (i + 1)) else none) else none) else some out)
    (hlen : xs.length ≤ 1048576) {N : Nat} (hN : 1048576 ≤ N) :
    Ev (fun k => if 0 ≤ (xs.length : Int) then (if ((xs.length : Int) : Int).toNat ≤ N then (l k (List.replicate ((xs.length : Int) : Int).toNat zb) 0) else none) else none) xs :=
  Ev.to (to_slice (l := l) (z := z) (zb := zb) (mk := fun x => x) (tup := fun x => x) (g := fun _ x => some x) (fun k out i => by rw [hl]; rfl) (fun x _ => Ev.now x) hlen hN) (by simp)

/-! ### a list held against itself -/
theorem eq_slice {α : Type} {xs : List α} {z : α} {l : Nat → Int → Option Bool} {g : Nat → α → α → Option Bool}
    (hl : ∀ k i, l (k + 1) i = if i < (xs.length : Int) then (if 0 ≤ i then (if i < (xs.length : Int) then ((g k (xs.getD i.toNat z) (xs.getD i.toNat z)).bind fun t => (if t = true then l k (wrap64 (i + 1)) else some false)) else none) else none) else some true)
    (he : ∀ x ∈ xs, Ev (fun k => g k x x) true) (hlen : xs.length ≤ 9223372036854775807) :
    Ev (fun k => if (xs.length : Int) = (xs.length : Int) then (l k 0) else some false) true := by
  refine Ev.yes rfl ?_
  refine ev_loop (xs := xs) (fun k (_ : Unit) i => l k i) (fun _ _ => true) (fun s => ?_) (fun pre y ys s hx ih => ?_) ()
  · simp only [hl]
    exact Ev.no (by omega) (Ev.now _)
  · have hp := len_app hx
    have hrd : xs.getD (pre.length : Int).toNat z = y := by rw [hx]; exact at_app pre y ys z
    simp only [hl, hrd]
    refine Ev.yes (by omega) (Ev.yes (by omega) (Ev.yes (by omega) (Ev.bind (he y (by rw [hx]; simp)) (Ev.yes rfl ?_))))
    rw [unw (by omega) (by omega)]
    exact ih ()
theorem eq_slice0 {α : Type} {xs : List α} {z : α} {p : α → α → Prop} [∀ a b, Decidable (p a b)] {l : Nat → Int → Option Bool}
    (hl : ∀ k i, l (k + 1) i = if i < (xs.length : Int) then (if 0 ≤ i then (if i < (xs.length : Int) then (if p (xs.getD i.toNat z) (xs.getD i.toNat z) then l k (wrap64 (i + 1)) else some false) else none) else none) else some true)
    (hp : ∀ x, p x x) (hlen : xs.length ≤ 9223372036854775807) :
    Ev (fun k => if (xs.length : Int) = (xs.length : Int) then (l k 0) else some false) true := by
  refine eq_slice (z := z) (g := fun _ a b => some (decide (p a b))) (fun k i => ?_) (fun x _ => Ev.is (by simp [hp])) hlen
  rw [hl]
  simp only [Option.bind_some, decide_eq_true_eq]

/-! ### a test at each place -/
def allUpto (n : Nat) (p : Nat → Bool) : Bool := (List.range' 0 n).all p
theorem allUpto_no {n i : Nat} {p : Nat → Bool} (h : i < n) (hp : p i = false) : allUpto n p = false := by
  unfold allUpto
  rw [List.all_eq_false]
  exact ⟨i, by simp [List.mem_range'_1]; omega, by simp [hp]⟩
theorem allUpto_yes {n : Nat} {p : Nat → Bool} (h : ∀ i, i < n → p i = true) : allUpto n p = true := by
  unfold allUpto
  rw [List.all_eq_true]
  intro i hi
  exact h i (by simp [List.mem_range'_1] at hi; omega)
theorem allUpto_iff {n : Nat} {p : Nat → Bool} : allUpto n p = true ↔ ∀ i, i < n → p i = true := by
  refine ⟨fun h i hi => ?_, allUpto_yes⟩
  cases hp : p i with
  | true => rfl
  | false => rw [allUpto_no hi hp] at h; cases h
theorem ev_all {n : Nat} {p : Nat → Bool} {tail : Bool} (l : Nat → Int → Option Bool) (h0 : Ev (fun k => l (k + 1) (n : Int)) tail)
    (h1 : ∀ i, i < n → ∀ r, Ev (fun k => l k ((i : Int) + 1)) r → Ev (fun k => l (k + 1) (i : Int)) (p i && r)) : Ev (fun k => l k 0) (allUpto n p && tail) := by
  have key : ∀ d i, i + d = n → Ev (fun k => l k (i : Int)) ((List.range' i d).all p && tail) := by
    intro d
    induction d with
    | zero =>
      intro i hi
      obtain rfl : i = n := by omega
      exact Ev.up (Ev.to h0 (by simp))
    | succ d ih =>
      intro i hi
      refine Ev.up (Ev.to (h1 i (by omega) _ (by simpa using ih (i + 1) (by omega))) ?_)
      simp [List.range'_succ, Bool.and_assoc]
  exact key n 0 (by omega)
/-- What is right at place i of a list whose elements are right and rise. -/
def okAt {α : Type} (ok : α → Bool) (less : α → α → Bool) (z : α) (l : List α) (i : Nat) : Bool := ok (l.getD i z) && (decide (i = 0) || less (l.getD (i - 1) z) (l.getD i z))
theorem getD_mem {α : Type} {l : List α} {i : Nat} (h : i < l.length) (z : α) : l.getD i z ∈ l := by
  rw [List.getD_eq_getElem?_getD, List.getElem?_eq_getElem h]
  exact List.getElem_mem h
theorem toNat_pred {i : Nat} (h : 0 < i) : ((i : Int) - 1).toNat = i - 1 := by omega

theorem upto_next {p : Nat → Prop} {i : Int} (h0 : 0 ≤ i) (h : ∀ j, j < i.toNat → p j) (hp : p i.toNat) : ∀ j, j < (i + 1).toNat → p j := by
  intro j hj
  rcases Nat.lt_or_ge j i.toNat with h1 | h1
  · exact h j h1
  · obtain rfl : j = i.toNat := by omega
    exact hp

end Go.Proofs.Ytnldeeefiidcaaa.Base
