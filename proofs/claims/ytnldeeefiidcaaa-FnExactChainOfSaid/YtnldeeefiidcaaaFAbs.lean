/-
Plain words: what the functions come to.
Conditions: none.
-/
import Derived.Test.YtnldeeefiidcaaaF0
set_option linter.unusedVariables false
set_option linter.unusedSimpArgs false
namespace Go.Proofs.Ytnldeeefiidcaaa.F
open Go.RowKit Go.Proofs.YtnldeeefiidcaaaW.PrintWords Go.Proofs.YtnldeeefiidcaaaW.PrintLast Go.Proofs.Ytnldeeefiidcaaa.Base Go.Proofs.Ytnldeeefiidcaaa.BW
/-- The greatest of these, but n at least. -/
def high : List Int → Int → Int
  | [], n => n
  | x :: xs, n => high xs (if n < x then x else n)

/-- Whether a text is among these. -/
def has (s : ByteArray) (l : List ByteArray) : Bool := l.any fun x => decide (x = s)
/-- What those of them that are named weigh. -/
def weight (names : List ByteArray) : List S122 → Int → Int
  | [], n => n
  | v :: vs, n => weight names vs (if has v.f0 names then wrap64 (n + v.f1) else n)

/-- Whether n is from least to most. -/
def inR (n least most : Int) : Bool := decide (n ≥ least) && decide (n ≤ most)

/-- Bytes of texts, one ahead of the other. -/
def bless (a b : ByteArray) : Bool := Op.bytesLess a.toList b.toList
def nought : ByteArray := ByteArray.empty

def byteOk (b : Int) : Bool := inR b 97 122 || inR b 48 57
def nameOk (s : ByteArray) : Bool := allUpto s.size (fun i => byteOk (bt s i)) && inR s.size 1 8
def namesOk (l : List ByteArray) : Bool := allUpto l.length (okAt nameOk bless nought l) && decide ((l.length : Int) ≤ 20)

/-- Who votes: names that rise, each with a weight. -/
def valOk (v : S122) : Bool := nameOk v.f0 && inR v.f1 1 1000000
def valLess (a b : S122) : Bool := bless a.f0 b.f0
def setAt (l : List S122) (i : Nat) : Bool := okAt valOk valLess z122 l i
def setOk (l : List S122) : Bool := allUpto l.length (setAt l) && inR l.length 1 12
theorem setOk_no {l : List S122} {i : Nat} (hi : i < l.length) (h : setAt l i = false) : setOk l = false := by
  unfold setOk
  rw [allUpto_no hi h, Bool.false_and]
theorem setOk_end {l : List S122} (h : ∀ i, i < l.length → setAt l i = true) : setOk l = inR l.length 1 12 := by
  unfold setOk
  rw [allUpto_yes h, Bool.true_and]

def txOk (t : S120) : Bool := inR t.f0 1 3 && (nameOk t.f1 && (inR t.f3 1 1000000 && (inR t.f4 0 10000 && (if t.f0 = 1 then nameOk t.f2 else (t.f2.toList == ([] : List UInt8))))))
theorem inR_23 {n : Int} (h : ¬ n = 1) : inR n 1 3 = inR n 2 3 := by
  unfold inR
  by_cases h1 : n ≥ 1 <;> by_cases h2 : n ≥ 2 <;> simp [h1, h2] <;> omega

/-- The first place of which p holds; -1 without one. -/
def idxOf {α : Type} (p : α → Bool) : List α → Int
  | [] => -1
  | x :: xs => if p x then 0 else if idxOf p xs < 0 then -1 else idxOf p xs + 1
theorem idxOf_ge {α : Type} (p : α → Bool) : ∀ l : List α, -1 ≤ idxOf p l ∧ (decide (idxOf p l ≥ 0) = l.any p)
  | [] => ⟨Int.le_refl _, rfl⟩
  | x :: xs => by
    have ih := idxOf_ge p xs
    unfold idxOf
    cases hp : p x
    · simp only [Bool.false_eq_true, if_false]
      split
      · rename_i h
        have h2 : xs.any p = false := by rw [← ih.2]; exact decide_eq_false (by omega)
        simp [hp, h2]
      · rename_i h
        have h2 : xs.any p = true := by rw [← ih.2]; exact decide_eq_true (by omega)
        refine ⟨by omega, ?_⟩
        simp [hp, h2]
        omega
    · simp [hp]
theorem idxOf_hit {α : Type} {p : α → Bool} {z : α} : ∀ {l : List α} {i : Nat}, i < l.length → p (l.getD i z) = true → (∀ j, j < i → p (l.getD j z) = false) → idxOf p l = i
  | [], i, h, _, _ => absurd h (by simp)
  | x :: xs, 0, _, hp, _ => by
    have : p x = true := hp
    simp [idxOf, this]
  | x :: xs, i + 1, h, hp, hn => by
    have hx : p x = false := hn 0 (by omega)
    have := idxOf_hit (l := xs) (i := i) (z := z) (by simpa using h) (by simpa using hp) (fun j hj => by simpa using hn (j + 1) (by omega))
    simp [idxOf, hx, this]
    omega
theorem idxOf_miss {α : Type} {p : α → Bool} {z : α} : ∀ {l : List α}, (∀ j, j < l.length → p (l.getD j z) = false) → idxOf p l = -1
  | [], _ => rfl
  | x :: xs, hn => by
    have hx : p x = false := hn 0 (by simp)
    have := idxOf_miss (l := xs) (z := z) (fun j hj => by simpa using hn (j + 1) (by simpa using hj))
    simp [idxOf, hx, this]
def named (s : ByteArray) (v : S122) : Bool := v.f0.toList == s.toList
def rootQ (r b : Int) (who : List ByteArray) : Bool := decide (r = 0) && (decide (b = -1) && ((who.length : Int) == 0))
def noneT (r : Int) (who : List ByteArray) (highs : List Int) : Bool := decide (r = 0) && (decide ((who.length : Int) = 0) && ((highs.length : Int) == 0))
def qcForm (r b : Int) (who : List ByteArray) (mr mb : Int) : Bool := rootQ r b who || (inR r 1 mr && (inR b 0 mb && namesOk who))
def highsOk (r : Int) (highs : List Int) : Bool := allUpto highs.length (fun i => inR (highs.getD i 0) 0 (wrap64 (r - 1)))
def tcForm (r : Int) (who : List ByteArray) (highs : List Int) (mr : Int) : Bool := noneT r who highs || (highsOk r highs && (inR r 1 mr && (namesOk who && ((highs.length : Int) == (who.length : Int)))))
/-- A draw out of b: whatever the place and the number, it yields what is so. -/
def Dr {α : Type} (b : List Int) (m : Nat → Int → Int → Option (α × Int × Int)) (R : α → Prop) : Prop :=
  ∀ p h, 0 ≤ p → p ≤ (b.length : Int) → ∃ x p' h', Ev (fun k => m k p h) (x, p', h') ∧ 0 ≤ p' ∧ p' ≤ (b.length : Int) ∧ R x
theorem Dr.mono {α : Type} {b : List Int} {m : Nat → Int → Int → Option (α × Int × Int)} {R R' : α → Prop} (h : Dr b m R) (k : ∀ x, R x → R' x) : Dr b m R' := fun p g h0 h1 => by
  obtain ⟨x, p', h', e, a, b, c⟩ := h p g h0 h1
  exact ⟨x, p', h', e, a, b, k x c⟩
theorem Dr.bind {α β : Type} {b : List Int} {m : Nat → Int → Int → Option (α × Int × Int)} {R : α → Prop} {R' : β → Prop} {f : Nat → α × Int × Int → Option (β × Int × Int)} (h : Dr b m R) (k : ∀ x, R x → Dr b (fun n p g => f n (x, p, g)) R') :
    Dr b (fun n p g => (m n p g).bind (f n)) R' := fun p g h0 h1 => by
  obtain ⟨x, p', g', e, a, c, hx⟩ := h p g h0 h1
  obtain ⟨y, p2, g2, e2, a2, c2, hy⟩ := k x hx p' g' a c
  exact ⟨y, p2, g2, Ev.bind e e2, a2, c2, hy⟩
theorem Dr.yes {α : Type} {b : List Int} {c : Prop} [Decidable c] {m n : Nat → Int → Int → Option (α × Int × Int)} {R : α → Prop} (hc : c) (h : Dr b m R) : Dr b (fun k p g => if c then m k p g else n k p g) R := by
  simp only [if_pos hc]
  exact h
theorem Dr.no {α : Type} {b : List Int} {c : Prop} [Decidable c] {m n : Nat → Int → Int → Option (α × Int × Int)} {R : α → Prop} (hc : ¬ c) (h : Dr b n R) : Dr b (fun k p g => if c then m k p g else n k p g) R := by
  simp only [if_neg hc]
  exact h
theorem Dr.cond {α : Type} {b : List Int} {c : Prop} [Decidable c] {m n : Nat → Int → Int → Option (α × Int × Int)} {R : α → Prop} (h : c → Dr b m R) (h' : ¬ c → Dr b n R) : Dr b (fun k p g => if c then m k p g else n k p g) R := by
  by_cases hc : c
  · exact Dr.yes hc (h hc)
  · exact Dr.no hc (h' hc)
theorem Dr.up {α : Type} {b : List Int} {m : Nat → Int → Int → Option (α × Int × Int)} {R : α → Prop} (h : Dr b (fun k => m (k + 1)) R) : Dr b m R := fun p g h0 h1 => by
  obtain ⟨x, p', h', e, r⟩ := h p g h0 h1
  exact ⟨x, p', h', Ev.up e, r⟩

/-- The names that are drawn. -/
def abc : List ByteArray := [⟨#[97]⟩, ⟨#[98]⟩, ⟨#[99]⟩, ⟨#[100]⟩, ⟨#[101]⟩]
/-- A drawn set: names in order, somebody, and small weights. -/
structure VSet (l : List S122) : Prop where
  sub : (l.map (·.f0)).Sublist abc
  some : 0 < l.length
  low : ∀ v ∈ l, 1 ≤ v.f1
  top : ∀ v ∈ l, v.f1 ≤ 30
theorem VSet.few {l : List S122} (h : VSet l) : l.length ≤ 5 := by
  have := h.sub.length_le
  simpa [abc] using this
/-- Whether a block's certificates let it follow. -/
def follows (b : S59) : Bool := (decide (b.f4.f0 = wrap64 (b.f2 - 1)) && noneT b.f5.f0 b.f5.f1 b.f5.f2) || (decide (b.f5.f0 = wrap64 (b.f2 - 1)) && (decide (b.f5.f0 > 0) && decide (b.f4.f0 ≥ high b.f5.f2 0)))

/-- What the tests of a block ask of the lengths within it. -/
def blockFit (b : S59) : Prop := b.f3.size ≤ maxLen ∧ (b.f4.f2.length ≤ maxLen ∧ ∀ s ∈ b.f4.f2, s.size ≤ maxLen) ∧ (b.f5.f1.length ≤ maxLen ∧ ∀ s ∈ b.f5.f1, s.size ≤ maxLen) ∧ b.f5.f2.length ≤ maxLen ∧ (b.f6.length ≤ maxLen ∧ ∀ t ∈ b.f6, t.f1.size ≤ maxLen ∧ t.f2.size ≤ maxLen) ∧ (b.f8.length ≤ maxLen ∧ ∀ v ∈ b.f8, v.f0.size ≤ maxLen)
instance (b : S59) : Decidable (blockFit b) := by
  unfold blockFit
  infer_instance
def blockOk (b : S59) : Bool := inR b.f0 0 100000 && (inR b.f1 0 900 && (inR b.f2 1 10000 && (nameOk b.f3 && (qcForm b.f4.f0 b.f4.f1 b.f4.f2 (wrap64 (b.f2 - 1)) (wrap64 (b.f0 - 1)) && (tcForm b.f5.f0 b.f5.f1 b.f5.f2 (wrap64 (b.f2 - 1)) && (!decide ((b.f6.length : Int) > 4) && (allUpto b.f6.length (fun i => txOk (rd_T120 b.f6 (i : Int))) && (if b.f7 = true then (setOk b.f8 && ((b.f9.size : Int) == 32)) else (decide ((b.f8.length : Int) = 0) && (b.f9.toList == ([] : List UInt8)))))))))))

/-- A draw at its place: it yields what is so, and a place within b. -/
def Dw {ρ : Type} (b : List Int) (m : Nat → Option ρ) (pos : ρ → Int) (R : ρ → Prop) : Prop := ∃ r, Ev m r ∧ 0 ≤ pos r ∧ pos r ≤ (b.length : Int) ∧ R r
theorem Dr.at {α : Type} {b : List Int} {m : Nat → Int → Int → Option (α × Int × Int)} {R : α → Prop} (h : Dr b m R) {p g : Int} (h0 : 0 ≤ p) (h1 : p ≤ (b.length : Int)) : Dw b (fun k => m k p g) (fun r => r.2.1) (fun r => R r.1) := by
  obtain ⟨x, p', g', e, a, c, hx⟩ := h p g h0 h1
  exact ⟨(x, p', g'), e, a, c, hx⟩
theorem Dr.of {α : Type} {b : List Int} {m : Nat → Int → Int → Option (α × Int × Int)} {R : α → Prop} (h : ∀ p g : Int, 0 ≤ p → p ≤ (b.length : Int) → Dw b (fun k => m k p g) (fun r => r.2.1) (fun r => R r.1)) : Dr b m R := fun p g h0 h1 => by
  obtain ⟨⟨x, p', g'⟩, e, a, c, hx⟩ := h p g h0 h1
  exact ⟨x, p', g', e, a, c, hx⟩
theorem Dw.bind {ρ σ : Type} {b : List Int} {m : Nat → Option ρ} {pos : ρ → Int} {R : ρ → Prop} {f : Nat → ρ → Option σ} {pos' : σ → Int} {R' : σ → Prop} (h : Dw b m pos R) (k : ∀ r, 0 ≤ pos r → pos r ≤ (b.length : Int) → R r → Dw b (fun n => f n r) pos' R') : Dw b (fun n => (m n).bind (f n)) pos' R' := by
  obtain ⟨r, e, a, c, hr⟩ := h
  obtain ⟨s, e', a', c', hs⟩ := k r a c hr
  exact ⟨s, Ev.bind e e', a', c', hs⟩
theorem Dw.yes {ρ : Type} {b : List Int} {c : Prop} [Decidable c] {m n : Nat → Option ρ} {pos : ρ → Int} {R : ρ → Prop} (hc : c) (h : Dw b m pos R) : Dw b (fun k => if c then m k else n k) pos R := by
  simp only [if_pos hc]
  exact h
theorem Dw.no {ρ : Type} {b : List Int} {c : Prop} [Decidable c] {m n : Nat → Option ρ} {pos : ρ → Int} {R : ρ → Prop} (hc : ¬ c) (h : Dw b n pos R) : Dw b (fun k => if c then m k else n k) pos R := by
  simp only [if_neg hc]
  exact h
theorem Dw.cond {ρ : Type} {b : List Int} {c : Prop} [Decidable c] {m n : Nat → Option ρ} {pos : ρ → Int} {R : ρ → Prop} (h : c → Dw b m pos R) (h' : ¬ c → Dw b n pos R) : Dw b (fun k => if c then m k else n k) pos R := by
  by_cases hc : c
  · exact Dw.yes hc (h hc)
  · exact Dw.no hc (h' hc)
theorem Dw.up {ρ : Type} {b : List Int} {m : Nat → Option ρ} {pos : ρ → Int} {R : ρ → Prop} (h : Dw b (fun k => m (k + 1)) pos R) : Dw b m pos R := by
  obtain ⟨r, e, a⟩ := h
  exact ⟨r, Ev.up e, a⟩

/-- A tree's blocks: the place of an id, what is right at a place, and what a block comes behind. -/
def idIs (id : Int) (b : S59) : Bool := decide (b.f0 = id)
def idAt (l : List S59) (id : Int) : Int := idxOf (idIs id) l
def fitAt (l : List S59) (i : Nat) : Bool := blockOk (l.getD i z59) && (decide ((l.getD i z59).f1 = (l.getD 0 z59).f1) && (decide (i = 0) || decide ((l.getD (i - 1) z59).f0 < (l.getD i z59).f0)))
def behind (m l : List S59) (b : S59) : Bool := rootQ b.f4.f0 b.f4.f1 b.f4.f2 || (decide (0 ≤ idAt m b.f4.f1) && decide ((rd_T59 l (idAt m b.f4.f1)).f2 = b.f4.f0))
def treeAt (l : List S59) (i : Nat) : Bool := fitAt l i && behind (l.take i) l (l.getD i z59)
def treeAtW (l : List S59) (i : Nat) : Bool := fitAt l i && behind l l (l.getD i z59)
def treeOk (l : List S59) : Bool := allUpto l.length (treeAt l) && decide ((l.length : Int) ≤ 400)
theorem idxOf_at {α : Type} {p : α → Bool} (z : α) : ∀ l : List α, (idxOf p l = -1 ∧ ∀ j, j < l.length → p (l.getD j z) = false) ∨ ∃ i : Nat, i < l.length ∧ idxOf p l = (i : Int) ∧ p (l.getD i z) = true ∧ ∀ j, j < i → p (l.getD j z) = false
  | [] => Or.inl ⟨rfl, fun j hj => absurd hj (by simp)⟩
  | x :: xs => by
    cases hx : p x
    · rcases idxOf_at z xs with ⟨h, hn⟩ | ⟨i, hi, h, hp, hn⟩
      · refine Or.inl ⟨by unfold idxOf; rw [hx, h]; rfl, fun j hj => ?_⟩
        cases j with
        | zero => exact hx
        | succ j => exact hn j (by simpa using hj)
      · refine Or.inr ⟨i + 1, by simpa using hi, ?_, hp, fun j hj => ?_⟩
        · unfold idxOf
          rw [hx, h]
          simp only [Bool.false_eq_true, if_false]
          rw [if_neg (by omega)]
          omega
        · cases j with
          | zero => exact hx
          | succ j => exact hn j (by omega)
    · exact Or.inr ⟨0, by simp, by unfold idxOf; rw [hx]; rfl, hx, fun j hj => absurd hj (by omega)⟩
theorem getD_take {α : Type} {l : List α} {i j : Nat} (h : j < i) (z : α) : (l.take i).getD j z = l.getD j z := by
  rw [List.getD_eq_getElem?_getD, List.getElem?_take, if_pos h, ← List.getD_eq_getElem?_getD]
theorem inR_iff {n a b : Int} : inR n a b = true ↔ a ≤ n ∧ n ≤ b := by
  simp [inR]
theorem blockOk_ids {b : S59} (h : blockOk b = true) : (0 ≤ b.f0 ∧ b.f0 ≤ 100000) ∧ (1 ≤ b.f2 ∧ b.f2 ≤ 10000) ∧ (rootQ b.f4.f0 b.f4.f1 b.f4.f2 = true ∨ (0 ≤ b.f4.f1 ∧ b.f4.f1 < b.f0 ∧ 1 ≤ b.f4.f0)) := by
  unfold blockOk at h
  simp only [Bool.and_eq_true] at h
  obtain ⟨h0, _, h2, _, h4, _⟩ := h
  have h0 := inR_iff.1 h0
  have h2 := inR_iff.1 h2
  refine ⟨h0, h2, ?_⟩
  unfold qcForm at h4
  rw [unw (x := b.f2 - 1) (by omega) (by omega), unw (x := b.f0 - 1) (by omega) (by omega)] at h4
  simp only [Bool.or_eq_true, Bool.and_eq_true] at h4
  rcases h4 with h | ⟨h5, h6, _⟩
  · exact Or.inl h
  · have h5 := inR_iff.1 h5
    have h6 := inR_iff.1 h6
    exact Or.inr ⟨by omega, by omega, by omega⟩
theorem rootQ_is {r b : Int} {who : List ByteArray} (h : rootQ r b who = true) : r = 0 ∧ b = -1 := by
  unfold rootQ at h
  simp only [Bool.and_eq_true, decide_eq_true_eq] at h
  exact ⟨h.1, h.2.1⟩
theorem fitAt_up {l : List S59} (hA : ∀ i, i < l.length → fitAt l i = true) : ∀ k j, j < k → k < l.length → (l.getD j z59).f0 < (l.getD k z59).f0 := by
  intro k
  induction k with
  | zero => intro j hj; exact absurd hj (by omega)
  | succ k ih =>
    intro j hj hk
    have h := hA (k + 1) hk
    unfold fitAt at h
    simp only [Bool.and_eq_true, Bool.or_eq_true, decide_eq_true_eq, Nat.add_sub_cancel] at h
    have h1 : (l.getD k z59).f0 < (l.getD (k + 1) z59).f0 := by
      rcases h.2.2 with h | h
      · exact absurd h (by omega)
      · exact h
    rcases Nat.lt_or_ge j k with h2 | h2
    · have := ih j h2 (by omega)
      omega
    · obtain rfl : j = k := by omega
      exact h1
theorem fitAt_ok {l : List S59} {i : Nat} (h : fitAt l i = true) : blockOk (l.getD i z59) = true := by
  unfold fitAt at h
  simp only [Bool.and_eq_true] at h
  exact h.1
theorem treeAt_fit {l : List S59} {i : Nat} (h : treeAt l i = true) : fitAt l i = true := by
  unfold treeAt at h
  simp only [Bool.and_eq_true] at h
  exact h.1
/-- In a row whose ids rise, the place of what a block comes behind is ahead of the block's own. -/
theorem idAt_ahead {l : List S59} (hA : ∀ i, i < l.length → fitAt l i = true) {i : Nat} (hi : i < l.length) {id : Int} (hid : id < (l.getD i z59).f0) : idAt (l.take i) id = idAt l id ∧ idAt l id < i := by
  unfold idAt
  rcases idxOf_at (p := idIs id) z59 l with ⟨h, hn⟩ | ⟨k, hk, h, hp, hn⟩
  · rw [h]
    refine ⟨idxOf_miss (z := z59) (fun j hj => ?_), by omega⟩
    rw [List.length_take] at hj
    rw [getD_take (by omega)]
    exact hn j (by omega)
  · have hki : k < i := by
      have hpk : (l.getD k z59).f0 = id := of_decide_eq_true hp
      rcases Nat.lt_trichotomy k i with h1 | h1 | h1
      · exact h1
      · subst h1; omega
      · have := fitAt_up hA k i h1 hk
        omega
    rw [h]
    refine ⟨idxOf_hit (z := z59) (by rw [List.length_take]; omega) (by rw [getD_take hki]; exact hp) (fun j hj => ?_), by omega⟩
    rw [getD_take (by omega)]
    exact hn j hj
theorem treeAtW_eq (l : List S59) : allUpto l.length (treeAtW l) = allUpto l.length (treeAt l) := by
  by_cases hA : ∀ i, i < l.length → fitAt l i = true
  · have : ∀ i, i < l.length → treeAtW l i = treeAt l i := by
      intro i hi
      unfold treeAtW treeAt behind
      rw [hA i hi, Bool.true_and, Bool.true_and]
      rcases (blockOk_ids (fitAt_ok (hA i hi))).2.2 with h | ⟨h0, h1, _⟩
      · rw [h, Bool.true_or, Bool.true_or]
      · rw [(idAt_ahead hA hi h1).1]
    rw [Bool.eq_iff_iff, allUpto_iff, allUpto_iff]
    exact ⟨fun h i hi => (this i hi).symm.trans (h i hi), fun h i hi => (this i hi).trans (h i hi)⟩
  · simp only [Classical.not_forall] at hA
    obtain ⟨i, hi, h⟩ := hA
    have h := Bool.eq_false_iff.2 h
    rw [allUpto_no hi (by unfold treeAtW; rw [h, Bool.false_and]), allUpto_no hi (by unfold treeAt; rw [h, Bool.false_and])]

/-- The places from the first one behind the root to an id, in a right tree. -/
def aheadOf (l : List S59) (k : Int) : Int := (rd_T59 l k).f4.f1
def chainP (l : List S59) : Nat → Int → List Int
  | 0, _ => []
  | n + 1, id => if idAt l id < 0 then [] else chainP l n (aheadOf l (idAt l id)) ++ [idAt l id]
def chainAt (l : List S59) (id : Int) : List Int := chainP l (idAt l id + 1).toNat id
def idOf (l : List S59) (k : Int) : Int := (rd_T59 l k).f0
theorem idAt_lo (l : List S59) (id : Int) : -1 ≤ idAt l id := (idxOf_ge (idIs id) l).1
theorem idAt_hi (l : List S59) (id : Int) : idAt l id < l.length := by
  unfold idAt
  rcases idxOf_at (p := idIs id) z59 l with ⟨h, _⟩ | ⟨k, hk, h, _, _⟩ <;> rw [h] <;> omega
section
variable {l : List S59} (T : allUpto l.length (treeAt l) = true)
theorem tree_fit (T : allUpto l.length (treeAt l) = true) : ∀ i, i < l.length → fitAt l i = true := fun i hi => treeAt_fit (allUpto_iff.1 T i hi)
theorem tree_ids (T : allUpto l.length (treeAt l) = true) {i : Nat} (hi : i < l.length) : 0 ≤ (l.getD i z59).f0 := (blockOk_ids (fitAt_ok (tree_fit T i hi))).1.1
theorem idAt_neg (T : allUpto l.length (treeAt l) = true) {id : Int} (h : id < 0) : idAt l id = -1 := by
  unfold idAt
  refine idxOf_miss (z := z59) (fun j hj => decide_eq_false ?_)
  have := tree_ids T hj
  omega
/-- What a block of a right tree comes behind lies ahead of it, or is the root. -/
theorem ahead_lt (T : allUpto l.length (treeAt l) = true) {k : Int} (h0 : 0 ≤ k) (h1 : k < l.length) : idAt l (aheadOf l k) < k ∧ (aheadOf l k = -1 ∨ 0 ≤ idAt l (aheadOf l k)) := by
  obtain ⟨i, rfl⟩ : ∃ i : Nat, k = i := ⟨k.toNat, by omega⟩
  have hi : i < l.length := by omega
  have hr : aheadOf l (i : Int) = (l.getD i z59).f4.f1 := rfl
  rw [hr]
  have ht := allUpto_iff.1 T i hi
  unfold treeAt at ht
  simp only [Bool.and_eq_true] at ht
  rcases (blockOk_ids (fitAt_ok ht.1)).2.2 with h | ⟨h2, h3, h4⟩
  · rw [(rootQ_is h).2, idAt_neg T (by omega)]
    exact ⟨by omega, Or.inl rfl⟩
  · have ha := idAt_ahead (tree_fit T) hi h3
    refine ⟨ha.2, Or.inr ?_⟩
    have hb := ht.2
    unfold behind at hb
    rw [ha.1] at hb
    simp only [Bool.or_eq_true, Bool.and_eq_true, decide_eq_true_eq] at hb
    rcases hb with h | h
    · have := (rootQ_is h).1
      omega
    · exact h.1
theorem chainAt_nil {id : Int} (h : idAt l id < 0) : chainAt l id = [] := by
  unfold chainAt
  rw [show (idAt l id + 1).toNat = 0 by omega]
  rfl
theorem chainP_big (T : allUpto l.length (treeAt l) = true) : ∀ (m n : Nat) (id : Int), n ≤ m → idAt l id < n → chainP l n id = chainAt l id := by
  intro m
  induction m with
  | zero =>
    intro n id hn h
    obtain rfl : n = 0 := by omega
    rw [chainAt_nil (by omega)]
    rfl
  | succ m ih =>
    intro n id hn h
    rcases Int.lt_or_le (idAt l id) 0 with h0 | h0
    · rw [chainAt_nil h0]
      cases n with
      | zero => rfl
      | succ n => unfold chainP; rw [if_pos h0]
    · obtain ⟨n, rfl⟩ : ∃ n', n = n' + 1 := ⟨n - 1, by omega⟩
      have hp := (ahead_lt T h0 (idAt_hi l id)).1
      unfold chainAt
      obtain ⟨k, hk⟩ : ∃ k : Nat, idAt l id = k := ⟨(idAt l id).toNat, by omega⟩
      rw [show (idAt l id + 1).toNat = k + 1 by omega]
      unfold chainP
      rw [if_neg (by omega), if_neg (by omega), ih n _ (by omega) (by omega), ih k _ (by omega) (by omega)]
theorem chainAt_cons (T : allUpto l.length (treeAt l) = true) {id : Int} (h0 : 0 ≤ idAt l id) : chainAt l id = chainAt l (aheadOf l (idAt l id)) ++ [idAt l id] := by
  have hp := (ahead_lt T h0 (idAt_hi l id)).1
  conv => lhs; unfold chainAt
  obtain ⟨k, hk⟩ : ∃ k : Nat, idAt l id = k := ⟨(idAt l id).toNat, by omega⟩
  rw [show (idAt l id + 1).toNat = k + 1 by omega]
  unfold chainP
  rw [if_neg (by omega), chainP_big T k k _ (Nat.le_refl _) (by omega)]
theorem chainAt_facts (T : allUpto l.length (treeAt l) = true) : ∀ (m : Nat) (id : Int), idAt l id < m → (∀ k ∈ chainAt l id, 0 ≤ k ∧ k < l.length) ∧ ((chainAt l id).length : Int) ≤ idAt l id + 1 := by
  intro m
  induction m with
  | zero =>
    intro id h
    rw [chainAt_nil (by omega)]
    exact ⟨fun k hk => (by cases hk), by have := idAt_lo l id; show ((0 : Nat) : Int) ≤ _; omega⟩
  | succ m ih =>
    intro id h
    rcases Int.lt_or_le (idAt l id) 0 with h0 | h0
    · rw [chainAt_nil h0]
      exact ⟨fun k hk => (by cases hk), by have := idAt_lo l id; show ((0 : Nat) : Int) ≤ _; omega⟩
    · have hp := (ahead_lt T h0 (idAt_hi l id)).1
      have hi := ih (aheadOf l (idAt l id)) (by omega)
      rw [chainAt_cons T h0]
      refine ⟨fun k hk => ?_, ?_⟩
      · rcases List.mem_append.1 hk with h | h
        · exact hi.1 k h
        · obtain rfl := List.mem_singleton.1 h
          exact ⟨h0, idAt_hi l id⟩
      · rw [List.length_append, List.length_singleton]
        have := hi.2
        omega
theorem chainAt_in (T : allUpto l.length (treeAt l) = true) (id : Int) : ∀ k ∈ chainAt l id, 0 ≤ k ∧ k < l.length := (chainAt_facts T l.length id (idAt_hi l id)).1
theorem chainAt_len (T : allUpto l.length (treeAt l) = true) (id : Int) : (chainAt l id).length ≤ l.length := by
  have := (chainAt_facts T l.length id (idAt_hi l id)).2
  have := idAt_hi l id
  omega
/-- The id of a place in a right tree has that place. -/
theorem idAt_of (T : allUpto l.length (treeAt l) = true) {k : Int} (h0 : 0 ≤ k) (h1 : k < l.length) : idAt l (idOf l k) = k := by
  obtain ⟨i, rfl⟩ : ∃ i : Nat, k = i := ⟨k.toNat, by omega⟩
  have hi : i < l.length := by omega
  unfold idAt
  refine idxOf_hit (z := z59) hi (decide_eq_true rfl) (fun j hj => decide_eq_false ?_)
  have h := fitAt_up (tree_fit T) i j hj hi
  show ¬ (l.getD j z59).f0 = (l.getD i z59).f0
  omega
end

def extendsB (l : List S59) (a b : Int) : Bool := treeOk l && (if a = -1 then (decide (b = -1) || decide (0 ≤ idAt l b)) else (chainAt l b).any (fun k => decide (idOf l k = a)))
def endedB (l : List S59) (id : Int) : Bool := treeOk l && (chainAt l id).any (fun k => (rd_T59 l k).f7)
def chainIds (l : List S59) (id : Int) : List Int := (chainAt l id).map (idOf l)
def endIs (l : List S59) (x : Int) : Bool := (rd_T59 l (idAt l x)).f7
theorem treeOk_is {l : List S59} (h : treeOk l = true) : allUpto l.length (treeAt l) = true ∧ l.length ≤ 400 := by
  unfold treeOk at h
  simp only [Bool.and_eq_true, decide_eq_true_eq] at h
  exact ⟨h.1, by omega⟩

end Go.Proofs.Ytnldeeefiidcaaa.F
