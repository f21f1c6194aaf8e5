/-
Plain words: what the functions come to.
Conditions: none.
-/
import Derived.Test.YtadkhkpchankjaaF0
set_option linter.unusedVariables false
set_option linter.unusedSimpArgs false
namespace Go.Proofs.Ytadkhkpchankjaa.F
open Go.RowKit Go.Proofs.YtadkhkpchankjaaW.PrintWords Go.Proofs.YtadkhkpchankjaaW.PrintLast Go.Proofs.Ytadkhkpchankjaa.Base Go.Proofs.Ytadkhkpchankjaa.BW
/-- The greatest of these, but n at least. -/
def high : List Int → Int → Int
  | [], n => n
  | x :: xs, n => high xs (if n < x then x else n)

/-- Whether a text is among these. -/
def has (s : ByteArray) (l : List ByteArray) : Bool := l.any fun x => decide (x = s)
/-- What those of them that are named weigh. -/
def weight (names : List ByteArray) : List S138 → Int → Int
  | [], n => n
  | v :: vs, n => weight names vs (if has v.f0 names then wrap64 (n + v.f1) else n)

/-- Whether n is from least to most. -/
def inR (n least most : Int) : Bool := decide (n ≥ least) && decide (n ≤ most)

/-- Bytes of texts, one ahead of the other. -/
def bless (a b : ByteArray) : Bool := Op.bytesLess a.toList b.toList
def nought : ByteArray := ByteArray.empty

def byteOk (b : Int) : Bool := inR b 97 122 || inR b 48 57
def nameOk (s : ByteArray) : Bool := allUpto s.size (fun i => byteOk (bt s i)) && inR s.size 1 8
def namesOk (l : List ByteArray) : Bool := allUpto l.length (okAt nameOk bless nought l) && decide ((l.length : Int) ≤ 20)

/-- Who votes: names that rise, each with a weight. -/
def valOk (v : S138) : Bool := nameOk v.f0 && inR v.f1 1 1000000
def valLess (a b : S138) : Bool := bless a.f0 b.f0
def setAt (l : List S138) (i : Nat) : Bool := okAt valOk valLess z138 l i
def setOk (l : List S138) : Bool := allUpto l.length (setAt l) && inR l.length 1 12
def txOk (t : S186) : Bool := inR t.f0 1 3 && (nameOk t.f1 && (inR t.f3 1 1000000 && (inR t.f4 0 10000 && (if t.f0 = 1 then nameOk t.f2 else (t.f2.toList == ([] : List UInt8))))))
/-- The first place of which p holds; -1 without one. -/
def idxOf {α : Type} (p : α → Bool) : List α → Int
  | [] => -1
  | x :: xs => if p x then 0 else if idxOf p xs < 0 then -1 else idxOf p xs + 1
theorem idxOf_hit {α : Type} {p : α → Bool} {z : α} : ∀ {l : List α} {i : Nat}, i < l.length → p (l.getD i z) = true → (∀ j, j < i → p (l.getD j z) = false) → idxOf p l = i
  | [], i, h, _, _ => absurd h (by simp)
  | x :: xs, 0, _, hp, _ => by
    have : p x = true := hp
    simp [idxOf, this]
  | x :: xs, i + 1, h, hp, hn => by
    have hx : p x = false := hn 0 (by omega)
    have := idxOf_hit (l := xs) (i := i) (z := z) (by simpa using h) (by simpa using hp) (fun j hj => by simpa using hn (j + 1) (by omega))
    simp [idxOf, hx, this]
    omega
theorem idxOf_miss {α : Type} {p : α → Bool} {z : α} : ∀ {l : List α}, (∀ j, j < l.length → p (l.getD j z) = false) → idxOf p l = -1
  | [], _ => rfl
  | x :: xs, hn => by
    have hx : p x = false := hn 0 (by simp)
    have := idxOf_miss (l := xs) (z := z) (fun j hj => by simpa using hn (j + 1) (by simpa using hj))
    simp [idxOf, hx, this]
def named (s : ByteArray) (v : S138) : Bool := v.f0.toList == s.toList
def rootQ (r b : Int) (who : List ByteArray) : Bool := decide (r = 0) && (decide (b = -1) && ((who.length : Int) == 0))
def noneT (r : Int) (who : List ByteArray) (highs : List Int) : Bool := decide (r = 0) && (decide ((who.length : Int) = 0) && ((highs.length : Int) == 0))
def qcForm (r b : Int) (who : List ByteArray) (mr mb : Int) : Bool := rootQ r b who || (inR r 1 mr && (inR b 0 mb && namesOk who))
def highsOk (r : Int) (highs : List Int) : Bool := allUpto highs.length (fun i => inR (highs.getD i 0) 0 (wrap64 (r - 1)))
def tcForm (r : Int) (who : List ByteArray) (highs : List Int) (mr : Int) : Bool := noneT r who highs || (highsOk r highs && (inR r 1 mr && (namesOk who && ((highs.length : Int) == (who.length : Int)))))
/-- A draw out of b: whatever the place and the number, it yields what is so. -/
def Dr {α : Type} (b : List Int) (m : Nat → Int → Int → Option (α × Int × Int)) (R : α → Prop) : Prop :=
  ∀ p h, 0 ≤ p → p ≤ (b.length : Int) → ∃ x p' h', Ev (fun k => m k p h) (x, p', h') ∧ 0 ≤ p' ∧ p' ≤ (b.length : Int) ∧ R x
theorem Dr.mono {α : Type} {b : List Int} {m : Nat → Int → Int → Option (α × Int × Int)} {R R' : α → Prop} (h : Dr b m R) (k : ∀ x, R x → R' x) : Dr b m R' := fun p g h0 h1 => by
  obtain ⟨x, p', h', e, a, b, c⟩ := h p g h0 h1
  exact ⟨x, p', h', e, a, b, k x c⟩
theorem Dr.bind {α β : Type} {b : List Int} {m : Nat → Int → Int → Option (α × Int × Int)} {R : α → Prop} {R' : β → Prop} {f : Nat → α × Int × Int → Option (β × Int × Int)} (h : Dr b m R) (k : ∀ x, R x → Dr b (fun n p g => f n (x, p, g)) R') :
    Dr b (fun n p g => (m n p g).bind (f n)) R' := fun p g h0 h1 => by
  obtain ⟨x, p', g', e, a, c, hx⟩ := h p g h0 h1
  obtain ⟨y, p2, g2, e2, a2, c2, hy⟩ := k x hx p' g' a c
  exact ⟨y, p2, g2, Ev.bind e e2, a2, c2, hy⟩
theorem Dr.yes {α : Type} {b : List Int} {c : Prop} [Decidable c] {m n : Nat → Int → Int → Option (α × Int × Int)} {R : α → Prop} (hc : c) (h : Dr b m R) : Dr b (fun k p g => if c then m k p g else n k p g) R := by
  simp only [if_pos hc]
  exact h
theorem Dr.no {α : Type} {b : List Int} {c : Prop} [Decidable c] {m n : Nat → Int → Int → Option (α × Int × Int)} {R : α → Prop} (hc : ¬ c) (h : Dr b n R) : Dr b (fun k p g => if c then m k p g else n k p g) R := by
  simp only [if_neg hc]
  exact h
theorem Dr.cond {α : Type} {b : List Int} {c : Prop} [Decidable c] {m n : Nat → Int → Int → Option (α × Int × Int)} {R : α → Prop} (h : c → Dr b m R) (h' : ¬ c → Dr b n R) : Dr b (fun k p g => if c then m k p g else n k p g) R := by
  by_cases hc : c
  · exact Dr.yes hc (h hc)
  · exact Dr.no hc (h' hc)
theorem Dr.up {α : Type} {b : List Int} {m : Nat → Int → Int → Option (α × Int × Int)} {R : α → Prop} (h : Dr b (fun k => m (k + 1)) R) : Dr b m R := fun p g h0 h1 => by
  obtain ⟨x, p', h', e, r⟩ := h p g h0 h1
  exact ⟨x, p', h', Ev.up e, r⟩

/-- The names that are drawn. -/
def abc : List ByteArray := [⟨#[97]⟩, ⟨#[98]⟩, ⟨#[99]⟩, ⟨#[100]⟩, ⟨#[101]⟩]
/-- A drawn set: names in order, somebody, and small weights. -/
structure VSet (l : List S138) : Prop where
  sub : (l.map (·.f0)).Sublist abc
  some : 0 < l.length
  low : ∀ v ∈ l, 1 ≤ v.f1
  top : ∀ v ∈ l, v.f1 ≤ 30
theorem VSet.few {l : List S138} (h : VSet l) : l.length ≤ 5 := by
  have := h.sub.length_le
  simpa [abc] using this
/-- Whether a block's certificates let it follow. -/
def follows (b : S113) : Bool := (decide (b.f4.f0 = wrap64 (b.f2 - 1)) && noneT b.f5.f0 b.f5.f1 b.f5.f2) || (decide (b.f5.f0 = wrap64 (b.f2 - 1)) && (decide (b.f5.f0 > 0) && decide (b.f4.f0 ≥ high b.f5.f2 0)))

/-- What the tests of a block ask of the lengths within it. -/
def blockFit (b : S113) : Prop := b.f3.size ≤ maxLen ∧ (b.f4.f2.length ≤ maxLen ∧ ∀ s ∈ b.f4.f2, s.size ≤ maxLen) ∧ (b.f5.f1.length ≤ maxLen ∧ ∀ s ∈ b.f5.f1, s.size ≤ maxLen) ∧ b.f5.f2.length ≤ maxLen ∧ (b.f6.length ≤ maxLen ∧ ∀ t ∈ b.f6, t.f1.size ≤ maxLen ∧ t.f2.size ≤ maxLen) ∧ (b.f8.length ≤ maxLen ∧ ∀ v ∈ b.f8, v.f0.size ≤ maxLen)
instance (b : S113) : Decidable (blockFit b) := by
  unfold blockFit
  infer_instance
def blockOk (b : S113) : Bool := inR b.f0 0 100000 && (inR b.f1 0 900 && (inR b.f2 1 10000 && (nameOk b.f3 && (qcForm b.f4.f0 b.f4.f1 b.f4.f2 (wrap64 (b.f2 - 1)) (wrap64 (b.f0 - 1)) && (tcForm b.f5.f0 b.f5.f1 b.f5.f2 (wrap64 (b.f2 - 1)) && (!decide ((b.f6.length : Int) > 4) && (allUpto b.f6.length (fun i => txOk (rd_T186 b.f6 (i : Int))) && (if b.f7 = true then (setOk b.f8 && ((b.f9.size : Int) == 32)) else (decide ((b.f8.length : Int) = 0) && (b.f9.toList == ([] : List UInt8)))))))))))

/-- A draw at its place: it yields what is so, and a place within b. -/
def Dw {ρ : Type} (b : List Int) (m : Nat → Option ρ) (pos : ρ → Int) (R : ρ → Prop) : Prop := ∃ r, Ev m r ∧ 0 ≤ pos r ∧ pos r ≤ (b.length : Int) ∧ R r
theorem Dr.at {α : Type} {b : List Int} {m : Nat → Int → Int → Option (α × Int × Int)} {R : α → Prop} (h : Dr b m R) {p g : Int} (h0 : 0 ≤ p) (h1 : p ≤ (b.length : Int)) : Dw b (fun k => m k p g) (fun r => r.2.1) (fun r => R r.1) := by
  obtain ⟨x, p', g', e, a, c, hx⟩ := h p g h0 h1
  exact ⟨(x, p', g'), e, a, c, hx⟩
theorem Dr.of {α : Type} {b : List Int} {m : Nat → Int → Int → Option (α × Int × Int)} {R : α → Prop} (h : ∀ p g : Int, 0 ≤ p → p ≤ (b.length : Int) → Dw b (fun k => m k p g) (fun r => r.2.1) (fun r => R r.1)) : Dr b m R := fun p g h0 h1 => by
  obtain ⟨⟨x, p', g'⟩, e, a, c, hx⟩ := h p g h0 h1
  exact ⟨x, p', g', e, a, c, hx⟩
theorem Dw.bind {ρ σ : Type} {b : List Int} {m : Nat → Option ρ} {pos : ρ → Int} {R : ρ → Prop} {f : Nat → ρ → Option σ} {pos' : σ → Int} {R' : σ → Prop} (h : Dw b m pos R) (k : ∀ r, 0 ≤ pos r → pos r ≤ (b.length : Int) → R r → Dw b (fun n => f n r) pos' R') : Dw b (fun n => (m n).bind (f n)) pos' R' := by
  obtain ⟨r, e, a, c, hr⟩ := h
  obtain ⟨s, e', a', c', hs⟩ := k r a c hr
  exact ⟨s, Ev.bind e e', a', c', hs⟩
theorem Dw.yes {ρ : Type} {b : List Int} {c : Prop} [Decidable c] {m n : Nat → Option ρ} {pos : ρ → Int} {R : ρ → Prop} (hc : c) (h : Dw b m pos R) : Dw b (fun k => if c then m k else n k) pos R := by
  simp only [if_pos hc]
  exact h
theorem Dw.no {ρ : Type} {b : List Int} {c : Prop} [Decidable c] {m n : Nat → Option ρ} {pos : ρ → Int} {R : ρ → Prop} (hc : ¬ c) (h : Dw b n pos R) : Dw b (fun k => if c then m k else n k) pos R := by
  simp only [if_neg hc]
  exact h
theorem Dw.cond {ρ : Type} {b : List Int} {c : Prop} [Decidable c] {m n : Nat → Option ρ} {pos : ρ → Int} {R : ρ → Prop} (h : c → Dw b m pos R) (h' : ¬ c → Dw b n pos R) : Dw b (fun k => if c then m k else n k) pos R := by
  by_cases hc : c
  · exact Dw.yes hc (h hc)
  · exact Dw.no hc (h' hc)
theorem Dw.up {ρ : Type} {b : List Int} {m : Nat → Option ρ} {pos : ρ → Int} {R : ρ → Prop} (h : Dw b (fun k => m (k + 1)) pos R) : Dw b m pos R := by
  obtain ⟨r, e, a⟩ := h
  exact ⟨r, Ev.up e, a⟩

def picked (a : S43) : Bool := decide (a.f3 ≥ 5)
theorem abc_size : ∀ x ∈ abc, x.size ≤ 9 := by decide

theorem VSet.small {l : List S138} (h : VSet l) : ∀ v ∈ l, v.f0.size ≤ 9 := fun v hv => abc_size _ (h.sub.subset (List.mem_map.2 ⟨v, hv, rfl⟩))

/-- The greatest High that somebody left with at a round; who left, with it; the certificate of it. -/
def topG (r : Int) (s : ByteArray) : List S64 → Int → Int
  | [], n => n
  | g :: gs, n => topG r s gs (if g.f0 = r ∧ g.f2 = s ∧ g.f1 > n then g.f1 else n)
def left (gones : List S64) (r : Int) (l : List S138) : List S138 := l.filter fun v => decide (topG r v.f0 gones (-1) ≥ 0)
/-- A tree's blocks: the place of an id, what is right at a place, and what a block comes behind. -/
def idIs (id : Int) (b : S113) : Bool := decide (b.f0 = id)
def idAt (l : List S113) (id : Int) : Int := idxOf (idIs id) l
def fitAt (l : List S113) (i : Nat) : Bool := blockOk (l.getD i z113) && (decide ((l.getD i z113).f1 = (l.getD 0 z113).f1) && (decide (i = 0) || decide ((l.getD (i - 1) z113).f0 < (l.getD i z113).f0)))
def behind (m l : List S113) (b : S113) : Bool := rootQ b.f4.f0 b.f4.f1 b.f4.f2 || (decide (0 ≤ idAt m b.f4.f1) && decide ((rd_T113 l (idAt m b.f4.f1)).f2 = b.f4.f0))
def treeAt (l : List S113) (i : Nat) : Bool := fitAt l i && behind (l.take i) l (l.getD i z113)
theorem idxOf_at {α : Type} {p : α → Bool} (z : α) : ∀ l : List α, (idxOf p l = -1 ∧ ∀ j, j < l.length → p (l.getD j z) = false) ∨ ∃ i : Nat, i < l.length ∧ idxOf p l = (i : Int) ∧ p (l.getD i z) = true ∧ ∀ j, j < i → p (l.getD j z) = false
  | [] => Or.inl ⟨rfl, fun j hj => absurd hj (by simp)⟩
  | x :: xs => by
    cases hx : p x
    · rcases idxOf_at z xs with ⟨h, hn⟩ | ⟨i, hi, h, hp, hn⟩
      · refine Or.inl ⟨by unfold idxOf; rw [hx, h]; rfl, fun j hj => ?_⟩
        cases j with
        | zero => exact hx
        | succ j => exact hn j (by simpa using hj)
      · refine Or.inr ⟨i + 1, by simpa using hi, ?_, hp, fun j hj => ?_⟩
        · unfold idxOf
          rw [hx, h]
          simp only [Bool.false_eq_true, if_false]
          rw [if_neg (by omega)]
          omega
        · cases j with
          | zero => exact hx
          | succ j => exact hn j (by omega)
    · exact Or.inr ⟨0, by simp, by unfold idxOf; rw [hx]; rfl, hx, fun j hj => absurd hj (by omega)⟩
theorem idAt_hi (l : List S113) (id : Int) : idAt l id < l.length := by
  unfold idAt
  rcases idxOf_at (p := idIs id) z113 l with ⟨h, _⟩ | ⟨k, hk, h, _, _⟩ <;> rw [h] <;> omega
section
variable {l : List S113} (T : allUpto l.length (treeAt l) = true)
end

end Go.Proofs.Ytadkhkpchankjaa.F
