/-
Plain words: what the functions come to.
Conditions: none.
-/
import Derived.Test.YtieecjilnaijkaaF0
set_option linter.unusedVariables false
set_option linter.unusedSimpArgs false
namespace Go.Proofs.Ytieecjilnaijkaa.F
open Go.RowKit Go.Proofs.YtieecjilnaijkaaW.PrintWords Go.Proofs.YtieecjilnaijkaaW.PrintLast Go.Proofs.Ytieecjilnaijkaa.Base Go.Proofs.Ytieecjilnaijkaa.BW
/-- The greatest of these, but n at least. -/
def high : List Int → Int → Int
  | [], n => n
  | x :: xs, n => high xs (if n < x then x else n)

/-- Whether a text is among these. -/
def has (s : ByteArray) (l : List ByteArray) : Bool := l.any fun x => decide (x = s)
/-- What those of them that are named weigh. -/
def weight (names : List ByteArray) : List S93 → Int → Int
  | [], n => n
  | v :: vs, n => weight names vs (if has v.f0 names then wrap64 (n + v.f1) else n)

/-- Whether n is from least to most. -/
def inR (n least most : Int) : Bool := decide (n ≥ least) && decide (n ≤ most)

/-- Bytes of texts, one ahead of the other. -/
def bless (a b : ByteArray) : Bool := Op.bytesLess a.toList b.toList
def nought : ByteArray := ByteArray.empty

def byteOk (b : Int) : Bool := inR b 97 122 || inR b 48 57
def nameOk (s : ByteArray) : Bool := allUpto s.size (fun i => byteOk (bt s i)) && inR s.size 1 8
def namesOk (l : List ByteArray) : Bool := allUpto l.length (okAt nameOk bless nought l) && decide ((l.length : Int) ≤ 20)

/-- Who votes: names that rise, each with a weight. -/
def valOk (v : S93) : Bool := nameOk v.f0 && inR v.f1 1 1000000
def valLess (a b : S93) : Bool := bless a.f0 b.f0
def setAt (l : List S93) (i : Nat) : Bool := okAt valOk valLess z93 l i
def setOk (l : List S93) : Bool := allUpto l.length (setAt l) && inR l.length 1 12
theorem setOk_no {l : List S93} {i : Nat} (hi : i < l.length) (h : setAt l i = false) : setOk l = false := by
  unfold setOk
  rw [allUpto_no hi h, Bool.false_and]
theorem setOk_end {l : List S93} (h : ∀ i, i < l.length → setAt l i = true) : setOk l = inR l.length 1 12 := by
  unfold setOk
  rw [allUpto_yes h, Bool.true_and]

def txOk (t : S106) : Bool := inR t.f0 1 3 && (nameOk t.f1 && (inR t.f3 1 1000000 && (inR t.f4 0 10000 && (if t.f0 = 1 then nameOk t.f2 else (t.f2.toList == ([] : List UInt8))))))
theorem inR_23 {n : Int} (h : ¬ n = 1) : inR n 1 3 = inR n 2 3 := by
  unfold inR
  by_cases h1 : n ≥ 1 <;> by_cases h2 : n ≥ 2 <;> simp [h1, h2] <;> omega

/-- The first place of which p holds; -1 without one. -/
def idxOf {α : Type} (p : α → Bool) : List α → Int
  | [] => -1
  | x :: xs => if p x then 0 else if idxOf p xs < 0 then -1 else idxOf p xs + 1
def named (s : ByteArray) (v : S93) : Bool := v.f0.toList == s.toList
def rootQ (r b : Int) (who : List ByteArray) : Bool := decide (r = 0) && (decide (b = -1) && ((who.length : Int) == 0))
def noneT (r : Int) (who : List ByteArray) (highs : List Int) : Bool := decide (r = 0) && (decide ((who.length : Int) = 0) && ((highs.length : Int) == 0))
def qcForm (r b : Int) (who : List ByteArray) (mr mb : Int) : Bool := rootQ r b who || (inR r 1 mr && (inR b 0 mb && namesOk who))
def highsOk (r : Int) (highs : List Int) : Bool := allUpto highs.length (fun i => inR (highs.getD i 0) 0 (wrap64 (r - 1)))
def tcForm (r : Int) (who : List ByteArray) (highs : List Int) (mr : Int) : Bool := noneT r who highs || (highsOk r highs && (inR r 1 mr && (namesOk who && ((highs.length : Int) == (who.length : Int)))))
/-- A draw out of b: whatever the place and the number, it yields what is so. -/
def Dr {α : Type} (b : List Int) (m : Nat → Int → Int → Option (α × Int × Int)) (R : α → Prop) : Prop :=
  ∀ p h, 0 ≤ p → p ≤ (b.length : Int) → ∃ x p' h', Ev (fun k => m k p h) (x, p', h') ∧ 0 ≤ p' ∧ p' ≤ (b.length : Int) ∧ R x
theorem Dr.mono {α : Type} {b : List Int} {m : Nat → Int → Int → Option (α × Int × Int)} {R R' : α → Prop} (h : Dr b m R) (k : ∀ x, R x → R' x) : Dr b m R' := fun p g h0 h1 => by
  obtain ⟨x, p', h', e, a, b, c⟩ := h p g h0 h1
  exact ⟨x, p', h', e, a, b, k x c⟩
theorem Dr.bind {α β : Type} {b : List Int} {m : Nat → Int → Int → Option (α × Int × Int)} {R : α → Prop} {R' : β → Prop} {f : Nat → α × Int × Int → Option (β × Int × Int)} (h : Dr b m R) (k : ∀ x, R x → Dr b (fun n p g => f n (x, p, g)) R') :
    Dr b (fun n p g => (m n p g).bind (f n)) R' := fun p g h0 h1 => by
  obtain ⟨x, p', g', e, a, c, hx⟩ := h p g h0 h1
  obtain ⟨y, p2, g2, e2, a2, c2, hy⟩ := k x hx p' g' a c
  exact ⟨y, p2, g2, Ev.bind e e2, a2, c2, hy⟩
theorem Dr.yes {α : Type} {b : List Int} {c : Prop} [Decidable c] {m n : Nat → Int → Int → Option (α × Int × Int)} {R : α → Prop} (hc : c) (h : Dr b m R) : Dr b (fun k p g => if c then m k p g else n k p g) R := by
  simp only [if_pos hc]
  exact h
theorem Dr.no {α : Type} {b : List Int} {c : Prop} [Decidable c] {m n : Nat → Int → Int → Option (α × Int × Int)} {R : α → Prop} (hc : ¬ c) (h : Dr b n R) : Dr b (fun k p g => if c then m k p g else n k p g) R := by
  simp only [if_neg hc]
  exact h
theorem Dr.cond {α : Type} {b : List Int} {c : Prop} [Decidable c] {m n : Nat → Int → Int → Option (α × Int × Int)} {R : α → Prop} (h : c → Dr b m R) (h' : ¬ c → Dr b n R) : Dr b (fun k p g => if c then m k p g else n k p g) R := by
  by_cases hc : c
  · exact Dr.yes hc (h hc)
  · exact Dr.no hc (h' hc)
theorem Dr.up {α : Type} {b : List Int} {m : Nat → Int → Int → Option (α × Int × Int)} {R : α → Prop} (h : Dr b (fun k => m (k + 1)) R) : Dr b m R := fun p g h0 h1 => by
  obtain ⟨x, p', h', e, r⟩ := h p g h0 h1
  exact ⟨x, p', h', Ev.up e, r⟩

/-- Whether a block's certificates let it follow. -/
def follows (b : S68) : Bool := (decide (b.f4.f0 = wrap64 (b.f2 - 1)) && noneT b.f5.f0 b.f5.f1 b.f5.f2) || (decide (b.f5.f0 = wrap64 (b.f2 - 1)) && (decide (b.f5.f0 > 0) && decide (b.f4.f0 ≥ high b.f5.f2 0)))

/-- What the tests of a block ask of the lengths within it. -/
def blockFit (b : S68) : Prop := b.f3.size ≤ maxLen ∧ (b.f4.f2.length ≤ maxLen ∧ ∀ s ∈ b.f4.f2, s.size ≤ maxLen) ∧ (b.f5.f1.length ≤ maxLen ∧ ∀ s ∈ b.f5.f1, s.size ≤ maxLen) ∧ b.f5.f2.length ≤ maxLen ∧ (b.f6.length ≤ maxLen ∧ ∀ t ∈ b.f6, t.f1.size ≤ maxLen ∧ t.f2.size ≤ maxLen) ∧ (b.f8.length ≤ maxLen ∧ ∀ v ∈ b.f8, v.f0.size ≤ maxLen)
instance (b : S68) : Decidable (blockFit b) := by
  unfold blockFit
  infer_instance
def blockOk (b : S68) : Bool := inR b.f0 0 100000 && (inR b.f1 0 900 && (inR b.f2 1 10000 && (nameOk b.f3 && (qcForm b.f4.f0 b.f4.f1 b.f4.f2 (wrap64 (b.f2 - 1)) (wrap64 (b.f0 - 1)) && (tcForm b.f5.f0 b.f5.f1 b.f5.f2 (wrap64 (b.f2 - 1)) && (!decide ((b.f6.length : Int) > 4) && (allUpto b.f6.length (fun i => txOk (rd_T106 b.f6 (i : Int))) && (if b.f7 = true then (setOk b.f8 && ((b.f9.size : Int) == 32)) else (decide ((b.f8.length : Int) = 0) && (b.f9.toList == ([] : List UInt8)))))))))))

/-- A draw at its place: it yields what is so, and a place within b. -/
def Dw {ρ : Type} (b : List Int) (m : Nat → Option ρ) (pos : ρ → Int) (R : ρ → Prop) : Prop := ∃ r, Ev m r ∧ 0 ≤ pos r ∧ pos r ≤ (b.length : Int) ∧ R r
theorem Dr.at {α : Type} {b : List Int} {m : Nat → Int → Int → Option (α × Int × Int)} {R : α → Prop} (h : Dr b m R) {p g : Int} (h0 : 0 ≤ p) (h1 : p ≤ (b.length : Int)) : Dw b (fun k => m k p g) (fun r => r.2.1) (fun r => R r.1) := by
  obtain ⟨x, p', g', e, a, c, hx⟩ := h p g h0 h1
  exact ⟨(x, p', g'), e, a, c, hx⟩
theorem Dr.of {α : Type} {b : List Int} {m : Nat → Int → Int → Option (α × Int × Int)} {R : α → Prop} (h : ∀ p g : Int, 0 ≤ p → p ≤ (b.length : Int) → Dw b (fun k => m k p g) (fun r => r.2.1) (fun r => R r.1)) : Dr b m R := fun p g h0 h1 => by
  obtain ⟨⟨x, p', g'⟩, e, a, c, hx⟩ := h p g h0 h1
  exact ⟨x, p', g', e, a, c, hx⟩
theorem Dw.bind {ρ σ : Type} {b : List Int} {m : Nat → Option ρ} {pos : ρ → Int} {R : ρ → Prop} {f : Nat → ρ → Option σ} {pos' : σ → Int} {R' : σ → Prop} (h : Dw b m pos R) (k : ∀ r, 0 ≤ pos r → pos r ≤ (b.length : Int) → R r → Dw b (fun n => f n r) pos' R') : Dw b (fun n => (m n).bind (f n)) pos' R' := by
  obtain ⟨r, e, a, c, hr⟩ := h
  obtain ⟨s, e', a', c', hs⟩ := k r a c hr
  exact ⟨s, Ev.bind e e', a', c', hs⟩
theorem Dw.yes {ρ : Type} {b : List Int} {c : Prop} [Decidable c] {m n : Nat → Option ρ} {pos : ρ → Int} {R : ρ → Prop} (hc : c) (h : Dw b m pos R) : Dw b (fun k => if c then m k else n k) pos R := by
  simp only [if_pos hc]
  exact h
theorem Dw.no {ρ : Type} {b : List Int} {c : Prop} [Decidable c] {m n : Nat → Option ρ} {pos : ρ → Int} {R : ρ → Prop} (hc : ¬ c) (h : Dw b n pos R) : Dw b (fun k => if c then m k else n k) pos R := by
  simp only [if_neg hc]
  exact h
theorem Dw.cond {ρ : Type} {b : List Int} {c : Prop} [Decidable c] {m n : Nat → Option ρ} {pos : ρ → Int} {R : ρ → Prop} (h : c → Dw b m pos R) (h' : ¬ c → Dw b n pos R) : Dw b (fun k => if c then m k else n k) pos R := by
  by_cases hc : c
  · exact Dw.yes hc (h hc)
  · exact Dw.no hc (h' hc)
theorem Dw.up {ρ : Type} {b : List Int} {m : Nat → Option ρ} {pos : ρ → Int} {R : ρ → Prop} (h : Dw b (fun k => m (k + 1)) pos R) : Dw b m pos R := by
  obtain ⟨r, e, a⟩ := h
  exact ⟨r, Ev.up e, a⟩

/-- The greatest High that somebody left with at a round; who left, with it; the certificate of it. -/
def topG (r : Int) (s : ByteArray) : List S84 → Int → Int
  | [], n => n
  | g :: gs, n => topG r s gs (if g.f0 = r ∧ g.f2 = s ∧ g.f1 > n then g.f1 else n)
def left (gones : List S84) (r : Int) (l : List S93) : List S93 := l.filter fun v => decide (topG r v.f0 gones (-1) ≥ 0)
/-- A tree's blocks: the place of an id, what is right at a place, and what a block comes behind. -/
def idIs (id : Int) (b : S68) : Bool := decide (b.f0 = id)
def idAt (l : List S68) (id : Int) : Int := idxOf (idIs id) l
def fitAt (l : List S68) (i : Nat) : Bool := blockOk (l.getD i z68) && (decide ((l.getD i z68).f1 = (l.getD 0 z68).f1) && (decide (i = 0) || decide ((l.getD (i - 1) z68).f0 < (l.getD i z68).f0)))
def behind (m l : List S68) (b : S68) : Bool := rootQ b.f4.f0 b.f4.f1 b.f4.f2 || (decide (0 ≤ idAt m b.f4.f1) && decide ((rd_T68 l (idAt m b.f4.f1)).f2 = b.f4.f0))
def treeAt (l : List S68) (i : Nat) : Bool := fitAt l i && behind (l.take i) l (l.getD i z68)
theorem inR_iff {n a b : Int} : inR n a b = true ↔ a ≤ n ∧ n ≤ b := by
  simp [inR]
section
variable {l : List S68} (T : allUpto l.length (treeAt l) = true)
end

/-- What the tests of a message ask of the lengths within it; what is right. -/
def msgFit (m : S86) : Prop := m.f1.size ≤ maxLen ∧ (m.f3.length ≤ maxLen ∧ ∀ b ∈ m.f3, blockFit b) ∧ m.f4.f2.size ≤ maxLen ∧ m.f5.f2.size ≤ maxLen ∧ (m.f6.f2.length ≤ maxLen ∧ ∀ s ∈ m.f6.f2, s.size ≤ maxLen) ∧ (m.f7.f1.length ≤ maxLen ∧ ∀ s ∈ m.f7.f1, s.size ≤ maxLen) ∧ m.f7.f2.length ≤ maxLen
def noSay (a b : Int) (s : ByteArray) : Bool := a == 0 && (b == 0 && (s.toList == ([] : List UInt8)))
def voteOk (r b : Int) (s : ByteArray) : Bool := inR r 1 10000 && (inR b 0 100000 && nameOk s)
def goneOk (r h : Int) (s : ByteArray) (q : Int) : Bool := inR r 1 10000 && (inR h 0 (wrap64 (r - 1)) && (decide (h = q) && nameOk s))
def blocksIn (l : List S68) (e : Int) : Bool := allUpto l.length (fun i => blockOk (rd_T68 l (i : Int)) && decide ((rd_T68 l (i : Int)).f1 = e))
def msgKind (m : S86) : Bool := if m.f0 = 1 then decide ((m.f3.length : Int) = 1) && (noSay m.f4.f0 m.f4.f1 m.f4.f2 && (noSay m.f5.f0 m.f5.f1 m.f5.f2 && (rootQ m.f6.f0 m.f6.f1 m.f6.f2 && noneT m.f7.f0 m.f7.f1 m.f7.f2))) else if m.f0 = 2 then decide ((m.f3.length : Int) = 0) && (voteOk m.f4.f0 m.f4.f1 m.f4.f2 && (noSay m.f5.f0 m.f5.f1 m.f5.f2 && (rootQ m.f6.f0 m.f6.f1 m.f6.f2 && noneT m.f7.f0 m.f7.f1 m.f7.f2))) else if m.f0 = 3 then decide ((m.f3.length : Int) = 0) && (noSay m.f4.f0 m.f4.f1 m.f4.f2 && (goneOk m.f5.f0 m.f5.f1 m.f5.f2 m.f6.f0 && noneT m.f7.f0 m.f7.f1 m.f7.f2)) else if m.f0 = 4 then noSay m.f4.f0 m.f4.f1 m.f4.f2 && noSay m.f5.f0 m.f5.f1 m.f5.f2 else false
def msgOk (m : S86) : Bool := nameOk m.f1 && (inR m.f2 0 900 && (qcForm m.f6.f0 m.f6.f1 m.f6.f2 10000 100000 && (tcForm m.f7.f0 m.f7.f1 m.f7.f2 10000 && ((blocksIn m.f3 m.f2 && decide ((m.f3.length : Int) ≤ 400)) && msgKind m))))
def msgMost (m : S86) : Int := if m.f0 = 1 then 1 else if m.f0 = 4 then 400 else 0
def mostB (m : S86) (n : Int) : Bool := decide ((m.f3.length : Int) ≤ n) && (if m.f0 = 1 then (m.f3.length : Int) == 1 else true)
def sVote (m : S86) : Bool := if m.f0 = 2 then voteOk m.f4.f0 m.f4.f1 m.f4.f2 else noSay m.f4.f0 m.f4.f1 m.f4.f2
def sGone (m : S86) : Bool := if m.f0 = 3 then goneOk m.f5.f0 m.f5.f1 m.f5.f2 m.f6.f0 else noSay m.f5.f0 m.f5.f1 m.f5.f2
def sCerts (m : S86) : Bool := (rootQ m.f6.f0 m.f6.f1 m.f6.f2 || ((decide (m.f0 = 4) || decide (m.f0 = 3)) && qcForm m.f6.f0 m.f6.f1 m.f6.f2 10000 100000)) && (noneT m.f7.f0 m.f7.f1 m.f7.f2 || (decide (m.f0 = 4) && tcForm m.f7.f0 m.f7.f1 m.f7.f2 10000))
def specMsg (m : S86) : Bool := nameOk m.f1 && (inR m.f2 0 900 && (inR m.f0 1 4 && ((blocksIn m.f3 m.f2 && mostB m (msgMost m)) && (sVote m && (sGone m && sCerts m)))))
theorem specMsg_eq (m : S86) : specMsg m = msgOk m := by
  have hl0 : (0 : Int) ≤ m.f3.length := Int.natCast_nonneg _
  have hq : qcForm m.f6.f0 m.f6.f1 m.f6.f2 10000 100000 = (rootQ m.f6.f0 m.f6.f1 m.f6.f2 || (inR m.f6.f0 1 10000 && (inR m.f6.f1 0 100000 && namesOk m.f6.f2))) := rfl
  have ht : tcForm m.f7.f0 m.f7.f1 m.f7.f2 10000 = (noneT m.f7.f0 m.f7.f1 m.f7.f2 || (highsOk m.f7.f0 m.f7.f2 && (inR m.f7.f0 1 10000 && (namesOk m.f7.f1 && ((m.f7.f2.length : Int) == (m.f7.f1.length : Int)))))) := rfl
  unfold specMsg msgOk sCerts
  rw [hq, ht]
  unfold sVote sGone msgKind mostB msgMost
  clear hq ht
  generalize (inR m.f6.f0 1 10000 && (inR m.f6.f1 0 100000 && namesOk m.f6.f2)) = Q
  generalize (highsOk m.f7.f0 m.f7.f2 && (inR m.f7.f0 1 10000 && (namesOk m.f7.f1 && ((m.f7.f2.length : Int) == (m.f7.f1.length : Int))))) = T
  generalize rootQ m.f6.f0 m.f6.f1 m.f6.f2 = R
  generalize noneT m.f7.f0 m.f7.f1 m.f7.f2 = T0
  generalize nameOk m.f1 = N
  generalize inR m.f2 0 900 = E
  generalize blocksIn m.f3 m.f2 = B
  generalize noSay m.f4.f0 m.f4.f1 m.f4.f2 = V
  generalize noSay m.f5.f0 m.f5.f1 m.f5.f2 = G
  generalize voteOk m.f4.f0 m.f4.f1 m.f4.f2 = VO
  generalize goneOk m.f5.f0 m.f5.f1 m.f5.f2 m.f6.f0 = GO
  generalize (m.f3.length : Int) = L at *
  by_cases h1 : m.f0 = 1
  · rw [h1]
    by_cases hL : L = 1
    · rw [hL]
      cases R <;> cases Q <;> cases T0 <;> cases T <;> simp [inR, Bool.and_assoc]
    · simp [inR, hL]
  by_cases h2 : m.f0 = 2
  · rw [h2]
    by_cases hL : L = 0
    · rw [hL]
      cases R <;> cases Q <;> cases T0 <;> cases T <;> simp [inR, Bool.and_assoc]
    · simp [inR, hL, show ¬ L ≤ 0 by omega]
  by_cases h3 : m.f0 = 3
  · rw [h3]
    by_cases hL : L = 0
    · rw [hL]
      cases R <;> cases Q <;> cases T0 <;> cases T <;> simp [inR, Bool.and_assoc]
    · simp [inR, hL, show ¬ L ≤ 0 by omega]
  by_cases h4 : m.f0 = 4
  · rw [h4]
    cases R <;> cases Q <;> cases T0 <;> cases T <;> simp [inR, Bool.and_assoc]
  · have hi : inR m.f0 1 4 = false := Bool.eq_false_iff.2 (fun h => by have := inR_iff.1 h; omega)
    rw [hi]
    simp [h1, h2, h3, h4]
theorem Ev.pand {P : Prop} [Decidable P] {f : Nat → Option Bool} {c : Bool} (h : Ev f c) : Ev (fun k => if P then f k else some false) (decide P && c) := Ev.cond (fun p => Ev.to h (by rw [decide_eq_true p, Bool.true_and])) (fun p => Ev.is (by rw [decide_eq_false p, Bool.false_and]))
theorem Ev.band {b : Bool} {f : Nat → Option Bool} {c : Bool} (h : Ev f c) : Ev (fun k => if b = true then f k else some false) (b && c) := Ev.cond (fun p => Ev.to h (by rw [p, Bool.true_and])) (fun p => Ev.is (by rw [Bool.eq_false_iff.2 p, Bool.false_and]))

end Go.Proofs.Ytieecjilnaijkaa.F
