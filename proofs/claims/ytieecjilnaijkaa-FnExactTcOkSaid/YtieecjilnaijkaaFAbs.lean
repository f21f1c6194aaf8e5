/-
Plain words: what the functions come to.
Conditions: none.
-/
import Derived.Test.YtieecjilnaijkaaF0
set_option linter.unusedVariables false
set_option linter.unusedSimpArgs false
namespace Go.Proofs.Ytieecjilnaijkaa.F
open Go.RowKit Go.Proofs.YtieecjilnaijkaaW.PrintWords Go.Proofs.YtieecjilnaijkaaW.PrintLast Go.Proofs.YtieecjilnaijkaaW.PrintMore Go.Proofs.Ytieecjilnaijkaa.Base Go.Proofs.Ytieecjilnaijkaa.BW
/-- The sum of the weights, as the program adds them. -/
def total : List S93 → Int → Int
  | [], n => n
  | v :: vs, n => total vs (wrap64 (n + v.f1))

/-- The greatest of these, but n at least. -/
def high : List Int → Int → Int
  | [], n => n
  | x :: xs, n => high xs (if n < x then x else n)

/-- Whether a text is among these. -/
def has (s : ByteArray) (l : List ByteArray) : Bool := l.any fun x => decide (x = s)
theorem toList_eq {a b : ByteArray} : a.toList = b.toList ↔ a = b := by
  constructor
  · intro h
    have : a.data.toList = b.data.toList := by rw [ByteArray.toList_eq, ByteArray.toList_eq] at h; exact h
    cases a; cases b
    simp_all
  · rintro rfl
    rfl

/-- What those of them that are named weigh. -/
def weight (names : List ByteArray) : List S93 → Int → Int
  | [], n => n
  | v :: vs, n => weight names vs (if has v.f0 names then wrap64 (n + v.f1) else n)

def quorum (l : List S93) (names : List ByteArray) : Bool := decide (wrap64 (3 * weight names l 0) > wrap64 (2 * total l 0))

/-- Whether n is from least to most. -/
def inR (n least most : Int) : Bool := decide (n ≥ least) && decide (n ≤ most)

/-- Bytes of texts, one ahead of the other. -/
def bless (a b : ByteArray) : Bool := Op.bytesLess a.toList b.toList
def nought : ByteArray := ByteArray.empty

def byteOk (b : Int) : Bool := inR b 97 122 || inR b 48 57
def nameOk (s : ByteArray) : Bool := allUpto s.size (fun i => byteOk (bt s i)) && inR s.size 1 8
def namesOk (l : List ByteArray) : Bool := allUpto l.length (okAt nameOk bless nought l) && decide ((l.length : Int) ≤ 20)

/-- Who votes: names that rise, each with a weight. -/
def valOk (v : S93) : Bool := nameOk v.f0 && inR v.f1 1 1000000
def valLess (a b : S93) : Bool := bless a.f0 b.f0
def setAt (l : List S93) (i : Nat) : Bool := okAt valOk valLess z93 l i
def setOk (l : List S93) : Bool := allUpto l.length (setAt l) && inR l.length 1 12
theorem setOk_no {l : List S93} {i : Nat} (hi : i < l.length) (h : setAt l i = false) : setOk l = false := by
  unfold setOk
  rw [allUpto_no hi h, Bool.false_and]
theorem setOk_end {l : List S93} (h : ∀ i, i < l.length → setAt l i = true) : setOk l = inR l.length 1 12 := by
  unfold setOk
  rw [allUpto_yes h, Bool.true_and]

def txOk (t : S106) : Bool := inR t.f0 1 3 && (nameOk t.f1 && (inR t.f3 1 1000000 && (inR t.f4 0 10000 && (if t.f0 = 1 then nameOk t.f2 else (t.f2.toList == ([] : List UInt8))))))
def txLess (a b : S106) : Bool := if a.f1.toList = b.f1.toList then (if a.f4 = b.f4 then (if a.f0 = b.f0 then (if a.f2.toList = b.f2.toList then decide (a.f3 < b.f3) else bless a.f2 b.f2) else decide (a.f0 < b.f0)) else decide (a.f4 < b.f4)) else bless a.f1 b.f1
def poolOk (l : List S106) : Bool := allUpto l.length (okAt txOk txLess z106 l) && decide ((l.length : Int) ≤ 20)
def cmpI (a b : Int) : Int := if a < b then -1 else if a > b then 1 else 0
def cmpS (a b : ByteArray) : Int := if bless a b = true then -1 else if bless b a = true then 1 else 0
def orI : List Int → Int
  | [] => 0
  | x :: xs => if x = 0 then orI xs else x
theorem bless_irrefl (a : ByteArray) : bless a a = false := Str.less_irrefl _
theorem bless_of {a b : ByteArray} (h : a.toList = b.toList) : bless a b = false := by
  unfold bless
  rw [h]
  exact Str.less_irrefl _
theorem bless_or {a b : ByteArray} (h : bless a b = false) (h' : ¬ a.toList = b.toList) : bless b a = true := by
  have := Str.less_total a.toList b.toList
  unfold bless at h
  rw [h, Bool.false_or, beq_eq_false_iff_ne.2 h'] at this
  unfold bless
  cases hb : Op.bytesLess b.toList a.toList
  · rw [hb] at this; cases this
  · rfl
theorem cmpS_zero {a b : ByteArray} (h : a.toList = b.toList) : cmpS a b = 0 := by
  unfold cmpS
  rw [bless_of h, bless_of h.symm]
  rfl
theorem cmpS_ne {a b : ByteArray} (h : ¬ a.toList = b.toList) : cmpS a b ≠ 0 ∧ decide (cmpS a b < 0) = bless a b := by
  unfold cmpS
  cases hb : bless a b
  · rw [bless_or hb h]
    simp
  · simp
theorem cmpI_zero {a b : Int} (h : a = b) : cmpI a b = 0 := by
  unfold cmpI
  rw [if_neg (by omega), if_neg (by omega)]
theorem cmpI_ne {a b : Int} (h : ¬ a = b) : cmpI a b ≠ 0 ∧ decide (cmpI a b < 0) = decide (a < b) := by
  unfold cmpI
  by_cases h1 : a < b
  · rw [if_pos h1]
    simp [h1]
  · rw [if_neg h1, if_pos (by omega)]
    simp [h1]
theorem txLess_or (a b : S106) : decide (orI [cmpS a.f1 b.f1, cmpI a.f4 b.f4, cmpI a.f0 b.f0, cmpS a.f2 b.f2, cmpI a.f3 b.f3] < 0) = txLess a b := by
  unfold txLess
  by_cases h1 : a.f1.toList = b.f1.toList
  · rw [if_pos h1]
    simp only [orI, cmpS_zero h1, if_true]
    by_cases h2 : a.f4 = b.f4
    · rw [if_pos h2]
      simp only [cmpI_zero h2, if_true]
      by_cases h3 : a.f0 = b.f0
      · rw [if_pos h3]
        simp only [cmpI_zero h3, if_true]
        by_cases h4 : a.f2.toList = b.f2.toList
        · rw [if_pos h4]
          simp only [cmpS_zero h4, if_true]
          by_cases h5 : a.f3 = b.f3
          · rw [cmpI_zero h5, if_pos rfl, h5]
            simp
          · simp only [if_neg (cmpI_ne h5).1]
            exact (cmpI_ne h5).2
        · rw [if_neg h4]
          simp only [if_neg (cmpS_ne h4).1]
          exact (cmpS_ne h4).2
      · rw [if_neg h3]
        simp only [if_neg (cmpI_ne h3).1]
        exact (cmpI_ne h3).2
    · rw [if_neg h2]
      simp only [if_neg (cmpI_ne h2).1]
      exact (cmpI_ne h2).2
  · rw [if_neg h1]
    simp only [orI, if_neg (cmpS_ne h1).1]
    exact (cmpS_ne h1).2
theorem inR_23 {n : Int} (h : ¬ n = 1) : inR n 1 3 = inR n 2 3 := by
  unfold inR
  by_cases h1 : n ≥ 1 <;> by_cases h2 : n ≥ 2 <;> simp [h1, h2] <;> omega

/-- The first place of which p holds; -1 without one. -/
def idxOf {α : Type} (p : α → Bool) : List α → Int
  | [] => -1
  | x :: xs => if p x then 0 else if idxOf p xs < 0 then -1 else idxOf p xs + 1
theorem idxOf_ge {α : Type} (p : α → Bool) : ∀ l : List α, -1 ≤ idxOf p l ∧ (decide (idxOf p l ≥ 0) = l.any p)
  | [] => ⟨Int.le_refl _, rfl⟩
  | x :: xs => by
    have ih := idxOf_ge p xs
    unfold idxOf
    cases hp : p x
    · simp only [Bool.false_eq_true, if_false]
      split
      · rename_i h
        have h2 : xs.any p = false := by rw [← ih.2]; exact decide_eq_false (by omega)
        simp [hp, h2]
      · rename_i h
        have h2 : xs.any p = true := by rw [← ih.2]; exact decide_eq_true (by omega)
        refine ⟨by omega, ?_⟩
        simp [hp, h2]
        omega
    · simp [hp]
theorem idxOf_hit {α : Type} {p : α → Bool} {z : α} : ∀ {l : List α} {i : Nat}, i < l.length → p (l.getD i z) = true → (∀ j, j < i → p (l.getD j z) = false) → idxOf p l = i
  | [], i, h, _, _ => absurd h (by simp)
  | x :: xs, 0, _, hp, _ => by
    have : p x = true := hp
    simp [idxOf, this]
  | x :: xs, i + 1, h, hp, hn => by
    have hx : p x = false := hn 0 (by omega)
    have := idxOf_hit (l := xs) (i := i) (z := z) (by simpa using h) (by simpa using hp) (fun j hj => by simpa using hn (j + 1) (by omega))
    simp [idxOf, hx, this]
    omega
theorem idxOf_miss {α : Type} {p : α → Bool} {z : α} : ∀ {l : List α}, (∀ j, j < l.length → p (l.getD j z) = false) → idxOf p l = -1
  | [], _ => rfl
  | x :: xs, hn => by
    have hx : p x = false := hn 0 (by simp)
    have := idxOf_miss (l := xs) (z := z) (fun j hj => by simpa using hn (j + 1) (by simpa using hj))
    simp [idxOf, hx, this]
def named (s : ByteArray) (v : S93) : Bool := v.f0.toList == s.toList
def isInB (l : List S93) (s : ByteArray) : Bool := l.any (named s)
def allInB (l : List S93) (names : List ByteArray) : Bool := allUpto names.length (fun i => isInB l (names.getD i nought))
def rootQ (r b : Int) (who : List ByteArray) : Bool := decide (r = 0) && (decide (b = -1) && ((who.length : Int) == 0))
def noneT (r : Int) (who : List ByteArray) (highs : List Int) : Bool := decide (r = 0) && (decide ((who.length : Int) = 0) && ((highs.length : Int) == 0))
def qcForm (r b : Int) (who : List ByteArray) (mr mb : Int) : Bool := rootQ r b who || (inR r 1 mr && (inR b 0 mb && namesOk who))
def highsOk (r : Int) (highs : List Int) : Bool := allUpto highs.length (fun i => inR (highs.getD i 0) 0 (wrap64 (r - 1)))
def tcForm (r : Int) (who : List ByteArray) (highs : List Int) (mr : Int) : Bool := noneT r who highs || (highsOk r highs && (inR r 1 mr && (namesOk who && ((highs.length : Int) == (who.length : Int)))))
def qcOk (l : List S93) (r b : Int) (who : List ByteArray) : Bool := rootQ r b who || (qcForm r b who 10000 100000 && (quorum l who && allInB l who))
def tcOk (l : List S93) (r : Int) (who : List ByteArray) (highs : List Int) : Bool := noneT r who highs || (tcForm r who highs 10000 && (quorum l who && allInB l who))

end Go.Proofs.Ytieecjilnaijkaa.F
