/-
Plain words: what the functions come to.
Conditions: none.
-/
import Derived.Test.YtieecjilnaijkaaF0
set_option linter.unusedVariables false
set_option linter.unusedSimpArgs false
namespace Go.Proofs.Ytieecjilnaijkaa.F
open Go.RowKit Go.Proofs.YtieecjilnaijkaaW.PrintWords Go.Proofs.YtieecjilnaijkaaW.PrintLast Go.Proofs.YtieecjilnaijkaaW.PrintMore Go.Proofs.Ytieecjilnaijkaa.Base Go.Proofs.Ytieecjilnaijkaa.BW
/-- The sum of the weights, as the program adds them. -/
def total : List S93 → Int → Int
  | [], n => n
  | v :: vs, n => total vs (wrap64 (n + v.f1))

/-- The greatest of these, but n at least. -/
def high : List Int → Int → Int
  | [], n => n
  | x :: xs, n => high xs (if n < x then x else n)

/-- Whether a text is among these. -/
def has (s : ByteArray) (l : List ByteArray) : Bool := l.any fun x => decide (x = s)
theorem toList_eq {a b : ByteArray} : a.toList = b.toList ↔ a = b := by
  constructor
  · intro h
    have : a.data.toList = b.data.toList := by rw [ByteArray.toList_eq, ByteArray.toList_eq] at h; exact h
    cases a; cases b
    simp_all
  · rintro rfl
    rfl

/-- What those of them that are named weigh. -/
def weight (names : List ByteArray) : List S93 → Int → Int
  | [], n => n
  | v :: vs, n => weight names vs (if has v.f0 names then wrap64 (n + v.f1) else n)

def quorum (l : List S93) (names : List ByteArray) : Bool := decide (wrap64 (3 * weight names l 0) > wrap64 (2 * total l 0))

/-- Whether n is from least to most. -/
def inR (n least most : Int) : Bool := decide (n ≥ least) && decide (n ≤ most)

/-- Bytes of texts, one ahead of the other. -/
def bless (a b : ByteArray) : Bool := Op.bytesLess a.toList b.toList
def nought : ByteArray := ByteArray.empty

def byteOk (b : Int) : Bool := inR b 97 122 || inR b 48 57
def nameOk (s : ByteArray) : Bool := allUpto s.size (fun i => byteOk (bt s i)) && inR s.size 1 8
def namesOk (l : List ByteArray) : Bool := allUpto l.length (okAt nameOk bless nought l) && decide ((l.length : Int) ≤ 20)

/-- Who votes: names that rise, each with a weight. -/
def valOk (v : S93) : Bool := nameOk v.f0 && inR v.f1 1 1000000
def valLess (a b : S93) : Bool := bless a.f0 b.f0
def setAt (l : List S93) (i : Nat) : Bool := okAt valOk valLess z93 l i
def setOk (l : List S93) : Bool := allUpto l.length (setAt l) && inR l.length 1 12
theorem setOk_no {l : List S93} {i : Nat} (hi : i < l.length) (h : setAt l i = false) : setOk l = false := by
  unfold setOk
  rw [allUpto_no hi h, Bool.false_and]
theorem setOk_end {l : List S93} (h : ∀ i, i < l.length → setAt l i = true) : setOk l = inR l.length 1 12 := by
  unfold setOk
  rw [allUpto_yes h, Bool.true_and]

end Go.Proofs.Ytieecjilnaijkaa.F
