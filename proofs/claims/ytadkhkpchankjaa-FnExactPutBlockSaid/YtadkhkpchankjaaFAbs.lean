/-
Plain words: what the functions come to.
Conditions: none.
-/
import Derived.Test.YtadkhkpchankjaaF0
set_option linter.unusedVariables false
set_option linter.unusedSimpArgs false
namespace Go.Proofs.Ytadkhkpchankjaa.F
open Go.RowKit Go.Proofs.YtadkhkpchankjaaW.PrintWords Go.Proofs.YtadkhkpchankjaaW.PrintLast Go.Proofs.Ytadkhkpchankjaa.Base Go.Proofs.Ytadkhkpchankjaa.BW
/-- The greatest of these, but n at least. -/
def high : List Int → Int → Int
  | [], n => n
  | x :: xs, n => high xs (if n < x then x else n)

/-- Whether a text is among these. -/
def has (s : ByteArray) (l : List ByteArray) : Bool := l.any fun x => decide (x = s)
theorem toList_eq {a b : ByteArray} : a.toList = b.toList ↔ a = b := by
  constructor
  · intro h
    have : a.data.toList = b.data.toList := by rw [ByteArray.toList_eq, ByteArray.toList_eq] at h; exact h
    cases a; cases b
    simp_all
  · rintro rfl
    rfl

/-- What those of them that are named weigh. -/
def weight (names : List ByteArray) : List S138 → Int → Int
  | [], n => n
  | v :: vs, n => weight names vs (if has v.f0 names then wrap64 (n + v.f1) else n)

/-- Whether n is from least to most. -/
def inR (n least most : Int) : Bool := decide (n ≥ least) && decide (n ≤ most)

/-- Bytes of texts, one ahead of the other. -/
def bless (a b : ByteArray) : Bool := Op.bytesLess a.toList b.toList
def nought : ByteArray := ByteArray.empty

def byteOk (b : Int) : Bool := inR b 97 122 || inR b 48 57
def nameOk (s : ByteArray) : Bool := allUpto s.size (fun i => byteOk (bt s i)) && inR s.size 1 8
def namesOk (l : List ByteArray) : Bool := allUpto l.length (okAt nameOk bless nought l) && decide ((l.length : Int) ≤ 20)

/-- Who votes: names that rise, each with a weight. -/
def valOk (v : S138) : Bool := nameOk v.f0 && inR v.f1 1 1000000
def valLess (a b : S138) : Bool := bless a.f0 b.f0
def setAt (l : List S138) (i : Nat) : Bool := okAt valOk valLess z138 l i
def setOk (l : List S138) : Bool := allUpto l.length (setAt l) && inR l.length 1 12
theorem setOk_no {l : List S138} {i : Nat} (hi : i < l.length) (h : setAt l i = false) : setOk l = false := by
  unfold setOk
  rw [allUpto_no hi h, Bool.false_and]
theorem setOk_end {l : List S138} (h : ∀ i, i < l.length → setAt l i = true) : setOk l = inR l.length 1 12 := by
  unfold setOk
  rw [allUpto_yes h, Bool.true_and]

def txOk (t : S186) : Bool := inR t.f0 1 3 && (nameOk t.f1 && (inR t.f3 1 1000000 && (inR t.f4 0 10000 && (if t.f0 = 1 then nameOk t.f2 else (t.f2.toList == ([] : List UInt8))))))
theorem inR_23 {n : Int} (h : ¬ n = 1) : inR n 1 3 = inR n 2 3 := by
  unfold inR
  by_cases h1 : n ≥ 1 <;> by_cases h2 : n ≥ 2 <;> simp [h1, h2] <;> omega

/-- The first place of which p holds; -1 without one. -/
def idxOf {α : Type} (p : α → Bool) : List α → Int
  | [] => -1
  | x :: xs => if p x then 0 else if idxOf p xs < 0 then -1 else idxOf p xs + 1
def named (s : ByteArray) (v : S138) : Bool := v.f0.toList == s.toList
def rootQ (r b : Int) (who : List ByteArray) : Bool := decide (r = 0) && (decide (b = -1) && ((who.length : Int) == 0))
def noneT (r : Int) (who : List ByteArray) (highs : List Int) : Bool := decide (r = 0) && (decide ((who.length : Int) = 0) && ((highs.length : Int) == 0))
def qcForm (r b : Int) (who : List ByteArray) (mr mb : Int) : Bool := rootQ r b who || (inR r 1 mr && (inR b 0 mb && namesOk who))
def highsOk (r : Int) (highs : List Int) : Bool := allUpto highs.length (fun i => inR (highs.getD i 0) 0 (wrap64 (r - 1)))
def tcForm (r : Int) (who : List ByteArray) (highs : List Int) (mr : Int) : Bool := noneT r who highs || (highsOk r highs && (inR r 1 mr && (namesOk who && ((highs.length : Int) == (who.length : Int)))))
/-- A draw out of b: whatever the place and the number, it yields what is so. -/
def Dr {α : Type} (b : List Int) (m : Nat → Int → Int → Option (α × Int × Int)) (R : α → Prop) : Prop :=
  ∀ p h, 0 ≤ p → p ≤ (b.length : Int) → ∃ x p' h', Ev (fun k => m k p h) (x, p', h') ∧ 0 ≤ p' ∧ p' ≤ (b.length : Int) ∧ R x
theorem Dr.mono {α : Type} {b : List Int} {m : Nat → Int → Int → Option (α × Int × Int)} {R R' : α → Prop} (h : Dr b m R) (k : ∀ x, R x → R' x) : Dr b m R' := fun p g h0 h1 => by
  obtain ⟨x, p', h', e, a, b, c⟩ := h p g h0 h1
  exact ⟨x, p', h', e, a, b, k x c⟩
theorem Dr.bind {α β : Type} {b : List Int} {m : Nat → Int → Int → Option (α × Int × Int)} {R : α → Prop} {R' : β → Prop} {f : Nat → α × Int × Int → Option (β × Int × Int)} (h : Dr b m R) (k : ∀ x, R x → Dr b (fun n p g => f n (x, p, g)) R') :
    Dr b (fun n p g => (m n p g).bind (f n)) R' := fun p g h0 h1 => by
  obtain ⟨x, p', g', e, a, c, hx⟩ := h p g h0 h1
  obtain ⟨y, p2, g2, e2, a2, c2, hy⟩ := k x hx p' g' a c
  exact ⟨y, p2, g2, Ev.bind e e2, a2, c2, hy⟩
theorem Dr.yes {α : Type} {b : List Int} {c : Prop} [Decidable c] {m n : Nat → Int → Int → Option (α × Int × Int)} {R : α → Prop} (hc : c) (h : Dr b m R) : Dr b (fun k p g => if c then m k p g else n k p g) R := by
  simp only [if_pos hc]
  exact h
theorem Dr.no {α : Type} {b : List Int} {c : Prop} [Decidable c] {m n : Nat → Int → Int → Option (α × Int × Int)} {R : α → Prop} (hc : ¬ c) (h : Dr b n R) : Dr b (fun k p g => if c then m k p g else n k p g) R := by
  simp only [if_neg hc]
  exact h
theorem Dr.cond {α : Type} {b : List Int} {c : Prop} [Decidable c] {m n : Nat → Int → Int → Option (α × Int × Int)} {R : α → Prop} (h : c → Dr b m R) (h' : ¬ c → Dr b n R) : Dr b (fun k p g => if c then m k p g else n k p g) R := by
  by_cases hc : c
  · exact Dr.yes hc (h hc)
  · exact Dr.no hc (h' hc)
theorem Dr.up {α : Type} {b : List Int} {m : Nat → Int → Int → Option (α × Int × Int)} {R : α → Prop} (h : Dr b (fun k => m (k + 1)) R) : Dr b m R := fun p g h0 h1 => by
  obtain ⟨x, p', h', e, r⟩ := h p g h0 h1
  exact ⟨x, p', h', Ev.up e, r⟩

/-- The names that are drawn. -/
def abc : List ByteArray := [⟨#[97]⟩, ⟨#[98]⟩, ⟨#[99]⟩, ⟨#[100]⟩, ⟨#[101]⟩]
/-- A drawn set: names in order, somebody, and small weights. -/
structure VSet (l : List S138) : Prop where
  sub : (l.map (·.f0)).Sublist abc
  some : 0 < l.length
  low : ∀ v ∈ l, 1 ≤ v.f1
  top : ∀ v ∈ l, v.f1 ≤ 30
theorem VSet.few {l : List S138} (h : VSet l) : l.length ≤ 5 := by
  have := h.sub.length_le
  simpa [abc] using this
/-- Whether a block's certificates let it follow. -/
def follows (b : S113) : Bool := (decide (b.f4.f0 = wrap64 (b.f2 - 1)) && noneT b.f5.f0 b.f5.f1 b.f5.f2) || (decide (b.f5.f0 = wrap64 (b.f2 - 1)) && (decide (b.f5.f0 > 0) && decide (b.f4.f0 ≥ high b.f5.f2 0)))

/-- What the tests of a block ask of the lengths within it. -/
def blockFit (b : S113) : Prop := b.f3.size ≤ maxLen ∧ (b.f4.f2.length ≤ maxLen ∧ ∀ s ∈ b.f4.f2, s.size ≤ maxLen) ∧ (b.f5.f1.length ≤ maxLen ∧ ∀ s ∈ b.f5.f1, s.size ≤ maxLen) ∧ b.f5.f2.length ≤ maxLen ∧ (b.f6.length ≤ maxLen ∧ ∀ t ∈ b.f6, t.f1.size ≤ maxLen ∧ t.f2.size ≤ maxLen) ∧ (b.f8.length ≤ maxLen ∧ ∀ v ∈ b.f8, v.f0.size ≤ maxLen)
instance (b : S113) : Decidable (blockFit b) := by
  unfold blockFit
  infer_instance
def blockOk (b : S113) : Bool := inR b.f0 0 100000 && (inR b.f1 0 900 && (inR b.f2 1 10000 && (nameOk b.f3 && (qcForm b.f4.f0 b.f4.f1 b.f4.f2 (wrap64 (b.f2 - 1)) (wrap64 (b.f0 - 1)) && (tcForm b.f5.f0 b.f5.f1 b.f5.f2 (wrap64 (b.f2 - 1)) && (!decide ((b.f6.length : Int) > 4) && (allUpto b.f6.length (fun i => txOk (rd_T186 b.f6 (i : Int))) && (if b.f7 = true then (setOk b.f8 && ((b.f9.size : Int) == 32)) else (decide ((b.f8.length : Int) = 0) && (b.f9.toList == ([] : List UInt8)))))))))))

/-- A draw at its place: it yields what is so, and a place within b. -/
def Dw {ρ : Type} (b : List Int) (m : Nat → Option ρ) (pos : ρ → Int) (R : ρ → Prop) : Prop := ∃ r, Ev m r ∧ 0 ≤ pos r ∧ pos r ≤ (b.length : Int) ∧ R r
theorem Dr.at {α : Type} {b : List Int} {m : Nat → Int → Int → Option (α × Int × Int)} {R : α → Prop} (h : Dr b m R) {p g : Int} (h0 : 0 ≤ p) (h1 : p ≤ (b.length : Int)) : Dw b (fun k => m k p g) (fun r => r.2.1) (fun r => R r.1) := by
  obtain ⟨x, p', g', e, a, c, hx⟩ := h p g h0 h1
  exact ⟨(x, p', g'), e, a, c, hx⟩
theorem Dr.of {α : Type} {b : List Int} {m : Nat → Int → Int → Option (α × Int × Int)} {R : α → Prop} (h : ∀ p g : Int, 0 ≤ p → p ≤ (b.length : Int) → Dw b (fun k => m k p g) (fun r => r.2.1) (fun r => R r.1)) : Dr b m R := fun p g h0 h1 => by
  obtain ⟨⟨x, p', g'⟩, e, a, c, hx⟩ := h p g h0 h1
  exact ⟨x, p', g', e, a, c, hx⟩
theorem Dw.bind {ρ σ : Type} {b : List Int} {m : Nat → Option ρ} {pos : ρ → Int} {R : ρ → Prop} {f : Nat → ρ → Option σ} {pos' : σ → Int} {R' : σ → Prop} (h : Dw b m pos R) (k : ∀ r, 0 ≤ pos r → pos r ≤ (b.length : Int) → R r → Dw b (fun n => f n r) pos' R') : Dw b (fun n => (m n).bind (f n)) pos' R' := by
  obtain ⟨r, e, a, c, hr⟩ := h
  obtain ⟨s, e', a', c', hs⟩ := k r a c hr
  exact ⟨s, Ev.bind e e', a', c', hs⟩
theorem Dw.yes {ρ : Type} {b : List Int} {c : Prop} [Decidable c] {m n : Nat → Option ρ} {pos : ρ → Int} {R : ρ → Prop} (hc : c) (h : Dw b m pos R) : Dw b (fun k => if c then m k else n k) pos R := by
  simp only [if_pos hc]
  exact h
theorem Dw.no {ρ : Type} {b : List Int} {c : Prop} [Decidable c] {m n : Nat → Option ρ} {pos : ρ → Int} {R : ρ → Prop} (hc : ¬ c) (h : Dw b n pos R) : Dw b (fun k => if c then m k else n k) pos R := by
  simp only [if_neg hc]
  exact h
theorem Dw.cond {ρ : Type} {b : List Int} {c : Prop} [Decidable c] {m n : Nat → Option ρ} {pos : ρ → Int} {R : ρ → Prop} (h : c → Dw b m pos R) (h' : ¬ c → Dw b n pos R) : Dw b (fun k => if c then m k else n k) pos R := by
  by_cases hc : c
  · exact Dw.yes hc (h hc)
  · exact Dw.no hc (h' hc)
theorem Dw.up {ρ : Type} {b : List Int} {m : Nat → Option ρ} {pos : ρ → Int} {R : ρ → Prop} (h : Dw b (fun k => m (k + 1)) pos R) : Dw b m pos R := by
  obtain ⟨r, e, a⟩ := h
  exact ⟨r, Ev.up e, a⟩

def picked (a : S43) : Bool := decide (a.f3 ≥ 5)
theorem abc_size : ∀ x ∈ abc, x.size ≤ 9 := by decide

theorem VSet.small {l : List S138} (h : VSet l) : ∀ v ∈ l, v.f0.size ≤ 9 := fun v hv => abc_size _ (h.sub.subset (List.mem_map.2 ⟨v, hv, rfl⟩))

/-- The greatest High that somebody left with at a round; who left, with it; the certificate of it. -/
def topG (r : Int) (s : ByteArray) : List S64 → Int → Int
  | [], n => n
  | g :: gs, n => topG r s gs (if g.f0 = r ∧ g.f2 = s ∧ g.f1 > n then g.f1 else n)
def left (gones : List S64) (r : Int) (l : List S138) : List S138 := l.filter fun v => decide (topG r v.f0 gones (-1) ≥ 0)
/-- A tree's blocks: the place of an id, what is right at a place, and what a block comes behind. -/
def idIs (id : Int) (b : S113) : Bool := decide (b.f0 = id)
def idAt (l : List S113) (id : Int) : Int := idxOf (idIs id) l
def fitAt (l : List S113) (i : Nat) : Bool := blockOk (l.getD i z113) && (decide ((l.getD i z113).f1 = (l.getD 0 z113).f1) && (decide (i = 0) || decide ((l.getD (i - 1) z113).f0 < (l.getD i z113).f0)))
def behind (m l : List S113) (b : S113) : Bool := rootQ b.f4.f0 b.f4.f1 b.f4.f2 || (decide (0 ≤ idAt m b.f4.f1) && decide ((rd_T113 l (idAt m b.f4.f1)).f2 = b.f4.f0))
def treeAt (l : List S113) (i : Nat) : Bool := fitAt l i && behind (l.take i) l (l.getD i z113)
section
variable {l : List S113} (T : allUpto l.length (treeAt l) = true)
end

/-- A number as it is kept, zigzag, and its bytes; what is put of texts, orders, blocks. -/
def clampN (n : Int) : Int := if n > 1000000000 then 1000000000 else if n < -1000000000 then -1000000000 else n
def zigC (c : Int) : Int := if c < 0 then -2 * c - 1 else 2 * c
def byteN (m : Int) : Int := (Go.bits .or .i64 (Go.bits .and .i64 m 127) 128) % 256
def grpN : Nat → Int → List Int
  | 0, m => [m % 256]
  | d + 1, m => if m > 127 then byteN m :: grpN d (m / 128) else [m % 256]
def pNum (n : Int) : List Int := grpN 4 (zigC (clampN n))
def pText (s : ByteArray) : List Int := pNum (s.size : Int) ++ bytesOf s
def pNames (l : List ByteArray) : List Int := pNum (l.length : Int) ++ l.flatMap pText
def pTx (t : S186) : List Int := pNum t.f0 ++ (pText t.f1 ++ (pText t.f2 ++ (pNum t.f3 ++ pNum t.f4)))
def pVal (v : S138) : List Int := pText v.f0 ++ pNum v.f1
def pQc (r b : Int) (who : List ByteArray) : List Int := pNum r ++ (pNum b ++ pNames who)
def pTc (r : Int) (who : List ByteArray) (highs : List Int) : List Int := pNum r ++ (pNames who ++ highs.flatMap pNum)
def endN (e : Bool) : Int := if e = true then 1 else 0
def pBlock (b : S113) : List Int := pNum b.f0 ++ (pNum b.f1 ++ (pNum b.f2 ++ (pText b.f3 ++ (pQc b.f4.f0 b.f4.f1 b.f4.f2 ++ (pTc b.f5.f0 b.f5.f1 b.f5.f2 ++ (pNum (b.f6.length : Int) ++ (b.f6.flatMap pTx ++ (pNum (endN b.f7) ++ (pNum (b.f8.length : Int) ++ (b.f8.flatMap pVal ++ pText b.f9))))))))))
def bdN : Nat → Int
  | 0 => 128
  | d + 1 => 128 * bdN d
theorem bits_or_comm (a b : Int) : Go.bits .or .i64 a b = Go.bits .or .i64 b a := by
  unfold Go.bits
  simp only [BitVec.or_comm]
theorem empty_size {s : ByteArray} (h : s.toList = ([] : List UInt8)) : s.size = 0 := by
  have h0 : (ByteArray.empty).toList = ([] : List UInt8) := by simp
  rw [toList_eq.1 (h.trans h0.symm)]
  rfl
theorem grpN_len : ∀ (d : Nat) (m : Int), (grpN d m).length ≤ d + 1
  | 0, m => by simp [grpN]
  | d + 1, m => by
    unfold grpN
    split
    · have := grpN_len d (m / 128)
      simp only [List.length_cons]
      omega
    · simp
theorem pNum_len (n : Int) : (pNum n).length ≤ 5 := grpN_len 4 _
theorem clampN_range (n : Int) : -1000000000 ≤ clampN n ∧ clampN n ≤ 1000000000 := by
  unfold clampN
  split
  · omega
  · split <;> omega
theorem pText_len {s : ByteArray} {c : Nat} (h : s.size ≤ c) : (pText s).length ≤ 5 + c := by
  have := pNum_len (s.size : Int)
  unfold pText
  rw [List.length_append, bytesOf_length]
  omega
theorem flat_len {α : Type} {P : α → List Int} {c : Nat} : ∀ {l : List α}, (∀ x ∈ l, (P x).length ≤ c) → (l.flatMap P).length ≤ c * l.length
  | [], _ => by simp
  | x :: xs, h => by
    have h1 := h x List.mem_cons_self
    have h2 := flat_len (l := xs) (fun y hy => h y (List.mem_cons_of_mem _ hy))
    rw [List.flatMap_cons, List.length_append, List.length_cons, Nat.mul_succ]
    omega
theorem nameOk_size {s : ByteArray} (h : nameOk s = true) : s.size ≤ 8 := by
  unfold nameOk at h
  simp only [Bool.and_eq_true] at h
  have h2 := h.2
  unfold inR at h2
  simp only [Bool.and_eq_true, decide_eq_true_eq] at h2
  omega
theorem inR_le {x a b : Int} (h : inR x a b = true) : a ≤ x ∧ x ≤ b := by
  unfold inR at h
  simpa only [Bool.and_eq_true, decide_eq_true_eq] using h
theorem namesOk_names {l : List ByteArray} (h : namesOk l = true) : (l.length : Int) ≤ 20 ∧ ∀ s ∈ l, s.size ≤ 8 := by
  unfold namesOk at h
  rw [Bool.and_eq_true] at h
  refine ⟨of_decide_eq_true h.2, fun s hs => ?_⟩
  obtain ⟨i, hi, rfl⟩ := List.mem_iff_getElem.1 hs
  have hq := allUpto_iff.1 h.1 i hi
  unfold okAt at hq
  rw [Bool.and_eq_true] at hq
  have hn := hq.1
  rw [List.getD_eq_getElem?_getD, List.getElem?_eq_getElem hi] at hn
  exact nameOk_size hn
theorem pNames_len {l : List ByteArray} (h : (l.length : Int) ≤ 20) (h' : ∀ s ∈ l, s.size ≤ 8) : (pNames l).length ≤ 265 := by
  have h1 := pNum_len (l.length : Int)
  have h2 := flat_len (P := pText) (c := 13) (l := l) (fun s hs => pText_len (h' s hs))
  unfold pNames
  rw [List.length_append]
  omega
theorem txOk_len {t : S186} (h : txOk t = true) : (pTx t).length ≤ 41 := by
  unfold txOk at h
  simp only [Bool.and_eq_true] at h
  obtain ⟨_, h1, _, _, h2⟩ := h
  have a := nameOk_size h1
  have b : t.f2.size ≤ 8 := by
    split at h2
    · exact nameOk_size h2
    · rw [empty_size (beq_iff_eq.1 h2)]
      exact Nat.zero_le _
  have n0 := pNum_len t.f0
  have n3 := pNum_len t.f3
  have n4 := pNum_len t.f4
  have p1 := pText_len a
  have p2 := pText_len b
  unfold pTx
  simp only [List.length_append]
  omega
theorem setOk_vals {l : List S138} (h : setOk l = true) : (l.length : Int) ≤ 12 ∧ ∀ v ∈ l, (pVal v).length ≤ 18 := by
  unfold setOk at h
  rw [Bool.and_eq_true] at h
  refine ⟨(inR_le h.2).2, fun v hv => ?_⟩
  obtain ⟨i, hi, rfl⟩ := List.mem_iff_getElem.1 hv
  have hq := allUpto_iff.1 h.1 i hi
  unfold setAt okAt at hq
  rw [Bool.and_eq_true] at hq
  have hn := hq.1
  rw [List.getD_eq_getElem?_getD, List.getElem?_eq_getElem hi] at hn
  have hn' : valOk l[i] = true := hn
  unfold valOk at hn'
  rw [Bool.and_eq_true] at hn'
  have p := pText_len (nameOk_size hn'.1)
  have q := pNum_len (l[i]).f1
  unfold pVal
  rw [List.length_append]
  omega
theorem blockOk_len {b : S113} (h : blockOk b = true) : (pQc b.f4.f0 b.f4.f1 b.f4.f2).length ≤ 275 ∧ (pTc b.f5.f0 b.f5.f1 b.f5.f2).length ≤ 370 ∧ (pText b.f3).length ≤ 13 ∧ (b.f6.flatMap pTx).length ≤ 164 ∧ (b.f8.flatMap pVal).length ≤ 216 ∧ (pText b.f9).length ≤ 37 ∧ b.f4.f2.length ≤ 20 ∧ b.f5.f1.length ≤ 20 ∧ b.f5.f2.length ≤ 20 ∧ b.f6.length ≤ 4 ∧ b.f8.length ≤ 12 := by
  unfold blockOk at h
  simp only [Bool.and_eq_true] at h
  obtain ⟨_, _, _, h3, h4, h5, h6, h7, h8⟩ := h
  have a3 := pText_len (nameOk_size h3)
  have q : (b.f4.f2.length : Int) ≤ 20 ∧ ∀ s ∈ b.f4.f2, s.size ≤ 8 := by
    unfold qcForm at h4
    rw [Bool.or_eq_true] at h4
    rcases h4 with h4 | h4
    · unfold rootQ at h4
      simp only [Bool.and_eq_true, decide_eq_true_eq, beq_iff_eq] at h4
      have hz : b.f4.f2 = [] := List.eq_nil_of_length_eq_zero (by omega)
      refine ⟨by rw [hz]; decide, fun s hs => ?_⟩
      rw [hz] at hs
      cases hs
    · simp only [Bool.and_eq_true] at h4
      exact namesOk_names h4.2.2
  have t : ((b.f5.f1.length : Int) ≤ 20 ∧ ∀ s ∈ b.f5.f1, s.size ≤ 8) ∧ (b.f5.f2.length : Int) ≤ 20 := by
    unfold tcForm at h5
    rw [Bool.or_eq_true] at h5
    rcases h5 with h5 | h5
    · unfold noneT at h5
      simp only [Bool.and_eq_true, decide_eq_true_eq, beq_iff_eq] at h5
      have hz : b.f5.f1 = [] := List.eq_nil_of_length_eq_zero (by omega)
      refine ⟨⟨by rw [hz]; decide, fun s hs => ?_⟩, by omega⟩
      rw [hz] at hs
      cases hs
    · simp only [Bool.and_eq_true, beq_iff_eq] at h5
      have := namesOk_names h5.2.2.1
      exact ⟨this, by rw [h5.2.2.2]; exact this.1⟩
  have x4 : (b.f6.length : Int) ≤ 4 := by
    rw [Bool.not_eq_true', decide_eq_false_iff_not] at h6
    omega
  have x := flat_len (P := pTx) (c := 41) (l := b.f6) (fun y hy => by
    obtain ⟨i, hi, rfl⟩ := List.mem_iff_getElem.1 hy
    have hq := allUpto_iff.1 h7 i hi
    have hr : rd_T186 b.f6 (i : Int) = b.f6[i] := by
      show b.f6.getD i z186 = _
      rw [List.getD_eq_getElem?_getD, List.getElem?_eq_getElem hi]
      rfl
    rw [hr] at hq
    exact txOk_len hq)
  have v : (b.f8.length : Int) ≤ 12 ∧ (∀ v ∈ b.f8, (pVal v).length ≤ 18) ∧ b.f9.size ≤ 32 := by
    split at h8
    · simp only [Bool.and_eq_true, beq_iff_eq] at h8
      have := setOk_vals h8.1
      exact ⟨this.1, this.2, by omega⟩
    · simp only [Bool.and_eq_true, decide_eq_true_eq, beq_iff_eq] at h8
      have hz : b.f8 = [] := List.eq_nil_of_length_eq_zero (by omega)
      refine ⟨by rw [hz]; decide, fun v hv => ?_, by rw [empty_size h8.2]; exact Nat.zero_le _⟩
      rw [hz] at hv
      cases hv
  have w := flat_len (P := pVal) (c := 18) (l := b.f8) v.2.1
  have p9 := pText_len v.2.2
  have nq := pNames_len q.1 q.2
  have nt := pNames_len t.1.1 t.1.2
  have nh := flat_len (P := pNum) (c := 5) (l := b.f5.f2) (fun y _ => pNum_len y)
  have a := pNum_len b.f4.f0
  have a' := pNum_len b.f4.f1
  have a'' := pNum_len b.f5.f0
  refine ⟨?_, ?_, a3, by omega, by omega, p9, by omega, by omega, by omega, by omega, by omega⟩
  · unfold pQc
    simp only [List.length_append]
    omega
  · unfold pTc
    simp only [List.length_append]
    omega
/-- A loop that puts something behind for each of a list, and goes on. -/
theorem ev_app {α ρ : Type} {xs : List α} (P : α → List Int) (l : Nat → List Int → Int → Option ρ) (r : ρ) (out : List Int) (h0 : Ev (fun k => l (k + 1) (out ++ xs.flatMap P) (xs.length : Int)) r)
    (h1 : ∀ pre y ys o, xs = pre ++ y :: ys → out ++ xs.flatMap P = o ++ (P y ++ ys.flatMap P) → Ev (fun k => l k (o ++ P y) ((pre.length : Int) + 1)) r → Ev (fun k => l (k + 1) o (pre.length : Int)) r) : Ev (fun k => l k out 0) r := by
  have key : ∀ (ys pre : List α), xs = pre ++ ys → Ev (fun k => l k (out ++ pre.flatMap P) (pre.length : Int)) r := by
    intro ys
    induction ys with
    | nil =>
      intro pre hx
      have : pre = xs := by rw [hx, List.append_nil]
      subst this
      exact Ev.up h0
    | cons y ys ih =>
      intro pre hx
      refine Ev.up (h1 pre y ys _ hx (by rw [hx, List.flatMap_append, List.flatMap_cons]; simp only [List.append_assoc]) ?_)
      have := ih (pre ++ [y]) (by rw [hx]; simp)
      simpa using this
  simpa using key xs [] rfl

end Go.Proofs.Ytadkhkpchankjaa.F
