/-
Plain words: what the functions come to.
Conditions: none.
-/
import Derived.Test.YtieecjilnaijkaaF0
set_option linter.unusedVariables false
set_option linter.unusedSimpArgs false
namespace Go.Proofs.Ytieecjilnaijkaa.F
open Go.RowKit Go.Proofs.YtieecjilnaijkaaW.PrintWords Go.Proofs.YtieecjilnaijkaaW.PrintLast Go.Proofs.Ytieecjilnaijkaa.Base Go.Proofs.Ytieecjilnaijkaa.BW
/-- The sum of the weights, as the program adds them. -/
def total : List S93 → Int → Int
  | [], n => n
  | v :: vs, n => total vs (wrap64 (n + v.f1))

/-- The greatest of these, but n at least. -/
def high : List Int → Int → Int
  | [], n => n
  | x :: xs, n => high xs (if n < x then x else n)

/-- Whether a text is among these. -/
def has (s : ByteArray) (l : List ByteArray) : Bool := l.any fun x => decide (x = s)
theorem toList_eq {a b : ByteArray} : a.toList = b.toList ↔ a = b := by
  constructor
  · intro h
    have : a.data.toList = b.data.toList := by rw [ByteArray.toList_eq, ByteArray.toList_eq] at h; exact h
    cases a; cases b
    simp_all
  · rintro rfl
    rfl

/-- What those of them that are named weigh. -/
def weight (names : List ByteArray) : List S93 → Int → Int
  | [], n => n
  | v :: vs, n => weight names vs (if has v.f0 names then wrap64 (n + v.f1) else n)

def quorum (l : List S93) (names : List ByteArray) : Bool := decide (wrap64 (3 * weight names l 0) > wrap64 (2 * total l 0))

/-- Whether n is from least to most. -/
def inR (n least most : Int) : Bool := decide (n ≥ least) && decide (n ≤ most)

/-- Bytes of texts, one ahead of the other. -/
def bless (a b : ByteArray) : Bool := Op.bytesLess a.toList b.toList
def nought : ByteArray := ByteArray.empty

def byteOk (b : Int) : Bool := inR b 97 122 || inR b 48 57
def nameOk (s : ByteArray) : Bool := allUpto s.size (fun i => byteOk (bt s i)) && inR s.size 1 8
def namesOk (l : List ByteArray) : Bool := allUpto l.length (okAt nameOk bless nought l) && decide ((l.length : Int) ≤ 20)

/-- Who votes: names that rise, each with a weight. -/
def valOk (v : S93) : Bool := nameOk v.f0 && inR v.f1 1 1000000
def valLess (a b : S93) : Bool := bless a.f0 b.f0
def setAt (l : List S93) (i : Nat) : Bool := okAt valOk valLess z93 l i
def setOk (l : List S93) : Bool := allUpto l.length (setAt l) && inR l.length 1 12
theorem setOk_no {l : List S93} {i : Nat} (hi : i < l.length) (h : setAt l i = false) : setOk l = false := by
  unfold setOk
  rw [allUpto_no hi h, Bool.false_and]
theorem setOk_end {l : List S93} (h : ∀ i, i < l.length → setAt l i = true) : setOk l = inR l.length 1 12 := by
  unfold setOk
  rw [allUpto_yes h, Bool.true_and]

def txOk (t : S106) : Bool := inR t.f0 1 3 && (nameOk t.f1 && (inR t.f3 1 1000000 && (inR t.f4 0 10000 && (if t.f0 = 1 then nameOk t.f2 else (t.f2.toList == ([] : List UInt8))))))
def txLess (a b : S106) : Bool := if a.f1.toList = b.f1.toList then (if a.f4 = b.f4 then (if a.f0 = b.f0 then (if a.f2.toList = b.f2.toList then decide (a.f3 < b.f3) else bless a.f2 b.f2) else decide (a.f0 < b.f0)) else decide (a.f4 < b.f4)) else bless a.f1 b.f1
def poolOk (l : List S106) : Bool := allUpto l.length (okAt txOk txLess z106 l) && decide ((l.length : Int) ≤ 20)
def cmpI (a b : Int) : Int := if a < b then -1 else if a > b then 1 else 0
def cmpS (a b : ByteArray) : Int := if bless a b = true then -1 else if bless b a = true then 1 else 0
def orI : List Int → Int
  | [] => 0
  | x :: xs => if x = 0 then orI xs else x
theorem bless_irrefl (a : ByteArray) : bless a a = false := Str.less_irrefl _
theorem bless_of {a b : ByteArray} (h : a.toList = b.toList) : bless a b = false := by
  unfold bless
  rw [h]
  exact Str.less_irrefl _
theorem bless_or {a b : ByteArray} (h : bless a b = false) (h' : ¬ a.toList = b.toList) : bless b a = true := by
  have := Str.less_total a.toList b.toList
  unfold bless at h
  rw [h, Bool.false_or, beq_eq_false_iff_ne.2 h'] at this
  unfold bless
  cases hb : Op.bytesLess b.toList a.toList
  · rw [hb] at this; cases this
  · rfl
theorem cmpS_zero {a b : ByteArray} (h : a.toList = b.toList) : cmpS a b = 0 := by
  unfold cmpS
  rw [bless_of h, bless_of h.symm]
  rfl
theorem cmpS_ne {a b : ByteArray} (h : ¬ a.toList = b.toList) : cmpS a b ≠ 0 ∧ decide (cmpS a b < 0) = bless a b := by
  unfold cmpS
  cases hb : bless a b
  · rw [bless_or hb h]
    simp
  · simp
theorem cmpI_zero {a b : Int} (h : a = b) : cmpI a b = 0 := by
  unfold cmpI
  rw [if_neg (by omega), if_neg (by omega)]
theorem cmpI_ne {a b : Int} (h : ¬ a = b) : cmpI a b ≠ 0 ∧ decide (cmpI a b < 0) = decide (a < b) := by
  unfold cmpI
  by_cases h1 : a < b
  · rw [if_pos h1]
    simp [h1]
  · rw [if_neg h1, if_pos (by omega)]
    simp [h1]
theorem txLess_or (a b : S106) : decide (orI [cmpS a.f1 b.f1, cmpI a.f4 b.f4, cmpI a.f0 b.f0, cmpS a.f2 b.f2, cmpI a.f3 b.f3] < 0) = txLess a b := by
  unfold txLess
  by_cases h1 : a.f1.toList = b.f1.toList
  · rw [if_pos h1]
    simp only [orI, cmpS_zero h1, if_true]
    by_cases h2 : a.f4 = b.f4
    · rw [if_pos h2]
      simp only [cmpI_zero h2, if_true]
      by_cases h3 : a.f0 = b.f0
      · rw [if_pos h3]
        simp only [cmpI_zero h3, if_true]
        by_cases h4 : a.f2.toList = b.f2.toList
        · rw [if_pos h4]
          simp only [cmpS_zero h4, if_true]
          by_cases h5 : a.f3 = b.f3
          · rw [cmpI_zero h5, if_pos rfl, h5]
            simp
          · simp only [if_neg (cmpI_ne h5).1]
            exact (cmpI_ne h5).2
        · rw [if_neg h4]
          simp only [if_neg (cmpS_ne h4).1]
          exact (cmpS_ne h4).2
      · rw [if_neg h3]
        simp only [if_neg (cmpI_ne h3).1]
        exact (cmpI_ne h3).2
    · rw [if_neg h2]
      simp only [if_neg (cmpI_ne h2).1]
      exact (cmpI_ne h2).2
  · rw [if_neg h1]
    simp only [orI, if_neg (cmpS_ne h1).1]
    exact (cmpS_ne h1).2
theorem inR_23 {n : Int} (h : ¬ n = 1) : inR n 1 3 = inR n 2 3 := by
  unfold inR
  by_cases h1 : n ≥ 1 <;> by_cases h2 : n ≥ 2 <;> simp [h1, h2] <;> omega

/-- The first place of which p holds; -1 without one. -/
def idxOf {α : Type} (p : α → Bool) : List α → Int
  | [] => -1
  | x :: xs => if p x then 0 else if idxOf p xs < 0 then -1 else idxOf p xs + 1
theorem idxOf_ge {α : Type} (p : α → Bool) : ∀ l : List α, -1 ≤ idxOf p l ∧ (decide (idxOf p l ≥ 0) = l.any p)
  | [] => ⟨Int.le_refl _, rfl⟩
  | x :: xs => by
    have ih := idxOf_ge p xs
    unfold idxOf
    cases hp : p x
    · simp only [Bool.false_eq_true, if_false]
      split
      · rename_i h
        have h2 : xs.any p = false := by rw [← ih.2]; exact decide_eq_false (by omega)
        simp [hp, h2]
      · rename_i h
        have h2 : xs.any p = true := by rw [← ih.2]; exact decide_eq_true (by omega)
        refine ⟨by omega, ?_⟩
        simp [hp, h2]
        omega
    · simp [hp]
theorem idxOf_hit {α : Type} {p : α → Bool} {z : α} : ∀ {l : List α} {i : Nat}, i < l.length → p (l.getD i z) = true → (∀ j, j < i → p (l.getD j z) = false) → idxOf p l = i
  | [], i, h, _, _ => absurd h (by simp)
  | x :: xs, 0, _, hp, _ => by
    have : p x = true := hp
    simp [idxOf, this]
  | x :: xs, i + 1, h, hp, hn => by
    have hx : p x = false := hn 0 (by omega)
    have := idxOf_hit (l := xs) (i := i) (z := z) (by simpa using h) (by simpa using hp) (fun j hj => by simpa using hn (j + 1) (by omega))
    simp [idxOf, hx, this]
    omega
theorem idxOf_miss {α : Type} {p : α → Bool} {z : α} : ∀ {l : List α}, (∀ j, j < l.length → p (l.getD j z) = false) → idxOf p l = -1
  | [], _ => rfl
  | x :: xs, hn => by
    have hx : p x = false := hn 0 (by simp)
    have := idxOf_miss (l := xs) (z := z) (fun j hj => by simpa using hn (j + 1) (by simpa using hj))
    simp [idxOf, hx, this]
def named (s : ByteArray) (v : S93) : Bool := v.f0.toList == s.toList
def isInB (l : List S93) (s : ByteArray) : Bool := l.any (named s)
def allInB (l : List S93) (names : List ByteArray) : Bool := allUpto names.length (fun i => isInB l (names.getD i nought))
def rootQ (r b : Int) (who : List ByteArray) : Bool := decide (r = 0) && (decide (b = -1) && ((who.length : Int) == 0))
def noneT (r : Int) (who : List ByteArray) (highs : List Int) : Bool := decide (r = 0) && (decide ((who.length : Int) = 0) && ((highs.length : Int) == 0))
def qcForm (r b : Int) (who : List ByteArray) (mr mb : Int) : Bool := rootQ r b who || (inR r 1 mr && (inR b 0 mb && namesOk who))
def highsOk (r : Int) (highs : List Int) : Bool := allUpto highs.length (fun i => inR (highs.getD i 0) 0 (wrap64 (r - 1)))
def tcForm (r : Int) (who : List ByteArray) (highs : List Int) (mr : Int) : Bool := noneT r who highs || (highsOk r highs && (inR r 1 mr && (namesOk who && ((highs.length : Int) == (who.length : Int)))))
def qcOk (l : List S93) (r b : Int) (who : List ByteArray) : Bool := rootQ r b who || (qcForm r b who 10000 100000 && (quorum l who && allInB l who))
def tcOk (l : List S93) (r : Int) (who : List ByteArray) (highs : List Int) : Bool := noneT r who highs || (tcForm r who highs 10000 && (quorum l who && allInB l who))

theorem byteIn {x : Int} (h : (Lit.int .u8 x).wf = true) : 0 ≤ x ∧ x ≤ 255 := by
  simpa [Lit.wf, IntKind.min, IntKind.max, IntKind.signed, IntKind.bits] using h
theorem and255 (x : Int) : 0 ≤ Go.bits .and .i64 x 255 ∧ Go.bits .and .i64 x 255 ≤ 255 := by
  have h : (BitVec.ofInt 64 x &&& BitVec.ofInt 64 255).toNat ≤ 255 := by
    rw [BitVec.toNat_and]
    exact Nat.and_le_right
  show 0 ≤ IntKind.i64.wrap ((BitVec.ofInt 64 x &&& BitVec.ofInt 64 255).toNat : Int) ∧ IntKind.i64.wrap ((BitVec.ofInt 64 x &&& BitVec.ofInt 64 255).toNat : Int) ≤ 255
  generalize (BitVec.ofInt 64 x &&& BitVec.ofInt 64 255).toNat = n at h
  have : IntKind.i64.wrap (n : Int) = n := by rw [IntKind.wrap_i64]; omega
  omega
/-- A draw out of b: whatever the place and the number, it yields what is so. -/
def Dr {α : Type} (b : List Int) (m : Nat → Int → Int → Option (α × Int × Int)) (R : α → Prop) : Prop :=
  ∀ p h, 0 ≤ p → p ≤ (b.length : Int) → ∃ x p' h', Ev (fun k => m k p h) (x, p', h') ∧ 0 ≤ p' ∧ p' ≤ (b.length : Int) ∧ R x
theorem Dr.mono {α : Type} {b : List Int} {m : Nat → Int → Int → Option (α × Int × Int)} {R R' : α → Prop} (h : Dr b m R) (k : ∀ x, R x → R' x) : Dr b m R' := fun p g h0 h1 => by
  obtain ⟨x, p', h', e, a, b, c⟩ := h p g h0 h1
  exact ⟨x, p', h', e, a, b, k x c⟩
theorem Dr.ret {α : Type} {b : List Int} {R : α → Prop} {x : α} (h : R x) : Dr b (fun _ p g => some (x, p, g)) R := fun p g h0 h1 => ⟨x, p, g, Ev.now _, h0, h1, h⟩
theorem Dr.bind {α β : Type} {b : List Int} {m : Nat → Int → Int → Option (α × Int × Int)} {R : α → Prop} {R' : β → Prop} {f : Nat → α × Int × Int → Option (β × Int × Int)} (h : Dr b m R) (k : ∀ x, R x → Dr b (fun n p g => f n (x, p, g)) R') :
    Dr b (fun n p g => (m n p g).bind (f n)) R' := fun p g h0 h1 => by
  obtain ⟨x, p', g', e, a, c, hx⟩ := h p g h0 h1
  obtain ⟨y, p2, g2, e2, a2, c2, hy⟩ := k x hx p' g' a c
  exact ⟨y, p2, g2, Ev.bind e e2, a2, c2, hy⟩
theorem Dr.yes {α : Type} {b : List Int} {c : Prop} [Decidable c] {m n : Nat → Int → Int → Option (α × Int × Int)} {R : α → Prop} (hc : c) (h : Dr b m R) : Dr b (fun k p g => if c then m k p g else n k p g) R := by
  simp only [if_pos hc]
  exact h
theorem Dr.no {α : Type} {b : List Int} {c : Prop} [Decidable c] {m n : Nat → Int → Int → Option (α × Int × Int)} {R : α → Prop} (hc : ¬ c) (h : Dr b n R) : Dr b (fun k p g => if c then m k p g else n k p g) R := by
  simp only [if_neg hc]
  exact h
theorem Dr.cond {α : Type} {b : List Int} {c : Prop} [Decidable c] {m n : Nat → Int → Int → Option (α × Int × Int)} {R : α → Prop} (h : c → Dr b m R) (h' : ¬ c → Dr b n R) : Dr b (fun k p g => if c then m k p g else n k p g) R := by
  by_cases hc : c
  · exact Dr.yes hc (h hc)
  · exact Dr.no hc (h' hc)
theorem Dr.up {α : Type} {b : List Int} {m : Nat → Int → Int → Option (α × Int × Int)} {R : α → Prop} (h : Dr b (fun k => m (k + 1)) R) : Dr b m R := fun p g h0 h1 => by
  obtain ⟨x, p', h', e, r⟩ := h p g h0 h1
  exact ⟨x, p', h', Ev.up e, r⟩

/-- The names that are drawn. -/
def abc : List ByteArray := [⟨#[97]⟩, ⟨#[98]⟩, ⟨#[99]⟩, ⟨#[100]⟩, ⟨#[101]⟩]
theorem abc_nodup : abc.Nodup := by decide

/-- A drawn set: names in order, somebody, and small weights. -/
structure VSet (l : List S93) : Prop where
  sub : (l.map (·.f0)).Sublist abc
  some : 0 < l.length
  low : ∀ v ∈ l, 1 ≤ v.f1
  top : ∀ v ∈ l, v.f1 ≤ 30
theorem VSet.few {l : List S93} (h : VSet l) : l.length ≤ 5 := by
  have := h.sub.length_le
  simpa [abc] using this
theorem VSet.nodup {l : List S93} (h : VSet l) : (l.map (·.f0)).Nodup := h.sub.nodup abc_nodup

/-- The sums, when nothing wraps. -/
def wsum (names : List ByteArray) : List S93 → Int
  | [] => 0
  | v :: vs => (if has v.f0 names then v.f1 else 0) + wsum names vs
def tsum : List S93 → Int
  | [] => 0
  | v :: vs => v.f1 + tsum vs
theorem weight_sum (names : List ByteArray) : ∀ (l : List S93) (n : Int), (∀ v ∈ l, 1 ≤ v.f1) → (∀ v ∈ l, v.f1 ≤ 30) → 0 ≤ n → n + 30 * (l.length : Int) ≤ 1000000 → weight names l n = n + wsum names l
  | [], n, _, _, _, _ => by simp [weight, wsum]
  | v :: vs, n, h1, h2, h3, h4 => by
    have a1 := h1 v List.mem_cons_self
    have a2 := h2 v List.mem_cons_self
    rw [List.length_cons] at h4
    simp only [weight, wsum]
    split
    · rw [unw (by omega) (by omega), weight_sum names vs _ (fun x hx => h1 x (List.mem_cons_of_mem _ hx)) (fun x hx => h2 x (List.mem_cons_of_mem _ hx)) (by omega) (by omega)]
      omega
    · rw [weight_sum names vs _ (fun x hx => h1 x (List.mem_cons_of_mem _ hx)) (fun x hx => h2 x (List.mem_cons_of_mem _ hx)) (by omega) (by omega)]
      omega
theorem total_sum : ∀ (l : List S93) (n : Int), (∀ v ∈ l, 1 ≤ v.f1) → (∀ v ∈ l, v.f1 ≤ 30) → 0 ≤ n → n + 30 * (l.length : Int) ≤ 1000000 → total l n = n + tsum l
  | [], n, _, _, _, _ => by simp [total, tsum]
  | v :: vs, n, h1, h2, h3, h4 => by
    have a1 := h1 v List.mem_cons_self
    have a2 := h2 v List.mem_cons_self
    rw [List.length_cons] at h4
    simp only [total, tsum]
    rw [unw (by omega) (by omega), total_sum vs _ (fun x hx => h1 x (List.mem_cons_of_mem _ hx)) (fun x hx => h2 x (List.mem_cons_of_mem _ hx)) (by omega) (by omega)]
    omega
theorem has_filter (s : ByteArray) (a b : List ByteArray) : has s (a.filter fun x => has x b) = (has s a && has s b) := by
  apply Bool.eq_iff_iff.2
  simp only [has, List.any_eq_true, Bool.and_eq_true, decide_eq_true_eq, List.mem_filter]
  constructor
  · rintro ⟨x, ⟨h1, y, h2, h3⟩, rfl⟩
    exact ⟨⟨x, h1, rfl⟩, y, h2, h3⟩
  · rintro ⟨⟨x, h1, rfl⟩, y, h2, h3⟩
    exact ⟨x, ⟨h1, y, h2, h3⟩, rfl⟩
theorem sums_meet (a b : List ByteArray) : ∀ (l : List S93), (∀ v ∈ l, 1 ≤ v.f1) → wsum a l + wsum b l ≤ tsum l + wsum (a.filter fun x => has x b) l ∧ 0 ≤ tsum l ∧ (∀ c, 0 ≤ wsum c l ∧ wsum c l ≤ tsum l)
  | [], _ => by simp [wsum, tsum]
  | v :: vs, h => by
    have a1 := h v List.mem_cons_self
    obtain ⟨i1, i2, i3⟩ := sums_meet a b vs (fun x hx => h x (List.mem_cons_of_mem _ hx))
    refine ⟨?_, ?_, fun c => ?_⟩
    · simp only [wsum, tsum, has_filter]
      cases has v.f0 a <;> cases has v.f0 b <;> simp <;> omega
    · simp only [tsum]; omega
    · have := i3 c
      simp only [wsum, tsum]
      split <;> omega
theorem tsum_top : ∀ (l : List S93), (∀ v ∈ l, v.f1 ≤ 30) → tsum l ≤ 30 * (l.length : Int)
  | [], _ => by simp [tsum]
  | v :: vs, h => by
    have := h v List.mem_cons_self
    have := tsum_top vs (fun x hx => h x (List.mem_cons_of_mem _ hx))
    simp only [tsum, List.length_cons]
    omega

/-- Whether a block's certificates let it follow. -/
def follows (b : S68) : Bool := (decide (b.f4.f0 = wrap64 (b.f2 - 1)) && noneT b.f5.f0 b.f5.f1 b.f5.f2) || (decide (b.f5.f0 = wrap64 (b.f2 - 1)) && (decide (b.f5.f0 > 0) && decide (b.f4.f0 ≥ high b.f5.f2 0)))

/-- Two lists of one length, alike at each place. -/
def sameBy (n m : Nat) (p : Nat → Bool) : Bool := decide (n = m) && allUpto n p
theorem bytes_beq (a b : ByteArray) : (a.toList == b.toList) = decide (a = b) := by rw [Bool.eq_iff_iff]; simp [toList_eq]
def sameTexts (a b : List ByteArray) : Bool := sameBy a.length b.length fun i => decide (rdOf ByteArray.empty a (i : Int) = rdOf ByteArray.empty b (i : Int))
def sameInts (a b : List Int) : Bool := sameBy a.length b.length fun i => decide (rd a (i : Int) = rd b (i : Int))
theorem ev_same {n m : Nat} {p : Nat → Bool} {f : Nat → Option Bool} {l : Nat → Int → Option Bool} (hf : ∀ k, f k = if (n : Int) = (m : Int) then l k 0 else some false) (h0 : Ev (fun k => l (k + 1) (n : Int)) true)
    (h1 : n = m → ∀ i, i < n → ∀ r, Ev (fun k => l k ((i : Int) + 1)) r → Ev (fun k => l (k + 1) (i : Int)) (p i && r)) : Ev f (sameBy n m p) := by
  have he : f = fun k => if (n : Int) = (m : Int) then l k 0 else some false := funext hf
  rw [he]
  unfold sameBy
  refine Ev.cond (fun h => ?_) (fun h => Ev.is (by rw [decide_eq_false (fun h' => h (by rw [h']))]; rfl))
  have hnm : n = m := by omega
  refine Ev.to (ev_all l h0 (h1 hnm)) ?_
  rw [decide_eq_true hnm, Bool.and_true, Bool.true_and]

/-- The same of orders and of those who vote, told as Go tells it. -/
def sameTxs (a b : List S106) : Bool := sameBy a.length b.length fun i => !(!(((rd_T106 a (i : Int)).f0) == ((rd_T106 b (i : Int)).f0)) || (!((((rd_T106 a (i : Int)).f1).toList) == (((rd_T106 b (i : Int)).f1).toList)) || (!((((rd_T106 a (i : Int)).f2).toList) == (((rd_T106 b (i : Int)).f2).toList)) || (!(((rd_T106 a (i : Int)).f3) == ((rd_T106 b (i : Int)).f3)) || (!(((rd_T106 a (i : Int)).f4) == ((rd_T106 b (i : Int)).f4)))))))
def sameVals (a b : List S93) : Bool := sameBy a.length b.length fun i => !(!((((rd_T93 a (i : Int)).f0).toList) == (((rd_T93 b (i : Int)).f0).toList)) || (!(((rd_T93 a (i : Int)).f1) == ((rd_T93 b (i : Int)).f1))))
def sameQc (a b : S57) : Bool := decide (a.f0 = b.f0) && (decide (a.f1 = b.f1) && sameTexts a.f2 b.f2)
def sameTc (a b : S36) : Bool := decide (a.f0 = b.f0) && (sameTexts a.f1 b.f1 && sameInts a.f2 b.f2)
def sameBlock (a b : S68) : Bool := decide (a.f0 = b.f0) && (decide (a.f1 = b.f1) && (decide (a.f2 = b.f2) && (decide (a.f3 = b.f3) && ((a.f7 == b.f7) && (decide (a.f9 = b.f9) && (sameQc a.f4 b.f4 && (sameTc a.f5 b.f5 && (sameTxs a.f6 b.f6 && sameVals a.f8 b.f8))))))))

/-- What the tests of a block ask of the lengths within it. -/
def blockFit (b : S68) : Prop := b.f3.size ≤ maxLen ∧ (b.f4.f2.length ≤ maxLen ∧ ∀ s ∈ b.f4.f2, s.size ≤ maxLen) ∧ (b.f5.f1.length ≤ maxLen ∧ ∀ s ∈ b.f5.f1, s.size ≤ maxLen) ∧ b.f5.f2.length ≤ maxLen ∧ (b.f6.length ≤ maxLen ∧ ∀ t ∈ b.f6, t.f1.size ≤ maxLen ∧ t.f2.size ≤ maxLen) ∧ (b.f8.length ≤ maxLen ∧ ∀ v ∈ b.f8, v.f0.size ≤ maxLen)
def blockOk (b : S68) : Bool := inR b.f0 0 100000 && (inR b.f1 0 900 && (inR b.f2 1 10000 && (nameOk b.f3 && (qcForm b.f4.f0 b.f4.f1 b.f4.f2 (wrap64 (b.f2 - 1)) (wrap64 (b.f0 - 1)) && (tcForm b.f5.f0 b.f5.f1 b.f5.f2 (wrap64 (b.f2 - 1)) && (!decide ((b.f6.length : Int) > 4) && (allUpto b.f6.length (fun i => txOk (rd_T106 b.f6 (i : Int))) && (if b.f7 = true then (setOk b.f8 && ((b.f9.size : Int) == 32)) else (decide ((b.f8.length : Int) = 0) && (b.f9.toList == ([] : List UInt8)))))))))))

end Go.Proofs.Ytieecjilnaijkaa.F
