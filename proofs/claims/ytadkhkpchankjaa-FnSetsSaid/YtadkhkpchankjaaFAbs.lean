/-
Plain words: what the functions come to.
Conditions: none.
-/
import Derived.Test.YtadkhkpchankjaaF0
set_option linter.unusedVariables false
set_option linter.unusedSimpArgs false
namespace Go.Proofs.Ytadkhkpchankjaa.F
open Go.RowKit Go.Proofs.YtadkhkpchankjaaW.PrintWords Go.Proofs.YtadkhkpchankjaaW.PrintLast Go.Proofs.Ytadkhkpchankjaa.Base Go.Proofs.Ytadkhkpchankjaa.BW
/-- The sum of the weights, as the program adds them. -/
def total : List S138 → Int → Int
  | [], n => n
  | v :: vs, n => total vs (wrap64 (n + v.f1))

/-- The greatest of these, but n at least. -/
def high : List Int → Int → Int
  | [], n => n
  | x :: xs, n => high xs (if n < x then x else n)

/-- Whether a text is among these. -/
def has (s : ByteArray) (l : List ByteArray) : Bool := l.any fun x => decide (x = s)
theorem toList_eq {a b : ByteArray} : a.toList = b.toList ↔ a = b := by
  constructor
  · intro h
    have : a.data.toList = b.data.toList := by rw [ByteArray.toList_eq, ByteArray.toList_eq] at h; exact h
    cases a; cases b
    simp_all
  · rintro rfl
    rfl

/-- What those of them that are named weigh. -/
def weight (names : List ByteArray) : List S138 → Int → Int
  | [], n => n
  | v :: vs, n => weight names vs (if has v.f0 names then wrap64 (n + v.f1) else n)

/-- Whether n is from least to most. -/
def inR (n least most : Int) : Bool := decide (n ≥ least) && decide (n ≤ most)

/-- Bytes of texts, one ahead of the other. -/
def bless (a b : ByteArray) : Bool := Op.bytesLess a.toList b.toList
def byteOk (b : Int) : Bool := inR b 97 122 || inR b 48 57
def nameOk (s : ByteArray) : Bool := allUpto s.size (fun i => byteOk (bt s i)) && inR s.size 1 8
/-- Who votes: names that rise, each with a weight. -/
def valOk (v : S138) : Bool := nameOk v.f0 && inR v.f1 1 1000000
def valLess (a b : S138) : Bool := bless a.f0 b.f0
def setAt (l : List S138) (i : Nat) : Bool := okAt valOk valLess z138 l i
def setOk (l : List S138) : Bool := allUpto l.length (setAt l) && inR l.length 1 12
theorem bless_irrefl (a : ByteArray) : bless a a = false := Str.less_irrefl _
def named (s : ByteArray) (v : S138) : Bool := v.f0.toList == s.toList
def noneT (r : Int) (who : List ByteArray) (highs : List Int) : Bool := decide (r = 0) && (decide ((who.length : Int) = 0) && ((highs.length : Int) == 0))
theorem and255 (x : Int) : 0 ≤ Go.bits .and .i64 x 255 ∧ Go.bits .and .i64 x 255 ≤ 255 := by
  have h : (BitVec.ofInt 64 x &&& BitVec.ofInt 64 255).toNat ≤ 255 := by
    rw [BitVec.toNat_and]
    exact Nat.and_le_right
  show 0 ≤ IntKind.i64.wrap ((BitVec.ofInt 64 x &&& BitVec.ofInt 64 255).toNat : Int) ∧ IntKind.i64.wrap ((BitVec.ofInt 64 x &&& BitVec.ofInt 64 255).toNat : Int) ≤ 255
  generalize (BitVec.ofInt 64 x &&& BitVec.ofInt 64 255).toNat = n at h
  have : IntKind.i64.wrap (n : Int) = n := by rw [IntKind.wrap_i64]; omega
  omega
/-- A draw out of b: whatever the place and the number, it yields what is so. -/
def Dr {α : Type} (b : List Int) (m : Nat → Int → Int → Option (α × Int × Int)) (R : α → Prop) : Prop :=
  ∀ p h, 0 ≤ p → p ≤ (b.length : Int) → ∃ x p' h', Ev (fun k => m k p h) (x, p', h') ∧ 0 ≤ p' ∧ p' ≤ (b.length : Int) ∧ R x
theorem Dr.mono {α : Type} {b : List Int} {m : Nat → Int → Int → Option (α × Int × Int)} {R R' : α → Prop} (h : Dr b m R) (k : ∀ x, R x → R' x) : Dr b m R' := fun p g h0 h1 => by
  obtain ⟨x, p', h', e, a, b, c⟩ := h p g h0 h1
  exact ⟨x, p', h', e, a, b, k x c⟩
theorem Dr.ret {α : Type} {b : List Int} {R : α → Prop} {x : α} (h : R x) : Dr b (fun _ p g => some (x, p, g)) R := fun p g h0 h1 => ⟨x, p, g, Ev.now _, h0, h1, h⟩
theorem Dr.bind {α β : Type} {b : List Int} {m : Nat → Int → Int → Option (α × Int × Int)} {R : α → Prop} {R' : β → Prop} {f : Nat → α × Int × Int → Option (β × Int × Int)} (h : Dr b m R) (k : ∀ x, R x → Dr b (fun n p g => f n (x, p, g)) R') :
    Dr b (fun n p g => (m n p g).bind (f n)) R' := fun p g h0 h1 => by
  obtain ⟨x, p', g', e, a, c, hx⟩ := h p g h0 h1
  obtain ⟨y, p2, g2, e2, a2, c2, hy⟩ := k x hx p' g' a c
  exact ⟨y, p2, g2, Ev.bind e e2, a2, c2, hy⟩
theorem Dr.yes {α : Type} {b : List Int} {c : Prop} [Decidable c] {m n : Nat → Int → Int → Option (α × Int × Int)} {R : α → Prop} (hc : c) (h : Dr b m R) : Dr b (fun k p g => if c then m k p g else n k p g) R := by
  simp only [if_pos hc]
  exact h
theorem Dr.no {α : Type} {b : List Int} {c : Prop} [Decidable c] {m n : Nat → Int → Int → Option (α × Int × Int)} {R : α → Prop} (hc : ¬ c) (h : Dr b n R) : Dr b (fun k p g => if c then m k p g else n k p g) R := by
  simp only [if_neg hc]
  exact h
theorem Dr.cond {α : Type} {b : List Int} {c : Prop} [Decidable c] {m n : Nat → Int → Int → Option (α × Int × Int)} {R : α → Prop} (h : c → Dr b m R) (h' : ¬ c → Dr b n R) : Dr b (fun k p g => if c then m k p g else n k p g) R := by
  by_cases hc : c
  · exact Dr.yes hc (h hc)
  · exact Dr.no hc (h' hc)
theorem Dr.up {α : Type} {b : List Int} {m : Nat → Int → Int → Option (α × Int × Int)} {R : α → Prop} (h : Dr b (fun k => m (k + 1)) R) : Dr b m R := fun p g h0 h1 => by
  obtain ⟨x, p', h', e, r⟩ := h p g h0 h1
  exact ⟨x, p', h', Ev.up e, r⟩

/-- The names that are drawn. -/
def abc : List ByteArray := [⟨#[97]⟩, ⟨#[98]⟩, ⟨#[99]⟩, ⟨#[100]⟩, ⟨#[101]⟩]
/-- A drawn set: names in order, somebody, and small weights. -/
structure VSet (l : List S138) : Prop where
  sub : (l.map (·.f0)).Sublist abc
  some : 0 < l.length
  low : ∀ v ∈ l, 1 ≤ v.f1
  top : ∀ v ∈ l, v.f1 ≤ 30
theorem VSet.few {l : List S138} (h : VSet l) : l.length ≤ 5 := by
  have := h.sub.length_le
  simpa [abc] using this
/-- Whether a block's certificates let it follow. -/
def follows (b : S113) : Bool := (decide (b.f4.f0 = wrap64 (b.f2 - 1)) && noneT b.f5.f0 b.f5.f1 b.f5.f2) || (decide (b.f5.f0 = wrap64 (b.f2 - 1)) && (decide (b.f5.f0 > 0) && decide (b.f4.f0 ≥ high b.f5.f2 0)))

/-- A draw at its place: it yields what is so, and a place within b. -/
def Dw {ρ : Type} (b : List Int) (m : Nat → Option ρ) (pos : ρ → Int) (R : ρ → Prop) : Prop := ∃ r, Ev m r ∧ 0 ≤ pos r ∧ pos r ≤ (b.length : Int) ∧ R r
theorem Dr.at {α : Type} {b : List Int} {m : Nat → Int → Int → Option (α × Int × Int)} {R : α → Prop} (h : Dr b m R) {p g : Int} (h0 : 0 ≤ p) (h1 : p ≤ (b.length : Int)) : Dw b (fun k => m k p g) (fun r => r.2.1) (fun r => R r.1) := by
  obtain ⟨x, p', g', e, a, c, hx⟩ := h p g h0 h1
  exact ⟨(x, p', g'), e, a, c, hx⟩
theorem Dr.of {α : Type} {b : List Int} {m : Nat → Int → Int → Option (α × Int × Int)} {R : α → Prop} (h : ∀ p g : Int, 0 ≤ p → p ≤ (b.length : Int) → Dw b (fun k => m k p g) (fun r => r.2.1) (fun r => R r.1)) : Dr b m R := fun p g h0 h1 => by
  obtain ⟨⟨x, p', g'⟩, e, a, c, hx⟩ := h p g h0 h1
  exact ⟨x, p', g', e, a, c, hx⟩
theorem Dw.bind {ρ σ : Type} {b : List Int} {m : Nat → Option ρ} {pos : ρ → Int} {R : ρ → Prop} {f : Nat → ρ → Option σ} {pos' : σ → Int} {R' : σ → Prop} (h : Dw b m pos R) (k : ∀ r, 0 ≤ pos r → pos r ≤ (b.length : Int) → R r → Dw b (fun n => f n r) pos' R') : Dw b (fun n => (m n).bind (f n)) pos' R' := by
  obtain ⟨r, e, a, c, hr⟩ := h
  obtain ⟨s, e', a', c', hs⟩ := k r a c hr
  exact ⟨s, Ev.bind e e', a', c', hs⟩
theorem Dw.ret {ρ : Type} {b : List Int} {pos : ρ → Int} {R : ρ → Prop} {r : ρ} (h0 : 0 ≤ pos r) (h1 : pos r ≤ (b.length : Int)) (h : R r) : Dw b (fun _ => some r) pos R := ⟨r, Ev.now _, h0, h1, h⟩
theorem Dw.yes {ρ : Type} {b : List Int} {c : Prop} [Decidable c] {m n : Nat → Option ρ} {pos : ρ → Int} {R : ρ → Prop} (hc : c) (h : Dw b m pos R) : Dw b (fun k => if c then m k else n k) pos R := by
  simp only [if_pos hc]
  exact h
theorem Dw.no {ρ : Type} {b : List Int} {c : Prop} [Decidable c] {m n : Nat → Option ρ} {pos : ρ → Int} {R : ρ → Prop} (hc : ¬ c) (h : Dw b n pos R) : Dw b (fun k => if c then m k else n k) pos R := by
  simp only [if_neg hc]
  exact h
theorem Dw.cond {ρ : Type} {b : List Int} {c : Prop} [Decidable c] {m n : Nat → Option ρ} {pos : ρ → Int} {R : ρ → Prop} (h : c → Dw b m pos R) (h' : ¬ c → Dw b n pos R) : Dw b (fun k => if c then m k else n k) pos R := by
  by_cases hc : c
  · exact Dw.yes hc (h hc)
  · exact Dw.no hc (h' hc)
theorem Dw.up {ρ : Type} {b : List Int} {m : Nat → Option ρ} {pos : ρ → Int} {R : ρ → Prop} (h : Dw b (fun k => m (k + 1)) pos R) : Dw b m pos R := by
  obtain ⟨r, e, a⟩ := h
  exact ⟨r, Ev.up e, a⟩

/-- Accounts and a ledger, as the program tests them. -/
def leafOk (x : S230) : Bool := inR x.f0 1 1000000 && inR x.f1 0 1000
def leafLess (a b : S230) : Bool := decide (a.f1 < b.f1)
def leavesOk (l : List S230) : Bool := allUpto l.length (okAt leafOk leafLess z230 l)
def acctOk (a : S43) : Bool := nameOk a.f0 && (inR a.f1 0 1000000 && (inR a.f2 0 10000 && (inR a.f3 0 1000000 && (decide ((a.f4.length : Int) ≤ 4) && leavesOk a.f4))))
def acctLess (a b : S43) : Bool := bless a.f0 b.f0
def leafSum : List S230 → Int → Int
  | [], n => n
  | x :: r, n => leafSum r (wrap64 (n + x.f0))
def l4of (a : S43) : Int := leafSum a.f4 (wrap64 (a.f1 + a.f3))
def wealth : List S43 → Int → Int
  | [], n => n
  | a :: r, n => wealth r (wrap64 (n + l4of a))
def acctsOk (l : List S43) : Bool := allUpto l.length (okAt acctOk acctLess z43 l) && (decide ((l.length : Int) ≤ 12) && decide (wealth l 0 ≤ 1000000))
def ledgerOk (e : Int) (l : List S43) : Bool := inR e 0 900 && acctsOk l
def acctFit (a : S43) : Prop := a.f0.size ≤ maxLen ∧ a.f4.length ≤ maxLen
theorem leafSum_shift : ∀ (l : List S230) (n m : Int), leafSum l (wrap64 (n + m)) = wrap64 (n + leafSum l (wrap64 m))
  | [], n, m => by
    show wrap64 (n + m) = wrap64 (n + wrap64 m)
    unfold wrap64
    omega
  | x :: r, n, m => by
    show leafSum r (wrap64 (wrap64 (n + m) + x.f0)) = wrap64 (n + leafSum r (wrap64 (wrap64 m + x.f0)))
    rw [show wrap64 (wrap64 (n + m) + x.f0) = wrap64 (n + (m + x.f0)) by unfold wrap64; omega, show wrap64 (wrap64 m + x.f0) = wrap64 (m + x.f0) by unfold wrap64; omega]
    exact leafSum_shift r n (m + x.f0)
theorem leafSum_l4 (s : Int) (a : S43) : leafSum a.f4 (wrap64 (s + wrap64 (a.f1 + a.f3))) = wrap64 (s + l4of a) := by
  rw [leafSum_shift, show wrap64 (wrap64 (a.f1 + a.f3)) = wrap64 (a.f1 + a.f3) by unfold wrap64; omega]
  rfl
def picked (a : S43) : Bool := decide (a.f3 ≥ 5)
def pick (l : List S43) : List S138 := (l.filter picked).map fun a => ⟨a.f0, a.f3⟩
def setOf (e : Int) (l : List S43) : List S138 := if ledgerOk e l = true then pick l else []
theorem pick_append (a b : List S43) : pick (a ++ b) = pick a ++ pick b := by simp [pick]
theorem pick_le (l : List S43) : (pick l).length ≤ l.length := by
  unfold pick
  rw [List.length_map]
  exact List.length_filter_le _ _
theorem pick_one (a : S43) : pick [a] = if a.f3 ≥ 5 then [⟨a.f0, a.f3⟩] else [] := by
  by_cases h : a.f3 ≥ 5 <;> simp [pick, picked, h]
theorem total_append : ∀ (a : List S138) (v : S138) (n : Int), total (a ++ [v]) n = wrap64 (total a n + v.f1)
  | [], _, _ => rfl
  | x :: a, v, n => total_append a v _
theorem less_trans : ∀ a b c : List UInt8, Op.bytesLess a b = true → Op.bytesLess b c = true → Op.bytesLess a c = true
  | _, b, [], _, h => by cases b <;> simp [Op.bytesLess] at h
  | a, [], _ :: _, h, _ => by cases a <;> simp [Op.bytesLess] at h
  | [], _ :: _, _ :: _, _, _ => rfl
  | x :: a, y :: b, z :: c, h1, h2 => by
    simp only [Op.bytesLess, Bool.or_eq_true, Bool.and_eq_true, decide_eq_true_eq, beq_iff_eq] at h1 h2 ⊢
    rcases h1 with h1 | ⟨rfl, h1⟩
    · rcases h2 with h2 | ⟨rfl, h2⟩
      · exact Or.inl (UInt8.lt_trans h1 h2)
      · exact Or.inl h1
    · rcases h2 with h2 | ⟨rfl, h2⟩
      · exact Or.inl h2
      · exact Or.inr ⟨rfl, less_trans a b c h1 h2⟩
theorem bless_trans {a b c : ByteArray} (h : bless a b = true) (k : bless b c = true) : bless a c = true := less_trans _ _ _ h k
/-- What rises from each to the next, rises from each to all later ones. -/
theorem rises {α : Type} {l : List α} {r : α → α → Prop} (tr : ∀ a b c, r a b → r b c → r a c) (z : α) (h : ∀ i, 0 < i → i < l.length → r (l.getD (i - 1) z) (l.getD i z)) : l.Pairwise r := by
  have key : ∀ j, j < l.length → ∀ i, i < j → r (l.getD i z) (l.getD j z) := by
    intro j
    induction j with
    | zero => intro _ i hi; omega
    | succ j ih =>
      intro hj i hi
      have hs := h (j + 1) (by omega) hj
      by_cases he : i = j
      · subst he
        exact hs
      · exact tr _ _ _ (ih (by omega) i (by omega)) hs
  rw [List.pairwise_iff_getElem]
  intro i j hi hj hij
  have := key j hj i hij
  rwa [List.getD_eq_getElem?_getD, List.getD_eq_getElem?_getD, List.getElem?_eq_getElem hi, List.getElem?_eq_getElem hj] at this
theorem okAt_of {α : Type} {ok : α → Bool} {less : α → α → Bool} {z : α} {l : List α} (h1 : ∀ x ∈ l, ok x = true) (h2 : l.Pairwise fun a b => less a b = true) : allUpto l.length (okAt ok less z l) = true := by
  refine allUpto_yes (fun i hi => ?_)
  unfold okAt
  rw [h1 _ (getD_mem hi z), Bool.true_and]
  by_cases h0 : i = 0
  · rw [decide_eq_true h0, Bool.true_or]
  · rw [decide_eq_false h0, Bool.false_or]
    have hp : i - 1 < l.length := by omega
    have := (List.pairwise_iff_getElem.1 h2) (i - 1) i hp hi (by omega)
    rwa [List.getD_eq_getElem?_getD, List.getD_eq_getElem?_getD, List.getElem?_eq_getElem hi, List.getElem?_eq_getElem hp]
/-- A right ledger's accounts: each right, no more than twelve, and their names rise. -/
theorem ledgerOk_facts {e : Int} {l : List S43} (h : ledgerOk e l = true) : l.length ≤ 12 ∧ (∀ a ∈ l, acctOk a = true) ∧ l.Pairwise fun a b => bless a.f0 b.f0 = true := by
  unfold ledgerOk acctsOk at h
  simp only [Bool.and_eq_true, decide_eq_true_eq] at h
  obtain ⟨_, ha, hl, _⟩ := h
  rw [allUpto_iff] at ha
  refine ⟨by omega, fun a hm => ?_, rises (fun a b c => bless_trans) z43 (fun i h0 hi => ?_)⟩
  · obtain ⟨i, hi, rfl⟩ := List.getElem_of_mem hm
    have := ha i hi
    unfold okAt at this
    rw [Bool.and_eq_true, List.getD_eq_getElem?_getD, List.getElem?_eq_getElem hi] at this
    exact this.1
  · have := ha i hi
    unfold okAt at this
    rw [Bool.and_eq_true, decide_eq_false (by omega : ¬ i = 0), Bool.false_or] at this
    exact this.2
theorem has_pick_no {s : ByteArray} {l : List S43} (h : ∀ a ∈ l, a.f0 ≠ s) : has s ((pick l).map (·.f0)) = false := by
  apply Bool.eq_false_iff.2
  intro hc
  simp only [has, List.any_eq_true, decide_eq_true_eq, pick, List.mem_map, List.mem_filter] at hc
  obtain ⟨x, ⟨v, ⟨a, ⟨ha, _⟩, rfl⟩, rfl⟩, hx⟩ := hc
  exact h a ha hx
theorem has_append (s : ByteArray) (a b : List ByteArray) : has s (a ++ b) = (has s a || has s b) := by simp [has]
theorem has_pick {pre ys : List S43} {y : S43} (h : (pre ++ y :: ys).Pairwise fun a b => bless a.f0 b.f0 = true) : has y.f0 ((pick (pre ++ y :: ys)).map (·.f0)) = decide (y.f3 ≥ 5) := by
  rw [List.pairwise_append] at h
  obtain ⟨_, h2, h3⟩ := h
  rw [List.pairwise_cons] at h2
  have e : pre ++ y :: ys = pre ++ ([y] ++ ys) := rfl
  have n1 : has y.f0 ((pick pre).map (·.f0)) = false := has_pick_no fun a ha hs => by
    have := h3 a ha y List.mem_cons_self
    rw [hs, bless_irrefl] at this
    cases this
  have n2 : has y.f0 ((pick ys).map (·.f0)) = false := has_pick_no fun a ha hs => by
    have := h2.1 a ha
    rw [hs, bless_irrefl] at this
    cases this
  rw [e, pick_append, pick_append, List.map_append, List.map_append, has_append, has_append, n1, n2, pick_one]
  by_cases hy : y.f3 ≥ 5 <;> simp [has, hy]
theorem setOk_pick {e : Int} {l : List S43} (h : ledgerOk e l = true) (h0 : 0 < (pick l).length) : setOk (pick l) = true := by
  obtain ⟨h12, ha, hp⟩ := ledgerOk_facts h
  have hle := pick_le l
  unfold setOk
  have h1 : allUpto (pick l).length (setAt (pick l)) = true := by
    refine okAt_of (fun v hv => ?_) ?_
    · simp only [pick, List.mem_map, List.mem_filter] at hv
      obtain ⟨a, ⟨hm, hs⟩, rfl⟩ := hv
      have hk := ha a hm
      simp only [acctOk, Bool.and_eq_true, inR, decide_eq_true_eq] at hk
      simp only [picked, decide_eq_true_eq] at hs
      simp only [valOk, Bool.and_eq_true, inR, decide_eq_true_eq]
      exact ⟨hk.1, by omega, by omega⟩
    · show ((l.filter picked).map fun a => (⟨a.f0, a.f3⟩ : S138)).Pairwise fun a b => valLess a b = true
      rw [List.pairwise_map]
      exact hp.filter _
  rw [h1, Bool.true_and]
  simp only [inR, Bool.and_eq_true, decide_eq_true_eq]
  omega

/-- Drawn accounts: few, of short names. -/
def acctsSmall (l : List S43) : Prop := l.length ≤ 6 ∧ ∀ a ∈ l, a.f0.size ≤ 9 ∧ a.f4.length ≤ 4
theorem acctsSmall.fit {l : List S43} (h : acctsSmall l) : ∀ a ∈ l, acctFit a := fun a ha => by
  have hm : maxLen = 9223372036854775807 := rfl
  have := h.2 a ha
  exact ⟨by omega, by omega⟩
theorem abc_size : ∀ x ∈ abc, x.size ≤ 9 := by decide

end Go.Proofs.Ytadkhkpchankjaa.F
