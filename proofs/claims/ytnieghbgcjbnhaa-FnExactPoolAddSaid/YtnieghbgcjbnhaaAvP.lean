/-
What functions of the program come to, walked one by one.
Conditions: none beside those that each theorem names.
-/
import Derived.Test.YtnieghbgcjbnhaaAvB
import Derived.Test.YtnieghbgcjbnhaaAv25
import Derived.Test.YtnieghbgcjbnhaaAvI58
set_option linter.unusedVariables false
set_option linter.unusedSimpArgs false
namespace Go.Proofs.Ytnieghbgcjbnhaa.Av
open Go.RowKit
set_option maxRecDepth 20000
set_option maxHeartbeats 4000000

/-! the order of orders -/
theorem bl_trans : ∀ a b c : List UInt8, Op.bytesLess a b = true → Op.bytesLess b c = true → Op.bytesLess a c = true
  | [], [], _, h, _ => by simp [Op.bytesLess] at h
  | _ :: _, [], _, h, _ => by simp [Op.bytesLess] at h
  | _, _ :: _, [], _, h => by simp [Op.bytesLess] at h
  | [], _ :: _, _ :: _, _, _ => rfl
  | x :: xs, y :: ys, z :: zs, h, h' => by
    have ih := bl_trans xs ys zs
    simp only [Op.bytesLess, Bool.or_eq_true, decide_eq_true_eq, Bool.and_eq_true, beq_iff_eq] at h h' ⊢
    have e1 : (x < y) = (x.toNat < y.toNat) := rfl
    have e2 : (y < z) = (y.toNat < z.toNat) := rfl
    have e3 : (x < z) = (x.toNat < z.toNat) := rfl
    rw [e1] at h
    rw [e2] at h'
    rw [e3]
    rcases h with h | ⟨rfl, h⟩ <;> rcases h' with h' | ⟨rfl, h'⟩
    · exact .inl (by omega)
    · exact .inl h
    · exact .inl h'
    · exact .inr ⟨rfl, ih h h'⟩
def cS (a b : ByteArray) : Int := if Op.bytesLess a.toList b.toList = true then -1 else if a.toList = b.toList then 0 else 1
def cI (a b : Int) : Int := if a < b then -1 else if a = b then 0 else 1
def or0 (x y : Int) : Int := if x = 0 then y else x
structure IsC {α : Type} (c : α → α → Int) : Prop where
  sw : ∀ a b, c a b < 0 ↔ 0 < c b a
  tr : ∀ a b d, c a b < 0 → c b d < 0 → c a d < 0
  cg : ∀ a b, c a b = 0 → ∀ d, c a d = c b d
  rf : ∀ a, c a a = 0
theorem cS_lt {a b : ByteArray} : cS a b < 0 ↔ Op.bytesLess a.toList b.toList = true := by
  unfold cS; split
  · simp [*]
  · split <;> simp [*, less_irrefl]
theorem cS_gt {a b : ByteArray} : 0 < cS a b ↔ Op.bytesLess b.toList a.toList = true := by
  have h := less_total a.toList b.toList
  have hi := less_irrefl a.toList
  unfold cS; split
  · rename_i h1
    rw [h1, Bool.true_or] at h
    have := bnot_yes h.symm
    simp [this]
  · rename_i h1
    split
    · rename_i h2
      rw [h2]
      rw [h2] at hi
      simp [hi]
    · rename_i h2
      have h1 : Op.bytesLess a.toList b.toList = false := by simpa using h1
      rw [h1, beq_false_of_ne h2] at h
      have := bnot_no h.symm
      simp [this]
theorem cS_eq {a b : ByteArray} (h : cS a b = 0) : a = b := by
  unfold cS at h; split at h
  · omega
  · split at h
    · exact tl_inj.1 (by assumption)
    · omega
theorem cS_is : IsC cS where
  sw a b := by rw [cS_lt, cS_gt]
  tr a b d h h' := by rw [cS_lt] at *; exact bl_trans _ _ _ h h'
  cg a b h d := by rw [cS_eq h]
  rf a := by unfold cS; rw [less_irrefl]; simp
theorem cI_is : IsC cI where
  sw a b := by unfold cI; grind
  tr a b d := by unfold cI; grind
  cg a b h d := by unfold cI at *; grind
  rf a := by unfold cI; grind
theorem cI_eq {a b : Int} (h : cI a b = 0) : a = b := by unfold cI at h; grind
theorem IsC.on {α β : Type} {c : β → β → Int} (h : IsC c) (f : α → β) : IsC fun a b => c (f a) (f b) where
  sw _ _ := h.sw _ _
  tr _ _ _ := h.tr _ _ _
  cg _ _ e _ := h.cg _ _ e _
  rf _ := h.rf _
theorem IsC.z {α : Type} {c : α → α → Int} (h : IsC c) {a b : α} (e : c a b = 0) : c b a = 0 := by
  have h1 := h.sw a b
  have h2 := h.sw b a
  omega
theorem IsC.cg2 {α : Type} {c : α → α → Int} (h : IsC c) {a b : α} (e : c a b = 0) (d : α) : (c d a < 0 ↔ c d b < 0) ∧ (c d a = 0 ↔ c d b = 0) := by
  have h1 := h.cg _ _ e d
  have h2 := h.sw d a
  have h3 := h.sw d b
  have h4 := h.sw a d
  have h5 := h.sw b d
  constructor <;> constructor <;> intro <;> omega
theorem IsC.lex {α : Type} {c c' : α → α → Int} (h : IsC c) (h' : IsC c') : IsC fun a b => or0 (c a b) (c' a b) where
  sw a b := by
    have h1 := h.sw a b
    have h2 := h.sw b a
    have h3 := h'.sw a b
    unfold or0
    split <;> split <;> omega
  tr a b d := by
    have h1 := h.tr a b d
    have h3 := h'.tr a b d
    unfold or0
    by_cases e1 : c a b = 0
    · have q := h.cg _ _ e1 d
      rw [if_pos e1, q]
      by_cases e2 : c b d = 0
      · rw [if_pos e2, if_pos e2]; exact h3
      · rw [if_neg e2, if_neg e2]; exact fun _ z => z
    · rw [if_neg e1]
      by_cases e2 : c b d = 0
      · have q := (h.cg2 e2 a)
        rw [if_pos e2, if_neg (by omega)]
        exact fun z _ => q.1.1 z
      · rw [if_neg e2]
        intro z1 z2
        have := h1 z1 z2
        rw [if_neg (by omega)]
        exact this
  cg a b e d := by
    unfold or0 at e ⊢
    split at e
    · rename_i e1
      show (if c a d = 0 then c' a d else c a d) = _
      rw [h.cg _ _ e1 d, h'.cg _ _ e d]
    · omega
  rf a := by
    unfold or0
    show (if c a a = 0 then c' a a else c a a) = 0
    rw [if_pos (h.rf a)]
    exact h'.rf a
theorem or0_z {x y : Int} (h : or0 x y = 0) : x = 0 ∧ y = 0 := by unfold or0 at h; split at h <;> simp_all
def cmpTx (a b : S26) : Int := or0 (cS a.f1 b.f1) (or0 (cI a.f4 b.f4) (or0 (cI a.f0 b.f0) (or0 (cS a.f2 b.f2) (cI a.f3 b.f3))))
theorem cmpTx_is : IsC cmpTx := (cS_is.on S26.f1).lex ((cI_is.on S26.f4).lex ((cI_is.on S26.f0).lex ((cS_is.on S26.f2).lex (cI_is.on S26.f3))))
theorem cmpTx_eq {a b : S26} : cmpTx a b = 0 ↔ a = b := by
  refine ⟨fun h => ?_, fun h => h ▸ cmpTx_is.rf a⟩
  obtain ⟨h1, h⟩ := or0_z h
  obtain ⟨h2, h⟩ := or0_z h
  obtain ⟨h3, h⟩ := or0_z h
  obtain ⟨h4, h5⟩ := or0_z h
  have h1 := cS_eq h1
  have h2 := cI_eq h2
  have h3 := cI_eq h3
  have h4 := cS_eq h4
  have h5 := cI_eq h5
  cases a; cases b
  simp only at h1 h2 h3 h4 h5
  simp only [h1, h2, h3, h4, h5]
def txLess (a b : S26) : Bool := decide (cmpTx a b < 0)
theorem txl_iff {a b : S26} : txLess a b = true ↔ cmpTx a b < 0 := by simp [txLess]
theorem txl_no {a b : S26} (h : txLess a b = false) : ¬ cmpTx a b < 0 := by simpa [txLess] using h
theorem txl_yes {a b : S26} (h : txLess a b = true) : cmpTx a b < 0 := by simpa [txLess] using h

def poolR (l : List S26) (i : Int) (x : S26) : Prop := txOk x = true ∧ ∀ y, 0 < i → l[(i - 1).toNat]? = some y → txLess y x = true
def poolP (l : List S26) : Prop := Upto (poolR l) (fun n => l[n]?) l.length ∧ (l.length : Int) ≤ 20
noncomputable def poolOk (l : List S26) : Bool := @decide (poolP l) (Classical.propDecidable _)
theorem poolOk_iff {l : List S26} : poolOk l = true ↔ poolP l := by simp [poolOk]
theorem pool_at {l : List S26} (h : poolP l) {i : Nat} {x : S26} (hx : l[i]? = some x) : poolR l i x := h.1 i x (by omega) (by have := (List.getElem?_eq_some_iff.1 hx).1; omega) (by simpa using hx)
theorem pool_lt {l : List S26} (h : poolP l) : ∀ (d j : Nat) (a b : S26), l[j]? = some a → l[j + 1 + d]? = some b → cmpTx a b < 0
  | 0, j, a, b, ha, hb => txl_yes ((pool_at h hb).2 a (by omega) (by rw [show (((j + 1 + 0 : Nat) : Int) - 1).toNat = j by omega]; exact ha))
  | d + 1, j, a, b, ha, hb => by
    have hl := (List.getElem?_eq_some_iff.1 hb).1
    have hc : l[j + 1 + d]? = some (l[j + 1 + d]'(by omega)) := List.getElem?_eq_getElem _
    have h1 := pool_lt h d j a _ ha hc
    have h2 := (pool_at h hb).2 _ (by omega) (by rw [show (((j + 1 + (d + 1) : Nat) : Int) - 1).toNat = j + 1 + d by omega]; exact hc)
    exact cmpTx_is.tr _ _ _ h1 (txl_yes h2)
theorem pool_ord {l : List S26} (h : poolP l) {i j : Nat} {a b : S26} (hij : i < j) (ha : l[i]? = some a) (hb : l[j]? = some b) : cmpTx a b < 0 :=
  pool_lt h (j - i - 1) i a b ha (by rw [show i + 1 + (j - i - 1) = j by omega]; exact hb)
theorem cmp_irr {a : S26} (h : cmpTx a a < 0) : False := by have := cmpTx_is.rf a; omega
def posTx (l : List S26) (t : S26) : Nat := (l.takeWhile fun x => txLess x t).length
theorem posTx_le {l : List S26} {t : S26} : posTx l t ≤ l.length := (List.takeWhile_prefix _).length_le
theorem posTx_is {l : List S26} {t : S26} {k : Nat} (hk : k ≤ l.length) (h1 : ∀ (j : Nat) (x : S26), j < k → l[j]? = some x → cmpTx x t < 0) (h2 : ∀ x, l[k]? = some x → ¬ cmpTx x t < 0) : posTx l t = k :=
  tw_is hk (fun j x hj hx => txl_iff.2 (h1 j x hj hx)) (fun x hx => by have := h2 x hx; simpa [txLess] using this)
noncomputable def hasT (l : List S26) (t : S26) : Bool := @decide (t ∈ l) (Classical.propDecidable _)
theorem hasT_iff {l : List S26} {t : S26} : hasT l t = true ↔ t ∈ l := by simp [hasT]
noncomputable def paOk (l : List S26) (t : S26) : Bool := poolOk l && (txOk t && (decide ((l.length : Int) < 20) && !hasT l t))
noncomputable def paR (l : List S26) (t : S26) : List S26 := if paOk l t = true then insAt l [t] (posTx l t) else l
theorem paOk_iff {l : List S26} {t : S26} : paOk l t = true ↔ poolP l ∧ txOk t = true ∧ (l.length : Int) < 20 ∧ t ∉ l := by
  simp only [paOk, Bool.and_eq_true, poolOk_iff, decide_eq_true_eq, Bool.not_eq_true', hasT, decide_eq_false_iff_not]
theorem paR_no {l : List S26} {t : S26} (h : paOk l t = false) : paR l t = l := by unfold paR; rw [h]; rfl
theorem paR_yes {l : List S26} {t : S26} (h : paOk l t = true) : paR l t = insAt l [t] (posTx l t) := by unfold paR; rw [h]; rfl
section
variable {l L : List S26} {t : S26}
/-- What stands ahead of the place is less, what stands behind it is not. -/
theorem pos_lo {j : Nat} {x : S26} (hj : j < posTx l t) (hx : l[j]? = some x) : cmpTx x t < 0 := txl_yes (tw_lo (p := fun x => txLess x t) hj hx)
theorem pos_hi (h : poolP l) (hn : t ∉ l) {j : Nat} {x : S26} (hj : posTx l t ≤ j) (hx : l[j]? = some x) : cmpTx t x < 0 := by
  have hl := (List.getElem?_eq_some_iff.1 hx).1
  have hk : l[posTx l t]? = some (l[posTx l t]'(by omega)) := List.getElem?_eq_getElem _
  generalize l[posTx l t]'(by omega) = y at hk
  have h1 : cmpTx t y < 0 := by
    have hne : y ≠ t := fun e => hn (e ▸ List.mem_of_getElem? hk)
    have h2 := txl_no (tw_stop (p := fun x => txLess x t) hk)
    have h3 : cmpTx y t ≠ 0 := fun q => hne (cmpTx_eq.1 q)
    have := cmpTx_is.sw t y
    omega
  rcases Nat.lt_or_ge (posTx l t) j with q | q
  · exact cmpTx_is.tr _ _ _ h1 (pool_ord h q hk hx)
  · have : j = posTx l t := by omega
    subst this
    rw [hk] at hx
    cases hx
    exact h1
theorem pa_ins (h : paOk l t = true) : poolP (insAt l [t] (posTx l t)) := by
  obtain ⟨hp, ht, hl, hn⟩ := paOk_iff.1 h
  have hk : posTx l t ≤ l.length := posTx_le
  have hle := ins_len (b := t) hk
  refine ⟨fun j x h0 hj hx => ?_, by omega⟩
  obtain ⟨n, rfl⟩ : ∃ n : Nat, j = n := ⟨j.toNat, by omega⟩
  simp only [Int.toNat_natCast] at hx
  rcases Nat.lt_trichotomy n (posTx l t) with q | q | q
  · rw [ins_lo hk q] at hx
    have := pool_at hp hx
    refine ⟨this.1, fun y hy hz => this.2 y hy ?_⟩
    rwa [ins_lo hk (by omega)] at hz
  · subst q
    rw [ins_k hk] at hx
    cases hx
    refine ⟨ht, fun y hy hz => txl_iff.2 ?_⟩
    rw [ins_lo hk (by omega)] at hz
    exact pos_lo (by omega) hz
  · obtain ⟨m, rfl⟩ : ∃ m, n = m + 1 := ⟨n - 1, by omega⟩
    rw [ins_hi hk (by omega)] at hx
    have hR := pool_at hp hx
    refine ⟨hR.1, fun y hy hz => ?_⟩
    rw [show (((m + 1 : Nat) : Int) - 1).toNat = m by omega] at hz
    by_cases q2 : m = posTx l t
    · rw [q2, ins_k hk] at hz
      cases hz
      exact txl_iff.2 (pos_hi hp hn (by omega) hx)
    · obtain ⟨k, rfl⟩ : ∃ k, m = k + 1 := ⟨m - 1, by omega⟩
      rw [ins_hi hk (by omega)] at hz
      exact hR.2 y (by omega) (by rw [show (((k + 1 : Nat) : Int) - 1).toNat = k by omega]; exact hz)
theorem pa_back {k : Nat} (hp : poolP l) (hk : k ≤ l.length) (h : poolP (insAt l [t] k)) : paOk l t = true ∧ posTx l t = k := by
  have hle := ins_len (b := t) hk
  have hlo : ∀ (j : Nat) (x : S26), j < k → l[j]? = some x → cmpTx x t < 0 := fun j x hj hx => pool_ord h hj ((ins_lo hk hj).trans hx) (ins_k hk)
  have hhi : ∀ (j : Nat) (x : S26), k ≤ j → l[j]? = some x → cmpTx t x < 0 := fun j x hj hx => pool_ord h (by omega) (ins_k hk) ((ins_hi hk hj).trans hx)
  refine ⟨paOk_iff.2 ⟨hp, (pool_at h (ins_k hk)).1, by have := h.2; omega, fun hm => ?_⟩, posTx_is hk hlo fun x hx q => ?_⟩
  · obtain ⟨j, hj⟩ := List.mem_iff_getElem?.1 hm
    rcases Nat.lt_or_ge j k with q | q
    · exact cmp_irr (hlo j t q hj)
    · exact cmp_irr (hhi j t q hj)
  · exact cmp_irr (cmpTx_is.tr _ _ _ q (hhi k x (Nat.le_refl _) hx))
theorem bub_pos {k : Nat} (hn : t ∉ l) (hp : poolP l) (hk : k ≤ l.length) (hgt : ∀ (j : Nat) (x : S26), k ≤ j → l[j]? = some x → cmpTx t x < 0) (hst : ∀ x, 0 < k → l[k - 1]? = some x → ¬ cmpTx t x < 0) : posTx l t = k := by
  refine posTx_is hk (fun j x hj hx => ?_) fun x hx q => cmp_irr (cmpTx_is.tr _ _ _ q (hgt k x (Nat.le_refl _) hx))
  have hy : l[k - 1]? = some (l[k - 1]'(by omega)) := List.getElem?_eq_getElem _
  generalize l[k - 1]'(by omega) = y at hy
  have h1 := hst y (by omega) hy
  have h2 : cmpTx y t ≠ 0 := fun q => hn ((cmpTx_eq.1 q) ▸ List.mem_of_getElem? hy)
  have h3 := cmpTx_is.sw t y
  have h3' := cmpTx_is.sw y t
  have h2' : cmpTx t y ≠ 0 := fun q => h2 (cmpTx_is.z q)
  have h4 : cmpTx y t < 0 := by omega
  by_cases q : j = k - 1
  · subst q; rw [hy] at hx; cases hx; exact h4
  · exact cmpTx_is.tr _ _ _ (pool_ord hp (by omega) hx hy) h4
theorem pa_no1 (h : poolOk l = false) : l = paR l t ∧ false = paOk l t := by
  have : paOk l t = false := by unfold paOk; rw [h]; rfl
  exact ⟨(paR_no this).symm, this.symm⟩
theorem pa_no2 {i : Int} (h0 : 0 ≤ i) (hk : i ≤ (l.length : Int)) (e : L.set i.toNat t = insAt l [t] i.toNat) (hgt : ∀ (j : Nat) (x : S26), i.toNat ≤ j → l[j]? = some x → cmpTx t x < 0) (hst : ¬ i > 0 ∨ ∃ x, L[(i - 1).toNat]? = some x ∧ ¬ cmpTx t x < 0) (h : poolOk (L.set i.toNat t) = false) : l = paR l t ∧ false = paOk l t := by
  have : paOk l t = false := by
    cases hq : paOk l t with
    | false => rfl
    | true =>
      obtain ⟨hp, _, _, hn⟩ := paOk_iff.1 hq
      have e2 := bub_pos hn hp (k := i.toNat) (by omega) hgt fun x hx0 hx => by
        rcases hst with q | ⟨y, hy, hy2⟩
        · omega
        · rw [← List.getElem?_set_ne (a := t) (show i.toNat ≠ (i - 1).toNat by omega), e, ins_lo (by omega) (by omega), show (i - 1).toNat = i.toNat - 1 by omega, hx] at hy
          cases hy
          exact hy2
      have := pa_ins hq
      rw [e2, ← e] at this
      rw [poolOk_iff.2 this] at h
      cases h
  exact ⟨(paR_no this).symm, this.symm⟩
theorem pa_yes {i : Int} (h0 : 0 ≤ i) (hk : i ≤ (l.length : Int)) (e : L.set i.toNat t = insAt l [t] i.toNat) (hl : poolOk l = true) (h : poolOk (L.set i.toNat t) = true) : L.set i.toNat t = paR l t ∧ true = paOk l t := by
  rw [e] at h ⊢
  obtain ⟨h1, h2⟩ := pa_back (poolOk_iff.1 hl) (by omega) (poolOk_iff.1 h)
  rw [paR_yes h1, h2]
  exact ⟨rfl, h1.symm⟩
theorem pa_gt {i : Int} {x : S26} (h0 : i > 0) (hk : i ≤ (l.length : Int)) (e : L.set i.toNat t = insAt l [t] i.toNat) (hgt : ∀ (j : Nat) (x : S26), i.toNat ≤ j → l[j]? = some x → cmpTx t x < 0) (hx : L[(i - 1).toNat]? = some x) (hg : cmpTx t x < 0) : ∀ (j : Nat) (x : S26), (i - 1).toNat ≤ j → l[j]? = some x → cmpTx t x < 0 := by
  intro j y hj hy
  rw [← List.getElem?_set_ne (a := t) (show i.toNat ≠ (i - 1).toNat by omega), e, ins_lo (by omega) (by omega)] at hx
  by_cases q : j = (i - 1).toNat
  · subst q
    rw [hx] at hy
    cases hy
    exact hg
  · exact hgt j y (by omega) hy
theorem pa_shift {i : Int} {x : S26} (h0 : i > 0) (hk : i ≤ (l.length : Int)) (hL : L.length = l.length + 1) (e : L.set i.toNat t = insAt l [t] i.toNat) (hx : L[(i - 1).toNat]? = some x) : (L.set i.toNat x).set (i - 1).toNat t = insAt l [t] (i - 1).toNat := by
  have h := bub_next (L := L.set i.toNat t) (x := x) (y := t) h0 hk e (by rw [List.getElem?_set_ne (by omega)]; exact hx) (by rw [List.getElem?_set_self (by omega)])
  rw [← h, List.set_comm (l := L) t t (by omega), List.set_set]
  exact List.set_comm x t (by omega)
theorem pa_first : (l ++ [t]).set l.length t = insAt l [t] l.length := by
  unfold insAt
  apply List.ext_getElem?
  intro j
  rw [List.getElem?_set]
  by_cases q : l.length = j
  · subst q
    simp
  · rw [if_neg q]
    simp
/-- what the program finds out by halves -/
def bsI (l : List S26) (t : S26) (i j : Int) : Prop := poolP l → (∀ (k : Nat) (x : S26), (k : Int) < i → l[k]? = some x → cmpTx x t < 0) ∧ (∀ (k : Nat) (x : S26), j ≤ k → l[k]? = some x → ¬ cmpTx x t < 0)
theorem bs_zero : bsI l t 0 l.length := fun _ => ⟨fun k x h => by omega, fun k x h hx => by have := (List.getElem?_eq_some_iff.1 hx).1; omega⟩
theorem bs_hi {i j h : Int} {x : S26} (hA : bsI l t i j) (h0 : 0 ≤ h) (hx : l[h.toNat]? = some x) (hlt : cmpTx x t < 0) : bsI l t (h + 1) j := fun hp => by
  refine ⟨fun k y hk hy => ?_, (hA hp).2⟩
  by_cases q : k = h.toNat
  · subst q; rw [hx] at hy; cases hy; exact hlt
  · exact cmpTx_is.tr _ _ _ (pool_ord hp (by omega) hy hx) hlt
theorem bs_lo {i j h : Int} {x : S26} (hA : bsI l t i j) (h0 : 0 ≤ h) (hx : l[h.toNat]? = some x) (hlt : ¬ cmpTx x t < 0) : bsI l t i h := fun hp => by
  refine ⟨(hA hp).1, fun k y hk hy => ?_⟩
  by_cases q : k = h.toNat
  · subst q; rw [hx] at hy; cases hy; exact hlt
  · exact fun hc => hlt (cmpTx_is.tr _ _ _ (pool_ord hp (by omega) hx hy) hc)
theorem bs_end {i j : Int} (hA : bsI l t i j) (h0 : 0 ≤ i) (hij : ¬ i < j) (hj : j ≤ i) (hi : i ≤ (l.length : Int)) (hp : poolP l) : i = (posTx l t : Int) := by
  obtain ⟨h1, h2⟩ := hA hp
  have := posTx_is (l := l) (t := t) (k := i.toNat) (by omega) (fun k x hk hx => h1 k x (by omega) hx) (fun x hx => h2 _ x (by omega) hx)
  omega
theorem bs_has {x : S26} (hp : poolP l) (hx : l[posTx l t]? = some x) (h : cmpTx x t = 0) : true = hasT l t := (hasT_iff.2 (cmpTx_eq.1 h ▸ List.mem_of_getElem? hx)).symm
theorem bs_not {x : S26} (hp : poolP l) (hx : l[posTx l t]? = some x) (h : cmpTx x t ≠ 0) : false = hasT l t := by
  cases hh : hasT l t with
  | false => rfl
  | true =>
    obtain ⟨j, hj⟩ := List.mem_iff_getElem?.1 (hasT_iff.1 hh)
    exfalso
    rcases Nat.lt_trichotomy j (posTx l t) with q | q | q
    · exact cmp_irr (pos_lo q hj)
    · subst q; rw [hx] at hj; cases hj; exact h (cmpTx_is.rf _)
    · have h1 := pool_ord hp q hx hj
      have h2 := txl_no (tw_stop (p := fun x => txLess x t) hx)
      exact h2 h1
theorem bs_any {x : S26} (hp : poolP l) (hx : l[((posTx l t : Nat) : Int).toNat]? = some x) : (cmpTx x t == 0) = hasT l t := by
  rw [Int.toNat_natCast] at hx
  by_cases h : cmpTx x t = 0
  · rw [← bs_has hp hx h]; simpa using h
  · rw [← bs_not hp hx h]; simpa using h
theorem bs_out (h : (l.length : Int) ≤ (posTx l t : Int)) : false = hasT l t := by
  cases hh : hasT l t with
  | false => rfl
  | true =>
    obtain ⟨j, hj⟩ := List.mem_iff_getElem?.1 (hasT_iff.1 hh)
    have := (List.getElem?_eq_some_iff.1 hj).1
    exact (cmp_irr (pos_lo (by omega) hj)).elim
theorem pa_len (h : paOk l t = true) : (paR l t).length = l.length + 1 := by rw [paR_yes h]; exact ins_len posTx_le
theorem paR_len (l : List S26) (t : S26) : (paR l t).length ≤ l.length + 1 := by
  cases h : paOk l t with
  | true => rw [pa_len h]; omega
  | false => rw [paR_no h]; omega
end
theorem or0_n {x y : Int} (h : x ≠ 0) : or0 x y = x := if_neg h
theorem or0_o {x y : Int} (h : x = 0) : or0 x y = y := if_pos h
theorem cS_n {a b : ByteArray} (h : a.toList ≠ b.toList) : cS a b ≠ 0 := fun e => h (by rw [cS_eq e])
theorem cS_o {a b : ByteArray} (h : a.toList = b.toList) : cS a b = 0 := by rw [tl_inj.1 h]; exact cS_is.rf b
theorem cI_n {a b : Int} (h : a ≠ b) : cI a b ≠ 0 := fun e => h (cI_eq e)
theorem cI_o {a b : Int} (h : a = b) : cI a b = 0 := by rw [h]; exact cI_is.rf b
theorem cI_lt {a b : Int} : cI a b < 0 ↔ a < b := by unfold cI; grind
section
variable {a b : S26}
theorem txl1 (h : a.f1.toList ≠ b.f1.toList) : Op.bytesLess a.f1.toList b.f1.toList = txLess a b := by
  rw [Bool.eq_iff_iff, txl_iff, cmpTx, or0_n (cS_n h), cS_lt]
theorem txl2 (h1 : a.f1.toList = b.f1.toList) (h : a.f4 ≠ b.f4) : decide (a.f4 < b.f4) = txLess a b := by
  rw [Bool.eq_iff_iff, txl_iff, cmpTx, or0_o (cS_o h1), or0_n (cI_n h), cI_lt, decide_eq_true_eq]
theorem txl3 (h1 : a.f1.toList = b.f1.toList) (h2 : a.f4 = b.f4) (h : a.f0 ≠ b.f0) : decide (a.f0 < b.f0) = txLess a b := by
  rw [Bool.eq_iff_iff, txl_iff, cmpTx, or0_o (cS_o h1), or0_o (cI_o h2), or0_n (cI_n h), cI_lt, decide_eq_true_eq]
theorem txl4 (h1 : a.f1.toList = b.f1.toList) (h2 : a.f4 = b.f4) (h3 : a.f0 = b.f0) (h : a.f2.toList ≠ b.f2.toList) : Op.bytesLess a.f2.toList b.f2.toList = txLess a b := by
  rw [Bool.eq_iff_iff, txl_iff, cmpTx, or0_o (cS_o h1), or0_o (cI_o h2), or0_o (cI_o h3), or0_n (cS_n h), cS_lt]
theorem txl5 (h1 : a.f1.toList = b.f1.toList) (h2 : a.f4 = b.f4) (h3 : a.f0 = b.f0) (h : a.f2.toList = b.f2.toList) : decide (a.f3 < b.f3) = txLess a b := by
  rw [Bool.eq_iff_iff, txl_iff, cmpTx, or0_o (cS_o h1), or0_o (cI_o h2), or0_o (cI_o h3), or0_o (cS_o h), cI_lt, decide_eq_true_eq]
end
theorem cS_a {x y : ByteArray} (h : Op.bytesLess x.toList y.toList = true) : -1 = cS x y := (if_pos h).symm
theorem cS_b {x y : ByteArray} (h : Op.bytesLess x.toList y.toList = false) (h' : Op.bytesLess y.toList x.toList = true) : 1 = cS x y := by
  have := cS_gt.2 h'
  unfold cS at *
  rw [if_neg (by simp [h])] at *
  split at this <;> simp_all
theorem cS_c {x y : ByteArray} (h : Op.bytesLess x.toList y.toList = false) (h' : Op.bytesLess y.toList x.toList = false) : 0 = cS x y := by
  have h1 : ¬ cS x y < 0 := fun q => by rw [cS_lt.1 q] at h; cases h
  have h2 : ¬ 0 < cS x y := fun q => by rw [cS_gt.1 q] at h'; cases h'
  omega
def orL : List Int → Int
  | [] => 0
  | x :: l => or0 x (orL l)
theorem orL_five (a b c d e : Int) : orL [a, b, c, d, e] = or0 a (or0 b (or0 c (or0 d e))) := by
  have : or0 e 0 = e := by unfold or0; split <;> omega
  show or0 a (or0 b (or0 c (or0 d (or0 e 0)))) = _
  rw [this]
theorem orL_z : ∀ {l : List Int} {n : Nat}, (∀ (j : Nat) (x : Int), j < n → l[j]? = some x → x = 0) → orL l = orL (l.drop n)
  | l, 0, _ => by simp
  | [], n + 1, _ => by simp
  | x :: l, n + 1, h => by
    have h0 := h 0 x (by omega) rfl
    rw [List.drop_succ_cons, ← orL_z (l := l) (n := n) fun j y hj hy => h (j + 1) y (by omega) (by simpa using hy)]
    exact or0_o h0
theorem orL_at {l : List Int} {i : Int} {x : Int} (hA : Upto (fun _ x => x = 0) (fun n => l[n]?) i) (h0 : 0 ≤ i) (hx : l[i.toNat]? = some x) (h : x ≠ 0) : x = orL l := by
  rw [orL_z (n := i.toNat) fun j y hj hy => hA j y (by omega) (by omega) (by simpa using hy)]
  obtain ⟨hl, e⟩ := List.getElem?_eq_some_iff.1 hx
  rw [List.drop_eq_getElem_cons hl, e]
  exact (or0_n h).symm
theorem orL_all {l : List Int} {i : Int} (hA : Upto (fun _ x => x = 0) (fun n => l[n]?) i) (h : (l.length : Int) ≤ i) : 0 = orL l := by
  rw [orL_z (n := l.length) fun j y hj hy => hA j y (by omega) (by omega) (by simpa using hy)]
  simp [orL]
theorem half_mid {i j n : Int} (h0 : 0 ≤ i) (h1 : i < j) (h2 : j ≤ 2000000) (h : n = wr .i64 (wr .u64 (i + j) / 2 ^ min (Int.toNat 1) 64)) : i ≤ n ∧ n < j := by
  have e : wr .u64 (i + j) = i + j := by
    have : wr .u64 (i + j) = (i + j) % 18446744073709551616 := rfl
    omega
  have e2 : (2 : Int) ^ min (Int.toNat 1) 64 = 2 := rfl
  have e3 : wr .i64 ((i + j) / 2) = wrap64 ((i + j) / 2) := rfl
  rw [e, e2, e3, w64 (by omega) (by omega)] at h
  omega
section
variable {l : List S26} {t : S26} {at_ : Int} {has : Bool}
theorem pa_m1 (h : poolP l → at_ = (posTx l t : Int) ∧ has = hasT l t) (hh : has = true) : l = paR l t ∧ false = paOk l t := by
  have : paOk l t = false := by
    cases hq : paOk l t with
    | false => rfl
    | true =>
      obtain ⟨hp, _, _, hn⟩ := paOk_iff.1 hq
      rw [hh] at h
      exact absurd (hasT_iff.1 (h hp).2.symm) hn
  exact ⟨(paR_no this).symm, this.symm⟩
theorem pa_m2 (h : (l.length : Int) ≥ 20) : l = paR l t ∧ false = paOk l t := by
  have : paOk l t = false := by
    cases hq : paOk l t with
    | false => rfl
    | true =>
      obtain ⟨_, _, h1, _⟩ := paOk_iff.1 hq
      omega
  exact ⟨(paR_no this).symm, this.symm⟩
theorem pa_m3 (h : txOk t = false) : l = paR l t ∧ false = paOk l t := by
  have : paOk l t = false := by unfold paOk; rw [h]; simp
  exact ⟨(paR_no this).symm, this.symm⟩
theorem pa_in (h : poolP l → at_ = (posTx l t : Int) ∧ has = hasT l t) (hh : has = false) (hlen : ¬ (l.length : Int) ≥ 20) (ht : txOk t = true) (hp : poolOk l = true) : insAt l [t] at_.toNat = paR l t ∧ true = paOk l t := by
  have hP := poolOk_iff.1 hp
  obtain ⟨h1, h2⟩ := h hP
  have : paOk l t = true := paOk_iff.2 ⟨hP, ht, by omega, fun q => by rw [hh, hasT_iff.2 q] at h2; cases h2⟩
  rw [paR_yes this, h1, Int.toNat_natCast]
  exact ⟨rfl, this.symm⟩
end
theorem s_TxLess (a : S26) (b : S26) : ∃ r0 : Bool, (r0 = txLess a b) ∧ Fn Try.prog 59 [.e (.agg (cD (d26 a))), .e (.agg (cD (d26 b)))] (lookH []) (bV r0) (lookH []) := by
  have key : ∃ x' h', ((fun x' h' => ∃ r0 : Bool, (r0 = txLess a b) ∧ x' = bV r0 ∧ h' = [])) x' h' ∧ Fn Try.prog 59 [.e (.agg (cD (d26 a))), .e (.agg (cD (d26 b)))] (lookH []) x' (lookH h') := by
    refine Fn.bodyX (N := 54) hτ Try.func59 rfl rfl rfl rfl ?_
    refine X.seq ?_
    refine X.rk ⟨[(2, .pt 64 0 0), (3, .pt 80 0 0)], [(64, some (.box (cD (d26 a)))), (80, some (.box (cD (d26 b))))], 112⟩ hτ hmix (by kernel_rfl) (by kernel_rfl) rfl ?_
    refine X.seq ?_
    refine X.block ?_
    refine X.seq ?_
    refine X.rk ⟨[(2, .pt 64 0 0), (3, .pt 80 0 0), (5, bV (!(a.f1.toList == b.f1.toList)))], [(64, some (.box (cD (d26 a)))), (80, some (.box (cD (d26 b))))], 208⟩ hτ hmix (by kernel_rfl) (by kernel_rfl) rfl ?_
    refine X.if_ (b := !(a.f1.toList == b.f1.toList)) (by kernel_rfl) (fun hb1 => ?_) (fun hb1 => ?_)
    · replace hb1 := beq_no (bnot_yes (hb1))
      refine X.seq ?_
      refine X.rk ⟨[(4, bV (Op.bytesLess a.f1.toList b.f1.toList))], [], 304⟩ hτ hmix (by kernel_rfl) (by kernel_rfl) rfl ?_
      refine X.ret ?_
      exact ⟨trivial, _, _, ⟨(Op.bytesLess a.f1.toList b.f1.toList), (by first | exact txl1 ‹_› | exact txl2 ‹_› ‹_› | exact txl3 ‹_› ‹_› ‹_› | exact txl4 ‹_› ‹_› ‹_› ‹_› | exact txl5 ‹_› ‹_› ‹_› ‹_›), rfl, rfl⟩, .inl (Ret.mk' [] (by kernel_rfl) (by kernel_rfl) (by kernel_rfl))⟩
    · replace hb1 := beq_yes (bnot_no (hb1))
      refine X.seq ?_
      refine X.rk ⟨[(2, .pt 64 0 0), (3, .pt 80 0 0), (16, bV (a.f4 != b.f4))], [(64, some (.box (cD (d26 a)))), (80, some (.box (cD (d26 b))))], 304⟩ hτ hmix (by kernel_rfl) (by kernel_rfl) rfl ?_
      refine X.if_ (b := (a.f4 != b.f4)) (by kernel_rfl) (fun hb2 => ?_) (fun hb2 => ?_)
      · replace hb2 := bne_iff_ne.1 (hb2)
        refine X.seq ?_
        refine X.rk ⟨[(4, bV (decide ((a.f4 : Int) < b.f4)))], [], 400⟩ hτ hmix (by kernel_rfl) (by kernel_rfl) rfl ?_
        refine X.ret ?_
        exact ⟨trivial, _, _, ⟨decide ((a.f4 : Int) < b.f4), (by first | exact txl1 ‹_› | exact txl2 ‹_› ‹_› | exact txl3 ‹_› ‹_› ‹_› | exact txl4 ‹_› ‹_› ‹_› ‹_› | exact txl5 ‹_› ‹_› ‹_› ‹_›), rfl, rfl⟩, .inl (Ret.mk' [] (by kernel_rfl) (by kernel_rfl) (by kernel_rfl))⟩
      · replace hb2 := bne_eq_false_iff_eq.1 (hb2)
        refine X.seq ?_
        refine X.rk ⟨[(2, .pt 64 0 0), (3, .pt 80 0 0), (27, bV (a.f0 != b.f0))], [(64, some (.box (cD (d26 a)))), (80, some (.box (cD (d26 b))))], 400⟩ hτ hmix (by kernel_rfl) (by kernel_rfl) rfl ?_
        refine X.if_ (b := (a.f0 != b.f0)) (by kernel_rfl) (fun hb3 => ?_) (fun hb3 => ?_)
        · replace hb3 := bne_iff_ne.1 (hb3)
          refine X.seq ?_
          refine X.rk ⟨[(4, bV (decide ((a.f0 : Int) < b.f0)))], [], 496⟩ hτ hmix (by kernel_rfl) (by kernel_rfl) rfl ?_
          refine X.ret ?_
          exact ⟨trivial, _, _, ⟨decide ((a.f0 : Int) < b.f0), (by first | exact txl1 ‹_› | exact txl2 ‹_› ‹_› | exact txl3 ‹_› ‹_› ‹_› | exact txl4 ‹_› ‹_› ‹_› ‹_› | exact txl5 ‹_› ‹_› ‹_› ‹_›), rfl, rfl⟩, .inl (Ret.mk' [] (by kernel_rfl) (by kernel_rfl) (by kernel_rfl))⟩
        · replace hb3 := bne_eq_false_iff_eq.1 (hb3)
          refine X.seq ?_
          refine X.rk ⟨[(2, .pt 64 0 0), (3, .pt 80 0 0), (38, bV (!(a.f2.toList == b.f2.toList)))], [(64, some (.box (cD (d26 a)))), (80, some (.box (cD (d26 b))))], 496⟩ hτ hmix (by kernel_rfl) (by kernel_rfl) rfl ?_
          refine X.if_ (b := !(a.f2.toList == b.f2.toList)) (by kernel_rfl) (fun hb4 => ?_) (fun hb4 => ?_)
          · replace hb4 := beq_no (bnot_yes (hb4))
            refine X.seq ?_
            refine X.rk ⟨[(4, bV (Op.bytesLess a.f2.toList b.f2.toList))], [], 592⟩ hτ hmix (by kernel_rfl) (by kernel_rfl) rfl ?_
            refine X.ret ?_
            exact ⟨trivial, _, _, ⟨(Op.bytesLess a.f2.toList b.f2.toList), (by first | exact txl1 ‹_› | exact txl2 ‹_› ‹_› | exact txl3 ‹_› ‹_› ‹_› | exact txl4 ‹_› ‹_› ‹_› ‹_› | exact txl5 ‹_› ‹_› ‹_› ‹_›), rfl, rfl⟩, .inl (Ret.mk' [] (by kernel_rfl) (by kernel_rfl) (by kernel_rfl))⟩
          · replace hb4 := beq_yes (bnot_no (hb4))
            refine X.skip ?_
            refine X.seq ?_
            refine X.rk ⟨[(4, bV (decide ((a.f3 : Int) < b.f3)))], [], 592⟩ hτ hmix (by kernel_rfl) (by kernel_rfl) rfl ?_
            refine X.ret ?_
            exact ⟨trivial, _, _, ⟨decide ((a.f3 : Int) < b.f3), (by first | exact txl1 ‹_› | exact txl2 ‹_› ‹_› | exact txl3 ‹_› ‹_› ‹_› | exact txl4 ‹_› ‹_› ‹_› ‹_› | exact txl5 ‹_› ‹_› ‹_› ‹_›), rfl, rfl⟩, .inl (Ret.mk' [] (by kernel_rfl) (by kernel_rfl) (by kernel_rfl))⟩
  obtain ⟨_, _, ⟨r0, q1, rfl, rfl⟩, hf⟩ := key
  exact ⟨r0, q1, hf⟩

theorem c_nanS (x : ByteArray) : ∃ r0 : Bool, (r0 = false) ∧ Fn Try.prog 175 [.e (.c (.d (.v (.string x))))] (lookH []) (bV r0) (lookH []) := by
  have key : ∃ x' h', ((fun x' h' => ∃ r0 : Bool, (r0 = false) ∧ x' = bV r0 ∧ h' = [])) x' h' ∧ Fn Try.prog 175 [.e (.c (.d (.v (.string x))))] (lookH []) x' (lookH h') := by
    refine Fn.bodyX (N := 6) hτ Try.func175 rfl rfl rfl rfl ?_
    refine X.seq ?_
    refine X.rk ⟨[(0, .e (.c (.d (.v (.string x)))))], [], 80⟩ hτ hmix (by kernel_rfl) (by kernel_rfl) rfl ?_
    refine X.seq ?_
    refine X.rk ⟨[(2, bV (!(x.toList == x.toList)))], [], 144⟩ hτ hmix (by kernel_rfl) (by kernel_rfl) rfl ?_
    refine X.ret ?_
    exact ⟨trivial, _, _, ⟨!(x.toList == x.toList), (by simp), rfl, rfl⟩, .inl (Ret.mk' [] (by kernel_rfl) (by kernel_rfl) (by kernel_rfl))⟩
  obtain ⟨_, _, ⟨r0, q1, rfl, rfl⟩, hf⟩ := key
  exact ⟨r0, q1, hf⟩

theorem c_nanI (x : Int) : ∃ r0 : Bool, (r0 = false) ∧ Fn Try.prog 176 [iV x] (lookH []) (bV r0) (lookH []) := by
  have key : ∃ x' h', ((fun x' h' => ∃ r0 : Bool, (r0 = false) ∧ x' = bV r0 ∧ h' = [])) x' h' ∧ Fn Try.prog 176 [iV x] (lookH []) x' (lookH h') := by
    refine Fn.bodyX (N := 6) hτ Try.func176 rfl rfl rfl rfl ?_
    refine X.seq ?_
    refine X.rk ⟨[(0, iV x)], [], 80⟩ hτ hmix (by kernel_rfl) (by kernel_rfl) rfl ?_
    refine X.seq ?_
    refine X.rk ⟨[(2, bV (x != x))], [], 144⟩ hτ hmix (by kernel_rfl) (by kernel_rfl) rfl ?_
    refine X.ret ?_
    exact ⟨trivial, _, _, ⟨(x != x), (by simp), rfl, rfl⟩, .inl (Ret.mk' [] (by kernel_rfl) (by kernel_rfl) (by kernel_rfl))⟩
  obtain ⟨_, _, ⟨r0, q1, rfl, rfl⟩, hf⟩ := key
  exact ⟨r0, q1, hf⟩

theorem c_cmpS (x : ByteArray) (y : ByteArray) : ∃ r0 : Int, (r0 = cS x y) ∧ Fn Try.prog 120 [.e (.c (.d (.v (.string x)))), .e (.c (.d (.v (.string y))))] (lookH []) (iV r0) (lookH []) := by
  have key : ∃ x' h', ((fun x' h' => ∃ r0 : Int, (r0 = cS x y) ∧ x' = iV r0 ∧ h' = [])) x' h' ∧ Fn Try.prog 120 [.e (.c (.d (.v (.string x)))), .e (.c (.d (.v (.string y))))] (lookH []) x' (lookH h') := by
    refine Fn.bodyX (N := 20) hτ Try.func120 rfl rfl rfl rfl ?_
    refine X.seq ?_
    refine X.rk ⟨[(0, .e (.c (.d (.v (.string x))))), (1, .e (.c (.d (.v (.string y)))))], [], 80⟩ hτ hmix (by kernel_rfl) (by kernel_rfl) rfl ?_
    refine X.seq ?_
    refine X.rs 1 hτ hmix (by kernel_rfl) ?_
    obtain ⟨r1, hr3, hf2⟩ := c_nanS x
    replace hr3 := hr3.symm; subst hr3
    refine CH.call hf2 Try.func175 ⟨rfl, rfl⟩ [] (by kernel_rfl) (by kernel_rfl) (by kernel_rfl) (by kernel_rfl) ?_
    refine CH.go 1 hτ (by kernel_rfl) ?_
    refine CH.endk ⟨[(0, .e (.c (.d (.v (.string x))))), (1, .e (.c (.d (.v (.string y))))), (5, bV false)], [], 128⟩ (by kernel_rfl) (by kernel_rfl) rfl ?_
    refine X.seq ?_
    refine X.rs 1 hτ hmix (by kernel_rfl) ?_
    obtain ⟨r5, hr7, hf6⟩ := c_nanS y
    replace hr7 := hr7.symm; subst hr7
    refine CH.call hf6 Try.func175 ⟨rfl, rfl⟩ [] (by kernel_rfl) (by kernel_rfl) (by kernel_rfl) (by kernel_rfl) ?_
    refine CH.go 1 hτ (by kernel_rfl) ?_
    refine CH.endk ⟨[(0, .e (.c (.d (.v (.string x))))), (1, .e (.c (.d (.v (.string y))))), (5, bV false), (6, bV false)], [], 176⟩ (by kernel_rfl) (by kernel_rfl) rfl ?_
    refine X.seq ?_
    refine X.seq ?_
    refine X.rk ⟨[(0, .e (.c (.d (.v (.string x))))), (1, .e (.c (.d (.v (.string y))))), (6, bV false), (11, bV false)], [], 192⟩ hτ hmix (by kernel_rfl) (by kernel_rfl) rfl ?_
    refine X.ifF (by kernel_rfl) ?_
    refine X.skip ?_
    refine X.seq ?_
    refine X.seq ?_
    refine X.rk ⟨[(0, .e (.c (.d (.v (.string x))))), (1, .e (.c (.d (.v (.string y))))), (13, bV false)], [], 208⟩ hτ hmix (by kernel_rfl) (by kernel_rfl) rfl ?_
    refine X.ifF (by kernel_rfl) ?_
    refine X.skip ?_
    refine X.seq ?_
    refine X.seq ?_
    refine X.rk ⟨[(0, .e (.c (.d (.v (.string x))))), (1, .e (.c (.d (.v (.string y))))), (16, bV (Op.bytesLess x.toList y.toList))], [], 256⟩ hτ hmix (by kernel_rfl) (by kernel_rfl) rfl ?_
    refine X.if_ (b := (Op.bytesLess x.toList y.toList)) (by kernel_rfl) (fun hb9 => ?_) (fun hb9 => ?_)
    · refine X.seq ?_
      refine X.rk ⟨[(4, iV (-1))], [], 272⟩ hτ hmix (by kernel_rfl) (by kernel_rfl) rfl ?_
      refine X.ret ?_
      exact ⟨trivial, _, _, ⟨(-1), (by first | exact cS_a ‹_› | exact cS_b ‹_› ‹_› | exact cS_c ‹_› ‹_›), rfl, rfl⟩, .inl (Ret.mk' [] (by kernel_rfl) (by kernel_rfl) (by kernel_rfl))⟩
    · refine X.skip ?_
      refine X.seq ?_
      refine X.seq ?_
      refine X.rk ⟨[(19, bV (!(Op.bytesLess x.toList y.toList || x.toList == y.toList)))], [], 304⟩ hτ hmix (by kernel_rfl) (by kernel_rfl) rfl ?_
      refine X.if_ (b := !(Op.bytesLess x.toList y.toList || x.toList == y.toList)) (by kernel_rfl) (fun hb10 => ?_) (fun hb10 => ?_)
      · replace hb10 := leq_no (bnot_yes (hb10))
        refine X.seq ?_
        refine X.rk ⟨[(4, iV 1)], [], 320⟩ hτ hmix (by kernel_rfl) (by kernel_rfl) rfl ?_
        refine X.ret ?_
        exact ⟨trivial, _, _, ⟨1, (by first | exact cS_a ‹_› | exact cS_b ‹_› ‹_› | exact cS_c ‹_› ‹_›), rfl, rfl⟩, .inl (Ret.mk' [] (by kernel_rfl) (by kernel_rfl) (by kernel_rfl))⟩
      · replace hb10 := leq_yes (bnot_no (hb10))
        refine X.skip ?_
        refine X.seq ?_
        refine X.rk ⟨[(4, iV 0)], [], 320⟩ hτ hmix (by kernel_rfl) (by kernel_rfl) rfl ?_
        refine X.ret ?_
        exact ⟨trivial, _, _, ⟨0, (by first | exact cS_a ‹_› | exact cS_b ‹_› ‹_› | exact cS_c ‹_› ‹_›), rfl, rfl⟩, .inl (Ret.mk' [] (by kernel_rfl) (by kernel_rfl) (by kernel_rfl))⟩
  obtain ⟨_, _, ⟨r0, q1, rfl, rfl⟩, hf⟩ := key
  exact ⟨r0, q1, hf⟩

theorem c_cmpI (x : Int) (y : Int) : ∃ r0 : Int, (r0 = cI x y) ∧ Fn Try.prog 121 [iV x, iV y] (lookH []) (iV r0) (lookH []) := by
  have key : ∃ x' h', ((fun x' h' => ∃ r0 : Int, (r0 = cI x y) ∧ x' = iV r0 ∧ h' = [])) x' h' ∧ Fn Try.prog 121 [iV x, iV y] (lookH []) x' (lookH h') := by
    refine Fn.bodyX (N := 20) hτ Try.func121 rfl rfl rfl rfl ?_
    refine X.seq ?_
    refine X.rk ⟨[(0, iV x), (1, iV y)], [], 80⟩ hτ hmix (by kernel_rfl) (by kernel_rfl) rfl ?_
    refine X.seq ?_
    refine X.rs 1 hτ hmix (by kernel_rfl) ?_
    obtain ⟨r1, hr3, hf2⟩ := c_nanI x
    replace hr3 := hr3.symm; subst hr3
    refine CH.call hf2 Try.func176 ⟨rfl, rfl⟩ [] (by kernel_rfl) (by kernel_rfl) (by kernel_rfl) (by kernel_rfl) ?_
    refine CH.go 1 hτ (by kernel_rfl) ?_
    refine CH.endk ⟨[(0, iV x), (1, iV y), (5, bV false)], [], 128⟩ (by kernel_rfl) (by kernel_rfl) rfl ?_
    refine X.seq ?_
    refine X.rs 1 hτ hmix (by kernel_rfl) ?_
    obtain ⟨r5, hr7, hf6⟩ := c_nanI y
    replace hr7 := hr7.symm; subst hr7
    refine CH.call hf6 Try.func176 ⟨rfl, rfl⟩ [] (by kernel_rfl) (by kernel_rfl) (by kernel_rfl) (by kernel_rfl) ?_
    refine CH.go 1 hτ (by kernel_rfl) ?_
    refine CH.endk ⟨[(0, iV x), (1, iV y), (5, bV false), (6, bV false)], [], 176⟩ (by kernel_rfl) (by kernel_rfl) rfl ?_
    refine X.seq ?_
    refine X.seq ?_
    refine X.rk ⟨[(0, iV x), (1, iV y), (6, bV false), (11, bV false)], [], 192⟩ hτ hmix (by kernel_rfl) (by kernel_rfl) rfl ?_
    refine X.ifF (by kernel_rfl) ?_
    refine X.skip ?_
    refine X.seq ?_
    refine X.seq ?_
    refine X.rk ⟨[(0, iV x), (1, iV y), (13, bV false)], [], 208⟩ hτ hmix (by kernel_rfl) (by kernel_rfl) rfl ?_
    refine X.ifF (by kernel_rfl) ?_
    refine X.skip ?_
    refine X.seq ?_
    refine X.seq ?_
    refine X.rk ⟨[(0, iV x), (1, iV y), (16, bV (decide ((x : Int) < y)))], [], 256⟩ hτ hmix (by kernel_rfl) (by kernel_rfl) rfl ?_
    refine X.if_ (b := decide ((x : Int) < y)) (by kernel_rfl) (fun hb9 => ?_) (fun hb9 => ?_)
    · replace hb9 := of_decide_eq_true (hb9)
      refine X.seq ?_
      refine X.rk ⟨[(4, iV (-1))], [], 272⟩ hτ hmix (by kernel_rfl) (by kernel_rfl) rfl ?_
      refine X.ret ?_
      exact ⟨trivial, _, _, ⟨(-1), (by unfold cI; split <;> (try split) <;> omega), rfl, rfl⟩, .inl (Ret.mk' [] (by kernel_rfl) (by kernel_rfl) (by kernel_rfl))⟩
    · replace hb9 := of_decide_eq_false (hb9)
      refine X.skip ?_
      refine X.seq ?_
      refine X.seq ?_
      refine X.rk ⟨[(19, bV (decide ((x : Int) > y)))], [], 304⟩ hτ hmix (by kernel_rfl) (by kernel_rfl) rfl ?_
      refine X.if_ (b := decide ((x : Int) > y)) (by kernel_rfl) (fun hb10 => ?_) (fun hb10 => ?_)
      · replace hb10 := of_decide_eq_true (hb10)
        refine X.seq ?_
        refine X.rk ⟨[(4, iV 1)], [], 320⟩ hτ hmix (by kernel_rfl) (by kernel_rfl) rfl ?_
        refine X.ret ?_
        exact ⟨trivial, _, _, ⟨1, (by unfold cI; split <;> (try split) <;> omega), rfl, rfl⟩, .inl (Ret.mk' [] (by kernel_rfl) (by kernel_rfl) (by kernel_rfl))⟩
      · replace hb10 := of_decide_eq_false (hb10)
        refine X.skip ?_
        refine X.seq ?_
        refine X.rk ⟨[(4, iV 0)], [], 320⟩ hτ hmix (by kernel_rfl) (by kernel_rfl) rfl ?_
        refine X.ret ?_
        exact ⟨trivial, _, _, ⟨0, (by unfold cI; split <;> (try split) <;> omega), rfl, rfl⟩, .inl (Ret.mk' [] (by kernel_rfl) (by kernel_rfl) (by kernel_rfl))⟩
  obtain ⟨_, _, ⟨r0, q1, rfl, rfl⟩, hf⟩ := key
  exact ⟨r0, q1, hf⟩

theorem c_orI (l : List Int) (hl : l.length ≤ 100) : ∃ r0 : Int, (r0 = orL l) ∧ Fn Try.prog 119 [lV (l.map dI)] (lookH []) (iV r0) (lookH []) := by
  have key : ∃ x' h', ((fun x' h' => ∃ r0 : Int, (r0 = orL l) ∧ x' = iV r0 ∧ h' = [])) x' h' ∧ Fn Try.prog 119 [lV (l.map dI)] (lookH []) x' (lookH h') := by
    refine Fn.bodyX (N := 18) hτ Try.func119 rfl rfl rfl rfl ?_
    refine X.seq ?_
    refine X.rk ⟨[(0, lV (l.map dI))], [], 80⟩ hτ hmix (by kernel_rfl) (by kernel_rfl) rfl ?_
    refine X.seq ?_
    refine X.rk ⟨[(0, lV (l.map dI)), (3, iV 0)], [], 96⟩ hτ hmix (by kernel_rfl) (by kernel_rfl) rfl ?_
    refine X.seq ?_
    refine X.seq ?_
    have el1 : (l.map dI).length = l.length := List.length_map ..
    refine X.rk ⟨[(3, iV 0), (6, lV (l.map dI)), (7, iV ((l.map dI).length : Int)), (8, iV 0)], [], 144⟩ hτ hmix (by kernel_rfl) (by kernel_rfl) rfl ?_
    refine X.block ?_
    -- 3: v8 : Int
    refine X.loop (σ := { g : Int // (fun (v8 : Int) => 0 ≤ v8 ∧ v8 ≤ l.length ∧ Upto (fun _ x => x = 0) (fun n => l[n]?) v8) g }) (fun g => (fun (v8 : Int) => ⟨[(3, iV 0), (6, lV (l.map dI)), (7, iV ((l.map dI).length : Int)), (8, iV v8)], [], 144⟩) g.1) (fun g => (fun (v8 : Int) => (l.length - v8).toNat) g.1) ⟨0, ⟨by first | omega | (dsimp only; omega), by first | omega | (dsimp only; omega), upto_zero⟩⟩ (Wk.less (by kernel_rfl)) (fun g => ?_)
    obtain ⟨v8, hg3⟩ := g
    have hg3 : 0 ≤ v8 ∧ v8 ≤ l.length ∧ Upto (fun _ x => x = 0) (fun n => l[n]?) v8 := hg3
    obtain ⟨_, _, hA⟩ := hg3
    refine X.seq ?_
    refine X.rk ⟨[(3, iV 0), (6, lV (l.map dI)), (7, iV ((l.map dI).length : Int)), (8, iV v8), (9, bV (decide ((v8 : Int) < ((l.map dI).length : Int))))], [], 160⟩ hτ hmix (by kernel_rfl) (by kernel_rfl) rfl ?_
    refine X.seq ?_
    refine X.if_ (b := decide ((v8 : Int) < ((l.map dI).length : Int))) (by kernel_rfl) (fun hb4 => ?_) (fun hb4 => ?_)
    · replace hb4 := of_decide_eq_true (hb4)
      refine X.skip ?_
      refine X.seq ?_
      refine X.block ?_
      refine X.seq ?_
      refine X.rs 0 hτ hmix (by kernel_rfl) ?_
      obtain ⟨x5, hx5⟩ : ∃ x, l[Int.toNat v8]? = some x := ⟨_, List.getElem?_eq_getElem (by first | omega | (simp; done) | (simp; omega))⟩
      refine CH.idx hτ (dI x5) (rows := (l.map dI)) (n := v8) (sz := 1) (by kernel_rfl) (by kernel_rfl) (by first | omega | (simp; done) | (simp; omega)) (by rw [List.getElem?_map, hx5]; rfl) (by kernel_rfl) ?_
      refine CH.go 2 hτ (by kernel_rfl) ?_
      refine CH.endk ⟨[(3, iV 0), (5, iV x5), (6, lV (l.map dI)), (7, iV ((l.map dI).length : Int)), (8, iV v8)], [], 208⟩ (by kernel_rfl) (by kernel_rfl) rfl ?_
      refine X.seq ?_
      refine X.rk ⟨[(3, iV 0), (5, iV x5), (6, lV (l.map dI)), (7, iV ((l.map dI).length : Int)), (8, iV v8), (14, bV (x5 != 0))], [], 256⟩ hτ hmix (by kernel_rfl) (by kernel_rfl) rfl ?_
      refine X.if_ (b := (x5 != 0)) (by kernel_rfl) (fun hb6 => ?_) (fun hb6 => ?_)
      · replace hb6 := bne_iff_ne.1 (hb6)
        refine X.seq ?_
        refine X.rk ⟨[(2, iV x5)], [], 288⟩ hτ hmix (by kernel_rfl) (by kernel_rfl) rfl ?_
        refine X.ret ?_
        exact ⟨trivial, _, _, ⟨x5, (by first | exact orL_at hA (by omega) ‹_› ‹_› | exact orL_all hA (by omega)), rfl, rfl⟩, .inl (Ret.mk' [] (by kernel_rfl) (by kernel_rfl) (by kernel_rfl))⟩
      · replace hb6 := bne_eq_false_iff_eq.1 (hb6)
        refine X.skip ?_
        refine X.rk ⟨[(3, iV 0), (6, lV (l.map dI)), (7, iV ((l.map dI).length : Int)), (8, iV (wrap64 (v8 + 1)))], [], 288⟩ hτ hmix (by kernel_rfl) (by kernel_rfl) (s2 := ⟨[(3, iV 0), (6, lV (l.map dI)), (7, iV ((l.map dI).length : Int)), (8, iV (v8 + 1))], [], 288⟩) (congrArg (fun z : Int => (⟨[(3, iV 0), (6, lV (l.map dI)), (7, iV ((l.map dI).length : Int)), (8, iV z)], [], 288⟩ : St)) (show wrap64 (v8 + 1) = (v8 + 1) by rw [w64 (n := (v8 + 1)) (by omega) (by omega)])) ?_
        refine ⟨⟨(v8 + 1), ⟨by first | omega | (dsimp only; omega), by first | omega | (dsimp only; omega), upto_nx (by first | omega | (dsimp only; omega)) hA ‹_› (‹_›)⟩⟩, by first | exact rfl | omega | (dsimp only; omega) | (simp only [List.length_append, List.length_cons, List.length_nil, List.length_set]; omega) | (simp; done) | (simp; omega), Wk.mk' [] (by kernel_rfl) (by kernel_rfl) (by kernel_rfl)⟩
    · replace hb4 := of_decide_eq_false (hb4)
      refine X.exit ?_
      refine X.seq ?_
      refine X.rk ⟨[(2, iV 0)], [], 192⟩ hτ hmix (by kernel_rfl) (by kernel_rfl) rfl ?_
      refine X.ret ?_
      exact ⟨trivial, _, _, ⟨0, (by first | exact orL_at hA (by omega) ‹_› ‹_› | exact orL_all hA (by omega)), rfl, rfl⟩, .inl (Ret.mk' [] (by kernel_rfl) (by kernel_rfl) (by kernel_rfl))⟩
  obtain ⟨_, _, ⟨r0, q1, rfl, rfl⟩, hf⟩ := key
  exact ⟨r0, q1, hf⟩

theorem i_compareTx (a : S26) (b : S26) : ∃ r0 : Int, (r0 = cmpTx a b) ∧ Fn Try.prog 56 [.e (.agg (cD (d26 a))), .e (.agg (cD (d26 b)))] (lookH []) (iV r0) (lookH []) := by
  have key : ∃ x' h', ((fun x' h' => ∃ r0 : Int, (r0 = cmpTx a b) ∧ x' = iV r0 ∧ h' = [])) x' h' ∧ Fn Try.prog 56 [.e (.agg (cD (d26 a))), .e (.agg (cD (d26 b)))] (lookH []) x' (lookH h') := by
    refine Fn.bodyX (N := 32) hτ Try.func56 rfl rfl rfl rfl ?_
    refine X.seq ?_
    refine X.rk ⟨[(2, .pt 64 0 0), (3, .pt 80 0 0)], [(64, some (.box (cD (d26 a)))), (80, some (.box (cD (d26 b))))], 112⟩ hτ hmix (by kernel_rfl) (by kernel_rfl) rfl ?_
    refine X.seq ?_
    refine X.rs 4 hτ hmix (by kernel_rfl) ?_
    obtain ⟨r1, hr3, hf2⟩ := c_cmpS a.f1 b.f1
    replace hr3 := hr3.symm; subst hr3
    refine CH.call hf2 Try.func120 ⟨rfl, rfl⟩ [] (by kernel_rfl) (by kernel_rfl) (by kernel_rfl) (by kernel_rfl) ?_
    refine CH.go 4 hτ (by kernel_rfl) ?_
    obtain ⟨r5, hr7, hf6⟩ := c_cmpI a.f4 b.f4
    replace hr7 := hr7.symm; subst hr7
    refine CH.call hf6 Try.func121 ⟨rfl, rfl⟩ [] (by kernel_rfl) (by kernel_rfl) (by kernel_rfl) (by kernel_rfl) ?_
    refine CH.go 4 hτ (by kernel_rfl) ?_
    obtain ⟨r9, hr11, hf10⟩ := c_cmpI a.f0 b.f0
    replace hr11 := hr11.symm; subst hr11
    refine CH.call hf10 Try.func121 ⟨rfl, rfl⟩ [] (by kernel_rfl) (by kernel_rfl) (by kernel_rfl) (by kernel_rfl) ?_
    refine CH.go 4 hτ (by kernel_rfl) ?_
    obtain ⟨r13, hr15, hf14⟩ := c_cmpS a.f2 b.f2
    replace hr15 := hr15.symm; subst hr15
    refine CH.call hf14 Try.func120 ⟨rfl, rfl⟩ [] (by kernel_rfl) (by kernel_rfl) (by kernel_rfl) (by kernel_rfl) ?_
    refine CH.go 4 hτ (by kernel_rfl) ?_
    obtain ⟨r17, hr19, hf18⟩ := c_cmpI a.f3 b.f3
    replace hr19 := hr19.symm; subst hr19
    refine CH.call hf18 Try.func121 ⟨rfl, rfl⟩ [] (by kernel_rfl) (by kernel_rfl) (by kernel_rfl) (by kernel_rfl) ?_
    refine CH.go 1 hτ (by kernel_rfl) ?_
    obtain ⟨r21, hr23, hf22⟩ := c_orI ([(cS a.f1 b.f1), (cI a.f4 b.f4), (cI a.f0 b.f0), (cS a.f2 b.f2), (cI a.f3 b.f3)] : List Int) (by simp)
    replace hr23 := hr23.symm; subst hr23
    refine CH.call hf22 Try.func119 ⟨rfl, rfl⟩ [] (by kernel_rfl) (by kernel_rfl) (by kernel_rfl) (by kernel_rfl) ?_
    refine CH.go 1 hτ (by kernel_rfl) ?_
    refine CH.endk ⟨[(4, iV (orL ([(cS a.f1 b.f1), (cI a.f4 b.f4), (cI a.f0 b.f0), (cS a.f2 b.f2), (cI a.f3 b.f3)] : List Int)))], [], 560⟩ (by kernel_rfl) (by kernel_rfl) rfl ?_
    refine X.ret ?_
    exact ⟨trivial, _, _, ⟨(orL ([(cS a.f1 b.f1), (cI a.f4 b.f4), (cI a.f0 b.f0), (cS a.f2 b.f2), (cI a.f3 b.f3)] : List Int)), (orL_five _ _ _ _ _), rfl, rfl⟩, .inl (Ret.mk' [] (by kernel_rfl) (by kernel_rfl) (by kernel_rfl))⟩
  obtain ⟨_, _, ⟨r0, q1, rfl, rfl⟩, hf⟩ := key
  exact ⟨r0, q1, hf⟩

theorem i_TxLess (a : S26) (b : S26) : ∃ r0 : Bool, (r0 = txLess a b) ∧ Fn Try.prog 61 [.e (.agg (cD (d26 a))), .e (.agg (cD (d26 b)))] (lookH []) (bV r0) (lookH []) := by
  have key : ∃ x' h', ((fun x' h' => ∃ r0 : Bool, (r0 = txLess a b) ∧ x' = bV r0 ∧ h' = [])) x' h' ∧ Fn Try.prog 61 [.e (.agg (cD (d26 a))), .e (.agg (cD (d26 b)))] (lookH []) x' (lookH h') := by
    refine Fn.bodyX (N := 9) hτ Try.func61 rfl rfl rfl rfl ?_
    refine X.seq ?_
    refine X.rk ⟨[(2, .pt 64 0 0), (3, .pt 80 0 0)], [(64, some (.box (cD (d26 a)))), (80, some (.box (cD (d26 b))))], 112⟩ hτ hmix (by kernel_rfl) (by kernel_rfl) rfl ?_
    refine X.seq ?_
    refine X.rs 2 hτ hmix (by kernel_rfl) ?_
    obtain ⟨r1, hr3, hf2⟩ := i_compareTx a b
    replace hr3 := hr3.symm; subst hr3
    refine CH.call hf2 Try.func56 ⟨rfl, rfl⟩ [] (by kernel_rfl) (by kernel_rfl) (by kernel_rfl) (by kernel_rfl) ?_
    refine CH.go 2 hτ (by kernel_rfl) ?_
    refine CH.endk ⟨[(4, bV (decide (((cmpTx a b) : Int) < 0)))], [], 192⟩ (by kernel_rfl) (by kernel_rfl) rfl ?_
    refine X.ret ?_
    exact ⟨trivial, _, _, ⟨decide (((cmpTx a b) : Int) < 0), rfl, rfl, rfl⟩, .inl (Ret.mk' [] (by kernel_rfl) (by kernel_rfl) (by kernel_rfl))⟩
  obtain ⟨_, _, ⟨r0, q1, rfl, rfl⟩, hf⟩ := key
  exact ⟨r0, q1, hf⟩

theorem s_PoolOk (l : List S26) (hl : SmT l) : ∃ r0 : Bool, (r0 = poolOk l) ∧ Fn Try.prog 60 [lV (l.map d26)] (lookH []) (bV r0) (lookH []) := by
  have key : ∃ x' h', ((fun x' h' => ∃ r0 : Bool, (r0 = poolOk l) ∧ x' = bV r0 ∧ h' = [])) x' h' ∧ Fn Try.prog 60 [lV (l.map d26)] (lookH []) x' (lookH h') := by
    refine Fn.bodyX (N := 36) hτ Try.func60 rfl rfl rfl rfl ?_
    refine X.seq ?_
    refine X.rk ⟨[(0, lV (l.map d26))], [], 80⟩ hτ hmix (by kernel_rfl) (by kernel_rfl) rfl ?_
    refine X.seq ?_
    refine X.seq ?_
    refine X.rk ⟨[(0, lV (l.map d26)), (3, iV 0)], [], 96⟩ hτ hmix (by kernel_rfl) (by kernel_rfl) rfl ?_
    refine X.block ?_
    -- 2: v3 : Int
    refine X.loop (σ := { g : Int // (fun (v3 : Int) => 0 ≤ v3 ∧ v3 ≤ l.length ∧ Upto (poolR l) (fun n => l[n]?) v3) g }) (fun g => (fun (v3 : Int) => ⟨[(0, lV (l.map d26)), (3, iV v3)], [], 96⟩) g.1) (fun g => (fun (v3 : Int) => (l.length - v3).toNat) g.1) ⟨0, ⟨by first | omega | (dsimp only; omega), by first | omega | (dsimp only; omega), upto_zero⟩⟩ (Wk.less (by kernel_rfl)) (fun g => ?_)
    obtain ⟨v3, hg2⟩ := g
    have hg2 : 0 ≤ v3 ∧ v3 ≤ l.length ∧ Upto (poolR l) (fun n => l[n]?) v3 := hg2
    obtain ⟨_, _, hA⟩ := hg2
    refine X.seq ?_
    refine X.seq ?_
    have hm := hl.1
    have el3 : (l.map d26).length = l.length := List.length_map ..
    refine X.rk ⟨[(0, lV (l.map d26)), (3, iV v3), (7, bV (decide ((v3 : Int) < ((l.map d26).length : Int))))], [], 160⟩ hτ hmix (by kernel_rfl) (by kernel_rfl) rfl ?_
    refine X.if_ (b := decide ((v3 : Int) < ((l.map d26).length : Int))) (by kernel_rfl) (fun hb4 => ?_) (fun hb4 => ?_)
    · replace hb4 := of_decide_eq_true (hb4)
      refine X.skip ?_
      refine X.seq ?_
      refine X.block ?_
      refine X.seq ?_
      refine X.rs 2 hτ hmix (by kernel_rfl) ?_
      obtain ⟨x5, hx5⟩ : ∃ x, l[Int.toNat v3]? = some x := ⟨_, List.getElem?_eq_getElem (by first | omega | (simp; done) | (simp; omega))⟩
      refine CH.idx hτ (d26 x5) (rows := (l.map d26)) (n := v3) (sz := 5) (by kernel_rfl) (by kernel_rfl) (by first | omega | (simp; done) | (simp; omega)) (by rw [List.getElem?_map, hx5]; rfl) (by kernel_rfl) ?_
      refine CH.go 1 hτ (by kernel_rfl) ?_
      obtain ⟨r6, hr8, hf7⟩ := s_TxOk x5 (by exact all_at hl.2 ‹_›)
      replace hr8 := hr8.symm; subst hr8
      refine CH.call hf7 Try.func70 ⟨rfl, rfl⟩ [] (by kernel_rfl) (by kernel_rfl) (by kernel_rfl) (by kernel_rfl) ?_
      refine CH.go 2 hτ (by kernel_rfl) ?_
      rcases Bool.eq_false_or_eq_true (!(txOk x5)) with hb10 | hb10
      · refine CH.alt 15 (sV (.bool (!(txOk x5)))) (sV (.bool true)) (by kernel_rfl) (by rw [hb10]) ?_
        refine CH.alt 16 (sV (.bool (!(txOk x5)))) (sV (.bool true)) (by kernel_rfl) (by rw [hb10]) ?_
        replace hb10 := bnot_yes (hb10)
        refine CH.go 16 hτ (by kernel_rfl) ?_
        refine CH.endk ⟨[(0, lV (l.map d26)), (3, iV v3), (32, bV true)], [], 528⟩ (by kernel_rfl) (by kernel_rfl) rfl ?_
        refine X.ifT (by kernel_rfl) ?_
        refine X.seq ?_
        refine X.rk ⟨[(2, bV false)], [], 544⟩ hτ hmix (by kernel_rfl) (by kernel_rfl) rfl ?_
        refine X.ret ?_
        exact ⟨trivial, _, _, ⟨false, (by first | exact (fls (fun h => upto_no (by omega) (by omega) ‹_› (fun hr => by first | exact tf hr.1 ‹_› | exact tf (hr.2 _ (by omega) ‹_›) ‹_›) h.1)) | exact (dcd (by simp only [decide_eq_true_eq, List.length_map]; exact ⟨fun h => ⟨upto_all hA (by omega), by omega⟩, fun h => by have := h.2; omega⟩))), rfl, rfl⟩, .inl (Ret.mk' [] (by kernel_rfl) (by kernel_rfl) (by kernel_rfl))⟩
      · refine CH.alt 15 (sV (.bool (!(txOk x5)))) (sV (.bool false)) (by kernel_rfl) (by rw [hb10]) ?_
        refine CH.alt 16 (sV (.bool (!(txOk x5)))) (sV (.bool false)) (by kernel_rfl) (by rw [hb10]) ?_
        replace hb10 := bnot_no (hb10)
        refine CH.go 3 hτ (by kernel_rfl) ?_
        rcases Bool.eq_false_or_eq_true (decide ((v3 : Int) > 0)) with hb11 | hb11
        · refine CH.alt 18 (sV (.bool (decide ((v3 : Int) > 0)))) (sV (.bool true)) (by kernel_rfl) (by rw [hb11]) ?_
          refine CH.alt 19 (sV (.bool (decide ((v3 : Int) > 0)))) (sV (.bool true)) (by kernel_rfl) (by rw [hb11]) ?_
          replace hb11 := of_decide_eq_true (hb11)
          refine CH.go 3 hτ (by kernel_rfl) ?_
          obtain ⟨x12, hx12⟩ : ∃ x, l[Int.toNat (v3 - 1)]? = some x := ⟨_, List.getElem?_eq_getElem (by first | omega | (simp; done) | (simp; omega))⟩
          refine CH.alt 22 (sV (.int .i64 (wrap64 (v3 - 1)))) (sV (.int .i64 ((v3 - 1)))) (by kernel_rfl) (by rw [w64 (n := (v3 - 1)) (by omega) (by omega)]) ?_
          refine CH.idx hτ (d26 x12) (rows := (l.map d26)) (n := (v3 - 1)) (sz := 5) (by kernel_rfl) (by kernel_rfl) (by first | omega | (simp; done) | (simp; omega)) (by rw [List.getElem?_map, hx12]; rfl) (by kernel_rfl) ?_
          refine CH.go 3 hτ (by kernel_rfl) ?_
          refine CH.idx hτ (d26 x5) (rows := (l.map d26)) (n := v3) (sz := 5) (by kernel_rfl) (by kernel_rfl) (by first | omega | (simp; done) | (simp; omega)) (by rw [List.getElem?_map, hx5]; rfl) (by kernel_rfl) ?_
          refine CH.go 1 hτ (by kernel_rfl) ?_
          obtain ⟨r13, hr15, hf14⟩ := s_TxLess x12 x5
          replace hr15 := hr15.symm; subst hr15
          refine CH.call hf14 Try.func59 ⟨rfl, rfl⟩ [] (by kernel_rfl) (by kernel_rfl) (by kernel_rfl) (by kernel_rfl) ?_
          refine CH.go 3 hτ (by kernel_rfl) ?_
          refine CH.endk ⟨[(0, lV (l.map d26)), (3, iV v3), (32, bV (!(txLess x12 x5)))], [], 528⟩ (by kernel_rfl) (by kernel_rfl) rfl ?_
          refine X.if_ (b := !(txLess x12 x5)) (by kernel_rfl) (fun hb17 => ?_) (fun hb17 => ?_)
          · replace hb17 := bnot_yes (hb17)
            refine X.seq ?_
            refine X.rk ⟨[(2, bV false)], [], 544⟩ hτ hmix (by kernel_rfl) (by kernel_rfl) rfl ?_
            refine X.ret ?_
            exact ⟨trivial, _, _, ⟨false, (by first | exact (fls (fun h => upto_no (by omega) (by omega) ‹_› (fun hr => by first | exact tf hr.1 ‹_› | exact tf (hr.2 _ (by omega) ‹_›) ‹_›) h.1)) | exact (dcd (by simp only [decide_eq_true_eq, List.length_map]; exact ⟨fun h => ⟨upto_all hA (by omega), by omega⟩, fun h => by have := h.2; omega⟩))), rfl, rfl⟩, .inl (Ret.mk' [] (by kernel_rfl) (by kernel_rfl) (by kernel_rfl))⟩
          · replace hb17 := bnot_no (hb17)
            refine X.skip ?_
            refine X.rk ⟨[(0, lV (l.map d26)), (3, iV (wrap64 (v3 + 1)))], [], 576⟩ hτ hmix (by kernel_rfl) (by kernel_rfl) (s2 := ⟨[(0, lV (l.map d26)), (3, iV (v3 + 1))], [], 576⟩) (congrArg (fun z : Int => (⟨[(0, lV (l.map d26)), (3, iV z)], [], 576⟩ : St)) (show wrap64 (v3 + 1) = (v3 + 1) by rw [w64 (n := (v3 + 1)) (by omega) (by omega)])) ?_
            refine ⟨⟨(v3 + 1), ⟨by first | omega | (dsimp only; omega), by first | omega | (dsimp only; omega), upto_nx (by first | omega | (dsimp only; omega)) hA ‹_› (⟨‹_›, (by first | exact fun y h0 hy => absurd h0 (by first | omega | (dsimp only; omega)) | exact prev_fn ‹_› ‹_›)⟩)⟩⟩, by first | exact rfl | omega | (dsimp only; omega) | (simp only [List.length_append, List.length_cons, List.length_nil, List.length_set]; omega) | (simp; done) | (simp; omega), Wk.mk' [] (by kernel_rfl) (by kernel_rfl) (by kernel_rfl)⟩
        · refine CH.alt 18 (sV (.bool (decide ((v3 : Int) > 0)))) (sV (.bool false)) (by kernel_rfl) (by rw [hb11]) ?_
          refine CH.alt 19 (sV (.bool (decide ((v3 : Int) > 0)))) (sV (.bool false)) (by kernel_rfl) (by rw [hb11]) ?_
          replace hb11 := of_decide_eq_false (hb11)
          refine CH.go 13 hτ (by kernel_rfl) ?_
          refine CH.endk ⟨[(0, lV (l.map d26)), (3, iV v3), (32, bV false)], [], 528⟩ (by kernel_rfl) (by kernel_rfl) rfl ?_
          refine X.ifF (by kernel_rfl) ?_
          refine X.skip ?_
          refine X.rk ⟨[(0, lV (l.map d26)), (3, iV (wrap64 (v3 + 1)))], [], 576⟩ hτ hmix (by kernel_rfl) (by kernel_rfl) (s2 := ⟨[(0, lV (l.map d26)), (3, iV (v3 + 1))], [], 576⟩) (congrArg (fun z : Int => (⟨[(0, lV (l.map d26)), (3, iV z)], [], 576⟩ : St)) (show wrap64 (v3 + 1) = (v3 + 1) by rw [w64 (n := (v3 + 1)) (by omega) (by omega)])) ?_
          refine ⟨⟨(v3 + 1), ⟨by first | omega | (dsimp only; omega), by first | omega | (dsimp only; omega), upto_nx (by first | omega | (dsimp only; omega)) hA ‹_› (⟨‹_›, (by first | exact fun y h0 hy => absurd h0 (by first | omega | (dsimp only; omega)) | exact prev_fn ‹_› ‹_›)⟩)⟩⟩, by first | exact rfl | omega | (dsimp only; omega) | (simp only [List.length_append, List.length_cons, List.length_nil, List.length_set]; omega) | (simp; done) | (simp; omega), Wk.mk' [] (by kernel_rfl) (by kernel_rfl) (by kernel_rfl)⟩
    · replace hb4 := of_decide_eq_false (hb4)
      refine X.exit ?_
      refine X.seq ?_
      refine X.rk ⟨[(2, bV (decide ((((l.map d26).length : Int) : Int) ≤ 20)))], [], 224⟩ hτ hmix (by kernel_rfl) (by kernel_rfl) rfl ?_
      refine X.ret ?_
      exact ⟨trivial, _, _, ⟨decide ((((l.map d26).length : Int) : Int) ≤ 20), (by first | exact (fls (fun h => upto_no (by omega) (by omega) ‹_› (fun hr => by first | exact tf hr.1 ‹_› | exact tf (hr.2 _ (by omega) ‹_›) ‹_›) h.1)) | exact (dcd (by simp only [decide_eq_true_eq, List.length_map]; exact ⟨fun h => ⟨upto_all hA (by omega), by omega⟩, fun h => by have := h.2; omega⟩))), rfl, rfl⟩, .inl (Ret.mk' [] (by kernel_rfl) (by kernel_rfl) (by kernel_rfl))⟩
  obtain ⟨_, _, ⟨r0, q1, rfl, rfl⟩, hf⟩ := key
  exact ⟨r0, q1, hf⟩

theorem i_PoolOk (l : List S26) (hl : SmT l) : ∃ r0 : Bool, (r0 = poolOk l) ∧ Fn Try.prog 14 [lV (l.map d26)] (lookH []) (bV r0) (lookH []) := by
  have key : ∃ x' h', ((fun x' h' => ∃ r0 : Bool, (r0 = poolOk l) ∧ x' = bV r0 ∧ h' = [])) x' h' ∧ Fn Try.prog 14 [lV (l.map d26)] (lookH []) x' (lookH h') := by
    refine Fn.bodyX (N := 33) hτ Try.func14 rfl rfl rfl rfl ?_
    refine X.seq ?_
    refine X.rk ⟨[(0, lV (l.map d26))], [], 80⟩ hτ hmix (by kernel_rfl) (by kernel_rfl) rfl ?_
    refine X.seq ?_
    refine X.seq ?_
    have el1 : (l.map d26).length = l.length := List.length_map ..
    refine X.rk ⟨[(0, lV (l.map d26)), (5, lV (l.map d26)), (6, iV ((l.map d26).length : Int)), (7, iV 0)], [], 128⟩ hτ hmix (by kernel_rfl) (by kernel_rfl) rfl ?_
    refine X.block ?_
    -- 2: v7 : Int
    refine X.loop (σ := { g : Int // (fun (v7 : Int) => 0 ≤ v7 ∧ v7 ≤ l.length ∧ Upto (poolR l) (fun n => l[n]?) v7) g }) (fun g => (fun (v7 : Int) => ⟨[(0, lV (l.map d26)), (5, lV (l.map d26)), (6, iV ((l.map d26).length : Int)), (7, iV v7)], [], 128⟩) g.1) (fun g => (fun (v7 : Int) => (l.length - v7).toNat) g.1) ⟨0, ⟨by first | omega | (dsimp only; omega), by first | omega | (dsimp only; omega), upto_zero⟩⟩ (Wk.less (by kernel_rfl)) (fun g => ?_)
    obtain ⟨v7, hg3⟩ := g
    have hg3 : 0 ≤ v7 ∧ v7 ≤ l.length ∧ Upto (poolR l) (fun n => l[n]?) v7 := hg3
    obtain ⟨_, _, hA⟩ := hg3
    refine X.seq ?_
    have hm := hl.1
    refine X.rk ⟨[(0, lV (l.map d26)), (5, lV (l.map d26)), (6, iV ((l.map d26).length : Int)), (7, iV v7), (8, bV (decide ((v7 : Int) < ((l.map d26).length : Int))))], [], 144⟩ hτ hmix (by kernel_rfl) (by kernel_rfl) rfl ?_
    refine X.seq ?_
    refine X.if_ (b := decide ((v7 : Int) < ((l.map d26).length : Int))) (by kernel_rfl) (fun hb4 => ?_) (fun hb4 => ?_)
    · replace hb4 := of_decide_eq_true (hb4)
      refine X.skip ?_
      refine X.seq ?_
      refine X.block ?_
      refine X.seq ?_
      refine X.rs 1 hτ hmix (by kernel_rfl) ?_
      obtain ⟨x5, hx5⟩ : ∃ x, l[Int.toNat v7]? = some x := ⟨_, List.getElem?_eq_getElem (by first | omega | (simp; done) | (simp; omega))⟩
      refine CH.idx hτ (d26 x5) (rows := (l.map d26)) (n := v7) (sz := 5) (by kernel_rfl) (by kernel_rfl) (by first | omega | (simp; done) | (simp; omega)) (by rw [List.getElem?_map, hx5]; rfl) (by kernel_rfl) ?_
      refine CH.go 4 hτ (by kernel_rfl) ?_
      refine CH.endk ⟨[(0, lV (l.map d26)), (3, iV v7), (4, .pt 192 0 0), (5, lV (l.map d26)), (6, iV ((l.map d26).length : Int)), (7, iV v7)], [(192, some (.box (cD (d26 x5))))], 240⟩ (by kernel_rfl) (by kernel_rfl) rfl ?_
      refine X.seq ?_
      refine X.rs 1 hτ hmix (by kernel_rfl) ?_
      obtain ⟨r6, hr8, hf7⟩ := i_TxOk x5 (by exact all_at hl.2 ‹_›)
      replace hr8 := hr8.symm; subst hr8
      refine CH.call hf7 Try.func57 ⟨rfl, rfl⟩ [] (by kernel_rfl) (by kernel_rfl) (by kernel_rfl) (by kernel_rfl) ?_
      refine CH.go 2 hτ (by kernel_rfl) ?_
      rcases Bool.eq_false_or_eq_true (!(txOk x5)) with hb10 | hb10
      · refine CH.alt 14 (sV (.bool (!(txOk x5)))) (sV (.bool true)) (by kernel_rfl) (by rw [hb10]) ?_
        refine CH.alt 15 (sV (.bool (!(txOk x5)))) (sV (.bool true)) (by kernel_rfl) (by rw [hb10]) ?_
        replace hb10 := bnot_yes (hb10)
        refine CH.go 13 hτ (by kernel_rfl) ?_
        refine CH.endk ⟨[(0, lV (l.map d26)), (5, lV (l.map d26)), (6, iV ((l.map d26).length : Int)), (7, iV v7), (28, bV true)], [], 512⟩ (by kernel_rfl) (by kernel_rfl) rfl ?_
        refine X.ifT (by kernel_rfl) ?_
        refine X.seq ?_
        refine X.rk ⟨[(2, bV false)], [], 528⟩ hτ hmix (by kernel_rfl) (by kernel_rfl) rfl ?_
        refine X.ret ?_
        exact ⟨trivial, _, _, ⟨false, (by first | exact (fls (fun h => upto_no (by omega) (by omega) ‹_› (fun hr => by first | exact tf hr.1 ‹_› | exact tf (hr.2 _ (by omega) ‹_›) ‹_›) h.1)) | exact (dcd (by simp only [decide_eq_true_eq, List.length_map]; exact ⟨fun h => ⟨upto_all hA (by omega), by omega⟩, fun h => by have := h.2; omega⟩))), rfl, rfl⟩, .inl (Ret.mk' [] (by kernel_rfl) (by kernel_rfl) (by kernel_rfl))⟩
      · refine CH.alt 14 (sV (.bool (!(txOk x5)))) (sV (.bool false)) (by kernel_rfl) (by rw [hb10]) ?_
        refine CH.alt 15 (sV (.bool (!(txOk x5)))) (sV (.bool false)) (by kernel_rfl) (by rw [hb10]) ?_
        replace hb10 := bnot_no (hb10)
        refine CH.go 3 hτ (by kernel_rfl) ?_
        rcases Bool.eq_false_or_eq_true (decide ((v7 : Int) > 0)) with hb11 | hb11
        · refine CH.alt 17 (sV (.bool (decide ((v7 : Int) > 0)))) (sV (.bool true)) (by kernel_rfl) (by rw [hb11]) ?_
          refine CH.alt 18 (sV (.bool (decide ((v7 : Int) > 0)))) (sV (.bool true)) (by kernel_rfl) (by rw [hb11]) ?_
          replace hb11 := of_decide_eq_true (hb11)
          refine CH.go 3 hτ (by kernel_rfl) ?_
          obtain ⟨x12, hx12⟩ : ∃ x, l[Int.toNat (v7 - 1)]? = some x := ⟨_, List.getElem?_eq_getElem (by first | omega | (simp; done) | (simp; omega))⟩
          refine CH.alt 21 (sV (.int .i64 (wrap64 (v7 - 1)))) (sV (.int .i64 ((v7 - 1)))) (by kernel_rfl) (by rw [w64 (n := (v7 - 1)) (by omega) (by omega)]) ?_
          refine CH.idx hτ (d26 x12) (rows := (l.map d26)) (n := (v7 - 1)) (sz := 5) (by kernel_rfl) (by kernel_rfl) (by first | omega | (simp; done) | (simp; omega)) (by rw [List.getElem?_map, hx12]; rfl) (by kernel_rfl) ?_
          refine CH.go 2 hτ (by kernel_rfl) ?_
          obtain ⟨r13, hr15, hf14⟩ := i_TxLess x12 x5
          replace hr15 := hr15.symm; subst hr15
          refine CH.call hf14 Try.func61 ⟨rfl, rfl⟩ [] (by kernel_rfl) (by kernel_rfl) (by kernel_rfl) (by kernel_rfl) ?_
          refine CH.go 3 hτ (by kernel_rfl) ?_
          refine CH.endk ⟨[(0, lV (l.map d26)), (5, lV (l.map d26)), (6, iV ((l.map d26).length : Int)), (7, iV v7), (28, bV (!(txLess x12 x5)))], [], 512⟩ (by kernel_rfl) (by kernel_rfl) rfl ?_
          refine X.if_ (b := !(txLess x12 x5)) (by kernel_rfl) (fun hb17 => ?_) (fun hb17 => ?_)
          · replace hb17 := bnot_yes (hb17)
            refine X.seq ?_
            refine X.rk ⟨[(2, bV false)], [], 528⟩ hτ hmix (by kernel_rfl) (by kernel_rfl) rfl ?_
            refine X.ret ?_
            exact ⟨trivial, _, _, ⟨false, (by first | exact (fls (fun h => upto_no (by omega) (by omega) ‹_› (fun hr => by first | exact tf hr.1 ‹_› | exact tf (hr.2 _ (by omega) ‹_›) ‹_›) h.1)) | exact (dcd (by simp only [decide_eq_true_eq, List.length_map]; exact ⟨fun h => ⟨upto_all hA (by omega), by omega⟩, fun h => by have := h.2; omega⟩))), rfl, rfl⟩, .inl (Ret.mk' [] (by kernel_rfl) (by kernel_rfl) (by kernel_rfl))⟩
          · replace hb17 := bnot_no (hb17)
            refine X.skip ?_
            refine X.rk ⟨[(0, lV (l.map d26)), (5, lV (l.map d26)), (6, iV ((l.map d26).length : Int)), (7, iV (wrap64 (v7 + 1)))], [], 544⟩ hτ hmix (by kernel_rfl) (by kernel_rfl) (s2 := ⟨[(0, lV (l.map d26)), (5, lV (l.map d26)), (6, iV ((l.map d26).length : Int)), (7, iV (v7 + 1))], [], 544⟩) (congrArg (fun z : Int => (⟨[(0, lV (l.map d26)), (5, lV (l.map d26)), (6, iV ((l.map d26).length : Int)), (7, iV z)], [], 544⟩ : St)) (show wrap64 (v7 + 1) = (v7 + 1) by rw [w64 (n := (v7 + 1)) (by omega) (by omega)])) ?_
            refine ⟨⟨(v7 + 1), ⟨by first | omega | (dsimp only; omega), by first | omega | (dsimp only; omega), upto_nx (by first | omega | (dsimp only; omega)) hA ‹_› (⟨‹_›, (by first | exact fun y h0 hy => absurd h0 (by first | omega | (dsimp only; omega)) | exact prev_fn ‹_› ‹_›)⟩)⟩⟩, by first | exact rfl | omega | (dsimp only; omega) | (simp only [List.length_append, List.length_cons, List.length_nil, List.length_set]; omega) | (simp; done) | (simp; omega), Wk.mk' [] (by kernel_rfl) (by kernel_rfl) (by kernel_rfl)⟩
        · refine CH.alt 17 (sV (.bool (decide ((v7 : Int) > 0)))) (sV (.bool false)) (by kernel_rfl) (by rw [hb11]) ?_
          refine CH.alt 18 (sV (.bool (decide ((v7 : Int) > 0)))) (sV (.bool false)) (by kernel_rfl) (by rw [hb11]) ?_
          replace hb11 := of_decide_eq_false (hb11)
          refine CH.go 10 hτ (by kernel_rfl) ?_
          refine CH.endk ⟨[(0, lV (l.map d26)), (5, lV (l.map d26)), (6, iV ((l.map d26).length : Int)), (7, iV v7), (28, bV false)], [], 512⟩ (by kernel_rfl) (by kernel_rfl) rfl ?_
          refine X.ifF (by kernel_rfl) ?_
          refine X.skip ?_
          refine X.rk ⟨[(0, lV (l.map d26)), (5, lV (l.map d26)), (6, iV ((l.map d26).length : Int)), (7, iV (wrap64 (v7 + 1)))], [], 544⟩ hτ hmix (by kernel_rfl) (by kernel_rfl) (s2 := ⟨[(0, lV (l.map d26)), (5, lV (l.map d26)), (6, iV ((l.map d26).length : Int)), (7, iV (v7 + 1))], [], 544⟩) (congrArg (fun z : Int => (⟨[(0, lV (l.map d26)), (5, lV (l.map d26)), (6, iV ((l.map d26).length : Int)), (7, iV z)], [], 544⟩ : St)) (show wrap64 (v7 + 1) = (v7 + 1) by rw [w64 (n := (v7 + 1)) (by omega) (by omega)])) ?_
          refine ⟨⟨(v7 + 1), ⟨by first | omega | (dsimp only; omega), by first | omega | (dsimp only; omega), upto_nx (by first | omega | (dsimp only; omega)) hA ‹_› (⟨‹_›, (by first | exact fun y h0 hy => absurd h0 (by first | omega | (dsimp only; omega)) | exact prev_fn ‹_› ‹_›)⟩)⟩⟩, by first | exact rfl | omega | (dsimp only; omega) | (simp only [List.length_append, List.length_cons, List.length_nil, List.length_set]; omega) | (simp; done) | (simp; omega), Wk.mk' [] (by kernel_rfl) (by kernel_rfl) (by kernel_rfl)⟩
    · replace hb4 := of_decide_eq_false (hb4)
      refine X.exit ?_
      refine X.seq ?_
      refine X.rk ⟨[(2, bV (decide ((((l.map d26).length : Int) : Int) ≤ 20)))], [], 208⟩ hτ hmix (by kernel_rfl) (by kernel_rfl) rfl ?_
      refine X.ret ?_
      exact ⟨trivial, _, _, ⟨decide ((((l.map d26).length : Int) : Int) ≤ 20), (by first | exact (fls (fun h => upto_no (by omega) (by omega) ‹_› (fun hr => by first | exact tf hr.1 ‹_› | exact tf (hr.2 _ (by omega) ‹_›) ‹_›) h.1)) | exact (dcd (by simp only [decide_eq_true_eq, List.length_map]; exact ⟨fun h => ⟨upto_all hA (by omega), by omega⟩, fun h => by have := h.2; omega⟩))), rfl, rfl⟩, .inl (Ret.mk' [] (by kernel_rfl) (by kernel_rfl) (by kernel_rfl))⟩
  obtain ⟨_, _, ⟨r0, q1, rfl, rfl⟩, hf⟩ := key
  exact ⟨r0, q1, hf⟩

theorem s_PoolAdd (l : List S26) (t : S26) (hl : SmT l) (ht : Sm26 t) (hs : l.length < 2000000) : ∃ r0 : List S26, ∃ r1 : Bool, (r0 = paR l t ∧ r1 = paOk l t) ∧ Fn Try.prog 13 [lV (l.map d26), .e (.agg (cD (d26 t)))] (lookH []) (.tup [.c (.ref 64), .c (.d (.v (.bool r1)))]) (lookH [(64, some (.row 5 26 (r0.map d26) false true))]) := by
  have key : ∃ x' h', ((fun x' h' => ∃ r0 : List S26, ∃ r1 : Bool, (r0 = paR l t ∧ r1 = paOk l t) ∧ x' = .tup [.c (.ref 64), .c (.d (.v (.bool r1)))] ∧ h' = [(64, some (.row 5 26 (r0.map d26) false true))])) x' h' ∧ Fn Try.prog 13 [lV (l.map d26), .e (.agg (cD (d26 t)))] (lookH []) x' (lookH h') := by
    refine Fn.bodyX (N := 54) hτ Try.func13 rfl rfl rfl rfl ?_
    refine X.seq ?_
    refine X.rk ⟨[(0, lV (l.map d26)), (3, .pt 64 0 0)], [(64, some (.box (cD (d26 t))))], 112⟩ hτ hmix (by kernel_rfl) (by kernel_rfl) rfl ?_
    refine X.seq ?_
    have hm := hl.1
    refine X.rs 2 hτ hmix (by kernel_rfl) ?_
    have el1 : (l.map d26).length = l.length := List.length_map ..
    refine CH.app hτ (rows := []) (rows2 := (l.map d26)) (sz := 5) (bys := 56) true (by kernel_rfl) (by kernel_rfl) (fun _ => flat_d d26 (fun x => rfl)) (flat_ok (f := d26) (fun x => rfl)) (by simp only [List.length_map] <;> (first | done | omega | (simp; done) | (simp; omega))) (by kernel_rfl) ?_
    refine CH.go 2 hτ (by kernel_rfl) ?_
    have el2 : (([t] : List S26).map d26).length = ([t] : List S26).length := List.length_map ..
    have el3 : ([t] : List S26).length = 1 := rfl
    refine CH.app hτ (rows := (l.map d26)) (rows2 := (([t] : List S26).map d26)) (sz := 5) (bys := 56) true (by kernel_rfl) (by kernel_rfl) (fun _ => flat_d d26 (fun x => rfl)) (flat_ok (f := d26) (fun x => rfl)) (by simp only [List.length_map] <;> (first | done | omega | (simp; done) | (simp; omega))) (by kernel_rfl) ?_
    refine CH.go 1 hτ (by kernel_rfl) ?_
    refine CH.endk ⟨[(0, lV (l.map d26)), (3, .pt 64 0 0), (6, rV 192)], [(64, some (.box (cD (d26 t)))), (192, some (.row 5 26 ((l.map d26) ++ (([t] : List S26).map d26)) false true))], 224⟩ (by kernel_rfl) (by kernel_rfl) (s2 := ⟨[(0, lV (l.map d26)), (3, .pt 64 0 0), (6, rV 192)], [(64, some (.box (cD (d26 t)))), (192, some (.row 5 26 ((l ++ ([t] : List S26)).map d26) false true))], 224⟩) (congrArg (fun z : List (List D) => (⟨[(0, lV (l.map d26)), (3, .pt 64 0 0), (6, rV 192)], [(64, some (.box (cD (d26 t)))), (192, some (.row 5 26 z false true))], 224⟩ : St)) (show (l.map d26) ++ (([t] : List S26).map d26) = ((l ++ ([t] : List S26)).map d26) from List.map_append.symm)) ?_
    refine X.seq ?_
    have el4 : ((l ++ ([t] : List S26)).map d26).length = (l ++ ([t] : List S26)).length := List.length_map ..
    have el5 : (l ++ ([t] : List S26)).length = l.length + ([t] : List S26).length := List.length_append
    have el6 : ([t] : List S26).length = 1 := rfl
    refine X.rk ⟨[(0, lV (l.map d26)), (3, .pt 64 0 0), (6, rV 192), (7, iV (wrap64 ((((l ++ ([t] : List S26)).map d26).length : Int) - 1)))], [(64, some (.box (cD (d26 t)))), (192, some (.row 5 26 ((l ++ ([t] : List S26)).map d26) false true))], 288⟩ hτ hmix (by kernel_rfl) (by kernel_rfl) (s2 := ⟨[(0, lV (l.map d26)), (3, .pt 64 0 0), (6, rV 192), (7, iV ((((l ++ ([t] : List S26)).map d26).length : Int) - 1))], [(64, some (.box (cD (d26 t)))), (192, some (.row 5 26 ((l ++ ([t] : List S26)).map d26) false true))], 288⟩) (congrArg (fun z : Int => (⟨[(0, lV (l.map d26)), (3, .pt 64 0 0), (6, rV 192), (7, iV z)], [(64, some (.box (cD (d26 t)))), (192, some (.row 5 26 ((l ++ ([t] : List S26)).map d26) false true))], 288⟩ : St)) (show wrap64 ((((l ++ ([t] : List S26)).map d26).length : Int) - 1) = ((((l ++ ([t] : List S26)).map d26).length : Int) - 1) by rw [w64 (n := ((((l ++ ([t] : List S26)).map d26).length : Int) - 1)) (by omega) (by omega)])) ?_
    refine X.seq ?_
    refine X.block ?_
    -- 3: Lv6 : List S26, v7 : Int
    refine X.loop (σ := { g : (List S26) × Int // (fun (Lv6 : List S26) (v7 : Int) => 0 ≤ v7 ∧ v7 ≤ (l.length : Int) ∧ Lv6.set v7.toNat t = insAt l [t] v7.toNat ∧ (∀ (j : Nat) (x : S26), v7.toNat ≤ j → l[j]? = some x → cmpTx t x < 0) ∧ Lv6.length = l.length + 1 ∧ ∀ x, x ∈ Lv6 → Sm26 x) g.1 g.2 }) (fun g => (fun (Lv6 : List S26) (v7 : Int) => ⟨[(0, lV (l.map d26)), (3, .pt 64 0 0), (6, rV 192), (7, iV v7)], [(64, some (.box (cD (d26 t)))), (192, some (.row 5 26 (Lv6.map d26) false true))], 288⟩) g.1.1 g.1.2) (fun g => (fun (Lv6 : List S26) (v7 : Int) => v7.toNat) g.1.1 g.1.2) ⟨((l ++ ([t] : List S26)), ((((l ++ ([t] : List S26)).map d26).length : Int) - 1)), ⟨by first | omega | (simp; done) | (simp; omega), by first | omega | (simp; done) | (simp; omega), (by rw [show Int.toNat _ = l.length from (by simp)]; exact pa_first), fun j x h hx => by have := (List.getElem?_eq_some_iff.1 hx).1; simp at h; omega, by simp, all_app hl.2 (all_one ht)⟩⟩ (Wk.less (by kernel_rfl)) (fun g => ?_)
    obtain ⟨⟨Lv6, v7⟩, hg8⟩ := g
    have hg8 : 0 ≤ v7 ∧ v7 ≤ (l.length : Int) ∧ Lv6.set v7.toNat t = insAt l [t] v7.toNat ∧ (∀ (j : Nat) (x : S26), v7.toNat ≤ j → l[j]? = some x → cmpTx t x < 0) ∧ Lv6.length = l.length + 1 ∧ ∀ x, x ∈ Lv6 → Sm26 x := hg8
    obtain ⟨_, _, hE, hG, hlen, hA⟩ := hg8
    refine X.seq ?_
    refine X.seq ?_
    refine X.rs 3 hτ hmix (by kernel_rfl) ?_
    rcases Bool.eq_false_or_eq_true (decide ((v7 : Int) > 0)) with hb9 | hb9
    · refine CH.alt 18 (sV (.bool (decide ((v7 : Int) > 0)))) (sV (.bool true)) (by kernel_rfl) (by rw [hb9]) ?_
      refine CH.alt 19 (sV (.bool (decide ((v7 : Int) > 0)))) (sV (.bool true)) (by kernel_rfl) (by rw [hb9]) ?_
      replace hb9 := of_decide_eq_true (hb9)
      refine CH.go 4 hτ (by kernel_rfl) ?_
      refine CH.alt 23 (sV (.int .i64 (wrap64 (v7 - 1)))) (sV (.int .i64 ((v7 - 1)))) (by kernel_rfl) (by rw [w64 (n := (v7 - 1)) (by omega) (by omega)]) ?_
      refine CH.idxR hτ (rows := (Lv6.map d26)) (n := (v7 - 1)) (b := 192) (by kernel_rfl) (by kernel_rfl) (by first | omega | (simp; done) | (simp; omega)) (by simp only [List.length_map, List.length_set]; first | omega | (simp; done) | (simp; omega)) (by kernel_rfl) ?_
      obtain ⟨x10, hx10⟩ : ∃ x, Lv6[Int.toNat (v7 - 1)]? = some x := ⟨_, List.getElem?_eq_getElem (by first | omega | (simp; done) | (simp; omega))⟩
      refine CH.row hτ (d26 x10) (by kernel_rfl) (by kernel_rfl) (by rw [List.getElem?_map, hx10]; rfl) (by kernel_rfl) ?_
      obtain ⟨r11, hr13, hf12⟩ := s_TxLess t x10
      replace hr13 := hr13.symm; subst hr13
      refine CH.call hf12 Try.func59 ⟨rfl, rfl⟩ [] (by kernel_rfl) (by kernel_rfl) (by kernel_rfl) (by kernel_rfl) ?_
      refine CH.go 1 hτ (by kernel_rfl) ?_
      refine CH.endk ⟨[(0, lV (l.map d26)), (3, .pt 64 0 0), (6, rV 192), (7, iV v7), (27, bV (txLess t x10))], [(64, some (.box (cD (d26 t)))), (192, some (.row 5 26 (Lv6.map d26) false true))], 464⟩ (by kernel_rfl) (by kernel_rfl) rfl ?_
      refine X.if_ (b := (txLess t x10)) (by kernel_rfl) (fun hb15 => ?_) (fun hb15 => ?_)
      · refine X.skip ?_
        refine X.block ?_
        refine X.seq ?_
        refine X.rs 5 hτ hmix (by kernel_rfl) ?_
        refine CH.alt 32 (sV (.int .i64 (wrap64 (v7 - 1)))) (sV (.int .i64 ((v7 - 1)))) (by kernel_rfl) (by rw [w64 (n := (v7 - 1)) (by omega) (by omega)]) ?_
        refine CH.idxR hτ (rows := (Lv6.map d26)) (n := (v7 - 1)) (b := 192) (by kernel_rfl) (by kernel_rfl) (by first | omega | (simp; done) | (simp; omega)) (by simp only [List.length_map, List.length_set]; first | omega | (simp; done) | (simp; omega)) (by kernel_rfl) ?_
        refine CH.row hτ (d26 x10) (by kernel_rfl) (by kernel_rfl) (by rw [List.getElem?_map, hx10]; rfl) (by kernel_rfl) ?_
        refine CH.idxR hτ (rows := (Lv6.map d26)) (n := v7) (b := 192) (by kernel_rfl) (by kernel_rfl) (by first | omega | (simp; done) | (simp; omega)) (by simp only [List.length_map, List.length_set]; first | omega | (simp; done) | (simp; omega)) (by kernel_rfl) ?_
        obtain ⟨x16, hx16⟩ : ∃ x, Lv6[Int.toNat v7]? = some x := ⟨_, List.getElem?_eq_getElem (by first | omega | (simp; done) | (simp; omega))⟩
        refine CH.row hτ (d26 x16) (by kernel_rfl) (by kernel_rfl) (by rw [List.getElem?_map, hx16]; rfl) (by kernel_rfl) ?_
        refine CH.endk ⟨[(0, lV (l.map d26)), (3, .pt 64 0 0), (6, rV 192), (7, iV v7)], [(64, some (.box (cD (d26 t)))), (192, some (.row 5 26 ((Lv6.map d26).set (Int.toNat v7) (d26 x10)) false true))], 608⟩ (by kernel_rfl) (by kernel_rfl) (s2 := ⟨[(0, lV (l.map d26)), (3, .pt 64 0 0), (6, rV 192), (7, iV v7)], [(64, some (.box (cD (d26 t)))), (192, some (.row 5 26 ((Lv6.set (Int.toNat v7) x10).map d26) false true))], 608⟩) (congrArg (fun z : List (List D) => (⟨[(0, lV (l.map d26)), (3, .pt 64 0 0), (6, rV 192), (7, iV v7)], [(64, some (.box (cD (d26 t)))), (192, some (.row 5 26 z false true))], 608⟩ : St)) (show ((Lv6.map d26).set (Int.toNat v7) (d26 x10)) = ((Lv6.set (Int.toNat v7) x10).map d26) from List.map_set.symm)) ?_
        refine X.rk ⟨[(0, lV (l.map d26)), (3, .pt 64 0 0), (6, rV 192), (7, iV (wrap64 (v7 - 1)))], [(64, some (.box (cD (d26 t)))), (192, some (.row 5 26 ((Lv6.set (Int.toNat v7) x10).map d26) false true))], 656⟩ hτ hmix (by kernel_rfl) (by kernel_rfl) (s2 := ⟨[(0, lV (l.map d26)), (3, .pt 64 0 0), (6, rV 192), (7, iV (v7 - 1))], [(64, some (.box (cD (d26 t)))), (192, some (.row 5 26 ((Lv6.set (Int.toNat v7) x10).map d26) false true))], 656⟩) (congrArg (fun z : Int => (⟨[(0, lV (l.map d26)), (3, .pt 64 0 0), (6, rV 192), (7, iV z)], [(64, some (.box (cD (d26 t)))), (192, some (.row 5 26 ((Lv6.set (Int.toNat v7) x10).map d26) false true))], 656⟩ : St)) (show wrap64 (v7 - 1) = (v7 - 1) by rw [w64 (n := (v7 - 1)) (by omega) (by omega)])) ?_
        refine ⟨⟨((Lv6.set (Int.toNat v7) x10), (v7 - 1)), ⟨by first | omega | (dsimp only; omega), by first | omega | (dsimp only; omega), pa_shift (by first | omega | (dsimp only; omega)) (by first | omega | (dsimp only; omega)) hlen hE ‹_›, pa_gt (by first | omega | (dsimp only; omega)) (by first | omega | (dsimp only; omega)) hE hG ‹_› (txl_yes ‹_›), by simp; omega, all_set hA (all_at hA ‹_›)⟩⟩, by first | exact rfl | omega | (dsimp only; omega) | (simp only [List.length_append, List.length_cons, List.length_nil, List.length_set]; omega) | (simp; done) | (simp; omega), Wk.mk' [(64, 64), (192, 192)] (by kernel_rfl) (by kernel_rfl) (by kernel_rfl)⟩
      · refine X.exit ?_
        refine X.seq ?_
        refine X.rs 3 hτ hmix (by kernel_rfl) ?_
        refine CH.idxR hτ (rows := (Lv6.map d26)) (n := v7) (b := 192) (by kernel_rfl) (by kernel_rfl) (by first | omega | (simp; done) | (simp; omega)) (by simp only [List.length_map, List.length_set]; first | omega | (simp; done) | (simp; omega)) (by kernel_rfl) ?_
        obtain ⟨x17, hx17⟩ : ∃ x, Lv6[Int.toNat v7]? = some x := ⟨_, List.getElem?_eq_getElem (by first | omega | (simp; done) | (simp; omega))⟩
        refine CH.row hτ (d26 x17) (by kernel_rfl) (by kernel_rfl) (by rw [List.getElem?_map, hx17]; rfl) (by kernel_rfl) ?_
        refine CH.endk ⟨[(0, lV (l.map d26)), (6, rV 192)], [(192, some (.row 5 26 ((Lv6.map d26).set (Int.toNat v7) (d26 t)) false true))], 544⟩ (by kernel_rfl) (by kernel_rfl) (s2 := ⟨[(0, lV (l.map d26)), (6, rV 192)], [(192, some (.row 5 26 ((Lv6.set (Int.toNat v7) t).map d26) false true))], 544⟩) (congrArg (fun z : List (List D) => (⟨[(0, lV (l.map d26)), (6, rV 192)], [(192, some (.row 5 26 z false true))], 544⟩ : St)) (show ((Lv6.map d26).set (Int.toNat v7) (d26 t)) = ((Lv6.set (Int.toNat v7) t).map d26) from List.map_set.symm)) ?_
        refine X.seq ?_
        refine X.seq ?_
        refine X.rs 1 hτ hmix (by kernel_rfl) ?_
        obtain ⟨r18, hr20, hf19⟩ := s_PoolOk l (by exact hl)
        replace hr20 := hr20.symm; subst hr20
        refine CH.call hf19 Try.func60 ⟨rfl, rfl⟩ [] (by kernel_rfl) (by kernel_rfl) (by kernel_rfl) (by kernel_rfl) ?_
        refine CH.go 2 hτ (by kernel_rfl) ?_
        rcases Bool.eq_false_or_eq_true (!(poolOk l)) with hb22 | hb22
        · refine CH.alt 44 (sV (.bool (!(poolOk l)))) (sV (.bool true)) (by kernel_rfl) (by rw [hb22]) ?_
          refine CH.alt 45 (sV (.bool (!(poolOk l)))) (sV (.bool true)) (by kernel_rfl) (by rw [hb22]) ?_
          replace hb22 := bnot_yes (hb22)
          refine CH.go 4 hτ (by kernel_rfl) ?_
          refine CH.endk ⟨[(0, lV (l.map d26)), (6, rV 192), (49, bV true)], [(192, some (.row 5 26 ((Lv6.set (Int.toNat v7) t).map d26) false true))], 672⟩ (by kernel_rfl) (by kernel_rfl) rfl ?_
          refine X.ifT (by kernel_rfl) ?_
          refine X.seq ?_
          refine X.rs 2 hτ hmix (by kernel_rfl) ?_
          refine CH.app hτ (rows := []) (rows2 := (l.map d26)) (sz := 5) (bys := 56) true (by kernel_rfl) (by kernel_rfl) (fun _ => flat_d d26 (fun x => rfl)) (flat_ok (f := d26) (fun x => rfl)) (by simp only [List.length_map] <;> (first | done | omega | (simp; done) | (simp; omega))) (by kernel_rfl) ?_
          refine CH.go 2 hτ (by kernel_rfl) ?_
          refine CH.endk ⟨[(4, rV 704), (5, bV false)], [(704, some (.row 5 26 (l.map d26) false true))], 752⟩ (by kernel_rfl) (by kernel_rfl) rfl ?_
          refine X.ret ?_
          exact ⟨trivial, _, _, ⟨l, false, (by first | exact (pa_no1 ‹_›) | exact (pa_no2 (by omega) (by omega) hE hG (.inl ‹_›) ‹_›) | exact (pa_no2 (by omega) (by omega) hE hG (.inr ⟨_, ‹_›, txl_no ‹_›⟩) ‹_›) | exact (pa_yes (by omega) (by omega) hE ‹_› ‹_›)), rfl, rfl⟩, .inl (Ret.mk' [(64, 704)] (by kernel_rfl) (by kernel_rfl) (by kernel_rfl))⟩
        · refine CH.alt 44 (sV (.bool (!(poolOk l)))) (sV (.bool false)) (by kernel_rfl) (by rw [hb22]) ?_
          refine CH.alt 45 (sV (.bool (!(poolOk l)))) (sV (.bool false)) (by kernel_rfl) (by rw [hb22]) ?_
          replace hb22 := bnot_no (hb22)
          refine CH.go 1 hτ (by kernel_rfl) ?_
          obtain ⟨r23, hr25, hf24⟩ := s_PoolOk (Lv6.set (Int.toNat v7) t) (by exact ⟨by simp only [List.length_set]; omega, all_set hA ht⟩)
          replace hr25 := hr25.symm; subst hr25
          refine CH.call hf24 Try.func60 ⟨rfl, rfl⟩ [] (by kernel_rfl) (by kernel_rfl) (by kernel_rfl) (by kernel_rfl) ?_
          refine CH.go 2 hτ (by kernel_rfl) ?_
          refine CH.endk ⟨[(0, lV (l.map d26)), (6, rV 192), (49, bV (!(poolOk (Lv6.set (Int.toNat v7) t))))], [(192, some (.row 5 26 ((Lv6.set (Int.toNat v7) t).map d26) false true))], 672⟩ (by kernel_rfl) (by kernel_rfl) rfl ?_
          refine X.if_ (b := !(poolOk (Lv6.set (Int.toNat v7) t))) (by kernel_rfl) (fun hb27 => ?_) (fun hb27 => ?_)
          · replace hb27 := bnot_yes (hb27)
            refine X.seq ?_
            refine X.rs 2 hτ hmix (by kernel_rfl) ?_
            refine CH.app hτ (rows := []) (rows2 := (l.map d26)) (sz := 5) (bys := 56) true (by kernel_rfl) (by kernel_rfl) (fun _ => flat_d d26 (fun x => rfl)) (flat_ok (f := d26) (fun x => rfl)) (by simp only [List.length_map] <;> (first | done | omega | (simp; done) | (simp; omega))) (by kernel_rfl) ?_
            refine CH.go 2 hτ (by kernel_rfl) ?_
            refine CH.endk ⟨[(4, rV 704), (5, bV false)], [(704, some (.row 5 26 (l.map d26) false true))], 752⟩ (by kernel_rfl) (by kernel_rfl) rfl ?_
            refine X.ret ?_
            exact ⟨trivial, _, _, ⟨l, false, (by first | exact (pa_no1 ‹_›) | exact (pa_no2 (by omega) (by omega) hE hG (.inl ‹_›) ‹_›) | exact (pa_no2 (by omega) (by omega) hE hG (.inr ⟨_, ‹_›, txl_no ‹_›⟩) ‹_›) | exact (pa_yes (by omega) (by omega) hE ‹_› ‹_›)), rfl, rfl⟩, .inl (Ret.mk' [(64, 704)] (by kernel_rfl) (by kernel_rfl) (by kernel_rfl))⟩
          · replace hb27 := bnot_no (hb27)
            refine X.skip ?_
            refine X.seq ?_
            refine X.rk ⟨[(4, rV 192), (5, bV true)], [(192, some (.row 5 26 ((Lv6.set (Int.toNat v7) t).map d26) false true))], 720⟩ hτ hmix (by kernel_rfl) (by kernel_rfl) rfl ?_
            refine X.ret ?_
            exact ⟨trivial, _, _, ⟨(Lv6.set (Int.toNat v7) t), true, (by first | exact (pa_no1 ‹_›) | exact (pa_no2 (by omega) (by omega) hE hG (.inl ‹_›) ‹_›) | exact (pa_no2 (by omega) (by omega) hE hG (.inr ⟨_, ‹_›, txl_no ‹_›⟩) ‹_›) | exact (pa_yes (by omega) (by omega) hE ‹_› ‹_›)), rfl, rfl⟩, .inl (Ret.mk' [(64, 192)] (by kernel_rfl) (by kernel_rfl) (by kernel_rfl))⟩
    · refine CH.alt 18 (sV (.bool (decide ((v7 : Int) > 0)))) (sV (.bool false)) (by kernel_rfl) (by rw [hb9]) ?_
      refine CH.alt 19 (sV (.bool (decide ((v7 : Int) > 0)))) (sV (.bool false)) (by kernel_rfl) (by rw [hb9]) ?_
      replace hb9 := of_decide_eq_false (hb9)
      refine CH.go 8 hτ (by kernel_rfl) ?_
      refine CH.endk ⟨[(0, lV (l.map d26)), (3, .pt 64 0 0), (6, rV 192), (7, iV v7), (27, bV false)], [(64, some (.box (cD (d26 t)))), (192, some (.row 5 26 (Lv6.map d26) false true))], 464⟩ (by kernel_rfl) (by kernel_rfl) rfl ?_
      refine X.ifF (by kernel_rfl) ?_
      refine X.exit ?_
      refine X.seq ?_
      refine X.rs 3 hτ hmix (by kernel_rfl) ?_
      refine CH.idxR hτ (rows := (Lv6.map d26)) (n := v7) (b := 192) (by kernel_rfl) (by kernel_rfl) (by first | omega | (simp; done) | (simp; omega)) (by simp only [List.length_map, List.length_set]; first | omega | (simp; done) | (simp; omega)) (by kernel_rfl) ?_
      obtain ⟨x28, hx28⟩ : ∃ x, Lv6[Int.toNat v7]? = some x := ⟨_, List.getElem?_eq_getElem (by first | omega | (simp; done) | (simp; omega))⟩
      refine CH.row hτ (d26 x28) (by kernel_rfl) (by kernel_rfl) (by rw [List.getElem?_map, hx28]; rfl) (by kernel_rfl) ?_
      refine CH.endk ⟨[(0, lV (l.map d26)), (6, rV 192)], [(192, some (.row 5 26 ((Lv6.map d26).set (Int.toNat v7) (d26 t)) false true))], 544⟩ (by kernel_rfl) (by kernel_rfl) (s2 := ⟨[(0, lV (l.map d26)), (6, rV 192)], [(192, some (.row 5 26 ((Lv6.set (Int.toNat v7) t).map d26) false true))], 544⟩) (congrArg (fun z : List (List D) => (⟨[(0, lV (l.map d26)), (6, rV 192)], [(192, some (.row 5 26 z false true))], 544⟩ : St)) (show ((Lv6.map d26).set (Int.toNat v7) (d26 t)) = ((Lv6.set (Int.toNat v7) t).map d26) from List.map_set.symm)) ?_
      refine X.seq ?_
      refine X.seq ?_
      refine X.rs 1 hτ hmix (by kernel_rfl) ?_
      obtain ⟨r29, hr31, hf30⟩ := s_PoolOk l (by exact hl)
      replace hr31 := hr31.symm; subst hr31
      refine CH.call hf30 Try.func60 ⟨rfl, rfl⟩ [] (by kernel_rfl) (by kernel_rfl) (by kernel_rfl) (by kernel_rfl) ?_
      refine CH.go 2 hτ (by kernel_rfl) ?_
      rcases Bool.eq_false_or_eq_true (!(poolOk l)) with hb33 | hb33
      · refine CH.alt 44 (sV (.bool (!(poolOk l)))) (sV (.bool true)) (by kernel_rfl) (by rw [hb33]) ?_
        refine CH.alt 45 (sV (.bool (!(poolOk l)))) (sV (.bool true)) (by kernel_rfl) (by rw [hb33]) ?_
        replace hb33 := bnot_yes (hb33)
        refine CH.go 4 hτ (by kernel_rfl) ?_
        refine CH.endk ⟨[(0, lV (l.map d26)), (6, rV 192), (49, bV true)], [(192, some (.row 5 26 ((Lv6.set (Int.toNat v7) t).map d26) false true))], 672⟩ (by kernel_rfl) (by kernel_rfl) rfl ?_
        refine X.ifT (by kernel_rfl) ?_
        refine X.seq ?_
        refine X.rs 2 hτ hmix (by kernel_rfl) ?_
        refine CH.app hτ (rows := []) (rows2 := (l.map d26)) (sz := 5) (bys := 56) true (by kernel_rfl) (by kernel_rfl) (fun _ => flat_d d26 (fun x => rfl)) (flat_ok (f := d26) (fun x => rfl)) (by simp only [List.length_map] <;> (first | done | omega | (simp; done) | (simp; omega))) (by kernel_rfl) ?_
        refine CH.go 2 hτ (by kernel_rfl) ?_
        refine CH.endk ⟨[(4, rV 704), (5, bV false)], [(704, some (.row 5 26 (l.map d26) false true))], 752⟩ (by kernel_rfl) (by kernel_rfl) rfl ?_
        refine X.ret ?_
        exact ⟨trivial, _, _, ⟨l, false, (by first | exact (pa_no1 ‹_›) | exact (pa_no2 (by omega) (by omega) hE hG (.inl ‹_›) ‹_›) | exact (pa_no2 (by omega) (by omega) hE hG (.inr ⟨_, ‹_›, txl_no ‹_›⟩) ‹_›) | exact (pa_yes (by omega) (by omega) hE ‹_› ‹_›)), rfl, rfl⟩, .inl (Ret.mk' [(64, 704)] (by kernel_rfl) (by kernel_rfl) (by kernel_rfl))⟩
      · refine CH.alt 44 (sV (.bool (!(poolOk l)))) (sV (.bool false)) (by kernel_rfl) (by rw [hb33]) ?_
        refine CH.alt 45 (sV (.bool (!(poolOk l)))) (sV (.bool false)) (by kernel_rfl) (by rw [hb33]) ?_
        replace hb33 := bnot_no (hb33)
        refine CH.go 1 hτ (by kernel_rfl) ?_
        obtain ⟨r34, hr36, hf35⟩ := s_PoolOk (Lv6.set (Int.toNat v7) t) (by exact ⟨by simp only [List.length_set]; omega, all_set hA ht⟩)
        replace hr36 := hr36.symm; subst hr36
        refine CH.call hf35 Try.func60 ⟨rfl, rfl⟩ [] (by kernel_rfl) (by kernel_rfl) (by kernel_rfl) (by kernel_rfl) ?_
        refine CH.go 2 hτ (by kernel_rfl) ?_
        refine CH.endk ⟨[(0, lV (l.map d26)), (6, rV 192), (49, bV (!(poolOk (Lv6.set (Int.toNat v7) t))))], [(192, some (.row 5 26 ((Lv6.set (Int.toNat v7) t).map d26) false true))], 672⟩ (by kernel_rfl) (by kernel_rfl) rfl ?_
        refine X.if_ (b := !(poolOk (Lv6.set (Int.toNat v7) t))) (by kernel_rfl) (fun hb38 => ?_) (fun hb38 => ?_)
        · replace hb38 := bnot_yes (hb38)
          refine X.seq ?_
          refine X.rs 2 hτ hmix (by kernel_rfl) ?_
          refine CH.app hτ (rows := []) (rows2 := (l.map d26)) (sz := 5) (bys := 56) true (by kernel_rfl) (by kernel_rfl) (fun _ => flat_d d26 (fun x => rfl)) (flat_ok (f := d26) (fun x => rfl)) (by simp only [List.length_map] <;> (first | done | omega | (simp; done) | (simp; omega))) (by kernel_rfl) ?_
          refine CH.go 2 hτ (by kernel_rfl) ?_
          refine CH.endk ⟨[(4, rV 704), (5, bV false)], [(704, some (.row 5 26 (l.map d26) false true))], 752⟩ (by kernel_rfl) (by kernel_rfl) rfl ?_
          refine X.ret ?_
          exact ⟨trivial, _, _, ⟨l, false, (by first | exact (pa_no1 ‹_›) | exact (pa_no2 (by omega) (by omega) hE hG (.inl ‹_›) ‹_›) | exact (pa_no2 (by omega) (by omega) hE hG (.inr ⟨_, ‹_›, txl_no ‹_›⟩) ‹_›) | exact (pa_yes (by omega) (by omega) hE ‹_› ‹_›)), rfl, rfl⟩, .inl (Ret.mk' [(64, 704)] (by kernel_rfl) (by kernel_rfl) (by kernel_rfl))⟩
        · replace hb38 := bnot_no (hb38)
          refine X.skip ?_
          refine X.seq ?_
          refine X.rk ⟨[(4, rV 192), (5, bV true)], [(192, some (.row 5 26 ((Lv6.set (Int.toNat v7) t).map d26) false true))], 720⟩ hτ hmix (by kernel_rfl) (by kernel_rfl) rfl ?_
          refine X.ret ?_
          exact ⟨trivial, _, _, ⟨(Lv6.set (Int.toNat v7) t), true, (by first | exact (pa_no1 ‹_›) | exact (pa_no2 (by omega) (by omega) hE hG (.inl ‹_›) ‹_›) | exact (pa_no2 (by omega) (by omega) hE hG (.inr ⟨_, ‹_›, txl_no ‹_›⟩) ‹_›) | exact (pa_yes (by omega) (by omega) hE ‹_› ‹_›)), rfl, rfl⟩, .inl (Ret.mk' [(64, 192)] (by kernel_rfl) (by kernel_rfl) (by kernel_rfl))⟩
  obtain ⟨_, _, ⟨r0, r1, q1, rfl, rfl⟩, hf⟩ := key
  exact ⟨r0, r1, q1, hf⟩

theorem i_cloneR_Tx (l : List S26) (hl : l.length ≤ 2000000) : ∃ r0 : List S26, (r0 = l) ∧ Fn Try.prog 54 [lV (l.map d26)] (lookH []) (rV 64) (lookH [(64, some (.row 5 26 (r0.map d26) false true))]) := by
  refine ⟨_, rfl, ?_⟩
  refine Fn.bodyU (N := 8) hτ Try.func54 rfl rfl rfl rfl ?_
  refine U.seq ?_
  refine U.rk ⟨[(0, lV (l.map d26))], [], 80⟩ hτ hmix (by kernel_rfl) (by kernel_rfl) rfl ?_
  refine U.seq ?_
  refine U.seq ?_
  refine U.rk ⟨[(0, lV (l.map d26)), (4, .bo ((l.map d26) = []) (True))], [], 112⟩ hτ hmix (by kernel_rfl) (by kernel_rfl) rfl ?_
  refine U.ifN (p := (l.map d26) = []) (q := True) (by kernel_rfl) (fun hb1 => ?_) (fun hb1 => ?_)
  · have hn := hb1
    refine U.seq ?_
    refine U.rk ⟨[(2, .e (.c (.nil)))], [], 128⟩ hτ hmix (by kernel_rfl) (by kernel_rfl) rfl ?_
    refine U.ret ?_
    exact ⟨trivial, .inr ⟨_, Wk.ownT 2 5 26 (by kernel_rfl) (by kernel_rfl) (by kernel_rfl), Ret.mk' [(64, 128)] (by kernel_rfl) (by rw [hn]; kernel_rfl) (by kernel_rfl)⟩⟩
  · have _ := trivial
    refine U.skip ?_
    refine U.seq ?_
    refine U.rs 2 hτ hmix (by kernel_rfl) ?_
    have el2 : (l.map d26).length = l.length := List.length_map ..
    refine CH.app hτ (rows := []) (rows2 := (l.map d26)) (sz := 5) (bys := 56) true (by kernel_rfl) (by kernel_rfl) (fun _ => flat_d d26 (fun x => rfl)) (flat_ok (f := d26) (fun x => rfl)) (by simp only [List.length_map] <;> (first | done | omega | (simp; done) | (simp; omega))) (by kernel_rfl) ?_
    refine CH.go 1 hτ (by kernel_rfl) ?_
    refine CH.endk ⟨[(2, rV 144)], [(144, some (.row 5 26 (l.map d26) false true))], 176⟩ (by kernel_rfl) (by kernel_rfl) rfl ?_
    refine U.ret ?_
    exact ⟨trivial, .inl (Ret.mk' [(64, 144)] (by kernel_rfl) (by kernel_rfl) (by kernel_rfl))⟩

theorem i_findTx (l : List S26) (t : S26) (hl : l.length ≤ 2000000) : ∃ r0 : Int, ∃ r1 : Bool, (0 ≤ r0 ∧ r0 ≤ (l.length : Int) ∧ (poolP l → r0 = (posTx l t : Int) ∧ r1 = hasT l t)) ∧ Fn Try.prog 55 [lV (l.map d26), .e (.agg (cD (d26 t))), sV (.func (.func 56) #[] #[])] (lookH []) (.tup [.c (.d (.v (.int .i64 r0))), .c (.d (.v (.bool r1)))]) (lookH []) := by
  have key : ∃ x' h', ((fun x' h' => ∃ r0 : Int, ∃ r1 : Bool, (0 ≤ r0 ∧ r0 ≤ (l.length : Int) ∧ (poolP l → r0 = (posTx l t : Int) ∧ r1 = hasT l t)) ∧ x' = .tup [.c (.d (.v (.int .i64 r0))), .c (.d (.v (.bool r1)))] ∧ h' = [])) x' h' ∧ Fn Try.prog 55 [lV (l.map d26), .e (.agg (cD (d26 t))), sV (.func (.func 56) #[] #[])] (lookH []) x' (lookH h') := by
    refine Fn.bodyX (N := 49) hτ Try.func55 rfl rfl rfl rfl ?_
    refine X.seq ?_
    refine X.rk ⟨[(0, lV (l.map d26)), (2, sV (.func (.func 56) #[] #[])), (4, .pt 64 0 0)], [(64, some (.box (cD (d26 t))))], 112⟩ hτ hmix (by kernel_rfl) (by kernel_rfl) rfl ?_
    refine X.seq ?_
    have el1 : (l.map d26).length = l.length := List.length_map ..
    refine X.rk ⟨[(0, lV (l.map d26)), (2, sV (.func (.func 56) #[] #[])), (4, .pt 64 0 0), (8, iV ((l.map d26).length : Int))], [(64, some (.box (cD (d26 t))))], 160⟩ hτ hmix (by kernel_rfl) (by kernel_rfl) rfl ?_
    refine X.seq ?_
    refine X.rk ⟨[(0, lV (l.map d26)), (2, sV (.func (.func 56) #[] #[])), (4, .pt 64 0 0), (8, iV ((l.map d26).length : Int)), (9, iV 0), (10, iV ((l.map d26).length : Int))], [(64, some (.box (cD (d26 t))))], 208⟩ hτ hmix (by kernel_rfl) (by kernel_rfl) rfl ?_
    refine X.seq ?_
    refine X.block ?_
    -- 3: v9 : Int, v10 : Int
    refine X.loop (σ := { g : Int × Int // (fun (v9 : Int) (v10 : Int) => 0 ≤ v9 ∧ v9 ≤ v10 ∧ v10 ≤ (l.length : Int) ∧ bsI l t v9 v10) g.1 g.2 }) (fun g => (fun (v9 : Int) (v10 : Int) => ⟨[(0, lV (l.map d26)), (2, sV (.func (.func 56) #[] #[])), (4, .pt 64 0 0), (8, iV ((l.map d26).length : Int)), (9, iV v9), (10, iV v10)], [(64, some (.box (cD (d26 t))))], 208⟩) g.1.1 g.1.2) (fun g => (fun (v9 : Int) (v10 : Int) => (v10 - v9).toNat) g.1.1 g.1.2) ⟨(0, ((l.map d26).length : Int)), ⟨by first | omega | (dsimp only; omega), by first | omega | (dsimp only; omega), by first | omega | (dsimp only; omega), (by simp only [List.length_map]; exact bs_zero)⟩⟩ (Wk.less (by kernel_rfl)) (fun g => ?_)
    obtain ⟨⟨v9, v10⟩, hg3⟩ := g
    have hg3 : 0 ≤ v9 ∧ v9 ≤ v10 ∧ v10 ≤ (l.length : Int) ∧ bsI l t v9 v10 := hg3
    obtain ⟨_, _, _, hA⟩ := hg3
    refine X.seq ?_
    refine X.seq ?_
    refine X.rk ⟨[(0, lV (l.map d26)), (2, sV (.func (.func 56) #[] #[])), (4, .pt 64 0 0), (8, iV ((l.map d26).length : Int)), (9, iV v9), (10, iV v10), (17, bV (decide ((v9 : Int) < v10)))], [(64, some (.box (cD (d26 t))))], 256⟩ hτ hmix (by kernel_rfl) (by kernel_rfl) rfl ?_
    refine X.if_ (b := decide ((v9 : Int) < v10)) (by kernel_rfl) (fun hb4 => ?_) (fun hb4 => ?_)
    · replace hb4 := of_decide_eq_true (hb4)
      refine X.skip ?_
      refine X.block ?_
      refine X.seq ?_
      refine X.rk ⟨[(0, lV (l.map d26)), (2, sV (.func (.func 56) #[] #[])), (4, .pt 64 0 0), (8, iV ((l.map d26).length : Int)), (9, iV v9), (10, iV v10), (11, iV (wr .i64 ((wr .u64 (wrap64 (v9 + v10))) / 2 ^ min (Int.toNat 1) 64)))], [(64, some (.box (cD (d26 t))))], 368⟩ hτ hmix (by kernel_rfl) (by kernel_rfl) (s2 := ⟨[(0, lV (l.map d26)), (2, sV (.func (.func 56) #[] #[])), (4, .pt 64 0 0), (8, iV ((l.map d26).length : Int)), (9, iV v9), (10, iV v10), (11, iV (wr .i64 ((wr .u64 ((v9 + v10))) / 2 ^ min (Int.toNat 1) 64)))], [(64, some (.box (cD (d26 t))))], 368⟩) (congrArg (fun z : Int => (⟨[(0, lV (l.map d26)), (2, sV (.func (.func 56) #[] #[])), (4, .pt 64 0 0), (8, iV ((l.map d26).length : Int)), (9, iV v9), (10, iV v10), (11, iV z)], [(64, some (.box (cD (d26 t))))], 368⟩ : St)) (show wr .i64 ((wr .u64 (wrap64 (v9 + v10))) / 2 ^ min (Int.toNat 1) 64) = wr .i64 ((wr .u64 ((v9 + v10))) / 2 ^ min (Int.toNat 1) 64) by rw [w64 (n := (v9 + v10)) (by omega) (by omega)])) ?_
      refine X.seq ?_
      have hmid := half_mid (i := v9) (j := v10) (by omega) (by omega) (by omega) rfl
      refine X.rs 3 hτ hmix (by kernel_rfl) ?_
      obtain ⟨x5, hx5⟩ : ∃ x, l[Int.toNat (wr .i64 ((wr .u64 ((v9 + v10))) / 2 ^ min (Int.toNat 1) 64))]? = some x := ⟨_, List.getElem?_eq_getElem (by first | omega | (simp; done) | (simp; omega))⟩
      refine CH.idx hτ (d26 x5) (rows := (l.map d26)) (n := wr .i64 ((wr .u64 ((v9 + v10))) / 2 ^ min (Int.toNat 1) 64)) (sz := 5) (by kernel_rfl) (by kernel_rfl) (by first | omega | (simp; done) | (simp; omega)) (by rw [List.getElem?_map, hx5]; rfl) (by kernel_rfl) ?_
      refine CH.go 2 hτ (by kernel_rfl) ?_
      obtain ⟨r6, hr8, hf7⟩ := i_compareTx x5 t
      replace hr8 := hr8.symm; subst hr8
      refine CH.callV hf7 Try.func56 ⟨rfl, rfl⟩ [] (by kernel_rfl) (by kernel_rfl) (by kernel_rfl) (by kernel_rfl) ?_
      refine CH.go 1 hτ (by kernel_rfl) ?_
      refine CH.endk ⟨[(0, lV (l.map d26)), (2, sV (.func (.func 56) #[] #[])), (4, .pt 64 0 0), (8, iV ((l.map d26).length : Int)), (9, iV v9), (10, iV v10), (11, iV (wr .i64 ((wr .u64 ((v9 + v10))) / 2 ^ min (Int.toNat 1) 64))), (31, bV (decide (((cmpTx x5 t) : Int) < 0)))], [(64, some (.box (cD (d26 t))))], 496⟩ (by kernel_rfl) (by kernel_rfl) rfl ?_
      refine X.if_ (b := decide (((cmpTx x5 t) : Int) < 0)) (by kernel_rfl) (fun hb10 => ?_) (fun hb10 => ?_)
      · replace hb10 := of_decide_eq_true (hb10)
        refine X.rk ⟨[(0, lV (l.map d26)), (2, sV (.func (.func 56) #[] #[])), (4, .pt 64 0 0), (8, iV ((l.map d26).length : Int)), (9, iV (wrap64 ((wr .i64 ((wr .u64 ((v9 + v10))) / 2 ^ min (Int.toNat 1) 64)) + 1))), (10, iV v10)], [(64, some (.box (cD (d26 t))))], 544⟩ hτ hmix (by kernel_rfl) (by kernel_rfl) (s2 := ⟨[(0, lV (l.map d26)), (2, sV (.func (.func 56) #[] #[])), (4, .pt 64 0 0), (8, iV ((l.map d26).length : Int)), (9, iV ((wr .i64 ((wr .u64 ((v9 + v10))) / 2 ^ min (Int.toNat 1) 64)) + 1)), (10, iV v10)], [(64, some (.box (cD (d26 t))))], 544⟩) (congrArg (fun z : Int => (⟨[(0, lV (l.map d26)), (2, sV (.func (.func 56) #[] #[])), (4, .pt 64 0 0), (8, iV ((l.map d26).length : Int)), (9, iV z), (10, iV v10)], [(64, some (.box (cD (d26 t))))], 544⟩ : St)) (show wrap64 ((wr .i64 ((wr .u64 ((v9 + v10))) / 2 ^ min (Int.toNat 1) 64)) + 1) = ((wr .i64 ((wr .u64 ((v9 + v10))) / 2 ^ min (Int.toNat 1) 64)) + 1) by rw [w64 (n := ((wr .i64 ((wr .u64 ((v9 + v10))) / 2 ^ min (Int.toNat 1) 64)) + 1)) (by omega) (by omega)])) ?_
        refine ⟨⟨(((wr .i64 ((wr .u64 ((v9 + v10))) / 2 ^ min (Int.toNat 1) 64)) + 1), v10), (by first | exact ⟨by first | omega | (dsimp only; omega), by first | omega | (dsimp only; omega), by first | omega | (dsimp only; omega), bs_hi hA (by first | omega | (dsimp only; omega)) ‹_› (by first | omega | (dsimp only; omega))⟩ | exact ⟨by first | omega | (dsimp only; omega), by first | omega | (dsimp only; omega), by first | omega | (dsimp only; omega), bs_lo hA (by first | omega | (dsimp only; omega)) ‹_› (by first | omega | (dsimp only; omega))⟩)⟩, by first | exact rfl | omega | (dsimp only; omega) | (simp only [List.length_append, List.length_cons, List.length_nil, List.length_set]; omega) | (simp; done) | (simp; omega), Wk.mk' [(64, 64)] (by kernel_rfl) (by kernel_rfl) (by kernel_rfl)⟩
      · replace hb10 := of_decide_eq_false (hb10)
        refine X.rk ⟨[(0, lV (l.map d26)), (2, sV (.func (.func 56) #[] #[])), (4, .pt 64 0 0), (8, iV ((l.map d26).length : Int)), (9, iV v9), (10, iV (wr .i64 ((wr .u64 ((v9 + v10))) / 2 ^ min (Int.toNat 1) 64)))], [(64, some (.box (cD (d26 t))))], 528⟩ hτ hmix (by kernel_rfl) (by kernel_rfl) rfl ?_
        refine ⟨⟨(v9, wr .i64 ((wr .u64 ((v9 + v10))) / 2 ^ min (Int.toNat 1) 64)), (by first | exact ⟨by first | omega | (dsimp only; omega), by first | omega | (dsimp only; omega), by first | omega | (dsimp only; omega), bs_hi hA (by first | omega | (dsimp only; omega)) ‹_› (by first | omega | (dsimp only; omega))⟩ | exact ⟨by first | omega | (dsimp only; omega), by first | omega | (dsimp only; omega), by first | omega | (dsimp only; omega), bs_lo hA (by first | omega | (dsimp only; omega)) ‹_› (by first | omega | (dsimp only; omega))⟩)⟩, by first | exact rfl | omega | (dsimp only; omega) | (simp only [List.length_append, List.length_cons, List.length_nil, List.length_set]; omega) | (simp; done) | (simp; omega), Wk.mk' [(64, 64)] (by kernel_rfl) (by kernel_rfl) (by kernel_rfl)⟩
    · replace hb4 := of_decide_eq_false (hb4)
      refine X.exit ?_
      refine X.seq ?_
      refine X.rs 5 hτ hmix (by kernel_rfl) ?_
      rcases Bool.eq_false_or_eq_true (decide ((v9 : Int) < ((l.map d26).length : Int))) with hb11 | hb11
      · refine CH.alt 38 (sV (.bool (decide ((v9 : Int) < ((l.map d26).length : Int))))) (sV (.bool true)) (by kernel_rfl) (by rw [hb11]) ?_
        refine CH.alt 39 (sV (.bool (decide ((v9 : Int) < ((l.map d26).length : Int))))) (sV (.bool true)) (by kernel_rfl) (by rw [hb11]) ?_
        replace hb11 := of_decide_eq_true (hb11)
        refine CH.go 3 hτ (by kernel_rfl) ?_
        obtain ⟨x12, hx12⟩ : ∃ x, l[Int.toNat v9]? = some x := ⟨_, List.getElem?_eq_getElem (by first | omega | (simp; done) | (simp; omega))⟩
        refine CH.idx hτ (d26 x12) (rows := (l.map d26)) (n := v9) (sz := 5) (by kernel_rfl) (by kernel_rfl) (by first | omega | (simp; done) | (simp; omega)) (by rw [List.getElem?_map, hx12]; rfl) (by kernel_rfl) ?_
        refine CH.go 2 hτ (by kernel_rfl) ?_
        obtain ⟨r13, hr15, hf14⟩ := i_compareTx x12 t
        replace hr15 := hr15.symm; subst hr15
        refine CH.callV hf14 Try.func56 ⟨rfl, rfl⟩ [] (by kernel_rfl) (by kernel_rfl) (by kernel_rfl) (by kernel_rfl) ?_
        refine CH.go 4 hτ (by kernel_rfl) ?_
        refine CH.endk ⟨[(6, iV v9), (7, bV ((cmpTx x12 t) == 0))], [], 512⟩ (by kernel_rfl) (by kernel_rfl) rfl ?_
        refine X.ret ?_
        exact ⟨trivial, _, _, ⟨v9, ((cmpTx x12 t) == 0), (by first | exact ⟨by omega, by omega, fun hp => by have he := bs_end hA (by omega) (by omega) (by omega) (by omega) hp; subst he; exact ⟨rfl, by first | exact bs_any hp ‹_› | exact bs_out (by omega)⟩⟩), rfl, rfl⟩, .inl (Ret.mk' [] (by kernel_rfl) (by kernel_rfl) (by kernel_rfl))⟩
      · refine CH.alt 38 (sV (.bool (decide ((v9 : Int) < ((l.map d26).length : Int))))) (sV (.bool false)) (by kernel_rfl) (by rw [hb11]) ?_
        refine CH.alt 39 (sV (.bool (decide ((v9 : Int) < ((l.map d26).length : Int))))) (sV (.bool false)) (by kernel_rfl) (by rw [hb11]) ?_
        replace hb11 := of_decide_eq_false (hb11)
        refine CH.go 11 hτ (by kernel_rfl) ?_
        refine CH.endk ⟨[(6, iV v9), (7, bV false)], [], 512⟩ (by kernel_rfl) (by kernel_rfl) rfl ?_
        refine X.ret ?_
        exact ⟨trivial, _, _, ⟨v9, false, (by first | exact ⟨by omega, by omega, fun hp => by have he := bs_end hA (by omega) (by omega) (by omega) (by omega) hp; subst he; exact ⟨rfl, by first | exact bs_any hp ‹_› | exact bs_out (by omega)⟩⟩), rfl, rfl⟩, .inl (Ret.mk' [] (by kernel_rfl) (by kernel_rfl) (by kernel_rfl))⟩
  obtain ⟨_, _, ⟨r0, r1, q1, rfl, rfl⟩, hf⟩ := key
  exact ⟨r0, r1, q1, hf⟩

theorem i_insTx (l : List S26) (i : Int) (m : List S26) (h0 : 0 ≤ i) (h1 : i ≤ (l.length : Int)) (hm : m.length = 1) (hs : l.length < 4000000) : ∃ r0 : List S26, r0 = insAt l m i.toNat ∧ Fn Try.prog 58 [.e (.c (.ref 0)), .e (.c (.d (.v (.int .i64 i)))), .e (.c (.ref 1))] (lookH [(0, some (.row 5 26 (l.map d26) false true)), (1, some (.row 5 26 (m.map d26) false true))]) (.e (.c (.ref 64))) (lookH [(64, some (.row 5 26 (r0.map d26) false true))]) := by
  obtain ⟨b, rfl⟩ := List.length_eq_one_iff.1 hm
  refine ⟨_, rfl, ?_⟩
  have h := fn_ins ins58 (by omega) (rows := l.map d26) (r := d26 b) (i := i.toNat) (nf := true) (nf2 := true) (by rw [List.length_map]; omega) rfl (by rw [List.length_map]; omega)
  rw [Int.toNat_of_nonneg h0] at h
  rw [show (insAt l [b] i.toNat).map d26 = (l.map d26).take i.toNat ++ d26 b :: (l.map d26).drop i.toNat by simp [insAt, List.map_take, List.map_drop]]
  exact h

theorem i_PoolAdd (l : List S26) (t : S26) (hl : SmT l) (ht : Sm26 t) (hs : l.length < 2000000) : ∃ r0 : List S26, ∃ r1 : Bool, (r0 = paR l t ∧ r1 = paOk l t) ∧ Fn Try.prog 12 [lV (l.map d26), .e (.agg (cD (d26 t)))] (lookH []) (.tup [.c (.ref 64), .c (.d (.v (.bool r1)))]) (lookH [(64, some (.row 5 26 (r0.map d26) false true))]) := by
  have key : ∃ x' h', ((fun x' h' => ∃ r0 : List S26, ∃ r1 : Bool, (r0 = paR l t ∧ r1 = paOk l t) ∧ x' = .tup [.c (.ref 64), .c (.d (.v (.bool r1)))] ∧ h' = [(64, some (.row 5 26 (r0.map d26) false true))])) x' h' ∧ Fn Try.prog 12 [lV (l.map d26), .e (.agg (cD (d26 t)))] (lookH []) x' (lookH h') := by
    refine Fn.bodyX (N := 39) hτ Try.func12 rfl rfl rfl rfl ?_
    refine X.seq ?_
    refine X.rk ⟨[(0, lV (l.map d26)), (3, .pt 64 0 0)], [(64, some (.box (cD (d26 t))))], 112⟩ hτ hmix (by kernel_rfl) (by kernel_rfl) rfl ?_
    refine X.seq ?_
    have hm := hl.1
    refine X.rs 1 hτ hmix (by kernel_rfl) ?_
    obtain ⟨r1, hr3, hf2⟩ := i_cloneR_Tx l (by assumption)
    replace hr3 := hr3.symm; subst hr3
    refine CH.call hf2 Try.func54 ⟨rfl, rfl⟩ [] (by kernel_rfl) (by kernel_rfl) (by kernel_rfl) (by kernel_rfl) ?_
    refine CH.go 1 hτ (by kernel_rfl) ?_
    refine CH.endk ⟨[(0, lV (l.map d26)), (3, .pt 64 0 0), (6, rV 128)], [(64, some (.box (cD (d26 t)))), (128, some (.row 5 26 (l.map d26) false true))], 160⟩ (by kernel_rfl) (by kernel_rfl) rfl ?_
    refine X.seq ?_
    refine X.rs 2 hτ hmix (by kernel_rfl) ?_
    obtain ⟨r5, r6, hr8, hf7⟩ := i_findTx l t (by omega)
    obtain ⟨hb0, hb1, hbs⟩ := hr8
    refine CH.call hf7 Try.func55 ⟨rfl, rfl⟩ [] (by kernel_rfl) (by kernel_rfl) (by kernel_rfl) (by kernel_rfl) ?_
    refine CH.go 5 hτ (by kernel_rfl) ?_
    refine CH.endk ⟨[(0, lV (l.map d26)), (3, .pt 64 0 0), (6, rV 128), (7, iV r5), (8, bV r6)], [(64, some (.box (cD (d26 t)))), (128, some (.row 5 26 (l.map d26) false true))], 288⟩ (by kernel_rfl) (by kernel_rfl) rfl ?_
    refine X.seq ?_
    refine X.seq ?_
    refine X.rs 2 hτ hmix (by kernel_rfl) ?_
    rcases Bool.eq_false_or_eq_true (r6) with hb9 | hb9
    · refine CH.alt 8 (sV (.bool (r6))) (sV (.bool true)) (by kernel_rfl) (by rw [hb9]) ?_
      refine CH.alt 17 (sV (.bool (r6))) (sV (.bool true)) (by kernel_rfl) (by rw [hb9]) ?_
      refine CH.alt 18 (sV (.bool (r6))) (sV (.bool true)) (by kernel_rfl) (by rw [hb9]) ?_
      refine CH.go 14 hτ (by kernel_rfl) ?_
      refine CH.endk ⟨[(3, .pt 64 0 0), (6, rV 128), (7, iV r5), (32, bV true)], [(64, some (.box (cD (d26 t)))), (128, some (.row 5 26 (l.map d26) false true))], 544⟩ (by kernel_rfl) (by kernel_rfl) rfl ?_
      refine X.ifT (by kernel_rfl) ?_
      refine X.seq ?_
      refine X.rk ⟨[(4, rV 128), (5, bV false)], [(128, some (.row 5 26 (l.map d26) false true))], 592⟩ hτ hmix (by kernel_rfl) (by kernel_rfl) rfl ?_
      refine X.ret ?_
      exact ⟨trivial, _, _, ⟨l, false, (by first | exact pa_m1 hbs ‹_› | exact pa_m2 (by omega) | exact pa_m3 ‹_› | exact pa_no1 ‹_› | exact pa_in hbs ‹_› (by omega) ‹_› ‹_›), rfl, rfl⟩, .inl (Ret.mk' [(64, 128)] (by kernel_rfl) (by kernel_rfl) (by kernel_rfl))⟩
    · refine CH.alt 8 (sV (.bool (r6))) (sV (.bool false)) (by kernel_rfl) (by rw [hb9]) ?_
      refine CH.alt 17 (sV (.bool (r6))) (sV (.bool false)) (by kernel_rfl) (by rw [hb9]) ?_
      refine CH.alt 18 (sV (.bool (r6))) (sV (.bool false)) (by kernel_rfl) (by rw [hb9]) ?_
      refine CH.go 5 hτ (by kernel_rfl) ?_
      have el10 : (l.map d26).length = l.length := List.length_map ..
      rcases Bool.eq_false_or_eq_true (decide ((((l.map d26).length : Int) : Int) ≥ 20)) with hb11 | hb11
      · refine CH.alt 21 (sV (.bool (decide ((((l.map d26).length : Int) : Int) ≥ 20)))) (sV (.bool true)) (by kernel_rfl) (by rw [hb11]) ?_
        refine CH.alt 22 (sV (.bool (decide ((((l.map d26).length : Int) : Int) ≥ 20)))) (sV (.bool true)) (by kernel_rfl) (by rw [hb11]) ?_
        refine CH.alt 23 (sV (.bool (decide ((((l.map d26).length : Int) : Int) ≥ 20)))) (sV (.bool true)) (by kernel_rfl) (by rw [hb11]) ?_
        replace hb11 := of_decide_eq_true (hb11)
        refine CH.go 9 hτ (by kernel_rfl) ?_
        refine CH.endk ⟨[(3, .pt 64 0 0), (6, rV 128), (7, iV r5), (32, bV true)], [(64, some (.box (cD (d26 t)))), (128, some (.row 5 26 (l.map d26) false true))], 544⟩ (by kernel_rfl) (by kernel_rfl) rfl ?_
        refine X.ifT (by kernel_rfl) ?_
        refine X.seq ?_
        refine X.rk ⟨[(4, rV 128), (5, bV false)], [(128, some (.row 5 26 (l.map d26) false true))], 592⟩ hτ hmix (by kernel_rfl) (by kernel_rfl) rfl ?_
        refine X.ret ?_
        exact ⟨trivial, _, _, ⟨l, false, (by first | exact pa_m1 hbs ‹_› | exact pa_m2 (by omega) | exact pa_m3 ‹_› | exact pa_no1 ‹_› | exact pa_in hbs ‹_› (by omega) ‹_› ‹_›), rfl, rfl⟩, .inl (Ret.mk' [(64, 128)] (by kernel_rfl) (by kernel_rfl) (by kernel_rfl))⟩
      · refine CH.alt 21 (sV (.bool (decide ((((l.map d26).length : Int) : Int) ≥ 20)))) (sV (.bool false)) (by kernel_rfl) (by rw [hb11]) ?_
        refine CH.alt 22 (sV (.bool (decide ((((l.map d26).length : Int) : Int) ≥ 20)))) (sV (.bool false)) (by kernel_rfl) (by rw [hb11]) ?_
        refine CH.alt 23 (sV (.bool (decide ((((l.map d26).length : Int) : Int) ≥ 20)))) (sV (.bool false)) (by kernel_rfl) (by rw [hb11]) ?_
        replace hb11 := of_decide_eq_false (hb11)
        refine CH.go 1 hτ (by kernel_rfl) ?_
        obtain ⟨r12, hr14, hf13⟩ := i_TxOk t (by exact ht)
        replace hr14 := hr14.symm; subst hr14
        refine CH.call hf13 Try.func57 ⟨rfl, rfl⟩ [] (by kernel_rfl) (by kernel_rfl) (by kernel_rfl) (by kernel_rfl) ?_
        refine CH.go 3 hτ (by kernel_rfl) ?_
        rcases Bool.eq_false_or_eq_true (!(txOk t)) with hb16 | hb16
        · refine CH.alt 26 (sV (.bool (!(txOk t)))) (sV (.bool true)) (by kernel_rfl) (by rw [hb16]) ?_
          refine CH.alt 27 (sV (.bool (!(txOk t)))) (sV (.bool true)) (by kernel_rfl) (by rw [hb16]) ?_
          refine CH.alt 28 (sV (.bool (!(txOk t)))) (sV (.bool true)) (by kernel_rfl) (by rw [hb16]) ?_
          replace hb16 := bnot_yes (hb16)
          refine CH.go 4 hτ (by kernel_rfl) ?_
          refine CH.endk ⟨[(3, .pt 64 0 0), (6, rV 128), (7, iV r5), (32, bV true)], [(64, some (.box (cD (d26 t)))), (128, some (.row 5 26 (l.map d26) false true))], 544⟩ (by kernel_rfl) (by kernel_rfl) rfl ?_
          refine X.ifT (by kernel_rfl) ?_
          refine X.seq ?_
          refine X.rk ⟨[(4, rV 128), (5, bV false)], [(128, some (.row 5 26 (l.map d26) false true))], 592⟩ hτ hmix (by kernel_rfl) (by kernel_rfl) rfl ?_
          refine X.ret ?_
          exact ⟨trivial, _, _, ⟨l, false, (by first | exact pa_m1 hbs ‹_› | exact pa_m2 (by omega) | exact pa_m3 ‹_› | exact pa_no1 ‹_› | exact pa_in hbs ‹_› (by omega) ‹_› ‹_›), rfl, rfl⟩, .inl (Ret.mk' [(64, 128)] (by kernel_rfl) (by kernel_rfl) (by kernel_rfl))⟩
        · refine CH.alt 26 (sV (.bool (!(txOk t)))) (sV (.bool false)) (by kernel_rfl) (by rw [hb16]) ?_
          refine CH.alt 27 (sV (.bool (!(txOk t)))) (sV (.bool false)) (by kernel_rfl) (by rw [hb16]) ?_
          refine CH.alt 28 (sV (.bool (!(txOk t)))) (sV (.bool false)) (by kernel_rfl) (by rw [hb16]) ?_
          replace hb16 := bnot_no (hb16)
          refine CH.go 1 hτ (by kernel_rfl) ?_
          obtain ⟨r17, hr19, hf18⟩ := i_PoolOk l (by exact hl)
          replace hr19 := hr19.symm; subst hr19
          refine CH.call hf18 Try.func14 ⟨rfl, rfl⟩ [] (by kernel_rfl) (by kernel_rfl) (by kernel_rfl) (by kernel_rfl) ?_
          refine CH.go 2 hτ (by kernel_rfl) ?_
          refine CH.endk ⟨[(3, .pt 64 0 0), (6, rV 128), (7, iV r5), (32, bV (!(poolOk l)))], [(64, some (.box (cD (d26 t)))), (128, some (.row 5 26 (l.map d26) false true))], 544⟩ (by kernel_rfl) (by kernel_rfl) rfl ?_
          refine X.if_ (b := !(poolOk l)) (by kernel_rfl) (fun hb21 => ?_) (fun hb21 => ?_)
          · replace hb21 := bnot_yes (hb21)
            refine X.seq ?_
            refine X.rk ⟨[(4, rV 128), (5, bV false)], [(128, some (.row 5 26 (l.map d26) false true))], 592⟩ hτ hmix (by kernel_rfl) (by kernel_rfl) rfl ?_
            refine X.ret ?_
            exact ⟨trivial, _, _, ⟨l, false, (by first | exact pa_m1 hbs ‹_› | exact pa_m2 (by omega) | exact pa_m3 ‹_› | exact pa_no1 ‹_› | exact pa_in hbs ‹_› (by omega) ‹_› ‹_›), rfl, rfl⟩, .inl (Ret.mk' [(64, 128)] (by kernel_rfl) (by kernel_rfl) (by kernel_rfl))⟩
          · replace hb21 := bnot_no (hb21)
            refine X.skip ?_
            refine X.seq ?_
            refine X.rs 4 hτ hmix (by kernel_rfl) ?_
            obtain ⟨r22, hr24, hf23⟩ := i_insTx l r5 ([t] : List S26) (by first | omega | (simp; done) | (simp; omega)) (by first | omega | (simp; done) | (simp; omega)) (by rfl) (by first | omega | (simp; done) | (simp; omega))
            replace hr24 := hr24.symm; subst hr24
            refine CH.call hf23 Try.func58 ⟨rfl, rfl⟩ [(128, 0), (592, 1)] (by kernel_rfl) (by kernel_rfl) (by kernel_rfl) (by kernel_rfl) ?_
            refine CH.go 2 hτ (by kernel_rfl) ?_
            refine CH.endk ⟨[(4, rV 608), (5, bV true)], [(608, some (.row 5 26 ((insAt l ([t] : List S26) (Int.toNat r5)).map d26) false true))], 656⟩ (by kernel_rfl) (by kernel_rfl) rfl ?_
            refine X.ret ?_
            exact ⟨trivial, _, _, ⟨(insAt l ([t] : List S26) (Int.toNat r5)), true, (by first | exact pa_m1 hbs ‹_› | exact pa_m2 (by omega) | exact pa_m3 ‹_› | exact pa_no1 ‹_› | exact pa_in hbs ‹_› (by omega) ‹_› ‹_›), rfl, rfl⟩, .inl (Ret.mk' [(64, 608)] (by kernel_rfl) (by kernel_rfl) (by kernel_rfl))⟩
  obtain ⟨_, _, ⟨r0, r1, q1, rfl, rfl⟩, hf⟩ := key
  exact ⟨r0, r1, q1, hf⟩

end Go.Proofs.Ytnieghbgcjbnhaa.Av
