/-
What functions of the program come to, walked one by one.
Conditions: none beside those that each theorem names.
-/
import Derived.Test.YtggmeldoecnkaaaAvB
set_option linter.unusedVariables false
set_option linter.unusedSimpArgs false
namespace Go.Proofs.Ytggmeldoecnkaaa.Av
open Go.RowKit
set_option maxRecDepth 20000
set_option maxHeartbeats 4000000

/-! the order of orders -/
theorem bl_trans : ∀ a b c : List UInt8, Op.bytesLess a b = true → Op.bytesLess b c = true → Op.bytesLess a c = true
  | [], [], _, h, _ => by simp [Op.bytesLess] at h
  | _ :: _, [], _, h, _ => by simp [Op.bytesLess] at h
  | _, _ :: _, [], _, h => by simp [Op.bytesLess] at h
  | [], _ :: _, _ :: _, _, _ => rfl
  | x :: xs, y :: ys, z :: zs, h, h' => by
    have ih := bl_trans xs ys zs
    simp only [Op.bytesLess, Bool.or_eq_true, decide_eq_true_eq, Bool.and_eq_true, beq_iff_eq] at h h' ⊢
    have e1 : (x < y) = (x.toNat < y.toNat) := rfl
    have e2 : (y < z) = (y.toNat < z.toNat) := rfl
    have e3 : (x < z) = (x.toNat < z.toNat) := rfl
    rw [e1] at h
    rw [e2] at h'
    rw [e3]
    rcases h with h | ⟨rfl, h⟩ <;> rcases h' with h' | ⟨rfl, h'⟩
    · exact .inl (by omega)
    · exact .inl h
    · exact .inl h'
    · exact .inr ⟨rfl, ih h h'⟩
def cS (a b : ByteArray) : Int := if Op.bytesLess a.toList b.toList = true then -1 else if a.toList = b.toList then 0 else 1
def cI (a b : Int) : Int := if a < b then -1 else if a = b then 0 else 1
def or0 (x y : Int) : Int := if x = 0 then y else x
structure IsC {α : Type} (c : α → α → Int) : Prop where
  sw : ∀ a b, c a b < 0 ↔ 0 < c b a
  tr : ∀ a b d, c a b < 0 → c b d < 0 → c a d < 0
  cg : ∀ a b, c a b = 0 → ∀ d, c a d = c b d
  rf : ∀ a, c a a = 0
theorem cS_lt {a b : ByteArray} : cS a b < 0 ↔ Op.bytesLess a.toList b.toList = true := by
  unfold cS; split
  · simp [*]
  · split <;> simp [*, less_irrefl]
theorem cS_gt {a b : ByteArray} : 0 < cS a b ↔ Op.bytesLess b.toList a.toList = true := by
  have h := less_total a.toList b.toList
  have hi := less_irrefl a.toList
  unfold cS; split
  · rename_i h1
    rw [h1, Bool.true_or] at h
    have := bnot_yes h.symm
    simp [this]
  · rename_i h1
    split
    · rename_i h2
      rw [h2]
      rw [h2] at hi
      simp [hi]
    · rename_i h2
      have h1 : Op.bytesLess a.toList b.toList = false := by simpa using h1
      rw [h1, beq_false_of_ne h2] at h
      have := bnot_no h.symm
      simp [this]
theorem cS_eq {a b : ByteArray} (h : cS a b = 0) : a = b := by
  unfold cS at h; split at h
  · omega
  · split at h
    · exact tl_inj.1 (by assumption)
    · omega
theorem cS_is : IsC cS where
  sw a b := by rw [cS_lt, cS_gt]
  tr a b d h h' := by rw [cS_lt] at *; exact bl_trans _ _ _ h h'
  cg a b h d := by rw [cS_eq h]
  rf a := by unfold cS; rw [less_irrefl]; simp
theorem cI_is : IsC cI where
  sw a b := by unfold cI; grind
  tr a b d := by unfold cI; grind
  cg a b h d := by unfold cI at *; grind
  rf a := by unfold cI; grind
theorem cI_eq {a b : Int} (h : cI a b = 0) : a = b := by unfold cI at h; grind
theorem IsC.on {α β : Type} {c : β → β → Int} (h : IsC c) (f : α → β) : IsC fun a b => c (f a) (f b) where
  sw _ _ := h.sw _ _
  tr _ _ _ := h.tr _ _ _
  cg _ _ e _ := h.cg _ _ e _
  rf _ := h.rf _
theorem IsC.z {α : Type} {c : α → α → Int} (h : IsC c) {a b : α} (e : c a b = 0) : c b a = 0 := by
  have h1 := h.sw a b
  have h2 := h.sw b a
  omega
theorem IsC.cg2 {α : Type} {c : α → α → Int} (h : IsC c) {a b : α} (e : c a b = 0) (d : α) : (c d a < 0 ↔ c d b < 0) ∧ (c d a = 0 ↔ c d b = 0) := by
  have h1 := h.cg _ _ e d
  have h2 := h.sw d a
  have h3 := h.sw d b
  have h4 := h.sw a d
  have h5 := h.sw b d
  constructor <;> constructor <;> intro <;> omega
theorem IsC.lex {α : Type} {c c' : α → α → Int} (h : IsC c) (h' : IsC c') : IsC fun a b => or0 (c a b) (c' a b) where
  sw a b := by
    have h1 := h.sw a b
    have h2 := h.sw b a
    have h3 := h'.sw a b
    unfold or0
    split <;> split <;> omega
  tr a b d := by
    have h1 := h.tr a b d
    have h3 := h'.tr a b d
    unfold or0
    by_cases e1 : c a b = 0
    · have q := h.cg _ _ e1 d
      rw [if_pos e1, q]
      by_cases e2 : c b d = 0
      · rw [if_pos e2, if_pos e2]; exact h3
      · rw [if_neg e2, if_neg e2]; exact fun _ z => z
    · rw [if_neg e1]
      by_cases e2 : c b d = 0
      · have q := (h.cg2 e2 a)
        rw [if_pos e2, if_neg (by omega)]
        exact fun z _ => q.1.1 z
      · rw [if_neg e2]
        intro z1 z2
        have := h1 z1 z2
        rw [if_neg (by omega)]
        exact this
  cg a b e d := by
    unfold or0 at e ⊢
    split at e
    · rename_i e1
      show (if c a d = 0 then c' a d else c a d) = _
      rw [h.cg _ _ e1 d, h'.cg _ _ e d]
    · omega
  rf a := by
    unfold or0
    show (if c a a = 0 then c' a a else c a a) = 0
    rw [if_pos (h.rf a)]
    exact h'.rf a
theorem or0_z {x y : Int} (h : or0 x y = 0) : x = 0 ∧ y = 0 := by unfold or0 at h; split at h <;> simp_all
def cmpTx (a b : S35) : Int := or0 (cS a.f1 b.f1) (or0 (cI a.f4 b.f4) (or0 (cI a.f0 b.f0) (or0 (cS a.f2 b.f2) (cI a.f3 b.f3))))
theorem cmpTx_is : IsC cmpTx := (cS_is.on S35.f1).lex ((cI_is.on S35.f4).lex ((cI_is.on S35.f0).lex ((cS_is.on S35.f2).lex (cI_is.on S35.f3))))
theorem cmpTx_eq {a b : S35} : cmpTx a b = 0 ↔ a = b := by
  refine ⟨fun h => ?_, fun h => h ▸ cmpTx_is.rf a⟩
  obtain ⟨h1, h⟩ := or0_z h
  obtain ⟨h2, h⟩ := or0_z h
  obtain ⟨h3, h⟩ := or0_z h
  obtain ⟨h4, h5⟩ := or0_z h
  have h1 := cS_eq h1
  have h2 := cI_eq h2
  have h3 := cI_eq h3
  have h4 := cS_eq h4
  have h5 := cI_eq h5
  cases a; cases b
  simp only at h1 h2 h3 h4 h5
  simp only [h1, h2, h3, h4, h5]
def txLess (a b : S35) : Bool := decide (cmpTx a b < 0)
theorem txl_iff {a b : S35} : txLess a b = true ↔ cmpTx a b < 0 := by simp [txLess]
theorem txl_no {a b : S35} (h : txLess a b = false) : ¬ cmpTx a b < 0 := by simpa [txLess] using h
theorem txl_yes {a b : S35} (h : txLess a b = true) : cmpTx a b < 0 := by simpa [txLess] using h

def poolR (l : List S35) (i : Int) (x : S35) : Prop := txOk x = true ∧ ∀ y, 0 < i → l[(i - 1).toNat]? = some y → txLess y x = true
def poolP (l : List S35) : Prop := Upto (poolR l) (fun n => l[n]?) l.length ∧ (l.length : Int) ≤ 20
noncomputable def poolOk (l : List S35) : Bool := @decide (poolP l) (Classical.propDecidable _)
theorem poolOk_iff {l : List S35} : poolOk l = true ↔ poolP l := by simp [poolOk]
theorem pool_at {l : List S35} (h : poolP l) {i : Nat} {x : S35} (hx : l[i]? = some x) : poolR l i x := h.1 i x (by omega) (by have := (List.getElem?_eq_some_iff.1 hx).1; omega) (by simpa using hx)
theorem pool_lt {l : List S35} (h : poolP l) : ∀ (d j : Nat) (a b : S35), l[j]? = some a → l[j + 1 + d]? = some b → cmpTx a b < 0
  | 0, j, a, b, ha, hb => txl_yes ((pool_at h hb).2 a (by omega) (by rw [show (((j + 1 + 0 : Nat) : Int) - 1).toNat = j by omega]; exact ha))
  | d + 1, j, a, b, ha, hb => by
    have hl := (List.getElem?_eq_some_iff.1 hb).1
    have hc : l[j + 1 + d]? = some (l[j + 1 + d]'(by omega)) := List.getElem?_eq_getElem _
    have h1 := pool_lt h d j a _ ha hc
    have h2 := (pool_at h hb).2 _ (by omega) (by rw [show (((j + 1 + (d + 1) : Nat) : Int) - 1).toNat = j + 1 + d by omega]; exact hc)
    exact cmpTx_is.tr _ _ _ h1 (txl_yes h2)
theorem pool_ord {l : List S35} (h : poolP l) {i j : Nat} {a b : S35} (hij : i < j) (ha : l[i]? = some a) (hb : l[j]? = some b) : cmpTx a b < 0 :=
  pool_lt h (j - i - 1) i a b ha (by rw [show i + 1 + (j - i - 1) = j by omega]; exact hb)
theorem cmp_irr {a : S35} (h : cmpTx a a < 0) : False := by have := cmpTx_is.rf a; omega
def posTx (l : List S35) (t : S35) : Nat := (l.takeWhile fun x => txLess x t).length
theorem posTx_le {l : List S35} {t : S35} : posTx l t ≤ l.length := (List.takeWhile_prefix _).length_le
theorem posTx_is {l : List S35} {t : S35} {k : Nat} (hk : k ≤ l.length) (h1 : ∀ (j : Nat) (x : S35), j < k → l[j]? = some x → cmpTx x t < 0) (h2 : ∀ x, l[k]? = some x → ¬ cmpTx x t < 0) : posTx l t = k :=
  tw_is hk (fun j x hj hx => txl_iff.2 (h1 j x hj hx)) (fun x hx => by have := h2 x hx; simpa [txLess] using this)
noncomputable def hasT (l : List S35) (t : S35) : Bool := @decide (t ∈ l) (Classical.propDecidable _)
noncomputable def paOk (l : List S35) (t : S35) : Bool := poolOk l && (txOk t && (decide ((l.length : Int) < 20) && !hasT l t))
noncomputable def paR (l : List S35) (t : S35) : List S35 := if paOk l t = true then insAt l [t] (posTx l t) else l
theorem paOk_iff {l : List S35} {t : S35} : paOk l t = true ↔ poolP l ∧ txOk t = true ∧ (l.length : Int) < 20 ∧ t ∉ l := by
  simp only [paOk, Bool.and_eq_true, poolOk_iff, decide_eq_true_eq, Bool.not_eq_true', hasT, decide_eq_false_iff_not]
theorem paR_no {l : List S35} {t : S35} (h : paOk l t = false) : paR l t = l := by unfold paR; rw [h]; rfl
theorem paR_yes {l : List S35} {t : S35} (h : paOk l t = true) : paR l t = insAt l [t] (posTx l t) := by unfold paR; rw [h]; rfl
section
variable {l L : List S35} {t : S35}
/-- What stands ahead of the place is less, what stands behind it is not. -/
theorem pos_lo {j : Nat} {x : S35} (hj : j < posTx l t) (hx : l[j]? = some x) : cmpTx x t < 0 := txl_yes (tw_lo (p := fun x => txLess x t) hj hx)
theorem pos_hi (h : poolP l) (hn : t ∉ l) {j : Nat} {x : S35} (hj : posTx l t ≤ j) (hx : l[j]? = some x) : cmpTx t x < 0 := by
  have hl := (List.getElem?_eq_some_iff.1 hx).1
  have hk : l[posTx l t]? = some (l[posTx l t]'(by omega)) := List.getElem?_eq_getElem _
  generalize l[posTx l t]'(by omega) = y at hk
  have h1 : cmpTx t y < 0 := by
    have hne : y ≠ t := fun e => hn (e ▸ List.mem_of_getElem? hk)
    have h2 := txl_no (tw_stop (p := fun x => txLess x t) hk)
    have h3 : cmpTx y t ≠ 0 := fun q => hne (cmpTx_eq.1 q)
    have := cmpTx_is.sw t y
    omega
  rcases Nat.lt_or_ge (posTx l t) j with q | q
  · exact cmpTx_is.tr _ _ _ h1 (pool_ord h q hk hx)
  · have : j = posTx l t := by omega
    subst this
    rw [hk] at hx
    cases hx
    exact h1
theorem pa_ins (h : paOk l t = true) : poolP (insAt l [t] (posTx l t)) := by
  obtain ⟨hp, ht, hl, hn⟩ := paOk_iff.1 h
  have hk : posTx l t ≤ l.length := posTx_le
  have hle := ins_len (b := t) hk
  refine ⟨fun j x h0 hj hx => ?_, by omega⟩
  obtain ⟨n, rfl⟩ : ∃ n : Nat, j = n := ⟨j.toNat, by omega⟩
  simp only [Int.toNat_natCast] at hx
  rcases Nat.lt_trichotomy n (posTx l t) with q | q | q
  · rw [ins_lo hk q] at hx
    have := pool_at hp hx
    refine ⟨this.1, fun y hy hz => this.2 y hy ?_⟩
    rwa [ins_lo hk (by omega)] at hz
  · subst q
    rw [ins_k hk] at hx
    cases hx
    refine ⟨ht, fun y hy hz => txl_iff.2 ?_⟩
    rw [ins_lo hk (by omega)] at hz
    exact pos_lo (by omega) hz
  · obtain ⟨m, rfl⟩ : ∃ m, n = m + 1 := ⟨n - 1, by omega⟩
    rw [ins_hi hk (by omega)] at hx
    have hR := pool_at hp hx
    refine ⟨hR.1, fun y hy hz => ?_⟩
    rw [show (((m + 1 : Nat) : Int) - 1).toNat = m by omega] at hz
    by_cases q2 : m = posTx l t
    · rw [q2, ins_k hk] at hz
      cases hz
      exact txl_iff.2 (pos_hi hp hn (by omega) hx)
    · obtain ⟨k, rfl⟩ : ∃ k, m = k + 1 := ⟨m - 1, by omega⟩
      rw [ins_hi hk (by omega)] at hz
      exact hR.2 y (by omega) (by rw [show (((k + 1 : Nat) : Int) - 1).toNat = k by omega]; exact hz)
theorem pa_back {k : Nat} (hp : poolP l) (hk : k ≤ l.length) (h : poolP (insAt l [t] k)) : paOk l t = true ∧ posTx l t = k := by
  have hle := ins_len (b := t) hk
  have hlo : ∀ (j : Nat) (x : S35), j < k → l[j]? = some x → cmpTx x t < 0 := fun j x hj hx => pool_ord h hj ((ins_lo hk hj).trans hx) (ins_k hk)
  have hhi : ∀ (j : Nat) (x : S35), k ≤ j → l[j]? = some x → cmpTx t x < 0 := fun j x hj hx => pool_ord h (by omega) (ins_k hk) ((ins_hi hk hj).trans hx)
  refine ⟨paOk_iff.2 ⟨hp, (pool_at h (ins_k hk)).1, by have := h.2; omega, fun hm => ?_⟩, posTx_is hk hlo fun x hx q => ?_⟩
  · obtain ⟨j, hj⟩ := List.mem_iff_getElem?.1 hm
    rcases Nat.lt_or_ge j k with q | q
    · exact cmp_irr (hlo j t q hj)
    · exact cmp_irr (hhi j t q hj)
  · exact cmp_irr (cmpTx_is.tr _ _ _ q (hhi k x (Nat.le_refl _) hx))
theorem bub_pos {k : Nat} (hn : t ∉ l) (hp : poolP l) (hk : k ≤ l.length) (hgt : ∀ (j : Nat) (x : S35), k ≤ j → l[j]? = some x → cmpTx t x < 0) (hst : ∀ x, 0 < k → l[k - 1]? = some x → ¬ cmpTx t x < 0) : posTx l t = k := by
  refine posTx_is hk (fun j x hj hx => ?_) fun x hx q => cmp_irr (cmpTx_is.tr _ _ _ q (hgt k x (Nat.le_refl _) hx))
  have hy : l[k - 1]? = some (l[k - 1]'(by omega)) := List.getElem?_eq_getElem _
  generalize l[k - 1]'(by omega) = y at hy
  have h1 := hst y (by omega) hy
  have h2 : cmpTx y t ≠ 0 := fun q => hn ((cmpTx_eq.1 q) ▸ List.mem_of_getElem? hy)
  have h3 := cmpTx_is.sw t y
  have h3' := cmpTx_is.sw y t
  have h2' : cmpTx t y ≠ 0 := fun q => h2 (cmpTx_is.z q)
  have h4 : cmpTx y t < 0 := by omega
  by_cases q : j = k - 1
  · subst q; rw [hy] at hx; cases hx; exact h4
  · exact cmpTx_is.tr _ _ _ (pool_ord hp (by omega) hx hy) h4
theorem pa_no1 (h : poolOk l = false) : l = paR l t ∧ false = paOk l t := by
  have : paOk l t = false := by unfold paOk; rw [h]; rfl
  exact ⟨(paR_no this).symm, this.symm⟩
theorem pa_no2 {i : Int} (h0 : 0 ≤ i) (hk : i ≤ (l.length : Int)) (e : L.set i.toNat t = insAt l [t] i.toNat) (hgt : ∀ (j : Nat) (x : S35), i.toNat ≤ j → l[j]? = some x → cmpTx t x < 0) (hst : ¬ i > 0 ∨ ∃ x, L[(i - 1).toNat]? = some x ∧ ¬ cmpTx t x < 0) (h : poolOk (L.set i.toNat t) = false) : l = paR l t ∧ false = paOk l t := by
  have : paOk l t = false := by
    cases hq : paOk l t with
    | false => rfl
    | true =>
      obtain ⟨hp, _, _, hn⟩ := paOk_iff.1 hq
      have e2 := bub_pos hn hp (k := i.toNat) (by omega) hgt fun x hx0 hx => by
        rcases hst with q | ⟨y, hy, hy2⟩
        · omega
        · rw [← List.getElem?_set_ne (a := t) (show i.toNat ≠ (i - 1).toNat by omega), e, ins_lo (by omega) (by omega), show (i - 1).toNat = i.toNat - 1 by omega, hx] at hy
          cases hy
          exact hy2
      have := pa_ins hq
      rw [e2, ← e] at this
      rw [poolOk_iff.2 this] at h
      cases h
  exact ⟨(paR_no this).symm, this.symm⟩
theorem pa_yes {i : Int} (h0 : 0 ≤ i) (hk : i ≤ (l.length : Int)) (e : L.set i.toNat t = insAt l [t] i.toNat) (hl : poolOk l = true) (h : poolOk (L.set i.toNat t) = true) : L.set i.toNat t = paR l t ∧ true = paOk l t := by
  rw [e] at h ⊢
  obtain ⟨h1, h2⟩ := pa_back (poolOk_iff.1 hl) (by omega) (poolOk_iff.1 h)
  rw [paR_yes h1, h2]
  exact ⟨rfl, h1.symm⟩
theorem pa_gt {i : Int} {x : S35} (h0 : i > 0) (hk : i ≤ (l.length : Int)) (e : L.set i.toNat t = insAt l [t] i.toNat) (hgt : ∀ (j : Nat) (x : S35), i.toNat ≤ j → l[j]? = some x → cmpTx t x < 0) (hx : L[(i - 1).toNat]? = some x) (hg : cmpTx t x < 0) : ∀ (j : Nat) (x : S35), (i - 1).toNat ≤ j → l[j]? = some x → cmpTx t x < 0 := by
  intro j y hj hy
  rw [← List.getElem?_set_ne (a := t) (show i.toNat ≠ (i - 1).toNat by omega), e, ins_lo (by omega) (by omega)] at hx
  by_cases q : j = (i - 1).toNat
  · subst q
    rw [hx] at hy
    cases hy
    exact hg
  · exact hgt j y (by omega) hy
theorem pa_shift {i : Int} {x : S35} (h0 : i > 0) (hk : i ≤ (l.length : Int)) (hL : L.length = l.length + 1) (e : L.set i.toNat t = insAt l [t] i.toNat) (hx : L[(i - 1).toNat]? = some x) : (L.set i.toNat x).set (i - 1).toNat t = insAt l [t] (i - 1).toNat := by
  have h := bub_next (L := L.set i.toNat t) (x := x) (y := t) h0 hk e (by rw [List.getElem?_set_ne (by omega)]; exact hx) (by rw [List.getElem?_set_self (by omega)])
  rw [← h, List.set_comm (l := L) t t (by omega), List.set_set]
  exact List.set_comm x t (by omega)
theorem pa_first : (l ++ [t]).set l.length t = insAt l [t] l.length := by
  unfold insAt
  apply List.ext_getElem?
  intro j
  rw [List.getElem?_set]
  by_cases q : l.length = j
  · subst q
    simp
  · rw [if_neg q]
    simp
theorem pa_len (h : paOk l t = true) : (paR l t).length = l.length + 1 := by rw [paR_yes h]; exact ins_len posTx_le
theorem paR_len (l : List S35) (t : S35) : (paR l t).length ≤ l.length + 1 := by
  cases h : paOk l t with
  | true => rw [pa_len h]; omega
  | false => rw [paR_no h]; omega
theorem paR_mem {x : S35} (hx : x ∈ paR l t) : x ∈ l ∨ x = t := by
  cases h : paOk l t with
  | true => rw [paR_yes h] at hx; exact ins_mem hx
  | false => rw [paR_no h] at hx; exact .inl hx
end
theorem or0_n {x y : Int} (h : x ≠ 0) : or0 x y = x := if_neg h
theorem or0_o {x y : Int} (h : x = 0) : or0 x y = y := if_pos h
theorem cS_n {a b : ByteArray} (h : a.toList ≠ b.toList) : cS a b ≠ 0 := fun e => h (by rw [cS_eq e])
theorem cS_o {a b : ByteArray} (h : a.toList = b.toList) : cS a b = 0 := by rw [tl_inj.1 h]; exact cS_is.rf b
theorem cI_n {a b : Int} (h : a ≠ b) : cI a b ≠ 0 := fun e => h (cI_eq e)
theorem cI_o {a b : Int} (h : a = b) : cI a b = 0 := by rw [h]; exact cI_is.rf b
theorem cI_lt {a b : Int} : cI a b < 0 ↔ a < b := by unfold cI; grind
section
variable {a b : S35}
theorem txl1 (h : a.f1.toList ≠ b.f1.toList) : Op.bytesLess a.f1.toList b.f1.toList = txLess a b := by
  rw [Bool.eq_iff_iff, txl_iff, cmpTx, or0_n (cS_n h), cS_lt]
theorem txl2 (h1 : a.f1.toList = b.f1.toList) (h : a.f4 ≠ b.f4) : decide (a.f4 < b.f4) = txLess a b := by
  rw [Bool.eq_iff_iff, txl_iff, cmpTx, or0_o (cS_o h1), or0_n (cI_n h), cI_lt, decide_eq_true_eq]
theorem txl3 (h1 : a.f1.toList = b.f1.toList) (h2 : a.f4 = b.f4) (h : a.f0 ≠ b.f0) : decide (a.f0 < b.f0) = txLess a b := by
  rw [Bool.eq_iff_iff, txl_iff, cmpTx, or0_o (cS_o h1), or0_o (cI_o h2), or0_n (cI_n h), cI_lt, decide_eq_true_eq]
theorem txl4 (h1 : a.f1.toList = b.f1.toList) (h2 : a.f4 = b.f4) (h3 : a.f0 = b.f0) (h : a.f2.toList ≠ b.f2.toList) : Op.bytesLess a.f2.toList b.f2.toList = txLess a b := by
  rw [Bool.eq_iff_iff, txl_iff, cmpTx, or0_o (cS_o h1), or0_o (cI_o h2), or0_o (cI_o h3), or0_n (cS_n h), cS_lt]
theorem txl5 (h1 : a.f1.toList = b.f1.toList) (h2 : a.f4 = b.f4) (h3 : a.f0 = b.f0) (h : a.f2.toList = b.f2.toList) : decide (a.f3 < b.f3) = txLess a b := by
  rw [Bool.eq_iff_iff, txl_iff, cmpTx, or0_o (cS_o h1), or0_o (cI_o h2), or0_o (cI_o h3), or0_o (cS_o h), cI_lt, decide_eq_true_eq]
end
section
variable {l : List S35} {t : S35} {at_ : Int} {has : Bool}
end
theorem s_TxLess (a : S35) (b : S35) : ∃ r0 : Bool, (r0 = txLess a b) ∧ Fn Try.prog 187 [.e (.agg (cD (d35 a))), .e (.agg (cD (d35 b)))] (lookH []) (bV r0) (lookH []) := by
 have key : ∃ x' h', ((fun x' h' => ∃ r0 : Bool, (r0 = txLess a b) ∧ x' = bV r0 ∧ h' = [])) x' h' ∧ Fn Try.prog 187 [.e (.agg (cD (d35 a))), .e (.agg (cD (d35 b)))] (lookH []) x' (lookH h') := by
  refine Fn.bodyX (N := 54) hτ Try.func187 rfl rfl rfl rfl ?_
  refine sk ⟨[(2, .pt 64 0 0), (3, .pt 80 0 0)], [(64, some (.box (cD (d35 a)))), (80, some (.box (cD (d35 b))))], 112⟩ ?_
  refine X.seq ?_
  refine X.block ?_
  refine sk ⟨[(2, .pt 64 0 0), (3, .pt 80 0 0), (5, bV (!(a.f1.toList == b.f1.toList)))], [(64, some (.box (cD (d35 a)))), (80, some (.box (cD (d35 b))))], 208⟩ ?_
  refine if_ (b := !(a.f1.toList == b.f1.toList)) (fun hb1 => ?_) (fun hb1 => ?_)
  ·replace hb1 := beq_no (bnot_yes (hb1))
   refine sk ⟨[(4, bV (Op.bytesLess a.f1.toList b.f1.toList))], [], 304⟩ ?_
   refine X.ret ?_
   exact ⟨trivial, _, _, ⟨(Op.bytesLess a.f1.toList b.f1.toList), (by first | exact txl1 ‹_› | exact txl2 ‹_› ‹_› | exact txl3 ‹_› ‹_› ‹_› | exact txl4 ‹_› ‹_› ‹_› ‹_› | exact txl5 ‹_› ‹_› ‹_› ‹_›), rfl, rfl⟩, mkr⟩
  ·replace hb1 := beq_yes (bnot_no (hb1))
   refine sk ⟨[(2, .pt 64 0 0), (3, .pt 80 0 0), (16, bV (a.f4 != b.f4))], [(64, some (.box (cD (d35 a)))), (80, some (.box (cD (d35 b))))], 304⟩ ?_
   refine if_ (b := (a.f4 != b.f4)) (fun hb2 => ?_) (fun hb2 => ?_)
   ·replace hb2 := bne_iff_ne.1 (hb2)
    refine sk ⟨[(4, bV (decide ((a.f4 : Int) < b.f4)))], [], 400⟩ ?_
    refine X.ret ?_
    exact ⟨trivial, _, _, ⟨decide ((a.f4 : Int) < b.f4), (by first | exact txl1 ‹_› | exact txl2 ‹_› ‹_› | exact txl3 ‹_› ‹_› ‹_› | exact txl4 ‹_› ‹_› ‹_› ‹_› | exact txl5 ‹_› ‹_› ‹_› ‹_›), rfl, rfl⟩, mkr⟩
   ·replace hb2 := bne_eq_false_iff_eq.1 (hb2)
    refine sk ⟨[(2, .pt 64 0 0), (3, .pt 80 0 0), (27, bV (a.f0 != b.f0))], [(64, some (.box (cD (d35 a)))), (80, some (.box (cD (d35 b))))], 400⟩ ?_
    refine if_ (b := (a.f0 != b.f0)) (fun hb3 => ?_) (fun hb3 => ?_)
    ·replace hb3 := bne_iff_ne.1 (hb3)
     refine sk ⟨[(4, bV (decide ((a.f0 : Int) < b.f0)))], [], 496⟩ ?_
     refine X.ret ?_
     exact ⟨trivial, _, _, ⟨decide ((a.f0 : Int) < b.f0), (by first | exact txl1 ‹_› | exact txl2 ‹_› ‹_› | exact txl3 ‹_› ‹_› ‹_› | exact txl4 ‹_› ‹_› ‹_› ‹_› | exact txl5 ‹_› ‹_› ‹_› ‹_›), rfl, rfl⟩, mkr⟩
    ·replace hb3 := bne_eq_false_iff_eq.1 (hb3)
     refine sk ⟨[(2, .pt 64 0 0), (3, .pt 80 0 0), (38, bV (!(a.f2.toList == b.f2.toList)))], [(64, some (.box (cD (d35 a)))), (80, some (.box (cD (d35 b))))], 496⟩ ?_
     refine if_ (b := !(a.f2.toList == b.f2.toList)) (fun hb4 => ?_) (fun hb4 => ?_)
     ·replace hb4 := beq_no (bnot_yes (hb4))
      refine sk ⟨[(4, bV (Op.bytesLess a.f2.toList b.f2.toList))], [], 592⟩ ?_
      refine X.ret ?_
      exact ⟨trivial, _, _, ⟨(Op.bytesLess a.f2.toList b.f2.toList), (by first | exact txl1 ‹_› | exact txl2 ‹_› ‹_› | exact txl3 ‹_› ‹_› ‹_› | exact txl4 ‹_› ‹_› ‹_› ‹_› | exact txl5 ‹_› ‹_› ‹_› ‹_›), rfl, rfl⟩, mkr⟩
     ·replace hb4 := beq_yes (bnot_no (hb4))
      refine X.skip ?_
      refine sk ⟨[(4, bV (decide ((a.f3 : Int) < b.f3)))], [], 592⟩ ?_
      refine X.ret ?_
      exact ⟨trivial, _, _, ⟨decide ((a.f3 : Int) < b.f3), (by first | exact txl1 ‹_› | exact txl2 ‹_› ‹_› | exact txl3 ‹_› ‹_› ‹_› | exact txl4 ‹_› ‹_› ‹_› ‹_› | exact txl5 ‹_› ‹_› ‹_› ‹_›), rfl, rfl⟩, mkr⟩
 obtain ⟨_, _, ⟨r0, h1_, rfl, rfl⟩, hf⟩ := key
 exact ⟨r0, h1_, hf⟩

theorem s_PoolOk (l : List S35) (hl : SmT l) : ∃ r0 : Bool, (r0 = poolOk l) ∧ Fn Try.prog 188 [lV (l.map d35)] (lookH []) (bV r0) (lookH []) := by
 have key : ∃ x' h', ((fun x' h' => ∃ r0 : Bool, (r0 = poolOk l) ∧ x' = bV r0 ∧ h' = [])) x' h' ∧ Fn Try.prog 188 [lV (l.map d35)] (lookH []) x' (lookH h') := by
  refine Fn.bodyX (N := 36) hτ Try.func188 rfl rfl rfl rfl ?_
  refine sk ⟨[(0, lV (l.map d35))], [], 80⟩ ?_
  refine X.seq ?_
  refine sk ⟨[(0, lV (l.map d35)), (3, iV 0)], [], 96⟩ ?_
  refine X.block ?_
  -- 2: v3 : Int
  refine X.loop (σ := { g : Int // (fun (v3 : Int) => 0 ≤ v3 ∧ v3 ≤ l.length ∧ Upto (poolR l) (fun n => l[n]?) v3) g }) (fun g => (fun (v3 : Int) => ⟨[(0, lV (l.map d35)), (3, iV v3)], [], 96⟩) g.1) (fun g => (fun (v3 : Int) => (l.length - v3).toNat) g.1) ⟨0, ⟨by first | omega | (dsimp only; omega), by first | omega | (dsimp only; omega), upto_zero⟩⟩ (Wk.less (by kernel_rfl)) (fun g => ?_)
  obtain ⟨v3, hg2⟩ := g
  have hg2 : 0 ≤ v3 ∧ v3 ≤ l.length ∧ Upto (poolR l) (fun n => l[n]?) v3 := hg2
  obtain ⟨_, _, hA⟩ := hg2
  refine X.seq ?_
  refine X.seq ?_
  have hm := hl.1
  have el3 : (l.map d35).length = l.length := List.length_map ..
  refine rk ⟨[(0, lV (l.map d35)), (3, iV v3), (7, bV (decide ((v3 : Int) < ((l.map d35).length : Int))))], [], 160⟩ ?_
  refine if_ (b := decide ((v3 : Int) < ((l.map d35).length : Int))) (fun hb4 => ?_) (fun hb4 => ?_)
  ·replace hb4 := of_decide_eq_true (hb4)
   refine X.skip ?_
   refine X.seq ?_
   refine X.block ?_
   refine X.seq (rs 2 ?_)
   obtain ⟨x5, hx5⟩ : ∃ x, l[Int.toNat v3]? = some x := ⟨_, List.getElem?_eq_getElem (by first | omega | (simp; done) | (simp; omega))⟩
   refine CH.idx hτ (d35 x5) (rows := (l.map d35)) (n := v3) (sz := 5) (by kernel_rfl) (by kernel_rfl) (by first | omega | (simp; done) | (simp; omega)) (by rw [List.getElem?_map, hx5]; rfl) (by kernel_rfl) ?_
   refine go 1 ?_
   obtain ⟨r6, hr8, hf7⟩ := s_TxOk x5 (by exact all_at hl.2 ‹_›)
   replace hr8 := hr8.symm; subst hr8
   refine ca hf7 Try.func119 ?_
   refine go 2 ?_
   rcases Bool.eq_false_or_eq_true (!(txOk x5)) with hb10 | hb10
   ·refine aT 15 hb10 ?_
    refine aT 16 hb10 ?_
    replace hb10 := bnot_yes (hb10)
    refine go 16 ?_
    refine ek ⟨[(0, lV (l.map d35)), (3, iV v3), (32, bV true)], [], 528⟩ ?_
    refine X.ifT (by kernel_rfl) ?_
    refine sk ⟨[(2, bV false)], [], 544⟩ ?_
    refine X.ret ?_
    exact ⟨trivial, _, _, ⟨false, (by first | exact (fls (fun h => upto_no (by omega) (by omega) ‹_› (fun hr => by first | exact tf hr.1 ‹_› | exact tf (hr.2 _ (by omega) ‹_›) ‹_›) h.1)) | exact (dcd (by simp only [decide_eq_true_eq, List.length_map]; exact ⟨fun h => ⟨upto_all hA (by omega), by omega⟩, fun h => by have := h.2; omega⟩))), rfl, rfl⟩, mkr⟩
   ·refine aF 15 hb10 ?_
    refine aF 16 hb10 ?_
    replace hb10 := bnot_no (hb10)
    refine go 3 ?_
    rcases Bool.eq_false_or_eq_true (decide ((v3 : Int) > 0)) with hb11 | hb11
    ·refine aT 18 hb11 ?_
     refine aT 19 hb11 ?_
     replace hb11 := of_decide_eq_true (hb11)
     refine go 3 ?_
     obtain ⟨x12, hx12⟩ : ∃ x, l[Int.toNat (v3 - 1)]? = some x := ⟨_, List.getElem?_eq_getElem (by first | omega | (simp; done) | (simp; omega))⟩
     refine CH.alt 22 (sV (.int .i64 (wrap64 (v3 - 1)))) (sV (.int .i64 ((v3 - 1)))) (by kernel_rfl) (by rw [w64 (n := (v3 - 1)) (by omega) (by omega)]) ?_
     refine CH.idx hτ (d35 x12) (rows := (l.map d35)) (n := (v3 - 1)) (sz := 5) (by kernel_rfl) (by kernel_rfl) (by first | omega | (simp; done) | (simp; omega)) (by rw [List.getElem?_map, hx12]; rfl) (by kernel_rfl) ?_
     refine go 3 ?_
     refine CH.idx hτ (d35 x5) (rows := (l.map d35)) (n := v3) (sz := 5) (by kernel_rfl) (by kernel_rfl) (by first | omega | (simp; done) | (simp; omega)) (by rw [List.getElem?_map, hx5]; rfl) (by kernel_rfl) ?_
     refine go 1 ?_
     obtain ⟨r13, hr15, hf14⟩ := s_TxLess x12 x5
     replace hr15 := hr15.symm; subst hr15
     refine ca hf14 Try.func187 ?_
     refine go 3 ?_
     refine ek ⟨[(0, lV (l.map d35)), (3, iV v3), (32, bV (!(txLess x12 x5)))], [], 528⟩ ?_
     refine if_ (b := !(txLess x12 x5)) (fun hb17 => ?_) (fun hb17 => ?_)
     ·replace hb17 := bnot_yes (hb17)
      refine sk ⟨[(2, bV false)], [], 544⟩ ?_
      refine X.ret ?_
      exact ⟨trivial, _, _, ⟨false, (by first | exact (fls (fun h => upto_no (by omega) (by omega) ‹_› (fun hr => by first | exact tf hr.1 ‹_› | exact tf (hr.2 _ (by omega) ‹_›) ‹_›) h.1)) | exact (dcd (by simp only [decide_eq_true_eq, List.length_map]; exact ⟨fun h => ⟨upto_all hA (by omega), by omega⟩, fun h => by have := h.2; omega⟩))), rfl, rfl⟩, mkr⟩
     ·replace hb17 := bnot_no (hb17)
      refine X.skip ?_
      refine X.rk ⟨[(0, lV (l.map d35)), (3, iV (wrap64 (v3 + 1)))], [], 576⟩ hτ hmix (by kernel_rfl) (by kernel_rfl) (s2 := ⟨[(0, lV (l.map d35)), (3, iV (v3 + 1))], [], 576⟩) (congrArg (fun z : Int => (⟨[(0, lV (l.map d35)), (3, iV z)], [], 576⟩ : St)) (show wrap64 (v3 + 1) = (v3 + 1) by rw [w64 (n := (v3 + 1)) (by omega) (by omega)])) ?_
      refine ⟨⟨(v3 + 1), ⟨by first | omega | (dsimp only; omega), by first | omega | (dsimp only; omega), upto_nx (by first | omega | (dsimp only; omega)) hA ‹_› (⟨‹_›, (by first | exact fun y h0 hy => absurd h0 (by first | omega | (dsimp only; omega)) | exact prev_fn ‹_› ‹_›)⟩)⟩⟩, by first | exact rfl | omega | (dsimp only; omega) | (simp only [List.length_append, List.length_cons, List.length_nil, List.length_set]; omega) | (simp; done) | (simp; omega), Wk.mk' [] (by kernel_rfl) (by kernel_rfl) (by kernel_rfl)⟩
    ·refine aF 18 hb11 ?_
     refine aF 19 hb11 ?_
     replace hb11 := of_decide_eq_false (hb11)
     refine go 13 ?_
     refine ek ⟨[(0, lV (l.map d35)), (3, iV v3), (32, bV false)], [], 528⟩ ?_
     refine X.ifF (by kernel_rfl) ?_
     refine X.skip ?_
     refine X.rk ⟨[(0, lV (l.map d35)), (3, iV (wrap64 (v3 + 1)))], [], 576⟩ hτ hmix (by kernel_rfl) (by kernel_rfl) (s2 := ⟨[(0, lV (l.map d35)), (3, iV (v3 + 1))], [], 576⟩) (congrArg (fun z : Int => (⟨[(0, lV (l.map d35)), (3, iV z)], [], 576⟩ : St)) (show wrap64 (v3 + 1) = (v3 + 1) by rw [w64 (n := (v3 + 1)) (by omega) (by omega)])) ?_
     refine ⟨⟨(v3 + 1), ⟨by first | omega | (dsimp only; omega), by first | omega | (dsimp only; omega), upto_nx (by first | omega | (dsimp only; omega)) hA ‹_› (⟨‹_›, (by first | exact fun y h0 hy => absurd h0 (by first | omega | (dsimp only; omega)) | exact prev_fn ‹_› ‹_›)⟩)⟩⟩, by first | exact rfl | omega | (dsimp only; omega) | (simp only [List.length_append, List.length_cons, List.length_nil, List.length_set]; omega) | (simp; done) | (simp; omega), Wk.mk' [] (by kernel_rfl) (by kernel_rfl) (by kernel_rfl)⟩
  ·replace hb4 := of_decide_eq_false (hb4)
   refine X.exit ?_
   refine sk ⟨[(2, bV (decide ((((l.map d35).length : Int) : Int) ≤ 20)))], [], 224⟩ ?_
   refine X.ret ?_
   exact ⟨trivial, _, _, ⟨decide ((((l.map d35).length : Int) : Int) ≤ 20), (by first | exact (fls (fun h => upto_no (by omega) (by omega) ‹_› (fun hr => by first | exact tf hr.1 ‹_› | exact tf (hr.2 _ (by omega) ‹_›) ‹_›) h.1)) | exact (dcd (by simp only [decide_eq_true_eq, List.length_map]; exact ⟨fun h => ⟨upto_all hA (by omega), by omega⟩, fun h => by have := h.2; omega⟩))), rfl, rfl⟩, mkr⟩
 obtain ⟨_, _, ⟨r0, h1_, rfl, rfl⟩, hf⟩ := key
 exact ⟨r0, h1_, hf⟩
end Go.Proofs.Ytggmeldoecnkaaa.Av
