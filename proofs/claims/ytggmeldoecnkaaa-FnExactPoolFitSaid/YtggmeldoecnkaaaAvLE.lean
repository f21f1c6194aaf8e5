/-
What functions of the program come to, walked one by one.
Conditions: none beside those that each theorem names.
-/
import Derived.Test.YtggmeldoecnkaaaAvLG
import Derived.Test.YtggmeldoecnkaaaAv36
import Derived.Test.YtggmeldoecnkaaaAvI189
import Derived.Test.YtggmeldoecnkaaaAvI190
set_option linter.unusedVariables false
set_option linter.unusedSimpArgs false
namespace Go.Proofs.Ytggmeldoecnkaaa.Av
open Go.RowKit
set_option maxRecDepth 20000
set_option maxHeartbeats 4000000

/-- The place of the first that fits; -1: there is none. -/
def fiAt {α : Type} (p : α → Bool) (l : List α) : Int := match l.findIdx? p with
  | some i => (i : Int)
  | none => -1
/-- How many ahead of the first that does not fit. -/
def preN {α : Type} (p : α → Bool) (l : List α) : Nat := (l.takeWhile p).length
section
variable {α : Type} {p : α → Bool} {l : List α} {i : Int} {x : α}
theorem fi_yes (h0 : 0 ≤ i) (hx : l[i.toNat]? = some x) (h : p x = true) (hA : Upto (fun _ y => p y = false) (fun n => l[n]?) i) : fiAt p l = i := by
  have : l.findIdx? p = some i.toNat := by
    rw [List.findIdx?_eq_some_iff_getElem]
    obtain ⟨hl, he⟩ := List.getElem?_eq_some_iff.1 hx
    refine ⟨hl, by rw [he]; exact h, fun j hj => ?_⟩
    have := hA (j : Int) l[j] (by omega) (by omega) (by rw [Int.toNat_natCast]; exact List.getElem?_eq_getElem (by omega))
    simpa using this
  unfold fiAt
  rw [this]
  show ((i.toNat : Nat) : Int) = i
  omega
theorem fi_no (hA : Upto (fun _ y => p y = false) (fun n => l[n]?) i) (h : (l.length : Int) ≤ i) : fiAt p l = -1 := by
  have : l.findIdx? p = none := by
    rw [List.findIdx?_eq_none_iff]
    intro y hy
    exact mem_upto (P := fun y => p y = false) hA h y hy
  unfold fiAt
  rw [this]
theorem fi_bd (p : α → Bool) (l : List α) : -1 ≤ fiAt p l ∧ fiAt p l < (l.length : Int) := by
  unfold fiAt
  split
  · rename_i i h
    have := (List.findIdx?_eq_some_iff_getElem.1 h).1
    omega
  · omega
theorem fi_neg (h : ¬ 0 ≤ fiAt p l) : ∀ x, x ∈ l → p x = false := by
  unfold fiAt at h
  split at h
  · omega
  · rename_i hi
    exact List.findIdx?_eq_none_iff.1 hi
theorem pre_le : preN p l ≤ l.length := by
  unfold preN
  induction l with
  | nil => simp
  | cons y l ih => simp only [List.takeWhile_cons]; split <;> simp <;> omega
theorem pre_is (h0 : 0 ≤ i) (hi : i ≤ (l.length : Int)) (hA : Upto (fun _ y => p y = true) (fun n => l[n]?) i) (hst : ¬ i < (l.length : Int) ∨ ∃ y, l[i.toNat]? = some y ∧ p y = false) : preN p l = i.toNat := by
  unfold preN
  generalize hk : i.toNat = k at hst
  have hk' : i = (k : Int) := by omega
  subst hk'
  have hA' : ∀ j y, j < k → l[j]? = some y → p y = true := fun j y hj hy => hA (j : Int) y (by omega) (by omega) (by rw [Int.toNat_natCast]; exact hy)
  have hle : k ≤ l.length := by omega
  have hst' : k = l.length ∨ ∃ y, l[k]? = some y ∧ p y = false := hst.imp (fun h => by omega) id
  clear hA hst hi h0 hk
  induction l generalizing k with
  | nil => simp only [List.length_nil] at hle ⊢; simp; omega
  | cons z l ih =>
    cases k with
    | zero =>
      rcases hst' with h | ⟨y, h, hp⟩
      · simp at h
      · cases h
        simp [hp]
    | succ k =>
      have hz := hA' 0 z (by omega) rfl
      rw [List.takeWhile_cons, hz]
      simp only [if_true, List.length_cons]
      rw [ih k (fun j y hj hy => hA' (j + 1) y (by omega) (by simpa using hy)) (by simpa using hle) (by simpa using hst')]
theorem set_mod {f : α → α} {k : Nat} {y : α} (hx : l[k]? = some x) (h : y = f x) : l.set k y = l.modify k f := by
  subst h
  apply List.ext_getElem?
  intro j
  rw [List.getElem?_set, List.getElem?_modify]
  by_cases hj : k = j
  · subst hj
    rw [if_pos rfl, hx]
    have := (List.getElem?_eq_some_iff.1 hx).1
    simp [this]
  · rw [if_neg hj]
    simp [hj]
theorem set_eq {k : Nat} {y z : α} (h : (l.set k y)[k]? = some z) : z = y := by
  rw [List.getElem?_set, if_pos rfl] at h
  split at h
  · cases h; rfl
  · cases h
theorem up_of {q : Int → α → Prop} (h : ∀ j y, q j y → p y = true) (hA : Upto q (fun n => l[n]?) i) : Upto (fun _ y => p y = true) (fun n => l[n]?) i := fun j y h0 h1 hy => h j y (hA j y h0 h1 hy)
theorem up_nf {q : Int → α → Prop} (h : ∀ j y, q j y → p y = false) (hA : Upto q (fun n => l[n]?) i) : Upto (fun _ y => p y = false) (fun n => l[n]?) i := fun j y h0 h1 hy => h j y (hA j y h0 h1 hy)
theorem shf_gt {b : α} {L : List α} {G : α → Prop} (h0 : i > 0) (hk : i ≤ (l.length : Int)) (e : L.set i.toNat b = insAt l [b] i.toNat) (hgt : ∀ (j : Nat) (x : α), i.toNat ≤ j → l[j]? = some x → G x) (hx : L[(i - 1).toNat]? = some x) (hg : G x) : ∀ (j : Nat) (x : α), (i - 1).toNat ≤ j → l[j]? = some x → G x := by
  intro j y hj hy
  rw [← List.getElem?_set_ne (a := b) (show i.toNat ≠ (i - 1).toNat by omega), e, ins_lo (by omega) (by omega)] at hx
  by_cases q : j = (i - 1).toNat
  · subst q
    rw [hx] at hy
    cases hy
    exact hg
  · exact hgt j y (by omega) hy
theorem shf_next {b : α} {L : List α} (h0 : i > 0) (hk : i ≤ (l.length : Int)) (hL : L.length = l.length + 1) (e : L.set i.toNat b = insAt l [b] i.toNat) (hx : L[(i - 1).toNat]? = some x) : (L.set i.toNat x).set (i - 1).toNat b = insAt l [b] (i - 1).toNat := by
  have h := bub_next (L := L.set i.toNat b) (x := x) (y := b) h0 hk e (by rw [List.getElem?_set_ne (by omega)]; exact hx) (by rw [List.getElem?_set_self (by omega)])
  rw [← h, List.set_comm (l := L) b b (by omega), List.set_set]
  exact List.set_comm x b (by omega)
theorem shf_first {b c : α} : (l ++ [c]).set l.length b = insAt l [b] l.length := by
  unfold insAt
  rw [List.set_append_right _ _ (Nat.le_refl _)]
  simp
end
/-! ### accounts -/
def nmP (s : ByteArray) : S38 → Bool := fun a => a.f0.toList == s.toList
def acAt (l : List S38) (s : ByteArray) : Int := fiAt (nmP s) l
theorem nm_t {s : ByteArray} {a : S38} (h : a.f0.toList = s.toList) : nmP s a = true := by simp [nmP, h]
theorem nm_f {s : ByteArray} {a : S38} (h : a.f0.toList ≠ s.toList) : nmP s a = false := by simp [nmP, h]
theorem acAt_yes {l : List S38} {s : ByteArray} {i : Int} {x : S38} (h0 : 0 ≤ i) (hx : l[i.toNat]? = some x) (h : x.f0.toList = s.toList) (hA : Upto (fun _ (y : S38) => y.f0.toList ≠ s.toList) (fun n => l[n]?) i) : i = acAt l s := (fi_yes (p := nmP s) h0 hx (nm_t h) (up_nf (fun _ _ => nm_f) hA)).symm
theorem acAt_no {l : List S38} {s : ByteArray} {i : Int} (hA : Upto (fun _ (y : S38) => y.f0.toList ≠ s.toList) (fun n => l[n]?) i) (h : (l.length : Int) ≤ i) : -1 = acAt l s := (fi_no (p := nmP s) (up_nf (fun _ _ => nm_f) hA) h).symm
def lvP (t : Int) : S188 → Bool := fun x => x.f1 == t
def lvW (l : List S188) (n t : Int) : List S188 := if 0 ≤ fiAt (lvP t) l then l.modify (fiAt (lvP t) l).toNat (fun x => ⟨wr .i64 (x.f0 + n), x.f1⟩) else insAt l [⟨n, t⟩] (preN (fun x => decide (x.f1 < t)) l)
theorem lv_yes {l : List S188} {n t i : Int} {x : S188} (h0 : 0 ≤ i) (hx : l[i.toNat]? = some x) (h : x.f1 = t) (hA : Upto (fun _ (y : S188) => y.f1 ≠ t) (fun n => l[n]?) i) : l.set i.toNat ⟨wr .i64 (x.f0 + n), x.f1⟩ = lvW l n t := by
  have e : fiAt (lvP t) l = i := fi_yes h0 hx (by simp [lvP, h]) (up_nf (fun _ y hy => by simpa [lvP] using hy) hA)
  unfold lvW
  rw [e, if_pos h0]
  exact set_mod (f := fun x : S188 => (⟨wr .i64 (x.f0 + n), x.f1⟩ : S188)) hx rfl
theorem lv_no {l : List S188} {n t i k : Int} (hA : Upto (fun _ (y : S188) => y.f1 ≠ t) (fun n => l[n]?) i) (hi : (l.length : Int) ≤ i) (h0 : 0 ≤ k) (hk : k ≤ (l.length : Int)) (hB : Upto (fun _ (y : S188) => y.f1 < t) (fun n => l[n]?) k) (hst : ¬ k < (l.length : Int) ∨ ∃ y, l[k.toNat]? = some y ∧ ¬ y.f1 < t) : insAt l [⟨n, t⟩] k.toNat = lvW l n t := by
  have e : fiAt (lvP t) l = -1 := fi_no (up_nf (fun _ y hy => by simpa [lvP] using hy) hA) hi
  unfold lvW
  rw [e, if_neg (by omega), pre_is (p := fun x : S188 => decide (x.f1 < t)) h0 hk (up_of (fun _ y hy => by simpa using hy) hB) (hst.imp id fun ⟨y, h1, h2⟩ => ⟨y, h1, by simpa using h2⟩)]
theorem lvW_len (l : List S188) (n t : Int) : (lvW l n t).length ≤ l.length + 1 := by
  unfold lvW
  split
  · simp
  · exact Nat.le_of_eq (ins_len pre_le)
  
def lessN (s : ByteArray) : S38 → Bool := fun a => Op.bytesLess a.f0.toList s.toList
def credW (l : List S38) (s : ByteArray) (n : Int) : List S38 := if 0 ≤ acAt l s then l.modify (acAt l s).toNat (fun a => ⟨a.f0, wr .i64 (a.f1 + n), a.f2, a.f3, a.f4⟩) else insAt l [⟨s, n, 0, 0, []⟩] (preN (lessN s) l)
theorem cred_yes {l : List S38} {s : ByteArray} {n : Int} {x : S38} (h : 0 ≤ acAt l s) (hx : l[(acAt l s).toNat]? = some x) : l.set (acAt l s).toNat ⟨x.f0, wr .i64 (x.f1 + n), x.f2, x.f3, x.f4⟩ = credW l s n := by
  unfold credW
  rw [if_pos h]
  exact set_mod (f := fun a : S38 => (⟨a.f0, wr .i64 (a.f1 + n), a.f2, a.f3, a.f4⟩ : S38)) hx rfl
theorem cred_no {l : List S38} {s : ByteArray} {n i : Int} (h : ¬ 0 ≤ acAt l s) (h0 : 0 ≤ i) (hi : i ≤ (l.length : Int)) (hA : Upto (fun _ (y : S38) => Op.bytesLess y.f0.toList s.toList = true) (fun n => l[n]?) i) (hst : ¬ i < (l.length : Int) ∨ ∃ y, l[i.toNat]? = some y ∧ Op.bytesLess y.f0.toList s.toList = false) : insAt l [⟨s, n, 0, 0, []⟩] i.toNat = credW l s n := by
  unfold credW
  rw [if_neg h, pre_is (p := lessN s) h0 hi hA hst]
theorem cred_len (l : List S38) (s : ByteArray) (n : Int) : (credW l s n).length ≤ l.length + 1 := by
  unfold credW
  split
  · simp
  · exact Nat.le_of_eq (ins_len pre_le)
def doW (g : S27) (k : Nat) (t : S35) : S27 :=
  if t.f0 = 1 then ⟨g.f0, credW (g.f1.modify k fun a => ⟨a.f0, wr .i64 (a.f1 - t.f3), wr .i64 (a.f2 + 1), a.f3, a.f4⟩) t.f2 t.f3⟩
  else if t.f0 = 2 then ⟨g.f0, g.f1.modify k fun a => ⟨a.f0, wr .i64 (a.f1 - t.f3), wr .i64 (a.f2 + 1), wr .i64 (a.f3 + t.f3), a.f4⟩⟩
  else if t.f0 = 3 then ⟨g.f0, g.f1.modify k fun a => ⟨a.f0, a.f1, wr .i64 (a.f2 + 1), wr .i64 (a.f3 - t.f3), lvW a.f4 t.f3 (wr .i64 (g.f0 + 2))⟩⟩
  else ⟨g.f0, g.f1.modify k fun a => ⟨a.f0, a.f1, wr .i64 (a.f2 + 1), a.f3, a.f4⟩⟩
def hasW (a : S38) (kind : Int) : Int := if kind = 3 then a.f3 else a.f1
/-- What an order makes of a ledger, and the code that tells how. -/
noncomputable def apW (g : S27) (t : S35) : S27 × Int := if ledgerOk g = false ∨ txOk t = false then (g, 1) else if acAt g.f1 t.f1 < 0 then (g, 2) else match g.f1[(acAt g.f1 t.f1).toNat]? with
  | none => (g, 2)
  | some a => if t.f4 ≠ a.f2 then (g, 3) else if hasW a t.f0 < t.f3 then (g, 4) else if ledgerOk (doW g (acAt g.f1 t.f1).toNat t) = false then (g, 5) else (doW g (acAt g.f1 t.f1).toNat t, 0)
section
variable {g : S27} {k : Nat} {t : S35} {x : S38}
theorem do_pay (hx : g.f1[k]? = some x) (h1 : t.f0 = 1) : (⟨g.f0, credW (g.f1.set k ⟨x.f0, wr .i64 (x.f1 - t.f3), wr .i64 (x.f2 + 1), x.f3, x.f4⟩) t.f2 t.f3⟩ : S27) = doW g k t := by
  unfold doW
  rw [if_pos h1, ← set_mod (f := fun a : S38 => (⟨a.f0, wr .i64 (a.f1 - t.f3), wr .i64 (a.f2 + 1), a.f3, a.f4⟩ : S38)) hx rfl]
theorem do_bond (hx : g.f1[k]? = some x) (h1 : t.f0 = 2) : (⟨g.f0, g.f1.set k ⟨x.f0, wr .i64 (x.f1 - t.f3), wr .i64 (x.f2 + 1), wr .i64 (x.f3 + t.f3), x.f4⟩⟩ : S27) = doW g k t := by
  unfold doW
  rw [if_neg (by omega), if_pos h1, ← set_mod (f := fun a : S38 => (⟨a.f0, wr .i64 (a.f1 - t.f3), wr .i64 (a.f2 + 1), wr .i64 (a.f3 + t.f3), a.f4⟩ : S38)) hx rfl]
theorem do_unb (hx : g.f1[k]? = some x) (h1 : t.f0 = 3) : (⟨g.f0, (g.f1.set k ⟨x.f0, x.f1, wr .i64 (x.f2 + 1), wr .i64 (x.f3 - t.f3), x.f4⟩).modify k (fun a => ⟨a.f0, a.f1, a.f2, a.f3, lvW a.f4 t.f3 (wr .i64 (g.f0 + 2))⟩)⟩ : S27) = doW g k t := by
  unfold doW
  rw [if_neg (by omega), if_neg (by omega), if_pos h1, ← set_mod (f := fun a : S38 => (⟨a.f0, a.f1, wr .i64 (a.f2 + 1), wr .i64 (a.f3 - t.f3), lvW a.f4 t.f3 (wr .i64 (g.f0 + 2))⟩ : S38)) hx rfl]
  have hl := (List.getElem?_eq_some_iff.1 hx).1
  rw [← set_mod (l := g.f1.set k ⟨x.f0, x.f1, wr .i64 (x.f2 + 1), wr .i64 (x.f3 - t.f3), x.f4⟩) (x := ⟨x.f0, x.f1, wr .i64 (x.f2 + 1), wr .i64 (x.f3 - t.f3), x.f4⟩) (f := fun a : S38 => (⟨a.f0, a.f1, a.f2, a.f3, lvW a.f4 t.f3 (wr .i64 (g.f0 + 2))⟩ : S38)) (by rw [List.getElem?_set, if_pos rfl, if_pos hl]) rfl, List.set_set]
theorem do_none (hx : g.f1[k]? = some x) (h1 : t.f0 ≠ 1) (h2 : t.f0 ≠ 2) (h3 : t.f0 ≠ 3) : (⟨g.f0, g.f1.set k ⟨x.f0, x.f1, wr .i64 (x.f2 + 1), x.f3, x.f4⟩⟩ : S27) = doW g k t := by
  unfold doW
  rw [if_neg h1, if_neg h2, if_neg h3, ← set_mod (f := fun a : S38 => (⟨a.f0, a.f1, wr .i64 (a.f2 + 1), a.f3, a.f4⟩ : S38)) hx rfl]
end
section
variable {g : S27} {t : S35} {a : S38}
theorem ap_form (h : ledgerOk g = false ∨ txOk t = false) : g = (apW g t).1 ∧ 1 = (apW g t).2 := by unfold apW; rw [if_pos h]; exact ⟨rfl, rfl⟩
theorem ap_none (h1 : ledgerOk g = true) (h2 : txOk t = true) (h : acAt g.f1 t.f1 < 0) : g = (apW g t).1 ∧ 2 = (apW g t).2 := by unfold apW; rw [if_neg (by simp [h1, h2]), if_pos h]; exact ⟨rfl, rfl⟩
theorem ap_nonce (h1 : ledgerOk g = true) (h2 : txOk t = true) (h : ¬ acAt g.f1 t.f1 < 0) (hx : g.f1[(acAt g.f1 t.f1).toNat]? = some a) (h3 : t.f4 ≠ a.f2) : g = (apW g t).1 ∧ 3 = (apW g t).2 := by
  unfold apW; rw [if_neg (by simp [h1, h2]), if_neg h, hx]; simp only; rw [if_pos h3]; exact ⟨rfl, rfl⟩
theorem ap_short (h1 : ledgerOk g = true) (h2 : txOk t = true) (h : ¬ acAt g.f1 t.f1 < 0) (hx : g.f1[(acAt g.f1 t.f1).toNat]? = some a) (h3 : t.f4 = a.f2) (h4 : hasW a t.f0 < t.f3) : g = (apW g t).1 ∧ 4 = (apW g t).2 := by
  unfold apW; rw [if_neg (by simp [h1, h2]), if_neg h, hx]; simp only; rw [if_neg (by simp [h3]), if_pos h4]; exact ⟨rfl, rfl⟩
theorem ap_full (h1 : ledgerOk g = true) (h2 : txOk t = true) (h : ¬ acAt g.f1 t.f1 < 0) (hx : g.f1[(acAt g.f1 t.f1).toNat]? = some a) (h3 : t.f4 = a.f2) (h4 : ¬ hasW a t.f0 < t.f3) (h5 : ledgerOk (doW g (acAt g.f1 t.f1).toNat t) = false) : g = (apW g t).1 ∧ 5 = (apW g t).2 := by
  unfold apW; rw [if_neg (by simp [h1, h2]), if_neg h, hx]; simp only; rw [if_neg (by simp [h3]), if_neg h4, if_pos h5]; exact ⟨rfl, rfl⟩
theorem ap_good (h1 : ledgerOk g = true) (h2 : txOk t = true) (h : ¬ acAt g.f1 t.f1 < 0) (hx : g.f1[(acAt g.f1 t.f1).toNat]? = some a) (h3 : t.f4 = a.f2) (h4 : ¬ hasW a t.f0 < t.f3) (h5 : ledgerOk (doW g (acAt g.f1 t.f1).toNat t) = true) : doW g (acAt g.f1 t.f1).toNat t = (apW g t).1 ∧ 0 = (apW g t).2 := by
  unfold apW; rw [if_neg (by simp [h1, h2]), if_neg h, hx]; simp only; rw [if_neg (by simp [h3]), if_neg h4, if_neg (by simp [h5])]; exact ⟨rfl, rfl⟩
end
theorem lg_accts {g : S27} (h : ledgerOk g = true) : acctsP g.f1 := by
  unfold ledgerOk at h
  simp only [Bool.and_eq_true] at h
  have h2 := h.2
  unfold acctsOk at h2
  simpa using h2
theorem lg_acct {g : S27} (h : ledgerOk g = true) {i : Nat} {a : S38} (hx : g.f1[i]? = some a) : acctP a := by
  have h1 := (lg_accts h).1 (i : Int) a (by omega) (by have := (List.getElem?_eq_some_iff.1 hx).1; omega) (by rw [Int.toNat_natCast]; exact hx)
  have h2 := h1.1
  unfold acctOk at h2
  simpa using h2
theorem mod_all {α : Type} {p : α → Prop} {l : List α} {k : Nat} {f : α → α} (h : ∀ x, x ∈ l → p x) (hf : ∀ x, p x → p (f x)) : ∀ x, x ∈ l.modify k f → p x := fun x hx => by
  obtain ⟨j, hj⟩ := List.mem_iff_getElem?.1 hx
  rw [List.getElem?_modify] at hj
  cases hl : l[j]? with
  | none => simp [hl] at hj
  | some y =>
    rw [hl] at hj
    simp only [Option.map_eq_map, Option.map_some, Option.some.injEq] at hj
    have := h y (List.mem_of_getElem? hl)
    subst hj
    split
    · exact hf y this
    · exact this
/-- An account's name is short, its leavings few. -/
def acS4 (a : S38) : Prop := SmS a.f0 ∧ a.f4.length ≤ 5
theorem acs_do {g : S27} {k : Nat} {t : S35} (h : ledgerOk g = true) (hs : acsSm g.f1) (ht : Sm35 t) : (doW g k t).f1.length ≤ 13 ∧ ∀ x, x ∈ (doW g k t).f1 → acS4 x := by
  have hl : g.f1.length ≤ 12 := by have := (lg_accts h).2.1; omega
  have h4 : ∀ x, x ∈ g.f1 → SmS x.f0 ∧ x.f4.length ≤ 4 := fun x hx => by
    obtain ⟨j, hj⟩ := List.mem_iff_getElem?.1 hx
    have := (lg_acct h hj).2.2.2.2.2
    exact ⟨(hs.2 x hx).1, by omega⟩
  have h5 : ∀ x, x ∈ g.f1 → acS4 x := fun x hx => ⟨(h4 x hx).1, by have := (h4 x hx).2; omega⟩
  unfold doW
  split
  · refine ⟨?_, fun x hx => ?_⟩
    · have := cred_len (g.f1.modify k fun a => ⟨a.f0, wr .i64 (a.f1 - t.f3), wr .i64 (a.f2 + 1), a.f3, a.f4⟩) t.f2 t.f3
      rw [List.length_modify] at this
      simp only; omega
    · have h6 : ∀ x, x ∈ (g.f1.modify k fun a => ⟨a.f0, wr .i64 (a.f1 - t.f3), wr .i64 (a.f2 + 1), a.f3, a.f4⟩) → acS4 x := mod_all h5 fun x hx => hx
      simp only at hx
      unfold credW at hx
      split at hx
      · refine mod_all h6 ?_ x hx
        exact fun y hy => hy
      · rcases ins_mem hx with hx | hx
        · exact h6 x hx
        · subst hx
          exact ⟨ht.2, by simp⟩
  · split
    · exact ⟨by rw [List.length_modify]; omega, mod_all h5 fun x hx => hx⟩
    · split
      · refine ⟨by rw [List.length_modify]; omega, fun x hx => ?_⟩
        obtain ⟨j, hj⟩ := List.mem_iff_getElem?.1 hx
        simp only [List.getElem?_modify] at hj
        cases hl : g.f1[j]? with
        | none => simp [hl] at hj
        | some y =>
          rw [hl] at hj
          simp only [Option.map_eq_map, Option.map_some, Option.some.injEq] at hj
          have := h4 y (List.mem_of_getElem? hl)
          subst hj
          split
          · exact ⟨this.1, Nat.le_trans (lvW_len _ _ _) (by omega)⟩
          · exact ⟨this.1, by omega⟩
      · exact ⟨by rw [List.length_modify]; omega, mod_all h5 fun x hx => hx⟩
theorem acs_do' {g : S27} {k : Nat} {t : S35} (h : ledgerOk g = true) (hs : acsSm g.f1) (ht : Sm35 t) : acsSm (doW g k t).f1 := by
  obtain ⟨h1, h2⟩ := acs_do (k := k) h hs ht
  exact ⟨by omega, fun x hx => ⟨(h2 x hx).1, by have := (h2 x hx).2; omega⟩⟩
theorem ap_cases (g : S27) (t : S35) : (apW g t).1 = g ∧ (apW g t).2 ≠ 0 ∨ (apW g t).2 = 0 ∧ ledgerOk g = true ∧ txOk t = true ∧ ledgerOk (apW g t).1 = true ∧ 0 ≤ acAt g.f1 t.f1 ∧ (apW g t).1 = doW g (acAt g.f1 t.f1).toNat t := by
  unfold apW
  split
  · left; simp
  · rename_i h
    simp only [not_or, Bool.not_eq_false] at h
    split
    · left; simp
    · rename_i h2
      split
      · left; simp
      · split
        · left; simp
        · split
          · left; simp
          · split
            · left; simp
            · rename_i h3
              right
              exact ⟨rfl, h.1, h.2, by simpa using h3, by omega, rfl⟩
theorem ap_sm {g : S27} {t : S35} (hs : acsSm g.f1) (ht : Sm35 t) : acsSm (apW g t).1.f1 := by
  rcases ap_cases g t with ⟨h, _⟩ | ⟨_, h1, _, _, _, h⟩
  · rw [h]; exact hs
  · rw [h]; exact acs_do' h1 hs ht
/-! ### the reference's way -/
def srtA (l : List S38) : Prop := ∀ (i j : Nat) (x y : S38), i < j → l[i]? = some x → l[j]? = some y → Op.bytesLess x.f0.toList y.f0.toList = true
def srtL (l : List S188) : Prop := ∀ (i j : Nat) (x y : S188), i < j → l[i]? = some x → l[j]? = some y → x.f1 < y.f1
theorem adj_all {α : Type} {l : List α} {R : α → α → Prop} (ht : ∀ x y z, R x y → R y z → R x z) (h : ∀ (i : Nat) (x y : α), l[i]? = some x → l[i + 1]? = some y → R x y) : ∀ (d i : Nat) (x y : α), l[i]? = some x → l[i + d + 1]? = some y → R x y
  | 0, i, x, y, hx, hy => h i x y hx hy
  | d + 1, i, x, y, hx, hy => by
    have hl := (List.getElem?_eq_some_iff.1 hy).1
    have hz : l[i + d + 1]? = some l[i + d + 1] := List.getElem?_eq_getElem (by omega)
    exact ht _ _ _ (adj_all ht h d i x _ hx hz) (h (i + d + 1) _ y hz hy)
theorem lg_srt {g : S27} (h : ledgerOk g = true) : srtA g.f1 := fun i j x y hij hx hy => by
  have hA := (lg_accts h).1
  refine adj_all (R := fun x y : S38 => Op.bytesLess x.f0.toList y.f0.toList = true) (fun _ _ _ => bl_trans _ _ _) (fun i x y hx hy => ?_) (j - i - 1) i x y hx (by rw [show i + (j - i - 1) + 1 = j by omega]; exact hy)
  have hl := (List.getElem?_eq_some_iff.1 hy).1
  exact (hA ((i + 1 : Nat) : Int) y (by omega) (by omega) (by rw [Int.toNat_natCast]; exact hy)).2 x (by omega) (by rw [show (((i + 1 : Nat) : Int) - 1).toNat = i by omega]; exact hx)
theorem ac_srt {a : S38} (h : acctP a) : srtL a.f4 := fun i j x y hij hx hy => by
  have hA := h.1
  refine adj_all (R := fun x y : S188 => x.f1 < y.f1) (fun _ _ _ h1 h2 => Int.lt_trans h1 h2) (fun i x y hx hy => ?_) (j - i - 1) i x y hx (by rw [show i + (j - i - 1) + 1 = j by omega]; exact hy)
  have hl := (List.getElem?_eq_some_iff.1 hy).1
  exact (hA ((i + 1 : Nat) : Int) y (by omega) (by omega) (by rw [Int.toNat_natCast]; exact hy)).2.2 x (by omega) (by rw [show (((i + 1 : Nat) : Int) - 1).toNat = i by omega]; exact hx)
theorem srt_set {l : List S38} {k : Nat} {x y : S38} (h : srtA l) (hx : l[k]? = some x) (e : y.f0 = x.f0) : srtA (l.set k y) := fun i j a b hij ha hb => by
  have f : ∀ (i : Nat) (a : S38), (l.set k y)[i]? = some a → ∃ a', l[i]? = some a' ∧ a.f0 = a'.f0 := fun i a ha => by
    rw [List.getElem?_set] at ha
    split at ha
    · rename_i hk
      subst hk
      split at ha
      · cases ha; exact ⟨x, hx, e⟩
      · cases ha
    · exact ⟨a, ha, rfl⟩
  obtain ⟨a', h1, h2⟩ := f i a ha
  obtain ⟨b', h3, h4⟩ := f j b hb
  rw [h2, h4]
  exact h i j a' b' hij h1 h3
/-- What leaves, put among what leaves: one by one. -/
def lvG (n t : Int) : List S188 → List S188
  | [] => [⟨n, t⟩]
  | x :: l => if x.f1 < t then x :: lvG n t l else if x.f1 = t then ⟨wr .i64 (x.f0 + n), x.f1⟩ :: l else ⟨n, t⟩ :: x :: l
theorem lvG_eq {n t : Int} : ∀ {l : List S188}, srtL l → lvG n t l = lvW l n t
  | [], _ => rfl
  | x :: l, h => by
    have hl : srtL l := fun i j a b hij ha hb => h (i + 1) (j + 1) a b (by omega) (by simpa using ha) (by simpa using hb)
    have hx : ∀ y, y ∈ l → x.f1 < y.f1 := fun y hy => by
      obtain ⟨j, hj⟩ := List.mem_iff_getElem?.1 hy
      exact h 0 (j + 1) x y (by omega) rfl (by simpa using hj)
    have ih := lvG_eq (n := n) (t := t) hl
    unfold lvG
    by_cases h1 : x.f1 < t
    · rw [if_pos h1, ih]
      unfold lvW
      have e1 : fiAt (lvP t) (x :: l) = if 0 ≤ fiAt (lvP t) l then fiAt (lvP t) l + 1 else -1 := by
        unfold fiAt
        rw [List.findIdx?_cons]
        rw [show lvP t x = false by simp [lvP]; omega]
        cases l.findIdx? (lvP t) with
        | none => simp
        | some i => simp
      by_cases h2 : 0 ≤ fiAt (lvP t) l
      · rw [if_pos h2, e1, if_pos h2, if_pos (by omega), show (fiAt (lvP t) l + 1).toNat = (fiAt (lvP t) l).toNat + 1 by omega, List.modify_cons]
        rfl
      · rw [if_neg h2, e1, if_neg h2, if_neg (by omega)]
        unfold preN
        rw [List.takeWhile_cons, show decide (x.f1 < t) = true by simpa using h1]
        simp [insAt]
    · rw [if_neg h1]
      by_cases h2 : x.f1 = t
      · rw [if_pos h2]
        unfold lvW
        have e1 : fiAt (lvP t) (x :: l) = 0 := by
          unfold fiAt
          rw [List.findIdx?_cons, show lvP t x = true by simp [lvP, h2]]
          rfl
        rw [e1, if_pos (by omega)]
        rfl
      · rw [if_neg h2]
        unfold lvW
        have e1 : fiAt (lvP t) (x :: l) = -1 := fi_no (i := ((x :: l).length : Int)) (fun j y h0 h1' hy => by
          rcases List.mem_cons.1 (List.mem_of_getElem? hy) with rfl | hy
          · simp [lvP, h2]
          · have := hx y hy; simp [lvP]; omega) (Int.le_refl _)
        rw [e1, if_neg (by omega)]
        unfold preN
        rw [List.takeWhile_cons, show decide (x.f1 < t) = false by simpa using h1]
        simp [insAt]
section
variable {l : List S188} {n t i : Int} {x : S188} {L : List S188}
def lvI (l : List S188) (n t : Int) (L : List S188) (p : Bool) (i : Int) : Prop := if p = true then L ++ l.drop i.toNat = lvG n t l else L = l.take i.toNat ∧ lvG n t l = l.take i.toNat ++ lvG n t (l.drop i.toNat)
theorem drop_at (h0 : 0 ≤ i) (hx : l[i.toNat]? = some x) : l.drop i.toNat = x :: l.drop (i + 1).toNat := by
  obtain ⟨hl, e⟩ := List.getElem?_eq_some_iff.1 hx
  rw [List.drop_eq_getElem_cons hl, e, show (i + 1).toNat = i.toNat + 1 by omega]
theorem lv_i0 : lvI l n t [] false 0 := by unfold lvI; simp
theorem lv_put (h0 : 0 ≤ i) (hx : l[i.toNat]? = some x) (h : lvI l n t L true i) : lvI l n t (L ++ [x]) true (i + 1) := by
  unfold lvI at h ⊢
  rw [if_pos rfl] at h ⊢
  rw [← h, drop_at h0 hx, List.append_assoc]
  rfl
theorem lv_eq (h0 : 0 ≤ i) (hx : l[i.toNat]? = some x) (h : lvI l n t L false i) (he : x.f1 = t) : lvI l n t (L ++ [⟨wr .i64 (x.f0 + n), x.f1⟩]) true (i + 1) := by
  unfold lvI at h ⊢
  rw [if_neg (by simp)] at h
  rw [if_pos rfl, h.2, drop_at h0 hx, h.1]
  unfold lvG
  rw [if_neg (by omega), if_pos he, List.append_assoc]
  rfl
theorem lv_gt (h0 : 0 ≤ i) (hx : l[i.toNat]? = some x) (h : lvI l n t L false i) (he : x.f1 > t) : lvI l n t (L ++ [⟨n, t⟩] ++ [x]) true (i + 1) := by
  unfold lvI at h ⊢
  rw [if_neg (by simp)] at h
  rw [if_pos rfl, h.2, drop_at h0 hx, h.1]
  unfold lvG
  rw [if_neg (by omega), if_neg (by omega), List.append_assoc, List.append_assoc]
  rfl
theorem lv_lt (h0 : 0 ≤ i) (hx : l[i.toNat]? = some x) (h : lvI l n t L false i) (h1 : x.f1 ≠ t) (h2 : ¬ x.f1 > t) : lvI l n t (L ++ [x]) false (i + 1) := by
  unfold lvI at h ⊢
  rw [if_neg (by simp)] at h ⊢
  have e := drop_at h0 hx
  refine ⟨by rw [h.1]; exact take_succ h0 hx, ?_⟩
  rw [h.2, e, ← take_succ h0 hx]
  conv => lhs; unfold lvG
  rw [if_pos (by omega), List.append_assoc]
  rfl
theorem lv_e1 (h : lvI l n t L false i) (hi : (l.length : Int) ≤ i) : L ++ [⟨n, t⟩] = lvG n t l := by
  unfold lvI at h
  rw [if_neg (by simp)] at h
  rw [h.2, h.1, List.drop_eq_nil_of_le (by omega)]
  rfl
theorem lv_e2 (h : lvI l n t L true i) (hi : (l.length : Int) ≤ i) : L = lvG n t l := by
  unfold lvI at h
  rw [if_pos rfl, List.drop_eq_nil_of_le (by omega), List.append_nil] at h
  exact h
end
section
variable {l : List S188} {n t i : Int} {x : S188} {L : List S188} {p : Bool}
def lvJ (l : List S188) (n t : Int) (L : List S188) (p : Bool) (i : Int) : Prop := lvI l n t L p i ∧ L.length ≤ i.toNat + 1
theorem lv_len (h0 : 0 ≤ i) (h : lvI l n t L false i) : L.length ≤ i.toNat := by
  unfold lvI at h
  rw [if_neg (by simp)] at h
  rw [h.1, List.length_take]
  omega
theorem lvj_put (h0 : 0 ≤ i) (hx : l[i.toNat]? = some x) (hp : p = true) (h : lvJ l n t L p i) : lvJ l n t (L ++ [x]) p (i + 1) := by
  subst hp
  exact ⟨lv_put h0 hx h.1, by have := h.2; simp; omega⟩
theorem lvj_eq (h0 : 0 ≤ i) (hx : l[i.toNat]? = some x) (hp : p = false) (h : lvJ l n t L p i) (he : x.f1 = t) : lvJ l n t (L ++ [⟨wr .i64 (x.f0 + n), x.f1⟩]) true (i + 1) := by
  subst hp
  exact ⟨lv_eq h0 hx h.1 he, by have := h.2; simp; omega⟩
theorem lvj_gt (h0 : 0 ≤ i) (hx : l[i.toNat]? = some x) (hp : p = false) (h : lvJ l n t L p i) (he : x.f1 > t) : lvJ l n t (L ++ [⟨n, t⟩] ++ [x]) true (i + 1) := by
  subst hp
  exact ⟨lv_gt h0 hx h.1 he, by have := lv_len h0 h.1; simp; omega⟩
theorem lvj_lt (h0 : 0 ≤ i) (hx : l[i.toNat]? = some x) (hp : p = false) (h : lvJ l n t L p i) (h1 : x.f1 ≠ t) (h2 : ¬ x.f1 > t) : lvJ l n t (L ++ [x]) p (i + 1) := by
  subst hp
  exact ⟨lv_lt h0 hx h.1 h1 h2, by have := h.2; simp; omega⟩
theorem lvj_e1 (h : lvJ l n t L p i) (hp : p = false) (hi : (l.length : Int) ≤ i) : L ++ [⟨n, t⟩] = lvG n t l := by subst hp; exact lv_e1 h.1 hi
theorem lvj_e2 (h : lvJ l n t L p i) (hp : p = true) (hi : (l.length : Int) ≤ i) : L = lvG n t l := by subst hp; exact lv_e2 h.1 hi
end
/-- Accounts with one of a name. -/
def ac0 (s : ByteArray) : S38 := ⟨s, 0, 0, 0, []⟩
def withW (l : List S38) (s : ByteArray) : List S38 := if 0 ≤ acAt l s then l else insAt l [ac0 s] (preN (lessN s) l)
theorem with_yes {l : List S38} {s : ByteArray} (h : 0 ≤ acAt l s) : l = withW l s := by unfold withW; rw [if_pos h]
theorem with_end {l L : List S38} {s : ByteArray} {k : Int} (hs : srtA l) (h : ¬ 0 ≤ acAt l s) (h0 : 0 ≤ k) (hk : k ≤ (l.length : Int)) (e : L.set k.toNat (ac0 s) = insAt l [ac0 s] k.toNat) (hgt : ∀ (j : Nat) (x : S38), k.toNat ≤ j → l[j]? = some x → Op.bytesLess s.toList x.f0.toList = true)
    (hst : ¬ k > 0 ∨ ∃ x, L[(k - 1).toNat]? = some x ∧ Op.bytesLess s.toList x.f0.toList = false) : L.set k.toNat (ac0 s) = withW l s := by
  have hn := fi_neg (p := nmP s) h
  have hlo : ∀ (j : Nat) (x : S38), j < k.toNat → l[j]? = some x → lessN s x = true := fun j x hj hx => by
    rcases hst with hst | ⟨y, hy, hle⟩
    · omega
    · rw [← List.getElem?_set_ne (a := ac0 s) (show k.toNat ≠ (k - 1).toNat by omega), e, ins_lo (by omega) (by omega)] at hy
      have hne : y.f0.toList ≠ s.toList := by have := hn y (List.mem_of_getElem? hy); simpa [nmP] using this
      have hyl : Op.bytesLess y.f0.toList s.toList = true := by
        have ht := less_total y.f0.toList s.toList
        rw [hle] at ht
        have hb : (y.f0.toList == s.toList) = false := by simpa using hne
        rw [hb, Bool.or_false] at ht
        simpa using ht
      by_cases hjk : j = (k - 1).toNat
      · subst hjk
        rw [hx] at hy
        cases hy
        exact hyl
      · exact bl_trans _ _ _ (hs j (k - 1).toNat x y (by omega) hx hy) hyl
  have hp : preN (lessN s) l = k.toNat := pre_is h0 hk (fun j x h1 h2 hx => hlo j.toNat x (by omega) hx) (by
    rcases Int.lt_or_le k l.length with h1 | h1
    · right
      have hx := List.getElem?_eq_getElem (show k.toNat < l.length by omega)
      refine ⟨_, hx, ?_⟩
      have := hgt k.toNat _ (Nat.le_refl _) hx
      have ht := less_total l[k.toNat].f0.toList s.toList
      rw [this] at ht
      simp only [Bool.not_true, Bool.or_eq_false_iff] at ht
      exact ht.1
    · left; omega)
  rw [e]
  unfold withW
  rw [if_neg h, hp]
theorem ins_set {α : Type} {l : List α} {a b : α} {k : Nat} (hk : k ≤ l.length) : (insAt l [a] k).set k b = insAt l [b] k := by
  unfold insAt
  rw [List.append_assoc, List.append_assoc, List.set_append_right _ _ (by rw [List.length_take]; omega), List.length_take, Nat.min_eq_left hk, Nat.sub_self]
  rfl
theorem acAt_ins {l : List S38} {s : ByteArray} {a : S38} {k : Nat} (h : ¬ 0 ≤ acAt l s) (ha : a.f0 = s) (hk : k ≤ l.length) : acAt (insAt l [a] k) s = k := by
  have hn := fi_neg (p := nmP s) h
  refine fi_yes (i := (k : Int)) (x := a) (by omega) (by rw [Int.toNat_natCast]; exact ins_k hk) (by simp [nmP, ha]) fun j y h0 h1 hy => ?_
  have hy : (insAt l [a] k)[j.toNat]? = some y := hy
  rw [ins_lo hk (by omega)] at hy
  exact hn y (List.mem_of_getElem? hy)
theorem acAt_with (l : List S38) (s : ByteArray) : 0 ≤ acAt (withW l s) s ∧ acAt (withW l s) s < ((withW l s).length : Int) := by
  have := fi_bd (nmP s) (withW l s)
  refine ⟨?_, this.2⟩
  unfold withW
  split
  · assumption
  · rename_i h
    rw [acAt_ins h rfl pre_le]
    omega
theorem with_cred {l : List S38} {s : ByteArray} {n : Int} {x : S38} (hx : (withW l s)[(acAt (withW l s) s).toNat]? = some x) (hn : wr .i64 (0 + n) = n) : (withW l s).set (acAt (withW l s) s).toNat ⟨x.f0, wr .i64 (x.f1 + n), x.f2, x.f3, x.f4⟩ = credW l s n := by
  by_cases h : 0 ≤ acAt l s
  · rw [← with_yes h] at hx ⊢
    exact cred_yes h hx
  · have e : withW l s = insAt l [ac0 s] (preN (lessN s) l) := by unfold withW; rw [if_neg h]
    rw [e] at hx ⊢
    rw [acAt_ins h rfl pre_le] at hx ⊢
    rw [Int.toNat_natCast] at hx ⊢
    rw [ins_k pre_le] at hx
    cases hx
    rw [ins_set pre_le]
    unfold credW
    rw [if_neg h]
    show insAt l [(⟨s, wr .i64 (0 + n), 0, 0, []⟩ : S38)] _ = _
    rw [hn]
theorem with_len (l : List S38) (s : ByteArray) : (withW l s).length ≤ l.length + 1 := by
  unfold withW
  split
  · omega
  · exact Nat.le_of_eq (ins_len pre_le)
theorem tx_amt {t : S35} (h : txOk t = true) : 1 ≤ t.f3 ∧ t.f3 ≤ 1000000 := by
  unfold txOk at h
  simp only [Bool.and_eq_true] at h
  exact inR_yes h.2.2.1
theorem tx_wr {t : S35} (h : txOk t = true) : wr .i64 (0 + t.f3) = t.f3 := by
  have := tx_amt h
  exact (congrArg wrap64 (Int.zero_add _)).trans (w64 (by omega) (by omega))
section
variable {g : S27} {k : Nat} {t : S35} {x y : S38}
theorem do_pay2 (h : txOk t = true) (hx : g.f1[k]? = some x) (h1 : t.f0 = 1) (hy : (withW (g.f1.set k ⟨x.f0, wr .i64 (x.f1 - t.f3), wr .i64 (x.f2 + 1), x.f3, x.f4⟩) t.f2)[(acAt (withW (g.f1.set k ⟨x.f0, wr .i64 (x.f1 - t.f3), wr .i64 (x.f2 + 1), x.f3, x.f4⟩) t.f2) t.f2).toNat]? = some y) :
    (⟨g.f0, (withW (g.f1.set k ⟨x.f0, wr .i64 (x.f1 - t.f3), wr .i64 (x.f2 + 1), x.f3, x.f4⟩) t.f2).set (acAt (withW (g.f1.set k ⟨x.f0, wr .i64 (x.f1 - t.f3), wr .i64 (x.f2 + 1), x.f3, x.f4⟩) t.f2) t.f2).toNat ⟨y.f0, wr .i64 (y.f1 + t.f3), y.f2, y.f3, y.f4⟩⟩ : S27) = doW g k t := by
  rw [with_cred hy (tx_wr h)]
  exact do_pay hx h1
theorem do_unb2 (hl : ledgerOk g = true) (h : txOk t = true) (hx : g.f1[k]? = some x) (h1 : t.f0 ≠ 1) (h2 : t.f0 ≠ 2) : (⟨g.f0, g.f1.set k ⟨x.f0, x.f1, wr .i64 (x.f2 + 1), wr .i64 (x.f3 - t.f3), lvG t.f3 (wr .i64 (g.f0 + 2)) x.f4⟩⟩ : S27) = doW g k t := by
  have h3 : t.f0 = 3 := by
    unfold txOk at h
    simp only [Bool.and_eq_true] at h
    have := inR_yes h.1
    omega
  rw [lvG_eq (ac_srt (lg_acct hl hx))]
  unfold doW
  rw [if_neg h1, if_neg h2, if_pos h3, ← set_mod (f := fun a : S38 => (⟨a.f0, a.f1, wr .i64 (a.f2 + 1), wr .i64 (a.f3 - t.f3), lvW a.f4 t.f3 (wr .i64 (g.f0 + 2))⟩ : S38)) hx rfl]
end
theorem hv3 {a : S38} {k n : Int} (h : k = 3) (h2 : a.f3 < n) : hasW a k < n := by unfold hasW; rw [if_pos h]; exact h2
theorem hvN {a : S38} {k n : Int} (h : k ≠ 3) (h2 : a.f1 < n) : hasW a k < n := by unfold hasW; rw [if_neg h]; exact h2
theorem hv3' {a : S38} {k n : Int} (h : k = 3) (h2 : ¬ a.f3 < n) : ¬ hasW a k < n := by unfold hasW; rw [if_pos h]; exact h2
theorem hvN' {a : S38} {k n : Int} (h : k ≠ 3) (h2 : ¬ a.f1 < n) : ¬ hasW a k < n := by unfold hasW; rw [if_neg h]; exact h2
theorem s_AcctAt (l : List S38) (s : ByteArray) (hl : l.length ≤ 2000001) : ∃ r0 : Int, (r0 = acAt l s) ∧ Fn Try.prog 50 [lV (l.map d38), .e (.c (.d (.v (.string s))))] (lookH []) (iV r0) (lookH []) := by
 have key : ∃ x' h', ((fun x' h' => ∃ r0 : Int, (r0 = acAt l s) ∧ x' = iV r0 ∧ h' = [])) x' h' ∧ Fn Try.prog 50 [lV (l.map d38), .e (.c (.d (.v (.string s))))] (lookH []) x' (lookH h') := by
  refine Fn.bodyX (N := 20) hτ Try.func50 rfl rfl rfl rfl ?_
  refine sk ⟨[(0, lV (l.map d38)), (1, .e (.c (.d (.v (.string s)))))], [], 80⟩ ?_
  refine X.seq ?_
  refine sk ⟨[(0, lV (l.map d38)), (1, .e (.c (.d (.v (.string s))))), (5, iV 0)], [], 96⟩ ?_
  refine X.block ?_
  -- 2: v5 : Int
  refine X.loop (σ := { g : Int // (fun (v5 : Int) => 0 ≤ v5 ∧ v5 ≤ l.length ∧ Upto (fun _ (y : S38) => y.f0.toList ≠ s.toList) (fun n => l[n]?) v5) g }) (fun g => (fun (v5 : Int) => ⟨[(0, lV (l.map d38)), (1, .e (.c (.d (.v (.string s))))), (5, iV v5)], [], 96⟩) g.1) (fun g => (fun (v5 : Int) => (l.length - v5).toNat) g.1) ⟨0, ⟨by first | omega | (dsimp only; omega), by first | omega | (dsimp only; omega), upto_zero⟩⟩ (Wk.less (by kernel_rfl)) (fun g => ?_)
  obtain ⟨v5, hg2⟩ := g
  have hg2 : 0 ≤ v5 ∧ v5 ≤ l.length ∧ Upto (fun _ (y : S38) => y.f0.toList ≠ s.toList) (fun n => l[n]?) v5 := hg2
  obtain ⟨_, _, hA⟩ := hg2
  refine X.seq ?_
  refine X.seq ?_
  have el3 : (l.map d38).length = l.length := List.length_map ..
  refine rk ⟨[(0, lV (l.map d38)), (1, .e (.c (.d (.v (.string s))))), (5, iV v5), (9, bV (decide ((v5 : Int) < ((l.map d38).length : Int))))], [], 160⟩ ?_
  refine if_ (b := decide ((v5 : Int) < ((l.map d38).length : Int))) (fun hb4 => ?_) (fun hb4 => ?_)
  ·replace hb4 := of_decide_eq_true (hb4)
   refine X.skip ?_
   refine X.seq ?_
   refine X.block ?_
   refine X.seq (rs 2 ?_)
   obtain ⟨x5, hx5⟩ : ∃ x, l[Int.toNat v5]? = some x := ⟨_, List.getElem?_eq_getElem (by first | omega | (simp; done) | (simp; omega))⟩
   refine CH.idx hτ (d38 x5) (rows := (l.map d38)) (n := v5) (sz := 5) (by kernel_rfl) (by kernel_rfl) (by first | omega | (simp; done) | (simp; omega)) (by rw [List.getElem?_map, hx5]; rfl) (by kernel_rfl) ?_
   refine go 4 ?_
   refine ek ⟨[(0, lV (l.map d38)), (1, .e (.c (.d (.v (.string s))))), (5, iV v5), (18, bV (x5.f0.toList == s.toList))], [], 272⟩ ?_
   refine if_ (b := (x5.f0.toList == s.toList)) (fun hb6 => ?_) (fun hb6 => ?_)
   ·replace hb6 := beq_yes (hb6)
    refine sk ⟨[(4, iV v5)], [], 304⟩ ?_
    refine X.ret ?_
    exact ⟨trivial, _, _, ⟨v5, (by first | exact (acAt_yes (by omega) ‹_› ‹_› hA) | exact (acAt_no hA (by omega))), rfl, rfl⟩, mkr⟩
   ·replace hb6 := beq_no (hb6)
    refine X.skip ?_
    refine X.rk ⟨[(0, lV (l.map d38)), (1, .e (.c (.d (.v (.string s))))), (5, iV (wrap64 (v5 + 1)))], [], 320⟩ hτ hmix (by kernel_rfl) (by kernel_rfl) (s2 := ⟨[(0, lV (l.map d38)), (1, .e (.c (.d (.v (.string s))))), (5, iV (v5 + 1))], [], 320⟩) (congrArg (fun z : Int => (⟨[(0, lV (l.map d38)), (1, .e (.c (.d (.v (.string s))))), (5, iV z)], [], 320⟩ : St)) (show wrap64 (v5 + 1) = (v5 + 1) by rw [w64 (n := (v5 + 1)) (by omega) (by omega)])) ?_
    refine ⟨⟨(v5 + 1), ⟨by first | omega | (dsimp only; omega), by first | omega | (dsimp only; omega), upto_nx (by first | omega | (dsimp only; omega)) hA ‹_› (‹_›)⟩⟩, by first | exact rfl | omega | (dsimp only; omega) | (simp only [List.length_append, List.length_cons, List.length_nil, List.length_set]; omega) | (simp; done) | (simp; omega), Wk.mk' [] (by kernel_rfl) (by kernel_rfl) (by kernel_rfl)⟩
  ·replace hb4 := of_decide_eq_false (hb4)
   refine X.exit ?_
   refine sk ⟨[(4, iV (-1))], [], 176⟩ ?_
   refine X.ret ?_
   exact ⟨trivial, _, _, ⟨(-1), (by first | exact (acAt_yes (by omega) ‹_› ‹_› hA) | exact (acAt_no hA (by omega))), rfl, rfl⟩, mkr⟩
 obtain ⟨_, _, ⟨r0, h1_, rfl, rfl⟩, hf⟩ := key
 exact ⟨r0, h1_, hf⟩

theorem i_AcctAt1 (s : ByteArray) (b : S38) : ∃ r0 : Bool, (r0 = (b.f0.toList == s.toList)) ∧ Fn Try.prog 49 [.e (.agg (cD (d38 b))), .pt 0 0 0] (lookH [(0, some (.box [.k 0 (.v (.string s))]))]) (bV r0) (lookH [(0, some (.box [.k 0 (.v (.string s))]))]) := by
 have key : ∃ x' h', ((fun x' h' => ∃ r0 : Bool, (r0 = (b.f0.toList == s.toList)) ∧ x' = bV r0 ∧ h' = [(0, some (.box [.k 0 (.v (.string s))]))])) x' h' ∧ Fn Try.prog 49 [.e (.agg (cD (d38 b))), .pt 0 0 0] (lookH [(0, some (.box [.k 0 (.v (.string s))]))]) x' (lookH h') := by
  refine Fn.bodyX (N := 8) hτ Try.func49 rfl rfl rfl rfl ?_
  refine sk ⟨[(1, .pt 0 0 0), (2, .pt 64 0 0)], [(0, some (.box [.k 0 (.v (.string s))])), (64, some (.box (cD (d38 b))))], 96⟩ ?_
  refine sk ⟨[(3, bV (b.f0.toList == s.toList))], [(0, some (.box [.k 0 (.v (.string s))]))], 176⟩ ?_
  refine X.ret ?_
  exact ⟨trivial, _, _, ⟨(b.f0.toList == s.toList), by first | exact rfl | omega | (dsimp only; omega) | (simp only [List.length_append, List.length_cons, List.length_nil, List.length_set]; omega) | (simp; done) | (simp; omega), rfl, rfl⟩, mkr⟩
 obtain ⟨_, _, ⟨r0, h1_, rfl, rfl⟩, hf⟩ := key
 exact ⟨r0, h1_, hf⟩

theorem i_indexAcct (s : ByteArray) (l : List S38) (hl : l.length ≤ 2000001) : ∃ r0 : Int, (r0 = acAt l s) ∧ Fn Try.prog 48 [lV (l.map d38), .fv 49 0] (lookH [(0, some (.box [.k 0 (.v (.string s))]))]) (iV r0) (lookH [(0, some (.box [.k 0 (.v (.string s))]))]) := by
 have key : ∃ x' h', ((fun x' h' => ∃ r0 : Int, (r0 = acAt l s) ∧ x' = iV r0 ∧ h' = [(0, some (.box [.k 0 (.v (.string s))]))])) x' h' ∧ Fn Try.prog 48 [lV (l.map d38), .fv 49 0] (lookH [(0, some (.box [.k 0 (.v (.string s))]))]) x' (lookH h') := by
  refine Fn.bodyX (N := 19) hτ Try.func48 rfl rfl rfl rfl ?_
  refine sk ⟨[(0, lV (l.map d38)), (1, .fv 49 0)], [(0, some (.box [.k 0 (.v (.string s))]))], 80⟩ ?_
  refine X.seq ?_
  refine X.seq ?_
  have el1 : (l.map d38).length = l.length := List.length_map ..
  refine rk ⟨[(0, lV (l.map d38)), (1, .fv 49 0), (7, iV ((l.map d38).length : Int)), (8, iV 0)], [(0, some (.box [.k 0 (.v (.string s))]))], 128⟩ ?_
  refine X.block ?_
  -- 2: v8 : Int
  refine X.loop (σ := { g : Int // (fun (v8 : Int) => 0 ≤ v8 ∧ v8 ≤ l.length ∧ Upto (fun _ (y : S38) => y.f0.toList ≠ s.toList) (fun n => l[n]?) v8) g }) (fun g => (fun (v8 : Int) => ⟨[(0, lV (l.map d38)), (1, .fv 49 0), (7, iV ((l.map d38).length : Int)), (8, iV v8)], [(0, some (.box [.k 0 (.v (.string s))]))], 128⟩) g.1) (fun g => (fun (v8 : Int) => (l.length - v8).toNat) g.1) ⟨0, ⟨by first | omega | (dsimp only; omega), by first | omega | (dsimp only; omega), upto_zero⟩⟩ (Wk.less (by kernel_rfl)) (fun g => ?_)
  obtain ⟨v8, hg3⟩ := g
  have hg3 : 0 ≤ v8 ∧ v8 ≤ l.length ∧ Upto (fun _ (y : S38) => y.f0.toList ≠ s.toList) (fun n => l[n]?) v8 := hg3
  obtain ⟨_, _, hA⟩ := hg3
  refine sk ⟨[(0, lV (l.map d38)), (1, .fv 49 0), (7, iV ((l.map d38).length : Int)), (8, iV v8), (9, bV (decide ((v8 : Int) < ((l.map d38).length : Int))))], [(0, some (.box [.k 0 (.v (.string s))]))], 144⟩ ?_
  refine X.seq ?_
  refine if_ (b := decide ((v8 : Int) < ((l.map d38).length : Int))) (fun hb4 => ?_) (fun hb4 => ?_)
  ·replace hb4 := of_decide_eq_true (hb4)
   refine X.skip ?_
   refine X.seq ?_
   refine X.block ?_
   refine sk ⟨[(0, lV (l.map d38)), (1, .fv 49 0), (5, iV v8), (7, iV ((l.map d38).length : Int)), (8, iV v8)], [(0, some (.box [.k 0 (.v (.string s))]))], 176⟩ ?_
   refine X.seq (rs 3 ?_)
   obtain ⟨x5, hx5⟩ : ∃ x, l[Int.toNat v8]? = some x := ⟨_, List.getElem?_eq_getElem (by first | omega | (simp; done) | (simp; omega))⟩
   refine CH.idx hτ (d38 x5) (rows := (l.map d38)) (n := v8) (sz := 5) (by kernel_rfl) (by kernel_rfl) (by first | omega | (simp; done) | (simp; omega)) (by rw [List.getElem?_map, hx5]; rfl) (by kernel_rfl) ?_
   refine go 1 ?_
   obtain ⟨r6, hr8, hf7⟩ := i_AcctAt1 s x5
   replace hr8 := hr8.symm; subst hr8
   refine CH.callV hf7 Try.func49 ⟨rfl, rfl⟩ [(0, 0)] (by kernel_rfl) (by kernel_rfl) (by kernel_rfl) (by kernel_rfl) ?_
   refine ek ⟨[(0, lV (l.map d38)), (1, .fv 49 0), (5, iV v8), (7, iV ((l.map d38).length : Int)), (8, iV v8), (16, bV (x5.f0.toList == s.toList))], [(0, some (.box [.k 0 (.v (.string s))]))], 272⟩ ?_
   refine if_ (b := (x5.f0.toList == s.toList)) (fun hb10 => ?_) (fun hb10 => ?_)
   ·replace hb10 := beq_yes (hb10)
    refine sk ⟨[(4, iV v8)], [(0, some (.box [.k 0 (.v (.string s))]))], 304⟩ ?_
    refine X.ret ?_
    exact ⟨trivial, _, _, ⟨v8, (by first | exact (acAt_yes (by omega) ‹_› ‹_› hA) | exact (acAt_no hA (by omega))), rfl, rfl⟩, mkr⟩
   ·replace hb10 := beq_no (hb10)
    refine X.skip ?_
    refine X.rk ⟨[(0, lV (l.map d38)), (1, .fv 49 0), (7, iV ((l.map d38).length : Int)), (8, iV (wrap64 (v8 + 1)))], [(0, some (.box [.k 0 (.v (.string s))]))], 304⟩ hτ hmix (by kernel_rfl) (by kernel_rfl) (s2 := ⟨[(0, lV (l.map d38)), (1, .fv 49 0), (7, iV ((l.map d38).length : Int)), (8, iV (v8 + 1))], [(0, some (.box [.k 0 (.v (.string s))]))], 304⟩) (congrArg (fun z : Int => (⟨[(0, lV (l.map d38)), (1, .fv 49 0), (7, iV ((l.map d38).length : Int)), (8, iV z)], [(0, some (.box [.k 0 (.v (.string s))]))], 304⟩ : St)) (show wrap64 (v8 + 1) = (v8 + 1) by rw [w64 (n := (v8 + 1)) (by omega) (by omega)])) ?_
    refine ⟨⟨(v8 + 1), ⟨by first | omega | (dsimp only; omega), by first | omega | (dsimp only; omega), upto_nx (by first | omega | (dsimp only; omega)) hA ‹_› (‹_›)⟩⟩, by first | exact rfl | omega | (dsimp only; omega) | (simp only [List.length_append, List.length_cons, List.length_nil, List.length_set]; omega) | (simp; done) | (simp; omega), Wk.mk' [] (by kernel_rfl) (by kernel_rfl) (by kernel_rfl)⟩
  ·replace hb4 := of_decide_eq_false (hb4)
   refine X.exit ?_
   refine sk ⟨[(4, iV (-1))], [(0, some (.box [.k 0 (.v (.string s))]))], 160⟩ ?_
   refine X.ret ?_
   exact ⟨trivial, _, _, ⟨(-1), (by first | exact (acAt_yes (by omega) ‹_› ‹_› hA) | exact (acAt_no hA (by omega))), rfl, rfl⟩, mkr⟩
 obtain ⟨_, _, ⟨r0, h1_, rfl, rfl⟩, hf⟩ := key
 exact ⟨r0, h1_, hf⟩

theorem i_AcctAt (l : List S38) (s : ByteArray) (hl : l.length ≤ 2000001) : ∃ r0 : Int, (r0 = acAt l s) ∧ Fn Try.prog 12 [lV (l.map d38), .e (.c (.d (.v (.string s))))] (lookH []) (iV r0) (lookH []) := by
 have key : ∃ x' h', ((fun x' h' => ∃ r0 : Int, (r0 = acAt l s) ∧ x' = iV r0 ∧ h' = [])) x' h' ∧ Fn Try.prog 12 [lV (l.map d38), .e (.c (.d (.v (.string s))))] (lookH []) x' (lookH h') := by
  refine Fn.bodyX (N := 8) hτ Try.func12 rfl rfl rfl rfl ?_
  refine sk ⟨[(0, lV (l.map d38)), (3, .pt 64 0 0)], [(64, some (.box [.d (.v (.string s))]))], 96⟩ ?_
  refine X.seq (rs 2 ?_)
  obtain ⟨r1, hr3, hf2⟩ := i_indexAcct s l (by first | assumption | omega)
  replace hr3 := hr3.symm; subst hr3
  refine CH.call hf2 Try.func48 ⟨rfl, rfl⟩ [(64, 0)] (by kernel_rfl) (by kernel_rfl) (by kernel_rfl) (by kernel_rfl) ?_
  refine go 1 ?_
  refine ek ⟨[(4, iV (acAt l s))], [], 160⟩ ?_
  refine X.ret ?_
  exact ⟨trivial, _, _, ⟨(acAt l s), by first | exact rfl | omega | (dsimp only; omega) | (simp only [List.length_append, List.length_cons, List.length_nil, List.length_set]; omega) | (simp; done) | (simp; omega), rfl, rfl⟩, mkr⟩
 obtain ⟨_, _, ⟨r0, h1_, rfl, rfl⟩, hf⟩ := key
 exact ⟨r0, h1_, hf⟩

theorem i_cloneR_Leave (l : List S188) (hl : l.length ≤ 2000001) : ∃ r0 : List S188, (r0 = l) ∧ Fn Try.prog 163 [lV (l.map d188)] (lookH []) (rV 64) (lookH [(64, some (.row 2 188 (r0.map d188) false true))]) := by
  refine ⟨_, rfl, ?_⟩
  refine Fn.bodyU (N := 8) hτ Try.func163 rfl rfl rfl rfl ?_
  refine U.seq ?_
  refine U.rk ⟨[(0, lV (l.map d188))], [], 80⟩ hτ hmix (by kernel_rfl) (by kernel_rfl) rfl ?_
  refine U.seq ?_
  refine U.seq ?_
  refine U.rk ⟨[(0, lV (l.map d188)), (4, .bo ((l.map d188) = []) (True))], [], 112⟩ hτ hmix (by kernel_rfl) (by kernel_rfl) rfl ?_
  refine U.ifN (p := (l.map d188) = []) (q := True) (by kernel_rfl) (fun hb1 => ?_) (fun hb1 => ?_)
  · have hn := hb1
    refine U.seq ?_
    refine U.rk ⟨[(2, .e (.c (.nil)))], [], 128⟩ hτ hmix (by kernel_rfl) (by kernel_rfl) rfl ?_
    refine U.ret ?_
    exact ⟨trivial, .inr ⟨_, Wk.ownT 2 2 188 (by kernel_rfl) (by kernel_rfl) (by kernel_rfl), Ret.mk' [(64, 128)] (by kernel_rfl) (by rw [hn]; kernel_rfl) (by kernel_rfl)⟩⟩
  · have _ := trivial
    refine U.skip ?_
    refine U.seq ?_
    refine U.rs 2 hτ hmix (by kernel_rfl) ?_
    have el2 : (l.map d188).length = l.length := List.length_map ..
    refine CH.app hτ (rows := []) (rows2 := (l.map d188)) (sz := 2) (bys := 16) true (by kernel_rfl) (by kernel_rfl) (fun _ => flat_d d188 (fun x => rfl)) (flat_ok (f := d188) (fun x => rfl)) (by simp only [List.length_map] <;> (first | done | omega | (simp; done) | (simp; omega))) (by kernel_rfl) ?_
    refine go 1 ?_
    refine ek ⟨[(2, rV 144)], [(144, some (.row 2 188 (l.map d188) false true))], 176⟩ ?_
    refine U.ret ?_
    exact ⟨trivial, .inl (Ret.mk' [(64, 144)] (by kernel_rfl) (by kernel_rfl) (by kernel_rfl))⟩

theorem i_copyAccts (l : List S38) (hl : acsSm l) : ∃ r0 : List S38, (r0 = l) ∧ Fn Try.prog 117 [lV (l.map d38)] (lookH []) (rV 64) (lookH [(64, some (.nst 5 38 [(4, 2, 188)] (r0.map d38) []))]) := by
 have key : ∃ x' h', ((fun x' h' => ∃ r0 : List S38, (r0 = l) ∧ x' = rV 64 ∧ h' = [(64, some (.nst 5 38 [(4, 2, 188)] (r0.map d38) []))])) x' h' ∧ Fn Try.prog 117 [lV (l.map d38)] (lookH []) x' (lookH h') := by
  refine Fn.bodyX (N := 22) hτ Try.func117 rfl rfl rfl rfl ?_
  refine sk ⟨[(0, lV (l.map d38))], [], 80⟩ ?_
  refine sk ⟨[(0, lV (l.map d38)), (3, .e (.c (.nil)))], [], 96⟩ ?_
  refine X.seq ?_
  refine X.seq ?_
  have hll := hl.1
  have el1 : (l.map d38).length = l.length := List.length_map ..
  refine rk ⟨[(3, .e (.c (.nil))), (6, lV (l.map d38)), (7, iV ((l.map d38).length : Int)), (8, iV 0)], [], 144⟩ ?_
  refine X.block ?_
  refine X.weak (Wk.ownTN 3 5 38 [(4, 2, 188)] (by kernel_rfl) (by kernel_rfl) (by kernel_rfl)) ?_
  -- 3: Lv3 : List S38, v8 : Int
  refine X.loop (σ := { g : (List S38) × Int // (fun (Lv3 : List S38) (v8 : Int) => 0 ≤ v8 ∧ v8 ≤ l.length ∧ Lv3 = l.take v8.toNat) g.1 g.2 }) (fun g => (fun (Lv3 : List S38) (v8 : Int) => ⟨[(3, rV 144), (6, lV (l.map d38)), (7, iV ((l.map d38).length : Int)), (8, iV v8)], [(144, some (.nst 5 38 [(4, 2, 188)] (Lv3.map d38) []))], 160⟩) g.1.1 g.1.2) (fun g => (fun (Lv3 : List S38) (v8 : Int) => (l.length - v8).toNat) g.1.1 g.1.2) ⟨([], 0), ⟨by first | omega | (dsimp only; omega), by first | omega | (dsimp only; omega), by simp⟩⟩ (Wk.less (by kernel_rfl)) (fun g => ?_)
  obtain ⟨⟨Lv3, v8⟩, hg3⟩ := g
  have hg3 : 0 ≤ v8 ∧ v8 ≤ l.length ∧ Lv3 = l.take v8.toNat := hg3
  obtain ⟨_, _, hL⟩ := hg3
  refine sk ⟨[(3, rV 144), (6, lV (l.map d38)), (7, iV ((l.map d38).length : Int)), (8, iV v8), (9, bV (decide ((v8 : Int) < ((l.map d38).length : Int))))], [(144, some (.nst 5 38 [(4, 2, 188)] (Lv3.map d38) []))], 176⟩ ?_
  refine X.seq ?_
  refine if_ (b := decide ((v8 : Int) < ((l.map d38).length : Int))) (fun hb4 => ?_) (fun hb4 => ?_)
  ·replace hb4 := of_decide_eq_true (hb4)
   refine X.skip ?_
   refine X.seq ?_
   refine X.block ?_
   refine X.seq (rs 0 ?_)
   obtain ⟨x5, hx5⟩ : ∃ x, l[Int.toNat v8]? = some x := ⟨_, List.getElem?_eq_getElem (by first | omega | (simp; done) | (simp; omega))⟩
   have hxl := (all_at hl.2 hx5).2
   refine CH.idx hτ (d38 x5) (rows := (l.map d38)) (n := v8) (sz := 5) (by kernel_rfl) (by kernel_rfl) (by first | omega | (simp; done) | (simp; omega)) (by rw [List.getElem?_map, hx5]; rfl) (by kernel_rfl) ?_
   refine go 3 ?_
   refine ek ⟨[(3, rV 144), (5, .pt 208 0 0), (6, lV (l.map d38)), (7, iV ((l.map d38).length : Int)), (8, iV v8)], [(144, some (.nst 5 38 [(4, 2, 188)] (Lv3.map d38) [])), (208, some (.box (cD (d38 x5))))], 240⟩ ?_
   refine X.seq (rs 2 ?_)
   obtain ⟨r6, hr8, hf7⟩ := i_cloneR_Leave x5.f4 (by first | assumption | omega)
   replace hr8 := hr8.symm; subst hr8
   refine ca hf7 Try.func163 ?_
   refine go 2 ?_
   refine ek ⟨[(3, rV 144), (5, .pt 208 0 0), (6, lV (l.map d38)), (7, iV ((l.map d38).length : Int)), (8, iV v8)], [(144, some (.nst 5 38 [(4, 2, 188)] (Lv3.map d38) [])), (208, some (.box [.d (.v (.string x5.f0)), .d (.v (.int .i64 x5.f1)), .d (.v (.int .i64 x5.f2)), .d (.v (.int .i64 x5.f3)), .ref 272])), (272, some (.row 2 188 (x5.f4.map d188) false true))], 320⟩ ?_
   refine rs 2 ?_
   refine CH.ltN hτ (L := [(4, 272, (x5.f4.map d188))]) [(4, 2, 188)] (by kernel_rfl) (by kernel_rfl) ⟨flat_d d188 (fun x => rfl), trivial⟩ (by kernel_rfl) ?_
   have el10 : (Lv3.map d38).length = Lv3.length := List.length_map ..
   have el11 : (([x5] : List S38).map d38).length = ([x5] : List S38).length := List.length_map ..
   have el12 : ([x5] : List S38).length = 1 := rfl
   refine CH.apN hτ (rows := (Lv3.map d38)) (rows2 := (([x5] : List S38).map d38)) (bys := 64) [(4, 2, 188)] (by kernel_rfl) (by kernel_rfl) (by simp only [List.length_map] <;> (rw [hL]; simp; omega)) (by kernel_rfl) ?_
   refine go 1 ?_
   refine CH.endk ⟨[(3, rV 368), (6, lV (l.map d38)), (7, iV ((l.map d38).length : Int)), (8, iV v8)], [(368, some (.nst 5 38 [(4, 2, 188)] ((Lv3.map d38) ++ (([x5] : List S38).map d38)) []))], 400⟩ (by kernel_rfl) (by kernel_rfl) (s2 := ⟨[(3, rV 368), (6, lV (l.map d38)), (7, iV ((l.map d38).length : Int)), (8, iV v8)], [(368, some (.nst 5 38 [(4, 2, 188)] ((Lv3 ++ ([x5] : List S38)).map d38) []))], 400⟩) (congrArg (fun z : List (List D) => (⟨[(3, rV 368), (6, lV (l.map d38)), (7, iV ((l.map d38).length : Int)), (8, iV v8)], [(368, some (.nst 5 38 [(4, 2, 188)] z []))], 400⟩ : St)) (show (Lv3.map d38) ++ (([x5] : List S38).map d38) = ((Lv3 ++ ([x5] : List S38)).map d38) from List.map_append.symm)) ?_
   refine X.rk ⟨[(3, rV 368), (6, lV (l.map d38)), (7, iV ((l.map d38).length : Int)), (8, iV (wrap64 (v8 + 1)))], [(368, some (.nst 5 38 [(4, 2, 188)] ((Lv3 ++ ([x5] : List S38)).map d38) []))], 432⟩ hτ hmix (by kernel_rfl) (by kernel_rfl) (s2 := ⟨[(3, rV 368), (6, lV (l.map d38)), (7, iV ((l.map d38).length : Int)), (8, iV (v8 + 1))], [(368, some (.nst 5 38 [(4, 2, 188)] ((Lv3 ++ ([x5] : List S38)).map d38) []))], 432⟩) (congrArg (fun z : Int => (⟨[(3, rV 368), (6, lV (l.map d38)), (7, iV ((l.map d38).length : Int)), (8, iV z)], [(368, some (.nst 5 38 [(4, 2, 188)] ((Lv3 ++ ([x5] : List S38)).map d38) []))], 432⟩ : St)) (show wrap64 (v8 + 1) = (v8 + 1) by rw [w64 (n := (v8 + 1)) (by omega) (by omega)])) ?_
   refine ⟨⟨((Lv3 ++ ([x5] : List S38)), (v8 + 1)), ⟨by first | omega | (dsimp only; omega), by first | omega | (dsimp only; omega), by rw [hL]; exact take_succ (by first | omega | (dsimp only; omega)) ‹_›⟩⟩, by first | exact rfl | omega | (dsimp only; omega) | (simp only [List.length_append, List.length_cons, List.length_nil, List.length_set]; omega) | (simp; done) | (simp; omega), Wk.mk' [(144, 368)] (by kernel_rfl) (by kernel_rfl) (by kernel_rfl)⟩
  ·replace hb4 := of_decide_eq_false (hb4)
   refine X.exit ?_
   refine sk ⟨[(2, rV 144)], [(144, some (.nst 5 38 [(4, 2, 188)] (Lv3.map d38) []))], 208⟩ ?_
   refine X.ret ?_
   exact ⟨trivial, _, _, ⟨Lv3, (by rw [hL]; exact take_all (by omega)), rfl, rfl⟩, .inl (Ret.mk' [(64, 144)] (by kernel_rfl) (by kernel_rfl) (by kernel_rfl))⟩
 obtain ⟨_, _, ⟨r0, h1_, rfl, rfl⟩, hf⟩ := key
 exact ⟨r0, h1_, hf⟩

theorem i_copyLedger (g : S27) (hg : acsSm g.f1) : ∃ r0 : S27, (r0 = g) ∧ Fn Try.prog 47 [.e (.agg [.d (.v (.int .i64 g.f0)), .d (.sl (g.f1.map d38))])] (lookH []) (.e (.agg [.d (.v (.int .i64 r0.f0)), .ref 64])) (lookH [(64, some (.nst 5 38 [(4, 2, 188)] (r0.f1.map d38) []))]) := by
 have key : ∃ x' h', ((fun x' h' => ∃ r0 : S27, (r0 = g) ∧ x' = .e (.agg [.d (.v (.int .i64 r0.f0)), .ref 64]) ∧ h' = [(64, some (.nst 5 38 [(4, 2, 188)] (r0.f1.map d38) []))])) x' h' ∧ Fn Try.prog 47 [.e (.agg [.d (.v (.int .i64 g.f0)), .d (.sl (g.f1.map d38))])] (lookH []) x' (lookH h') := by
  refine Fn.bodyX (N := 9) hτ Try.func47 rfl rfl rfl rfl ?_
  refine sk ⟨[(1, .pt 64 0 0), (2, .pt 80 0 0)], [(64, some (.box [.d (.v (.int .i64 g.f0)), .d (.sl (g.f1.map d38))])), (80, some (.box [.d (.v (.int .i64 0)), .nil]))], 96⟩ ?_
  refine X.seq (rs 4 ?_)
  obtain ⟨r1, hr3, hf2⟩ := i_copyAccts g.f1 (by assumption)
  replace hr3 := hr3.symm; subst hr3
  refine ca hf2 Try.func117 ?_
  refine go 2 ?_
  refine ek ⟨[(2, .pt 80 0 0)], [(80, some (.box [.d (.v (.int .i64 g.f0)), .ref 160])), (160, some (.nst 5 38 [(4, 2, 188)] (g.f1.map d38) []))], 208⟩ ?_
  refine X.ret ?_
  exact ⟨trivial, _, _, ⟨g, rfl, rfl, rfl⟩, .inl (Ret.mk' [(64, 160)] (by kernel_rfl) (by kernel_rfl) (by kernel_rfl))⟩
 obtain ⟨_, _, ⟨r0, h1_, rfl, rfl⟩, hf⟩ := key
 exact ⟨r0, h1_, hf⟩

theorem i_has (a : S38) (kind : Int) : ∃ r0 : Int, (r0 = hasW a kind) ∧ Fn Try.prog 115 [.ip (d38 a) 0, iV kind] (lookH []) (iV r0) (lookH []) := by
 have key : ∃ x' h', ((fun x' h' => ∃ r0 : Int, (r0 = hasW a kind) ∧ x' = iV r0 ∧ h' = [])) x' h' ∧ Fn Try.prog 115 [.ip (d38 a) 0, iV kind] (lookH []) x' (lookH h') := by
  refine Fn.bodyX (N := 15) hτ Try.func115 rfl rfl rfl rfl ?_
  refine sk ⟨[(0, .ip (d38 a) 0), (1, iV kind)], [], 80⟩ ?_
  refine X.seq ?_
  refine sk ⟨[(0, .ip (d38 a) 0), (6, bV (kind == 3))], [], 112⟩ ?_
  refine if_ (b := (kind == 3)) (fun hb1 => ?_) (fun hb1 => ?_)
  ·replace hb1 := eq_of_beq (hb1)
   refine sk ⟨[(4, iV a.f3)], [], 192⟩ ?_
   refine X.ret ?_
   exact ⟨trivial, _, _, ⟨a.f3, (by first | simp [hasW, *] | (unfold hasW; rw [if_neg (by omega)])), rfl, rfl⟩, mkr⟩
  ·replace hb1 := beq_eq_false_iff_ne.1 (hb1)
   refine X.skip ?_
   refine sk ⟨[(4, iV a.f1)], [], 192⟩ ?_
   refine X.ret ?_
   exact ⟨trivial, _, _, ⟨a.f1, (by first | simp [hasW, *] | (unfold hasW; rw [if_neg (by omega)])), rfl, rfl⟩, mkr⟩
 obtain ⟨_, _, ⟨r0, h1_, rfl, rfl⟩, hf⟩ := key
 exact ⟨r0, h1_, hf⟩

theorem i_insAcct (l : List S38) (i : Int) (m : List S38) (h0 : 0 ≤ i) (h1 : i ≤ (l.length : Int)) (hm : m.length = 1) (hs : l.length < 4000000) : ∃ r0 : List S38, r0 = insAt l m i.toNat ∧ Fn Try.prog 189 [.e (.c (.ref 0)), .e (.c (.d (.v (.int .i64 i)))), .e (.c (.ref 1))] (lookH [(0, some (.nst 5 38 [(4, 2, 188)] (l.map d38) [])), (1, some (.nst 5 38 [(4, 2, 188)] (m.map d38) []))]) (.e (.c (.ref 64))) (lookH [(64, some (.nst 5 38 [(4, 2, 188)] (r0.map d38) []))]) := by
  obtain ⟨b, rfl⟩ := List.length_eq_one_iff.1 hm
  refine ⟨_, rfl, ?_⟩
  have h := fn_insN ins189 (by omega) (rows := l.map d38) (r := d38 b) (i := i.toNat) (co :=  [(4, 2, 188)]) (by rw [List.length_map]; omega) rfl (by rw [List.length_map]; omega)
  rw [Int.toNat_of_nonneg h0] at h
  rw [show (insAt l [b] i.toNat).map d38 = (l.map d38).take i.toNat ++ d38 b :: (l.map d38).drop i.toNat by simp [insAt, List.map_take, List.map_drop]]
  exact h

theorem i_insLeave (l : List S188) (i : Int) (m : List S188) (h0 : 0 ≤ i) (h1 : i ≤ (l.length : Int)) (hm : m.length = 1) (hs : l.length < 4000000) : ∃ r0 : List S188, r0 = insAt l m i.toNat ∧ Fn Try.prog 190 [.e (.c (.ref 0)), .e (.c (.d (.v (.int .i64 i)))), .e (.c (.ref 1))] (lookH [(0, some (.row 2 188 (l.map d188) false true)), (1, some (.row 2 188 (m.map d188) false true))]) (.e (.c (.ref 64))) (lookH [(64, some (.row 2 188 (r0.map d188) false true))]) := by
  obtain ⟨b, rfl⟩ := List.length_eq_one_iff.1 hm
  refine ⟨_, rfl, ?_⟩
  have h := fn_ins ins190 (by omega) (rows := l.map d188) (r := d188 b) (i := i.toNat) (nf := true) (nf2 := true) (by rw [List.length_map]; omega) rfl (by rw [List.length_map]; omega)
  rw [Int.toNat_of_nonneg h0] at h
  rw [show (insAt l [b] i.toNat).map d188 = (l.map d188).take i.toNat ++ d188 b :: (l.map d188).drop i.toNat by simp [insAt, List.map_take, List.map_drop]]
  exact h

theorem i_leaves (L : List S38) (k : Nat) (n : Int) (t : Int) (hk : k < L.length) (hl : ∀ x, x ∈ L → x.f4.length ≤ 2000000) : ∃ q0 : List S38, (q0 = L.modify k (fun a => ⟨a.f0, a.f1, a.f2, a.f3, lvW a.f4 n t⟩)) ∧ Fn Try.prog 162 [.pt 0 k 0, iV n, iV t] (lookH [(0, some (.nst 5 38 [(4, 2, 188)] (L.map d38) []))]) (.tup []) (lookH [(0, some (.nst 5 38 [(4, 2, 188)] (q0.map d38) []))]) := by
 have key : ∃ x' h', ((fun x' h' => ∃ q0 : List S38, (q0 = L.modify k (fun a => ⟨a.f0, a.f1, a.f2, a.f3, lvW a.f4 n t⟩)) ∧ x' = .tup [] ∧ h' = [(0, some (.nst 5 38 [(4, 2, 188)] (q0.map d38) []))])) x' h' ∧ Fn Try.prog 162 [.pt 0 k 0, iV n, iV t] (lookH [(0, some (.nst 5 38 [(4, 2, 188)] (L.map d38) []))]) x' (lookH h') := by
  refine Fn.bodyX (N := 73) hτ Try.func162 rfl rfl rfl rfl ?_
  refine X.seq ?_
  refine X.seq (rs 3 ?_)
  obtain ⟨x1, hx1⟩ : ∃ x, L[k]? = some x := ⟨_, List.getElem?_eq_getElem (by first | omega | (simp; done) | (simp; omega))⟩
  have hxl := all_at hl hx1
  refine CH.ldN hτ (rows := (L.map d38)) (n := k) (p := 4) (op := []) (d38 x1) (.sl (x1.f4.map d188)) (by kernel_rfl) (by kernel_rfl) (by rw [List.getElem?_map, hx1]; rfl) rfl trivial (by kernel_rfl) ?_
  refine go 2 ?_
  have el2 : (x1.f4.map d188).length = x1.f4.length := List.length_map ..
  refine ek ⟨[(0, .pt 0 k 0), (1, iV n), (2, iV t), (12, iV ((x1.f4.map d188).length : Int)), (13, iV 0)], [(0, some (.nst 5 38 [(4, 2, 188)] (L.map d38) [(k, 4, 112)])), (112, some (.row 2 188 (x1.f4.map d188) false true))], 160⟩ ?_
  refine X.block ?_
  -- 1: v13 : Int
  refine X.loop (σ := { g : Int // (fun (v13 : Int) => 0 ≤ v13 ∧ v13 ≤ x1.f4.length ∧ Upto (fun _ (y : S188) => y.f1 ≠ t) (fun n => x1.f4[n]?) v13) g }) (fun g => (fun (v13 : Int) => ⟨[(0, .pt 0 k 0), (1, iV n), (2, iV t), (12, iV ((x1.f4.map d188).length : Int)), (13, iV v13)], [(0, some (.nst 5 38 [(4, 2, 188)] (L.map d38) [(k, 4, 112)])), (112, some (.row 2 188 (x1.f4.map d188) false true))], 160⟩) g.1) (fun g => (fun (v13 : Int) => (x1.f4.length - v13).toNat) g.1) ⟨0, ⟨by first | omega | (dsimp only; omega), by first | omega | (dsimp only; omega), upto_zero⟩⟩ (Wk.less (by kernel_rfl)) (fun g => ?_)
  obtain ⟨v13, hg4⟩ := g
  have hg4 : 0 ≤ v13 ∧ v13 ≤ x1.f4.length ∧ Upto (fun _ (y : S188) => y.f1 ≠ t) (fun n => x1.f4[n]?) v13 := hg4
  obtain ⟨_, _, hA⟩ := hg4
  refine sk ⟨[(0, .pt 0 k 0), (1, iV n), (2, iV t), (12, iV ((x1.f4.map d188).length : Int)), (13, iV v13), (14, bV (decide ((v13 : Int) < ((x1.f4.map d188).length : Int))))], [(0, some (.nst 5 38 [(4, 2, 188)] (L.map d38) [(k, 4, 112)])), (112, some (.row 2 188 (x1.f4.map d188) false true))], 176⟩ ?_
  refine X.seq ?_
  refine if_ (b := decide ((v13 : Int) < ((x1.f4.map d188).length : Int))) (fun hb5 => ?_) (fun hb5 => ?_)
  ·replace hb5 := of_decide_eq_true (hb5)
   refine X.skip ?_
   refine X.seq ?_
   refine X.block ?_
   refine sk ⟨[(0, .pt 0 k 0), (1, iV n), (2, iV t), (6, iV v13), (12, iV ((x1.f4.map d188).length : Int)), (13, iV v13)], [(0, some (.nst 5 38 [(4, 2, 188)] (L.map d38) [(k, 4, 112)])), (112, some (.row 2 188 (x1.f4.map d188) false true))], 208⟩ ?_
   refine X.seq (rs 3 ?_)
   refine CH.ldN hτ (rows := (L.map d38)) (n := k) (p := 4) (op := [(k, 4, 112)]) (d38 x1) (.sl (x1.f4.map d188)) (by kernel_rfl) (by kernel_rfl) (by rw [List.getElem?_map, hx1]; rfl) rfl ⟨rfl, trivial⟩ (by kernel_rfl) ?_
   refine go 1 ?_
   refine CH.idxR hτ (rows := (x1.f4.map d188)) (n := v13) (b := 112) (by kernel_rfl) (by kernel_rfl) (by first | omega | (simp; done) | (simp; omega)) (by simp only [List.length_map, List.length_set]; first | omega | (simp; done) | (simp; omega)) (by kernel_rfl) ?_
   refine go 1 ?_
   obtain ⟨x6, hx6⟩ : ∃ x, x1.f4[Int.toNat v13]? = some x := ⟨_, List.getElem?_eq_getElem (by first | omega | (simp; done) | (simp; omega))⟩
   refine CH.row hτ (d188 x6) (by kernel_rfl) (by kernel_rfl) (by rw [List.getElem?_map, hx6]; rfl) (by kernel_rfl) ?_
   refine go 2 ?_
   refine ek ⟨[(0, .pt 0 k 0), (1, iV n), (2, iV t), (6, iV v13), (12, iV ((x1.f4.map d188).length : Int)), (13, iV v13), (25, bV (x6.f1 == t))], [(0, some (.nst 5 38 [(4, 2, 188)] (L.map d38) [(k, 4, 112)])), (112, some (.row 2 188 (x1.f4.map d188) false true))], 368⟩ ?_
   refine if_ (b := (x6.f1 == t)) (fun hb7 => ?_) (fun hb7 => ?_)
   ·replace hb7 := eq_of_beq (hb7)
    refine X.seq (rs 3 ?_)
    refine CH.ldN hτ (rows := (L.map d38)) (n := k) (p := 4) (op := [(k, 4, 112)]) (d38 x1) (.sl (x1.f4.map d188)) (by kernel_rfl) (by kernel_rfl) (by rw [List.getElem?_map, hx1]; rfl) rfl ⟨rfl, trivial⟩ (by kernel_rfl) ?_
    refine go 1 ?_
    refine CH.idxR hτ (rows := (x1.f4.map d188)) (n := v13) (b := 112) (by kernel_rfl) (by kernel_rfl) (by first | omega | (simp; done) | (simp; omega)) (by simp only [List.length_map, List.length_set]; first | omega | (simp; done) | (simp; omega)) (by kernel_rfl) ?_
    refine go 1 ?_
    refine CH.row hτ (d188 x6) (by kernel_rfl) (by kernel_rfl) (by rw [List.getElem?_map, hx6]; rfl) (by kernel_rfl) ?_
    refine go 2 ?_
    refine CH.idxR hτ (rows := (x1.f4.map d188)) (n := v13) (b := 112) (by kernel_rfl) (by kernel_rfl) (by first | omega | (simp; done) | (simp; omega)) (by simp only [List.length_map, List.length_set]; first | omega | (simp; done) | (simp; omega)) (by kernel_rfl) ?_
    refine go 1 ?_
    refine CH.row hτ (d188 x6) (by kernel_rfl) (by kernel_rfl) (by rw [List.getElem?_map, hx6]; rfl) (by kernel_rfl) ?_
    refine CH.endk ⟨[], [(0, some (.nst 5 38 [(4, 2, 188)] (L.map d38) [(k, 4, 112)])), (112, some (.row 2 188 ((x1.f4.map d188).set (Int.toNat v13) (d188 (⟨wr .i64 (x6.f0 + n), x6.f1⟩ : S188))) false true))], 576⟩ (by kernel_rfl) (by kernel_rfl) (s2 := ⟨[], [(0, some (.nst 5 38 [(4, 2, 188)] (L.map d38) [(k, 4, 112)])), (112, some (.row 2 188 ((x1.f4.set (Int.toNat v13) (⟨wr .i64 (x6.f0 + n), x6.f1⟩ : S188)).map d188) false true))], 576⟩) (congrArg (fun z : List (List D) => (⟨[], [(0, some (.nst 5 38 [(4, 2, 188)] (L.map d38) [(k, 4, 112)])), (112, some (.row 2 188 z false true))], 576⟩ : St)) (show ((x1.f4.map d188).set (Int.toNat v13) (d188 (⟨wr .i64 (x6.f0 + n), x6.f1⟩ : S188))) = ((x1.f4.set (Int.toNat v13) (⟨wr .i64 (x6.f0 + n), x6.f1⟩ : S188)).map d188) from List.map_set.symm)) ?_
    refine X.weak (Wk.closeN (wd := 5) (wd' := 2) (i := k) (j := 4) (r := 112) (e := 38) (ty := 188) (co := [(4, 2, 188)]) (rows := (L.map d38)) (q := ((x1.f4.set (Int.toNat v13) (⟨wr .i64 (x6.f0 + n), x6.f1⟩ : S188)).map d188)) (op2 := []) 0 (d38 x1) (by kernel_rfl) (by kernel_rfl) (by rw [List.getElem?_map, hx1]; rfl) (flat_d d188 (fun x => rfl)) (by exact trivial) (by kernel_rfl) (by kernel_rfl) (by kernel_rfl) (by kernel_rfl)) ?_
    refine X.sub (fun z : List (List D) => (⟨[], (0, some (.nst 5 38 [(4, 2, 188)] z [])) :: (112, none) :: [(0, some (.nst 5 38 [(4, 2, 188)] (L.map d38) [(k, 4, 112)])), (112, some (.row 2 188 ((x1.f4.set (Int.toNat v13) (⟨wr .i64 (x6.f0 + n), x6.f1⟩ : S188)).map d188) false true))], 576⟩ : St)) (show (L.map d38).set (k) ((d38 x1).set 4 (.sl ((x1.f4.set (Int.toNat v13) (⟨wr .i64 (x6.f0 + n), x6.f1⟩ : S188)).map d188))) = ((L.set (k) (⟨x1.f0, x1.f1, x1.f2, x1.f3, (x1.f4.set (Int.toNat v13) (⟨wr .i64 (x6.f0 + n), x6.f1⟩ : S188))⟩ : S38)).map d38) from (List.map_set (f := d38) (l := L) (i := k) (a := (⟨x1.f0, x1.f1, x1.f2, x1.f3, (x1.f4.set (Int.toNat v13) (⟨wr .i64 (x6.f0 + n), x6.f1⟩ : S188))⟩ : S38))).symm) ?_
    refine X.weak (Wk.less (s1 := ⟨[], [(0, some (.nst 5 38 [(4, 2, 188)] ((L.set (k) (⟨x1.f0, x1.f1, x1.f2, x1.f3, (x1.f4.set (Int.toNat v13) (⟨wr .i64 (x6.f0 + n), x6.f1⟩ : S188))⟩ : S38)).map d38) []))], 576⟩) (by kernel_rfl)) ?_
    refine X.ret ?_
    exact ⟨trivial, _, _, ⟨(L.set (k) (⟨x1.f0, x1.f1, x1.f2, x1.f3, (x1.f4.set (Int.toNat v13) (⟨wr .i64 (x6.f0 + n), x6.f1⟩ : S188))⟩ : S38)), (by first | exact (set_mod ‹_› (by rw [lv_yes (by omega) ‹_› ‹_› hA])) | exact (set_mod ‹_› (by rw [lv_no hA (by omega) (by omega) (by omega) hB (.inl (by omega))])) | exact (set_mod ‹_› (by rw [lv_no hA (by omega) (by omega) (by omega) hB (.inr ⟨_, ‹_›, ‹_›⟩)]))), rfl, rfl⟩, mkr⟩
   ·replace hb7 := beq_eq_false_iff_ne.1 (hb7)
    refine X.skip ?_
    refine X.rk ⟨[(0, .pt 0 k 0), (1, iV n), (2, iV t), (12, iV ((x1.f4.map d188).length : Int)), (13, iV (wrap64 (v13 + 1)))], [(0, some (.nst 5 38 [(4, 2, 188)] (L.map d38) [(k, 4, 112)])), (112, some (.row 2 188 (x1.f4.map d188) false true))], 400⟩ hτ hmix (by kernel_rfl) (by kernel_rfl) (s2 := ⟨[(0, .pt 0 k 0), (1, iV n), (2, iV t), (12, iV ((x1.f4.map d188).length : Int)), (13, iV (v13 + 1))], [(0, some (.nst 5 38 [(4, 2, 188)] (L.map d38) [(k, 4, 112)])), (112, some (.row 2 188 (x1.f4.map d188) false true))], 400⟩) (congrArg (fun z : Int => (⟨[(0, .pt 0 k 0), (1, iV n), (2, iV t), (12, iV ((x1.f4.map d188).length : Int)), (13, iV z)], [(0, some (.nst 5 38 [(4, 2, 188)] (L.map d38) [(k, 4, 112)])), (112, some (.row 2 188 (x1.f4.map d188) false true))], 400⟩ : St)) (show wrap64 (v13 + 1) = (v13 + 1) by rw [w64 (n := (v13 + 1)) (by omega) (by omega)])) ?_
    refine ⟨⟨(v13 + 1), ⟨by first | omega | (dsimp only; omega), by first | omega | (dsimp only; omega), upto_nx (by first | omega | (dsimp only; omega)) hA ‹_› ‹_›⟩⟩, by first | exact rfl | omega | (dsimp only; omega) | (simp only [List.length_append, List.length_cons, List.length_nil, List.length_set]; omega) | (simp; done) | (simp; omega), Wk.mk' [(112, 112)] (by kernel_rfl) (by kernel_rfl) (by kernel_rfl)⟩
  ·replace hb5 := of_decide_eq_false (hb5)
   refine X.exit ?_
   refine sk ⟨[(0, .pt 0 k 0), (1, iV n), (2, iV t), (7, iV 0)], [(0, some (.nst 5 38 [(4, 2, 188)] (L.map d38) [(k, 4, 112)])), (112, some (.row 2 188 (x1.f4.map d188) false true))], 192⟩ ?_
   refine X.seq ?_
   refine X.block ?_
   -- 7: v7 : Int
   refine X.loop (σ := { g : Int // (fun (v7 : Int) => 0 ≤ v7 ∧ v7 ≤ x1.f4.length ∧ Upto (fun _ (y : S188) => y.f1 < t) (fun n => x1.f4[n]?) v7) g }) (fun g => (fun (v7 : Int) => ⟨[(0, .pt 0 k 0), (1, iV n), (2, iV t), (7, iV v7)], [(0, some (.nst 5 38 [(4, 2, 188)] (L.map d38) [(k, 4, 112)])), (112, some (.row 2 188 (x1.f4.map d188) false true))], 192⟩) g.1) (fun g => (fun (v7 : Int) => (x1.f4.length - v7).toNat) g.1) ⟨0, ⟨by first | omega | (dsimp only; omega), by first | omega | (dsimp only; omega), upto_zero⟩⟩ (Wk.less (by kernel_rfl)) (fun g => ?_)
   obtain ⟨v7, hg9⟩ := g
   have hg9 : 0 ≤ v7 ∧ v7 ≤ x1.f4.length ∧ Upto (fun _ (y : S188) => y.f1 < t) (fun n => x1.f4[n]?) v7 := hg9
   obtain ⟨_, _, hB⟩ := hg9
   refine X.seq ?_
   refine X.seq (rs 4 ?_)
   refine CH.ldN hτ (rows := (L.map d38)) (n := k) (p := 4) (op := [(k, 4, 112)]) (d38 x1) (.sl (x1.f4.map d188)) (by kernel_rfl) (by kernel_rfl) (by rw [List.getElem?_map, hx1]; rfl) rfl ⟨rfl, trivial⟩ (by kernel_rfl) ?_
   refine go 3 ?_
   rcases Bool.eq_false_or_eq_true (decide ((v7 : Int) < ((x1.f4.map d188).length : Int))) with hb10 | hb10
   ·refine aT 45 hb10 ?_
    refine aT 46 hb10 ?_
    replace hb10 := of_decide_eq_true (hb10)
    refine go 3 ?_
    refine CH.ldN hτ (rows := (L.map d38)) (n := k) (p := 4) (op := [(k, 4, 112)]) (d38 x1) (.sl (x1.f4.map d188)) (by kernel_rfl) (by kernel_rfl) (by rw [List.getElem?_map, hx1]; rfl) rfl ⟨rfl, trivial⟩ (by kernel_rfl) ?_
    refine go 1 ?_
    refine CH.idxR hτ (rows := (x1.f4.map d188)) (n := v7) (b := 112) (by kernel_rfl) (by kernel_rfl) (by first | omega | (simp; done) | (simp; omega)) (by simp only [List.length_map, List.length_set]; first | omega | (simp; done) | (simp; omega)) (by kernel_rfl) ?_
    refine go 1 ?_
    obtain ⟨x11, hx11⟩ : ∃ x, x1.f4[Int.toNat v7]? = some x := ⟨_, List.getElem?_eq_getElem (by first | omega | (simp; done) | (simp; omega))⟩
    refine CH.row hτ (d188 x11) (by kernel_rfl) (by kernel_rfl) (by rw [List.getElem?_map, hx11]; rfl) (by kernel_rfl) ?_
    refine go 3 ?_
    refine ek ⟨[(0, .pt 0 k 0), (1, iV n), (2, iV t), (7, iV v7), (57, bV (decide ((x11.f1 : Int) < t)))], [(0, some (.nst 5 38 [(4, 2, 188)] (L.map d38) [(k, 4, 112)])), (112, some (.row 2 188 (x1.f4.map d188) false true))], 496⟩ ?_
    refine if_ (b := decide ((x11.f1 : Int) < t)) (fun hb12 => ?_) (fun hb12 => ?_)
    ·replace hb12 := of_decide_eq_true (hb12)
     refine X.skip ?_
     refine X.block ?_
     refine X.rk ⟨[(0, .pt 0 k 0), (1, iV n), (2, iV t), (7, iV (wrap64 (v7 + 1)))], [(0, some (.nst 5 38 [(4, 2, 188)] (L.map d38) [(k, 4, 112)])), (112, some (.row 2 188 (x1.f4.map d188) false true))], 544⟩ hτ hmix (by kernel_rfl) (by kernel_rfl) (s2 := ⟨[(0, .pt 0 k 0), (1, iV n), (2, iV t), (7, iV (v7 + 1))], [(0, some (.nst 5 38 [(4, 2, 188)] (L.map d38) [(k, 4, 112)])), (112, some (.row 2 188 (x1.f4.map d188) false true))], 544⟩) (congrArg (fun z : Int => (⟨[(0, .pt 0 k 0), (1, iV n), (2, iV t), (7, iV z)], [(0, some (.nst 5 38 [(4, 2, 188)] (L.map d38) [(k, 4, 112)])), (112, some (.row 2 188 (x1.f4.map d188) false true))], 544⟩ : St)) (show wrap64 (v7 + 1) = (v7 + 1) by rw [w64 (n := (v7 + 1)) (by omega) (by omega)])) ?_
     refine ⟨⟨(v7 + 1), ⟨by first | omega | (dsimp only; omega), by first | omega | (dsimp only; omega), upto_nx (by first | omega | (dsimp only; omega)) hB ‹_› ‹_›⟩⟩, by first | exact rfl | omega | (dsimp only; omega) | (simp only [List.length_append, List.length_cons, List.length_nil, List.length_set]; omega) | (simp; done) | (simp; omega), Wk.mk' [(112, 112)] (by kernel_rfl) (by kernel_rfl) (by kernel_rfl)⟩
    ·replace hb12 := of_decide_eq_false (hb12)
     refine X.exit ?_
     refine rs 4 ?_
     refine CH.ldN hτ (rows := (L.map d38)) (n := k) (p := 4) (op := [(k, 4, 112)]) (d38 x1) (.sl (x1.f4.map d188)) (by kernel_rfl) (by kernel_rfl) (by rw [List.getElem?_map, hx1]; rfl) rfl ⟨rfl, trivial⟩ (by kernel_rfl) ?_
     refine go 5 ?_
     obtain ⟨r13, hr15, hf14⟩ := i_insLeave x1.f4 v7 ([(⟨n, t⟩ : S188)] : List S188) (by first | omega | (simp; done) | (simp; omega)) (by first | omega | (simp; done) | (simp; omega)) (by rfl) (by first | omega | (simp; done) | (simp; omega))
     replace hr15 := hr15.symm; subst hr15
     have hil : (insAt x1.f4 ([(⟨n, t⟩ : S188)] : List S188) (Int.toNat v7)).length = x1.f4.length + 1 := by rw [ins_len (by omega)]
     refine CH.call hf14 Try.func190 ⟨rfl, rfl⟩ [(112, 0), (640, 1)] (by kernel_rfl) (by kernel_rfl) (by kernel_rfl) (by kernel_rfl) ?_
     refine go 2 ?_
     refine CH.stN hτ (rows := (L.map d38)) (n := k) (p := 4) (len := 1) (op := [(k, 4, 112)]) (L := [(4, 656, ((insAt x1.f4 ([(⟨n, t⟩ : S188)] : List S188) (Int.toNat v7)).map d188))]) (d38 x1) (by kernel_rfl) (by kernel_rfl) (by rw [List.getElem?_map, hx1]; rfl) ⟨⟨rfl, (by dsimp only; decide), (by dsimp only; decide)⟩, trivial⟩ ⟨flat_d d188 (fun x => rfl), trivial⟩ (by kernel_rfl) ?_
     refine CH.endk ⟨[], [(0, some (.nst 5 38 [(4, 2, 188)] ((L.map d38).set (k) (d38 (⟨x1.f0, x1.f1, x1.f2, x1.f3, (insAt x1.f4 ([(⟨n, t⟩ : S188)] : List S188) (Int.toNat v7))⟩ : S38))) []))], 720⟩ (by kernel_rfl) (by kernel_rfl) (R := fun e s' => fin_ e ∧ ∃ x h1, (fun x' h' => ∃ q0 : List S38, (q0 = L.modify k (fun a => ⟨a.f0, a.f1, a.f2, a.f3, lvW a.f4 n t⟩)) ∧ x' = .tup [] ∧ h' = [(0, some (.nst 5 38 [(4, 2, 188)] (q0.map d38) []))]) x h1 ∧ RetW τ Try.f162.results.toList s' x h1) (s2 := ⟨[], [(0, some (.nst 5 38 [(4, 2, 188)] ((L.set (k) (⟨x1.f0, x1.f1, x1.f2, x1.f3, (insAt x1.f4 ([(⟨n, t⟩ : S188)] : List S188) (Int.toNat v7))⟩ : S38)).map d38) []))], 720⟩) (congrArg (fun z : List (List D) => (⟨[], [(0, some (.nst 5 38 [(4, 2, 188)] z []))], 720⟩ : St)) (show ((L.map d38).set (k) (d38 (⟨x1.f0, x1.f1, x1.f2, x1.f3, (insAt x1.f4 ([(⟨n, t⟩ : S188)] : List S188) (Int.toNat v7))⟩ : S38))) = ((L.set (k) (⟨x1.f0, x1.f1, x1.f2, x1.f3, (insAt x1.f4 ([(⟨n, t⟩ : S188)] : List S188) (Int.toNat v7))⟩ : S38)).map d38) from List.map_set.symm)) ?_
     exact ⟨trivial, _, _, ⟨(L.set (k) (⟨x1.f0, x1.f1, x1.f2, x1.f3, (insAt x1.f4 ([(⟨n, t⟩ : S188)] : List S188) (Int.toNat v7))⟩ : S38)), (by first | exact (set_mod ‹_› (by rw [lv_yes (by omega) ‹_› ‹_› hA])) | exact (set_mod ‹_› (by rw [lv_no hA (by omega) (by omega) (by omega) hB (.inl (by omega))])) | exact (set_mod ‹_› (by rw [lv_no hA (by omega) (by omega) (by omega) hB (.inr ⟨_, ‹_›, ‹_›⟩)]))), rfl, rfl⟩, mkr⟩
   ·refine aF 45 hb10 ?_
    refine aF 46 hb10 ?_
    replace hb10 := of_decide_eq_false (hb10)
    refine go 11 ?_
    refine ek ⟨[(0, .pt 0 k 0), (1, iV n), (2, iV t), (7, iV v7), (57, bV false)], [(0, some (.nst 5 38 [(4, 2, 188)] (L.map d38) [(k, 4, 112)])), (112, some (.row 2 188 (x1.f4.map d188) false true))], 496⟩ ?_
    refine X.ifF (by kernel_rfl) ?_
    refine X.exit ?_
    refine rs 4 ?_
    refine CH.ldN hτ (rows := (L.map d38)) (n := k) (p := 4) (op := [(k, 4, 112)]) (d38 x1) (.sl (x1.f4.map d188)) (by kernel_rfl) (by kernel_rfl) (by rw [List.getElem?_map, hx1]; rfl) rfl ⟨rfl, trivial⟩ (by kernel_rfl) ?_
    refine go 5 ?_
    obtain ⟨r17, hr19, hf18⟩ := i_insLeave x1.f4 v7 ([(⟨n, t⟩ : S188)] : List S188) (by first | omega | (simp; done) | (simp; omega)) (by first | omega | (simp; done) | (simp; omega)) (by rfl) (by first | omega | (simp; done) | (simp; omega))
    replace hr19 := hr19.symm; subst hr19
    have hil : (insAt x1.f4 ([(⟨n, t⟩ : S188)] : List S188) (Int.toNat v7)).length = x1.f4.length + 1 := by rw [ins_len (by omega)]
    refine CH.call hf18 Try.func190 ⟨rfl, rfl⟩ [(112, 0), (640, 1)] (by kernel_rfl) (by kernel_rfl) (by kernel_rfl) (by kernel_rfl) ?_
    refine go 2 ?_
    refine CH.stN hτ (rows := (L.map d38)) (n := k) (p := 4) (len := 1) (op := [(k, 4, 112)]) (L := [(4, 656, ((insAt x1.f4 ([(⟨n, t⟩ : S188)] : List S188) (Int.toNat v7)).map d188))]) (d38 x1) (by kernel_rfl) (by kernel_rfl) (by rw [List.getElem?_map, hx1]; rfl) ⟨⟨rfl, (by dsimp only; decide), (by dsimp only; decide)⟩, trivial⟩ ⟨flat_d d188 (fun x => rfl), trivial⟩ (by kernel_rfl) ?_
    refine CH.endk ⟨[], [(0, some (.nst 5 38 [(4, 2, 188)] ((L.map d38).set (k) (d38 (⟨x1.f0, x1.f1, x1.f2, x1.f3, (insAt x1.f4 ([(⟨n, t⟩ : S188)] : List S188) (Int.toNat v7))⟩ : S38))) []))], 720⟩ (by kernel_rfl) (by kernel_rfl) (R := fun e s' => fin_ e ∧ ∃ x h1, (fun x' h' => ∃ q0 : List S38, (q0 = L.modify k (fun a => ⟨a.f0, a.f1, a.f2, a.f3, lvW a.f4 n t⟩)) ∧ x' = .tup [] ∧ h' = [(0, some (.nst 5 38 [(4, 2, 188)] (q0.map d38) []))]) x h1 ∧ RetW τ Try.f162.results.toList s' x h1) (s2 := ⟨[], [(0, some (.nst 5 38 [(4, 2, 188)] ((L.set (k) (⟨x1.f0, x1.f1, x1.f2, x1.f3, (insAt x1.f4 ([(⟨n, t⟩ : S188)] : List S188) (Int.toNat v7))⟩ : S38)).map d38) []))], 720⟩) (congrArg (fun z : List (List D) => (⟨[], [(0, some (.nst 5 38 [(4, 2, 188)] z []))], 720⟩ : St)) (show ((L.map d38).set (k) (d38 (⟨x1.f0, x1.f1, x1.f2, x1.f3, (insAt x1.f4 ([(⟨n, t⟩ : S188)] : List S188) (Int.toNat v7))⟩ : S38))) = ((L.set (k) (⟨x1.f0, x1.f1, x1.f2, x1.f3, (insAt x1.f4 ([(⟨n, t⟩ : S188)] : List S188) (Int.toNat v7))⟩ : S38)).map d38) from List.map_set.symm)) ?_
    exact ⟨trivial, _, _, ⟨(L.set (k) (⟨x1.f0, x1.f1, x1.f2, x1.f3, (insAt x1.f4 ([(⟨n, t⟩ : S188)] : List S188) (Int.toNat v7))⟩ : S38)), (by first | exact (set_mod ‹_› (by rw [lv_yes (by omega) ‹_› ‹_› hA])) | exact (set_mod ‹_› (by rw [lv_no hA (by omega) (by omega) (by omega) hB (.inl (by omega))])) | exact (set_mod ‹_› (by rw [lv_no hA (by omega) (by omega) (by omega) hB (.inr ⟨_, ‹_›, ‹_›⟩)]))), rfl, rfl⟩, mkr⟩
 obtain ⟨_, _, ⟨q0, h1_, rfl, rfl⟩, hf⟩ := key
 exact ⟨q0, h1_, hf⟩

theorem i_credited (l : List S38) (s : ByteArray) (n : Int) (hl : l.length ≤ 2000000) : ∃ r0 : List S38, (r0 = credW l s n) ∧ Fn Try.prog 161 [rV 0, .e (.c (.d (.v (.string s)))), iV n] (lookH [(0, some (.nst 5 38 [(4, 2, 188)] (l.map d38) []))]) (rV 64) (lookH [(64, some (.nst 5 38 [(4, 2, 188)] (r0.map d38) []))]) := by
 have key : ∃ x' h', ((fun x' h' => ∃ r0 : List S38, (r0 = credW l s n) ∧ x' = rV 64 ∧ h' = [(64, some (.nst 5 38 [(4, 2, 188)] (r0.map d38) []))])) x' h' ∧ Fn Try.prog 161 [rV 0, .e (.c (.d (.v (.string s)))), iV n] (lookH [(0, some (.nst 5 38 [(4, 2, 188)] (l.map d38) []))]) x' (lookH h') := by
  refine Fn.bodyX (N := 46) hτ Try.func161 rfl rfl rfl rfl ?_
  refine X.weak (Wk.mk' [(64, 0)] (s' := ⟨[(0, rV 64), (1, .e (.c (.d (.v (.string s))))), (2, iV n)], [(64, some (.nst 5 38 [(4, 2, 188)] (l.map d38) []))], 80⟩) (by kernel_rfl) (by kernel_rfl) (by kernel_rfl)) ?_
  refine sk ⟨[(0, rV 64), (1, .e (.c (.d (.v (.string s))))), (2, iV n)], [(64, some (.nst 5 38 [(4, 2, 188)] (l.map d38) []))], 96⟩ ?_
  refine X.seq ?_
  refine X.seq (rs 2 ?_)
  obtain ⟨r1, hr3, hf2⟩ := i_AcctAt l s (by first | assumption | omega)
  replace hr3 := hr3.symm; subst hr3
  have hac := fi_bd (nmP s) l
  change -1 ≤ acAt l s ∧ acAt l s < _ at hac
  refine ca hf2 Try.func12 ?_
  refine go 1 ?_
  refine ek ⟨[(0, rV 64), (1, .e (.c (.d (.v (.string s))))), (2, iV n), (7, iV (acAt l s))], [(64, some (.nst 5 38 [(4, 2, 188)] (l.map d38) []))], 160⟩ ?_
  refine sk ⟨[(0, rV 64), (1, .e (.c (.d (.v (.string s))))), (2, iV n), (7, iV (acAt l s)), (13, bV (decide (((acAt l s) : Int) ≥ 0)))], [(64, some (.nst 5 38 [(4, 2, 188)] (l.map d38) []))], 192⟩ ?_
  refine if_ (b := decide (((acAt l s) : Int) ≥ 0)) (fun hb5 => ?_) (fun hb5 => ?_)
  ·replace hb5 := of_decide_eq_true (hb5)
   refine X.seq (rs 2 ?_)
   refine CH.idxR hτ (rows := (l.map d38)) (n := (acAt l s)) (b := 64) (by kernel_rfl) (by kernel_rfl) (by first | omega | (simp; done) | (simp; omega)) (by simp only [List.length_map, List.length_set]; first | omega | (simp; done) | (simp; omega)) (by kernel_rfl) ?_
   refine go 1 ?_
   obtain ⟨x6, hx6⟩ : ∃ x, l[Int.toNat (acAt l s)]? = some x := ⟨_, List.getElem?_eq_getElem (by first | omega | (simp; done) | (simp; omega))⟩
   refine CH.ldN hτ (rows := (l.map d38)) (n := Int.toNat (acAt l s)) (p := 1) (op := []) (d38 x6) (.v (.int .i64 x6.f1)) (by kernel_rfl) (by kernel_rfl) (by rw [List.getElem?_map, hx6]; rfl) rfl trivial (by kernel_rfl) ?_
   refine go 2 ?_
   refine CH.idxR hτ (rows := (l.map d38)) (n := (acAt l s)) (b := 64) (by kernel_rfl) (by kernel_rfl) (by first | omega | (simp; done) | (simp; omega)) (by simp only [List.length_map, List.length_set]; first | omega | (simp; done) | (simp; omega)) (by kernel_rfl) ?_
   refine go 1 ?_
   refine CH.stN hτ (rows := (l.map d38)) (n := Int.toNat (acAt l s)) (p := 1) (len := 1) (op := []) (L := []) (d38 x6) (by kernel_rfl) (by kernel_rfl) (by rw [List.getElem?_map, hx6]; rfl) trivial trivial (by kernel_rfl) ?_
   refine CH.endk ⟨[(0, rV 64)], [(64, some (.nst 5 38 [(4, 2, 188)] ((l.map d38).set (Int.toNat (acAt l s)) (d38 (⟨x6.f0, wr .i64 (x6.f1 + n), x6.f2, x6.f3, x6.f4⟩ : S38))) []))], 352⟩ (by kernel_rfl) (by kernel_rfl) (s2 := ⟨[(0, rV 64)], [(64, some (.nst 5 38 [(4, 2, 188)] ((l.set (Int.toNat (acAt l s)) (⟨x6.f0, wr .i64 (x6.f1 + n), x6.f2, x6.f3, x6.f4⟩ : S38)).map d38) []))], 352⟩) (congrArg (fun z : List (List D) => (⟨[(0, rV 64)], [(64, some (.nst 5 38 [(4, 2, 188)] z []))], 352⟩ : St)) (show ((l.map d38).set (Int.toNat (acAt l s)) (d38 (⟨x6.f0, wr .i64 (x6.f1 + n), x6.f2, x6.f3, x6.f4⟩ : S38))) = ((l.set (Int.toNat (acAt l s)) (⟨x6.f0, wr .i64 (x6.f1 + n), x6.f2, x6.f3, x6.f4⟩ : S38)).map d38) from List.map_set.symm)) ?_
   refine sk ⟨[(6, rV 64)], [(64, some (.nst 5 38 [(4, 2, 188)] ((l.set (Int.toNat (acAt l s)) (⟨x6.f0, wr .i64 (x6.f1 + n), x6.f2, x6.f3, x6.f4⟩ : S38)).map d38) []))], 384⟩ ?_
   refine X.ret ?_
   exact ⟨trivial, _, _, ⟨(l.set (Int.toNat (acAt l s)) (⟨x6.f0, wr .i64 (x6.f1 + n), x6.f2, x6.f3, x6.f4⟩ : S38)), (by first | exact (cred_yes (by omega) ‹_›) | exact (cred_no (by omega) (by omega) (by omega) hA (.inl (by omega))) | exact (cred_no (by omega) (by omega) (by omega) hA (.inr ⟨_, ‹_›, ‹_›⟩))), rfl, rfl⟩, .inl (Ret.mk' [(64, 64)] (by kernel_rfl) (by kernel_rfl) (by kernel_rfl))⟩
  ·replace hb5 := of_decide_eq_false (hb5)
   refine X.skip ?_
   refine sk ⟨[(0, rV 64), (1, .e (.c (.d (.v (.string s))))), (2, iV n), (8, iV 0)], [(64, some (.nst 5 38 [(4, 2, 188)] (l.map d38) []))], 208⟩ ?_
   refine X.seq ?_
   refine X.block ?_
   -- 6: v8 : Int
   refine X.loop (σ := { g : Int // (fun (v8 : Int) => 0 ≤ v8 ∧ v8 ≤ l.length ∧ Upto (fun _ (y : S38) => Op.bytesLess y.f0.toList s.toList = true) (fun n => l[n]?) v8) g }) (fun g => (fun (v8 : Int) => ⟨[(0, rV 64), (1, .e (.c (.d (.v (.string s))))), (2, iV n), (8, iV v8)], [(64, some (.nst 5 38 [(4, 2, 188)] (l.map d38) []))], 208⟩) g.1) (fun g => (fun (v8 : Int) => (l.length - v8).toNat) g.1) ⟨0, ⟨by first | omega | (dsimp only; omega), by first | omega | (dsimp only; omega), upto_zero⟩⟩ (Wk.less (by kernel_rfl)) (fun g => ?_)
   obtain ⟨v8, hg8⟩ := g
   have hg8 : 0 ≤ v8 ∧ v8 ≤ l.length ∧ Upto (fun _ (y : S38) => Op.bytesLess y.f0.toList s.toList = true) (fun n => l[n]?) v8 := hg8
   obtain ⟨_, _, hA⟩ := hg8
   refine X.seq ?_
   refine X.seq ?_
   have el9 : (l.map d38).length = l.length := List.length_map ..
   refine rs 5 ?_
   rcases Bool.eq_false_or_eq_true (decide ((v8 : Int) < ((l.map d38).length : Int))) with hb10 | hb10
   ·refine aT 27 hb10 ?_
    refine aT 28 hb10 ?_
    replace hb10 := of_decide_eq_true (hb10)
    refine go 2 ?_
    refine CH.idxR hτ (rows := (l.map d38)) (n := v8) (b := 64) (by kernel_rfl) (by kernel_rfl) (by first | omega | (simp; done) | (simp; omega)) (by simp only [List.length_map, List.length_set]; first | omega | (simp; done) | (simp; omega)) (by kernel_rfl) ?_
    refine go 1 ?_
    obtain ⟨x11, hx11⟩ : ∃ x, l[Int.toNat v8]? = some x := ⟨_, List.getElem?_eq_getElem (by first | omega | (simp; done) | (simp; omega))⟩
    refine CH.ldN hτ (rows := (l.map d38)) (n := Int.toNat v8) (p := 0) (op := []) (d38 x11) (.v (.string x11.f0)) (by kernel_rfl) (by kernel_rfl) (by rw [List.getElem?_map, hx11]; rfl) rfl trivial (by kernel_rfl) ?_
    refine go 3 ?_
    refine ek ⟨[(0, rV 64), (1, .e (.c (.d (.v (.string s))))), (2, iV n), (8, iV v8), (36, bV (Op.bytesLess x11.f0.toList s.toList))], [(64, some (.nst 5 38 [(4, 2, 188)] (l.map d38) []))], 416⟩ ?_
    refine if_ (b := (Op.bytesLess x11.f0.toList s.toList)) (fun hb12 => ?_) (fun hb12 => ?_)
    ·refine X.skip ?_
     refine X.block ?_
     refine X.rk ⟨[(0, rV 64), (1, .e (.c (.d (.v (.string s))))), (2, iV n), (8, iV (wrap64 (v8 + 1)))], [(64, some (.nst 5 38 [(4, 2, 188)] (l.map d38) []))], 464⟩ hτ hmix (by kernel_rfl) (by kernel_rfl) (s2 := ⟨[(0, rV 64), (1, .e (.c (.d (.v (.string s))))), (2, iV n), (8, iV (v8 + 1))], [(64, some (.nst 5 38 [(4, 2, 188)] (l.map d38) []))], 464⟩) (congrArg (fun z : Int => (⟨[(0, rV 64), (1, .e (.c (.d (.v (.string s))))), (2, iV n), (8, iV z)], [(64, some (.nst 5 38 [(4, 2, 188)] (l.map d38) []))], 464⟩ : St)) (show wrap64 (v8 + 1) = (v8 + 1) by rw [w64 (n := (v8 + 1)) (by omega) (by omega)])) ?_
     refine ⟨⟨(v8 + 1), ⟨by first | omega | (dsimp only; omega), by first | omega | (dsimp only; omega), upto_nx (by first | omega | (dsimp only; omega)) hA ‹_› ‹_›⟩⟩, by first | exact rfl | omega | (dsimp only; omega) | (simp only [List.length_append, List.length_cons, List.length_nil, List.length_set]; omega) | (simp; done) | (simp; omega), Wk.mk' [(64, 64)] (by kernel_rfl) (by kernel_rfl) (by kernel_rfl)⟩
    ·refine X.exit ?_
     refine X.seq (rs 5 ?_)
     refine CH.ltN hτ (L := []) [(4, 2, 188)] (by kernel_rfl) (by kernel_rfl) trivial (by kernel_rfl) ?_
     obtain ⟨r13, hr15, hf14⟩ := i_insAcct l v8 ([(⟨s, n, 0, 0, []⟩ : S38)] : List S38) (by first | omega | (simp; done) | (simp; omega)) (by first | omega | (simp; done) | (simp; omega)) (by rfl) (by first | omega | (simp; done) | (simp; omega))
     replace hr15 := hr15.symm; subst hr15
     have hil : (insAt l ([(⟨s, n, 0, 0, []⟩ : S38)] : List S38) (Int.toNat v8)).length = l.length + 1 := by rw [ins_len (by omega)]
     refine CH.call hf14 Try.func189 ⟨rfl, rfl⟩ [(64, 0), (496, 1)] (by kernel_rfl) (by kernel_rfl) (by kernel_rfl) (by kernel_rfl) ?_
     refine go 1 ?_
     refine ek ⟨[(6, rV 512)], [(512, some (.nst 5 38 [(4, 2, 188)] ((insAt l ([(⟨s, n, 0, 0, []⟩ : S38)] : List S38) (Int.toNat v8)).map d38) []))], 544⟩ ?_
     refine X.ret ?_
     exact ⟨trivial, _, _, ⟨(insAt l ([(⟨s, n, 0, 0, []⟩ : S38)] : List S38) (Int.toNat v8)), (by first | exact (cred_yes (by omega) ‹_›) | exact (cred_no (by omega) (by omega) (by omega) hA (.inl (by omega))) | exact (cred_no (by omega) (by omega) (by omega) hA (.inr ⟨_, ‹_›, ‹_›⟩))), rfl, rfl⟩, .inl (Ret.mk' [(64, 512)] (by kernel_rfl) (by kernel_rfl) (by kernel_rfl))⟩
   ·refine aF 27 hb10 ?_
    refine aF 28 hb10 ?_
    replace hb10 := of_decide_eq_false (hb10)
    refine go 8 ?_
    refine ek ⟨[(0, rV 64), (1, .e (.c (.d (.v (.string s))))), (2, iV n), (8, iV v8), (36, bV false)], [(64, some (.nst 5 38 [(4, 2, 188)] (l.map d38) []))], 416⟩ ?_
    refine X.ifF (by kernel_rfl) ?_
    refine X.exit ?_
    refine X.seq (rs 5 ?_)
    refine CH.ltN hτ (L := []) [(4, 2, 188)] (by kernel_rfl) (by kernel_rfl) trivial (by kernel_rfl) ?_
    obtain ⟨r17, hr19, hf18⟩ := i_insAcct l v8 ([(⟨s, n, 0, 0, []⟩ : S38)] : List S38) (by first | omega | (simp; done) | (simp; omega)) (by first | omega | (simp; done) | (simp; omega)) (by rfl) (by first | omega | (simp; done) | (simp; omega))
    replace hr19 := hr19.symm; subst hr19
    have hil : (insAt l ([(⟨s, n, 0, 0, []⟩ : S38)] : List S38) (Int.toNat v8)).length = l.length + 1 := by rw [ins_len (by omega)]
    refine CH.call hf18 Try.func189 ⟨rfl, rfl⟩ [(64, 0), (496, 1)] (by kernel_rfl) (by kernel_rfl) (by kernel_rfl) (by kernel_rfl) ?_
    refine go 1 ?_
    refine ek ⟨[(6, rV 512)], [(512, some (.nst 5 38 [(4, 2, 188)] ((insAt l ([(⟨s, n, 0, 0, []⟩ : S38)] : List S38) (Int.toNat v8)).map d38) []))], 544⟩ ?_
    refine X.ret ?_
    exact ⟨trivial, _, _, ⟨(insAt l ([(⟨s, n, 0, 0, []⟩ : S38)] : List S38) (Int.toNat v8)), (by first | exact (cred_yes (by omega) ‹_›) | exact (cred_no (by omega) (by omega) (by omega) hA (.inl (by omega))) | exact (cred_no (by omega) (by omega) (by omega) hA (.inr ⟨_, ‹_›, ‹_›⟩))), rfl, rfl⟩, .inl (Ret.mk' [(64, 512)] (by kernel_rfl) (by kernel_rfl) (by kernel_rfl))⟩
 obtain ⟨_, _, ⟨r0, h1_, rfl, rfl⟩, hf⟩ := key
 exact ⟨r0, h1_, hf⟩

theorem i_done (g : S27) (i : Int) (t : S35) (hg : acsSm g.f1) (hi : 0 ≤ i ∧ i < (g.f1.length : Int)) : ∃ r0 : S27, (r0 = doW g (Int.toNat i) t) ∧ Fn Try.prog 116 [.e (.agg [.d (.v (.int .i64 g.f0)), .ref 0]), iV i, .e (.agg (cD (d35 t)))] (lookH [(0, some (.nst 5 38 [(4, 2, 188)] (g.f1.map d38) []))]) (.e (.agg [.d (.v (.int .i64 r0.f0)), .ref 64])) (lookH [(64, some (.nst 5 38 [(4, 2, 188)] (r0.f1.map d38) []))]) := by
 have key : ∃ x' h', ((fun x' h' => ∃ r0 : S27, (r0 = doW g (Int.toNat i) t) ∧ x' = .e (.agg [.d (.v (.int .i64 r0.f0)), .ref 64]) ∧ h' = [(64, some (.nst 5 38 [(4, 2, 188)] (r0.f1.map d38) []))])) x' h' ∧ Fn Try.prog 116 [.e (.agg [.d (.v (.int .i64 g.f0)), .ref 0]), iV i, .e (.agg (cD (d35 t)))] (lookH [(0, some (.nst 5 38 [(4, 2, 188)] (g.f1.map d38) []))]) x' (lookH h') := by
  refine Fn.bodyX (N := 79) hτ Try.func116 rfl rfl rfl rfl ?_
  refine X.weak (Wk.mk' [(64, 0)] (s' := ⟨[(0, .e (.agg [.d (.v (.int .i64 g.f0)), .ref 64])), (1, iV i), (2, .e (.agg (cD (d35 t))))], [(64, some (.nst 5 38 [(4, 2, 188)] (g.f1.map d38) []))], 80⟩) (by kernel_rfl) (by kernel_rfl) (by kernel_rfl)) ?_
  refine sk ⟨[(1, iV i), (3, .pt 80 0 0), (5, .pt 96 0 0), (6, .pt 112 0 0)], [(64, some (.nst 5 38 [(4, 2, 188)] (g.f1.map d38) [])), (80, some (.box [.d (.v (.int .i64 g.f0)), .ref 64])), (96, some (.box (cD (d35 t)))), (112, some (.box [.d (.v (.int .i64 0)), .nil]))], 128⟩ ?_
  refine X.seq ?_
  have hll := hg.1
  refine rs 3 ?_
  refine CH.idxR hτ (rows := (g.f1.map d38)) (n := i) (b := 64) (by kernel_rfl) (by kernel_rfl) (by first | omega | (simp; done) | (simp; omega)) (by simp only [List.length_map, List.length_set]; first | omega | (simp; done) | (simp; omega)) (by kernel_rfl) ?_
  refine go 1 ?_
  refine ek ⟨[(3, .pt 80 0 0), (5, .pt 96 0 0), (6, .pt 112 0 0), (7, .pt 64 (Int.toNat i) 0)], [(64, some (.nst 5 38 [(4, 2, 188)] (g.f1.map d38) [])), (80, some (.box [.d (.v (.int .i64 g.f0)), .ref 64])), (96, some (.box (cD (d35 t)))), (112, some (.box [.d (.v (.int .i64 0)), .nil]))], 208⟩ ?_
  refine X.seq (rs 3 ?_)
  obtain ⟨x1, hx1⟩ : ∃ x, g.f1[Int.toNat i]? = some x := ⟨_, List.getElem?_eq_getElem (by first | omega | (simp; done) | (simp; omega))⟩
  have hx4 := (all_at hg.2 hx1).2
  refine CH.ldN hτ (rows := (g.f1.map d38)) (n := Int.toNat i) (p := 2) (op := []) (d38 x1) (.v (.int .i64 x1.f2)) (by kernel_rfl) (by kernel_rfl) (by rw [List.getElem?_map, hx1]; rfl) rfl trivial (by kernel_rfl) ?_
  refine go 3 ?_
  refine CH.stN hτ (rows := (g.f1.map d38)) (n := Int.toNat i) (p := 2) (len := 1) (op := []) (L := []) (d38 x1) (by kernel_rfl) (by kernel_rfl) (by rw [List.getElem?_map, hx1]; rfl) trivial trivial (by kernel_rfl) ?_
  refine CH.endk ⟨[(3, .pt 80 0 0), (5, .pt 96 0 0), (6, .pt 112 0 0), (7, .pt 64 (Int.toNat i) 0)], [(64, some (.nst 5 38 [(4, 2, 188)] ((g.f1.map d38).set (Int.toNat i) (d38 (⟨x1.f0, x1.f1, wr .i64 (x1.f2 + 1), x1.f3, x1.f4⟩ : S38))) [])), (80, some (.box [.d (.v (.int .i64 g.f0)), .ref 64])), (96, some (.box (cD (d35 t)))), (112, some (.box [.d (.v (.int .i64 0)), .nil]))], 336⟩ (by kernel_rfl) (by kernel_rfl) (s2 := ⟨[(3, .pt 80 0 0), (5, .pt 96 0 0), (6, .pt 112 0 0), (7, .pt 64 (Int.toNat i) 0)], [(64, some (.nst 5 38 [(4, 2, 188)] ((g.f1.set (Int.toNat i) (⟨x1.f0, x1.f1, wr .i64 (x1.f2 + 1), x1.f3, x1.f4⟩ : S38)).map d38) [])), (80, some (.box [.d (.v (.int .i64 g.f0)), .ref 64])), (96, some (.box (cD (d35 t)))), (112, some (.box [.d (.v (.int .i64 0)), .nil]))], 336⟩) (congrArg (fun z : List (List D) => (⟨[(3, .pt 80 0 0), (5, .pt 96 0 0), (6, .pt 112 0 0), (7, .pt 64 (Int.toNat i) 0)], [(64, some (.nst 5 38 [(4, 2, 188)] z [])), (80, some (.box [.d (.v (.int .i64 g.f0)), .ref 64])), (96, some (.box (cD (d35 t)))), (112, some (.box [.d (.v (.int .i64 0)), .nil]))], 336⟩ : St)) (show ((g.f1.map d38).set (Int.toNat i) (d38 (⟨x1.f0, x1.f1, wr .i64 (x1.f2 + 1), x1.f3, x1.f4⟩ : S38))) = ((g.f1.set (Int.toNat i) (⟨x1.f0, x1.f1, wr .i64 (x1.f2 + 1), x1.f3, x1.f4⟩ : S38)).map d38) from List.map_set.symm)) ?_
  refine X.seq ?_
  refine sk ⟨[(3, .pt 80 0 0), (5, .pt 96 0 0), (6, .pt 112 0 0), (7, .pt 64 (Int.toNat i) 0), (20, iV t.f0)], [(64, some (.nst 5 38 [(4, 2, 188)] ((g.f1.set (Int.toNat i) (⟨x1.f0, x1.f1, wr .i64 (x1.f2 + 1), x1.f3, x1.f4⟩ : S38)).map d38) [])), (80, some (.box [.d (.v (.int .i64 g.f0)), .ref 64])), (96, some (.box (cD (d35 t)))), (112, some (.box [.d (.v (.int .i64 0)), .nil]))], 368⟩ ?_
  refine X.block ?_
  refine sk ⟨[(3, .pt 80 0 0), (5, .pt 96 0 0), (6, .pt 112 0 0), (7, .pt 64 (Int.toNat i) 0), (20, iV t.f0), (21, bV (t.f0 == 1))], [(64, some (.nst 5 38 [(4, 2, 188)] ((g.f1.set (Int.toNat i) (⟨x1.f0, x1.f1, wr .i64 (x1.f2 + 1), x1.f3, x1.f4⟩ : S38)).map d38) [])), (80, some (.box [.d (.v (.int .i64 g.f0)), .ref 64])), (96, some (.box (cD (d35 t)))), (112, some (.box [.d (.v (.int .i64 0)), .nil]))], 400⟩ ?_
  refine if_ (b := (t.f0 == 1)) (fun hb2 => ?_) (fun hb2 => ?_)
  ·replace hb2 := eq_of_beq (hb2)
   refine X.seq (rs 3 ?_)
   obtain ⟨x3, hx3⟩ : ∃ x, (g.f1.set (Int.toNat i) (⟨x1.f0, x1.f1, wr .i64 (x1.f2 + 1), x1.f3, x1.f4⟩ : S38))[Int.toNat i]? = some x := ⟨_, List.getElem?_eq_getElem (by first | omega | (simp; done) | (simp; omega))⟩
   have hq5 := set_eq hx3
   refine CH.ldN hτ (rows := ((g.f1.set (Int.toNat i) (⟨x1.f0, x1.f1, wr .i64 (x1.f2 + 1), x1.f3, x1.f4⟩ : S38)).map d38)) (n := Int.toNat i) (p := 1) (op := []) (d38 x3) (.v (.int .i64 x3.f1)) (by kernel_rfl) (by kernel_rfl) (by rw [List.getElem?_map, hx3]; rfl) rfl trivial (by kernel_rfl) ?_
   refine go 5 ?_
   refine CH.stN hτ (rows := ((g.f1.set (Int.toNat i) (⟨x1.f0, x1.f1, wr .i64 (x1.f2 + 1), x1.f3, x1.f4⟩ : S38)).map d38)) (n := Int.toNat i) (p := 1) (len := 1) (op := []) (L := []) (d38 x3) (by kernel_rfl) (by kernel_rfl) (by rw [List.getElem?_map, hx3]; rfl) trivial trivial (by kernel_rfl) ?_
   refine CH.endk ⟨[(3, .pt 80 0 0), (5, .pt 96 0 0), (6, .pt 112 0 0)], [(64, some (.nst 5 38 [(4, 2, 188)] (((g.f1.set (Int.toNat i) (⟨x1.f0, x1.f1, wr .i64 (x1.f2 + 1), x1.f3, x1.f4⟩ : S38)).map d38).set (Int.toNat i) (d38 (⟨x3.f0, wr .i64 (x3.f1 - t.f3), x3.f2, x3.f3, x3.f4⟩ : S38))) [])), (80, some (.box [.d (.v (.int .i64 g.f0)), .ref 64])), (96, some (.box (cD (d35 t)))), (112, some (.box [.d (.v (.int .i64 0)), .nil]))], 560⟩ (by kernel_rfl) (by kernel_rfl) (s2 := ⟨[(3, .pt 80 0 0), (5, .pt 96 0 0), (6, .pt 112 0 0)], [(64, some (.nst 5 38 [(4, 2, 188)] (((g.f1.set (Int.toNat i) (⟨x1.f0, x1.f1, wr .i64 (x1.f2 + 1), x1.f3, x1.f4⟩ : S38)).set (Int.toNat i) (⟨x3.f0, wr .i64 (x3.f1 - t.f3), x3.f2, x3.f3, x3.f4⟩ : S38)).map d38) [])), (80, some (.box [.d (.v (.int .i64 g.f0)), .ref 64])), (96, some (.box (cD (d35 t)))), (112, some (.box [.d (.v (.int .i64 0)), .nil]))], 560⟩) (congrArg (fun z : List (List D) => (⟨[(3, .pt 80 0 0), (5, .pt 96 0 0), (6, .pt 112 0 0)], [(64, some (.nst 5 38 [(4, 2, 188)] z [])), (80, some (.box [.d (.v (.int .i64 g.f0)), .ref 64])), (96, some (.box (cD (d35 t)))), (112, some (.box [.d (.v (.int .i64 0)), .nil]))], 560⟩ : St)) (show (((g.f1.set (Int.toNat i) (⟨x1.f0, x1.f1, wr .i64 (x1.f2 + 1), x1.f3, x1.f4⟩ : S38)).map d38).set (Int.toNat i) (d38 (⟨x3.f0, wr .i64 (x3.f1 - t.f3), x3.f2, x3.f3, x3.f4⟩ : S38))) = (((g.f1.set (Int.toNat i) (⟨x1.f0, x1.f1, wr .i64 (x1.f2 + 1), x1.f3, x1.f4⟩ : S38)).set (Int.toNat i) (⟨x3.f0, wr .i64 (x3.f1 - t.f3), x3.f2, x3.f3, x3.f4⟩ : S38)).map d38) from List.map_set.symm)) ?_
   refine rs 6 ?_
   obtain ⟨r4, hr6, hf5⟩ := i_credited ((g.f1.set (Int.toNat i) (⟨x1.f0, x1.f1, wr .i64 (x1.f2 + 1), x1.f3, x1.f4⟩ : S38)).set (Int.toNat i) (⟨x3.f0, wr .i64 (x3.f1 - t.f3), x3.f2, x3.f3, x3.f4⟩ : S38)) t.f2 t.f3 (by first | omega | (simp only [List.length_set]; omega))
   replace hr6 := hr6.symm; subst hr6
   refine CH.call hf5 Try.func161 ⟨rfl, rfl⟩ [(64, 0)] (by kernel_rfl) (by kernel_rfl) (by kernel_rfl) (by kernel_rfl) ?_
   refine go 2 ?_
   refine ek ⟨[(3, .pt 80 0 0), (6, .pt 112 0 0)], [(80, some (.box [.d (.v (.int .i64 g.f0)), .ref 656])), (112, some (.box [.d (.v (.int .i64 0)), .nil])), (656, some (.nst 5 38 [(4, 2, 188)] ((credW ((g.f1.set (Int.toNat i) (⟨x1.f0, x1.f1, wr .i64 (x1.f2 + 1), x1.f3, x1.f4⟩ : S38)).set (Int.toNat i) (⟨x3.f0, wr .i64 (x3.f1 - t.f3), x3.f2, x3.f3, x3.f4⟩ : S38)) t.f2 t.f3).map d38) []))], 704⟩ ?_
   refine sk ⟨[(6, .pt 112 0 0)], [(112, some (.box [.d (.v (.int .i64 g.f0)), .ref 656])), (656, some (.nst 5 38 [(4, 2, 188)] ((credW ((g.f1.set (Int.toNat i) (⟨x1.f0, x1.f1, wr .i64 (x1.f2 + 1), x1.f3, x1.f4⟩ : S38)).set (Int.toNat i) (⟨x3.f0, wr .i64 (x3.f1 - t.f3), x3.f2, x3.f3, x3.f4⟩ : S38)) t.f2 t.f3).map d38) []))], 736⟩ ?_
   refine X.ret ?_
   exact ⟨trivial, _, _, ⟨(⟨g.f0, (credW ((g.f1.set (Int.toNat i) (⟨x1.f0, x1.f1, wr .i64 (x1.f2 + 1), x1.f3, x1.f4⟩ : S38)).set (Int.toNat i) (⟨x3.f0, wr .i64 (x3.f1 - t.f3), x3.f2, x3.f3, x3.f4⟩ : S38)) t.f2 t.f3)⟩ : S27), (by first | exact (by subst hq5; rw [List.set_set]; exact do_pay ‹g.f1[_]? = some _› ‹_›) | exact (by subst hq8; subst hq9; rw [List.set_set, List.set_set]; exact do_bond ‹g.f1[_]? = some _› ‹_›) | exact (by subst hq11; rw [List.set_set]; exact do_unb ‹g.f1[_]? = some _› ‹_›) | exact (do_none ‹g.f1[_]? = some _› ‹_› ‹_› ‹_›)), rfl, rfl⟩, .inl (Ret.mk' [(64, 656)] (by kernel_rfl) (by kernel_rfl) (by kernel_rfl))⟩
  ·replace hb2 := beq_eq_false_iff_ne.1 (hb2)
   refine sk ⟨[(3, .pt 80 0 0), (5, .pt 96 0 0), (6, .pt 112 0 0), (7, .pt 64 (Int.toNat i) 0), (20, iV t.f0), (40, bV (t.f0 == 2))], [(64, some (.nst 5 38 [(4, 2, 188)] ((g.f1.set (Int.toNat i) (⟨x1.f0, x1.f1, wr .i64 (x1.f2 + 1), x1.f3, x1.f4⟩ : S38)).map d38) [])), (80, some (.box [.d (.v (.int .i64 g.f0)), .ref 64])), (96, some (.box (cD (d35 t)))), (112, some (.box [.d (.v (.int .i64 0)), .nil]))], 432⟩ ?_
   refine if_ (b := (t.f0 == 2)) (fun hb8 => ?_) (fun hb8 => ?_)
   ·replace hb8 := eq_of_beq (hb8)
    refine X.seq (rs 3 ?_)
    obtain ⟨x9, hx9⟩ : ∃ x, (g.f1.set (Int.toNat i) (⟨x1.f0, x1.f1, wr .i64 (x1.f2 + 1), x1.f3, x1.f4⟩ : S38))[Int.toNat i]? = some x := ⟨_, List.getElem?_eq_getElem (by first | omega | (simp; done) | (simp; omega))⟩
    have hq8 := set_eq hx9
    refine CH.ldN hτ (rows := ((g.f1.set (Int.toNat i) (⟨x1.f0, x1.f1, wr .i64 (x1.f2 + 1), x1.f3, x1.f4⟩ : S38)).map d38)) (n := Int.toNat i) (p := 1) (op := []) (d38 x9) (.v (.int .i64 x9.f1)) (by kernel_rfl) (by kernel_rfl) (by rw [List.getElem?_map, hx9]; rfl) rfl trivial (by kernel_rfl) ?_
    refine go 5 ?_
    refine CH.stN hτ (rows := ((g.f1.set (Int.toNat i) (⟨x1.f0, x1.f1, wr .i64 (x1.f2 + 1), x1.f3, x1.f4⟩ : S38)).map d38)) (n := Int.toNat i) (p := 1) (len := 1) (op := []) (L := []) (d38 x9) (by kernel_rfl) (by kernel_rfl) (by rw [List.getElem?_map, hx9]; rfl) trivial trivial (by kernel_rfl) ?_
    refine CH.endk ⟨[(3, .pt 80 0 0), (5, .pt 96 0 0), (6, .pt 112 0 0), (7, .pt 64 (Int.toNat i) 0)], [(64, some (.nst 5 38 [(4, 2, 188)] (((g.f1.set (Int.toNat i) (⟨x1.f0, x1.f1, wr .i64 (x1.f2 + 1), x1.f3, x1.f4⟩ : S38)).map d38).set (Int.toNat i) (d38 (⟨x9.f0, wr .i64 (x9.f1 - t.f3), x9.f2, x9.f3, x9.f4⟩ : S38))) [])), (80, some (.box [.d (.v (.int .i64 g.f0)), .ref 64])), (96, some (.box (cD (d35 t)))), (112, some (.box [.d (.v (.int .i64 0)), .nil]))], 592⟩ (by kernel_rfl) (by kernel_rfl) (s2 := ⟨[(3, .pt 80 0 0), (5, .pt 96 0 0), (6, .pt 112 0 0), (7, .pt 64 (Int.toNat i) 0)], [(64, some (.nst 5 38 [(4, 2, 188)] (((g.f1.set (Int.toNat i) (⟨x1.f0, x1.f1, wr .i64 (x1.f2 + 1), x1.f3, x1.f4⟩ : S38)).set (Int.toNat i) (⟨x9.f0, wr .i64 (x9.f1 - t.f3), x9.f2, x9.f3, x9.f4⟩ : S38)).map d38) [])), (80, some (.box [.d (.v (.int .i64 g.f0)), .ref 64])), (96, some (.box (cD (d35 t)))), (112, some (.box [.d (.v (.int .i64 0)), .nil]))], 592⟩) (congrArg (fun z : List (List D) => (⟨[(3, .pt 80 0 0), (5, .pt 96 0 0), (6, .pt 112 0 0), (7, .pt 64 (Int.toNat i) 0)], [(64, some (.nst 5 38 [(4, 2, 188)] z [])), (80, some (.box [.d (.v (.int .i64 g.f0)), .ref 64])), (96, some (.box (cD (d35 t)))), (112, some (.box [.d (.v (.int .i64 0)), .nil]))], 592⟩ : St)) (show (((g.f1.set (Int.toNat i) (⟨x1.f0, x1.f1, wr .i64 (x1.f2 + 1), x1.f3, x1.f4⟩ : S38)).map d38).set (Int.toNat i) (d38 (⟨x9.f0, wr .i64 (x9.f1 - t.f3), x9.f2, x9.f3, x9.f4⟩ : S38))) = (((g.f1.set (Int.toNat i) (⟨x1.f0, x1.f1, wr .i64 (x1.f2 + 1), x1.f3, x1.f4⟩ : S38)).set (Int.toNat i) (⟨x9.f0, wr .i64 (x9.f1 - t.f3), x9.f2, x9.f3, x9.f4⟩ : S38)).map d38) from List.map_set.symm)) ?_
    refine rs 3 ?_
    obtain ⟨x10, hx10⟩ : ∃ x, ((g.f1.set (Int.toNat i) (⟨x1.f0, x1.f1, wr .i64 (x1.f2 + 1), x1.f3, x1.f4⟩ : S38)).set (Int.toNat i) (⟨x9.f0, wr .i64 (x9.f1 - t.f3), x9.f2, x9.f3, x9.f4⟩ : S38))[Int.toNat i]? = some x := ⟨_, List.getElem?_eq_getElem (by first | omega | (simp; done) | (simp; omega))⟩
    have hq9 := set_eq hx10
    refine CH.ldN hτ (rows := (((g.f1.set (Int.toNat i) (⟨x1.f0, x1.f1, wr .i64 (x1.f2 + 1), x1.f3, x1.f4⟩ : S38)).set (Int.toNat i) (⟨x9.f0, wr .i64 (x9.f1 - t.f3), x9.f2, x9.f3, x9.f4⟩ : S38)).map d38)) (n := Int.toNat i) (p := 3) (op := []) (d38 x10) (.v (.int .i64 x10.f3)) (by kernel_rfl) (by kernel_rfl) (by rw [List.getElem?_map, hx10]; rfl) rfl trivial (by kernel_rfl) ?_
    refine go 5 ?_
    refine CH.stN hτ (rows := (((g.f1.set (Int.toNat i) (⟨x1.f0, x1.f1, wr .i64 (x1.f2 + 1), x1.f3, x1.f4⟩ : S38)).set (Int.toNat i) (⟨x9.f0, wr .i64 (x9.f1 - t.f3), x9.f2, x9.f3, x9.f4⟩ : S38)).map d38)) (n := Int.toNat i) (p := 3) (len := 1) (op := []) (L := []) (d38 x10) (by kernel_rfl) (by kernel_rfl) (by rw [List.getElem?_map, hx10]; rfl) trivial trivial (by kernel_rfl) ?_
    refine CH.endk ⟨[(3, .pt 80 0 0), (6, .pt 112 0 0)], [(64, some (.nst 5 38 [(4, 2, 188)] ((((g.f1.set (Int.toNat i) (⟨x1.f0, x1.f1, wr .i64 (x1.f2 + 1), x1.f3, x1.f4⟩ : S38)).set (Int.toNat i) (⟨x9.f0, wr .i64 (x9.f1 - t.f3), x9.f2, x9.f3, x9.f4⟩ : S38)).map d38).set (Int.toNat i) (d38 (⟨x10.f0, x10.f1, x10.f2, wr .i64 (x10.f3 + t.f3), x10.f4⟩ : S38))) [])), (80, some (.box [.d (.v (.int .i64 g.f0)), .ref 64])), (112, some (.box [.d (.v (.int .i64 0)), .nil]))], 752⟩ (by kernel_rfl) (by kernel_rfl) (s2 := ⟨[(3, .pt 80 0 0), (6, .pt 112 0 0)], [(64, some (.nst 5 38 [(4, 2, 188)] ((((g.f1.set (Int.toNat i) (⟨x1.f0, x1.f1, wr .i64 (x1.f2 + 1), x1.f3, x1.f4⟩ : S38)).set (Int.toNat i) (⟨x9.f0, wr .i64 (x9.f1 - t.f3), x9.f2, x9.f3, x9.f4⟩ : S38)).set (Int.toNat i) (⟨x10.f0, x10.f1, x10.f2, wr .i64 (x10.f3 + t.f3), x10.f4⟩ : S38)).map d38) [])), (80, some (.box [.d (.v (.int .i64 g.f0)), .ref 64])), (112, some (.box [.d (.v (.int .i64 0)), .nil]))], 752⟩) (congrArg (fun z : List (List D) => (⟨[(3, .pt 80 0 0), (6, .pt 112 0 0)], [(64, some (.nst 5 38 [(4, 2, 188)] z [])), (80, some (.box [.d (.v (.int .i64 g.f0)), .ref 64])), (112, some (.box [.d (.v (.int .i64 0)), .nil]))], 752⟩ : St)) (show ((((g.f1.set (Int.toNat i) (⟨x1.f0, x1.f1, wr .i64 (x1.f2 + 1), x1.f3, x1.f4⟩ : S38)).set (Int.toNat i) (⟨x9.f0, wr .i64 (x9.f1 - t.f3), x9.f2, x9.f3, x9.f4⟩ : S38)).map d38).set (Int.toNat i) (d38 (⟨x10.f0, x10.f1, x10.f2, wr .i64 (x10.f3 + t.f3), x10.f4⟩ : S38))) = ((((g.f1.set (Int.toNat i) (⟨x1.f0, x1.f1, wr .i64 (x1.f2 + 1), x1.f3, x1.f4⟩ : S38)).set (Int.toNat i) (⟨x9.f0, wr .i64 (x9.f1 - t.f3), x9.f2, x9.f3, x9.f4⟩ : S38)).set (Int.toNat i) (⟨x10.f0, x10.f1, x10.f2, wr .i64 (x10.f3 + t.f3), x10.f4⟩ : S38)).map d38) from List.map_set.symm)) ?_
    refine sk ⟨[(6, .pt 112 0 0)], [(64, some (.nst 5 38 [(4, 2, 188)] ((((g.f1.set (Int.toNat i) (⟨x1.f0, x1.f1, wr .i64 (x1.f2 + 1), x1.f3, x1.f4⟩ : S38)).set (Int.toNat i) (⟨x9.f0, wr .i64 (x9.f1 - t.f3), x9.f2, x9.f3, x9.f4⟩ : S38)).set (Int.toNat i) (⟨x10.f0, x10.f1, x10.f2, wr .i64 (x10.f3 + t.f3), x10.f4⟩ : S38)).map d38) [])), (112, some (.box [.d (.v (.int .i64 g.f0)), .ref 64]))], 784⟩ ?_
    refine X.ret ?_
    exact ⟨trivial, _, _, ⟨(⟨g.f0, (((g.f1.set (Int.toNat i) (⟨x1.f0, x1.f1, wr .i64 (x1.f2 + 1), x1.f3, x1.f4⟩ : S38)).set (Int.toNat i) (⟨x9.f0, wr .i64 (x9.f1 - t.f3), x9.f2, x9.f3, x9.f4⟩ : S38)).set (Int.toNat i) (⟨x10.f0, x10.f1, x10.f2, wr .i64 (x10.f3 + t.f3), x10.f4⟩ : S38))⟩ : S27), (by first | exact (by subst hq5; rw [List.set_set]; exact do_pay ‹g.f1[_]? = some _› ‹_›) | exact (by subst hq8; subst hq9; rw [List.set_set, List.set_set]; exact do_bond ‹g.f1[_]? = some _› ‹_›) | exact (by subst hq11; rw [List.set_set]; exact do_unb ‹g.f1[_]? = some _› ‹_›) | exact (do_none ‹g.f1[_]? = some _› ‹_› ‹_› ‹_›)), rfl, rfl⟩, .inl (Ret.mk' [(64, 64)] (by kernel_rfl) (by kernel_rfl) (by kernel_rfl))⟩
   ·replace hb8 := beq_eq_false_iff_ne.1 (hb8)
    refine sk ⟨[(3, .pt 80 0 0), (5, .pt 96 0 0), (6, .pt 112 0 0), (7, .pt 64 (Int.toNat i) 0), (60, bV (t.f0 == 3))], [(64, some (.nst 5 38 [(4, 2, 188)] ((g.f1.set (Int.toNat i) (⟨x1.f0, x1.f1, wr .i64 (x1.f2 + 1), x1.f3, x1.f4⟩ : S38)).map d38) [])), (80, some (.box [.d (.v (.int .i64 g.f0)), .ref 64])), (96, some (.box (cD (d35 t)))), (112, some (.box [.d (.v (.int .i64 0)), .nil]))], 464⟩ ?_
    refine if_ (b := (t.f0 == 3)) (fun hb11 => ?_) (fun hb11 => ?_)
    ·replace hb11 := eq_of_beq (hb11)
     refine X.seq (rs 3 ?_)
     obtain ⟨x12, hx12⟩ : ∃ x, (g.f1.set (Int.toNat i) (⟨x1.f0, x1.f1, wr .i64 (x1.f2 + 1), x1.f3, x1.f4⟩ : S38))[Int.toNat i]? = some x := ⟨_, List.getElem?_eq_getElem (by first | omega | (simp; done) | (simp; omega))⟩
     have hq11 := set_eq hx12
     refine CH.ldN hτ (rows := ((g.f1.set (Int.toNat i) (⟨x1.f0, x1.f1, wr .i64 (x1.f2 + 1), x1.f3, x1.f4⟩ : S38)).map d38)) (n := Int.toNat i) (p := 3) (op := []) (d38 x12) (.v (.int .i64 x12.f3)) (by kernel_rfl) (by kernel_rfl) (by rw [List.getElem?_map, hx12]; rfl) rfl trivial (by kernel_rfl) ?_
     refine go 5 ?_
     refine CH.stN hτ (rows := ((g.f1.set (Int.toNat i) (⟨x1.f0, x1.f1, wr .i64 (x1.f2 + 1), x1.f3, x1.f4⟩ : S38)).map d38)) (n := Int.toNat i) (p := 3) (len := 1) (op := []) (L := []) (d38 x12) (by kernel_rfl) (by kernel_rfl) (by rw [List.getElem?_map, hx12]; rfl) trivial trivial (by kernel_rfl) ?_
     refine CH.endk ⟨[(3, .pt 80 0 0), (5, .pt 96 0 0), (6, .pt 112 0 0), (7, .pt 64 (Int.toNat i) 0)], [(64, some (.nst 5 38 [(4, 2, 188)] (((g.f1.set (Int.toNat i) (⟨x1.f0, x1.f1, wr .i64 (x1.f2 + 1), x1.f3, x1.f4⟩ : S38)).map d38).set (Int.toNat i) (d38 (⟨x12.f0, x12.f1, x12.f2, wr .i64 (x12.f3 - t.f3), x12.f4⟩ : S38))) [])), (80, some (.box [.d (.v (.int .i64 g.f0)), .ref 64])), (96, some (.box (cD (d35 t)))), (112, some (.box [.d (.v (.int .i64 0)), .nil]))], 624⟩ (by kernel_rfl) (by kernel_rfl) (s2 := ⟨[(3, .pt 80 0 0), (5, .pt 96 0 0), (6, .pt 112 0 0), (7, .pt 64 (Int.toNat i) 0)], [(64, some (.nst 5 38 [(4, 2, 188)] (((g.f1.set (Int.toNat i) (⟨x1.f0, x1.f1, wr .i64 (x1.f2 + 1), x1.f3, x1.f4⟩ : S38)).set (Int.toNat i) (⟨x12.f0, x12.f1, x12.f2, wr .i64 (x12.f3 - t.f3), x12.f4⟩ : S38)).map d38) [])), (80, some (.box [.d (.v (.int .i64 g.f0)), .ref 64])), (96, some (.box (cD (d35 t)))), (112, some (.box [.d (.v (.int .i64 0)), .nil]))], 624⟩) (congrArg (fun z : List (List D) => (⟨[(3, .pt 80 0 0), (5, .pt 96 0 0), (6, .pt 112 0 0), (7, .pt 64 (Int.toNat i) 0)], [(64, some (.nst 5 38 [(4, 2, 188)] z [])), (80, some (.box [.d (.v (.int .i64 g.f0)), .ref 64])), (96, some (.box (cD (d35 t)))), (112, some (.box [.d (.v (.int .i64 0)), .nil]))], 624⟩ : St)) (show (((g.f1.set (Int.toNat i) (⟨x1.f0, x1.f1, wr .i64 (x1.f2 + 1), x1.f3, x1.f4⟩ : S38)).map d38).set (Int.toNat i) (d38 (⟨x12.f0, x12.f1, x12.f2, wr .i64 (x12.f3 - t.f3), x12.f4⟩ : S38))) = (((g.f1.set (Int.toNat i) (⟨x1.f0, x1.f1, wr .i64 (x1.f2 + 1), x1.f3, x1.f4⟩ : S38)).set (Int.toNat i) (⟨x12.f0, x12.f1, x12.f2, wr .i64 (x12.f3 - t.f3), x12.f4⟩ : S38)).map d38) from List.map_set.symm)) ?_
     refine rs 6 ?_
     obtain ⟨q13, hr15, hf14⟩ := i_leaves ((g.f1.set (Int.toNat i) (⟨x1.f0, x1.f1, wr .i64 (x1.f2 + 1), x1.f3, x1.f4⟩ : S38)).set (Int.toNat i) (⟨x12.f0, x12.f1, x12.f2, wr .i64 (x12.f3 - t.f3), x12.f4⟩ : S38)) (Int.toNat i) t.f3 (wr .i64 (g.f0 + 2)) (by (simp only [List.length_set]; omega)) (by (subst hq11; refine all_set (p := fun y : S38 => y.f4.length ≤ 2000000) (all_set (p := fun y : S38 => y.f4.length ≤ 2000000) (fun y hy => (hg.2 y hy).2) ?_) ?_ <;> exact hx4))
     replace hr15 := hr15.symm; subst hr15
     have hml : (((g.f1.set (Int.toNat i) (⟨x1.f0, x1.f1, wr .i64 (x1.f2 + 1), x1.f3, x1.f4⟩ : S38)).set (Int.toNat i) (⟨x12.f0, x12.f1, x12.f2, wr .i64 (x12.f3 - t.f3), x12.f4⟩ : S38)).modify (Int.toNat i) (fun a => ⟨a.f0, a.f1, a.f2, a.f3, lvW a.f4 t.f3 (wr .i64 (g.f0 + 2))⟩)).length = ((g.f1.set (Int.toNat i) (⟨x1.f0, x1.f1, wr .i64 (x1.f2 + 1), x1.f3, x1.f4⟩ : S38)).set (Int.toNat i) (⟨x12.f0, x12.f1, x12.f2, wr .i64 (x12.f3 - t.f3), x12.f4⟩ : S38)).length := List.length_modify ..
     refine CH.callG hf14 Try.func162 ⟨rfl, rfl⟩ [(64, 0)] (by kernel_rfl) (by kernel_rfl) (by kernel_rfl) (nb := true) (fun _ => (back_consN 5 38 [(4, 2, 188)] (((g.f1.set (Int.toNat i) (⟨x1.f0, x1.f1, wr .i64 (x1.f2 + 1), x1.f3, x1.f4⟩ : S38)).set (Int.toNat i) (⟨x12.f0, x12.f1, x12.f2, wr .i64 (x12.f3 - t.f3), x12.f4⟩ : S38)).map d38) 38 [(4, 2, 188)] ((((g.f1.set (Int.toNat i) (⟨x1.f0, x1.f1, wr .i64 (x1.f2 + 1), x1.f3, x1.f4⟩ : S38)).set (Int.toNat i) (⟨x12.f0, x12.f1, x12.f2, wr .i64 (x12.f3 - t.f3), x12.f4⟩ : S38)).modify (Int.toNat i) (fun a => ⟨a.f0, a.f1, a.f2, a.f3, lvW a.f4 t.f3 (wr .i64 (g.f0 + 2))⟩)).map d38) (by kernel_rfl) (by kernel_rfl) (by first | (simp; done) | (simp only [List.length_map]; first | assumption | omega) | (simp; omega)) back_nil)) (by kernel_rfl) ?_
     refine ek ⟨[(3, .pt 80 0 0), (6, .pt 112 0 0)], [(64, some (.nst 5 38 [(4, 2, 188)] ((((g.f1.set (Int.toNat i) (⟨x1.f0, x1.f1, wr .i64 (x1.f2 + 1), x1.f3, x1.f4⟩ : S38)).set (Int.toNat i) (⟨x12.f0, x12.f1, x12.f2, wr .i64 (x12.f3 - t.f3), x12.f4⟩ : S38)).modify (Int.toNat i) (fun a => ⟨a.f0, a.f1, a.f2, a.f3, lvW a.f4 t.f3 (wr .i64 (g.f0 + 2))⟩)).map d38) [])), (80, some (.box [.d (.v (.int .i64 g.f0)), .ref 64])), (112, some (.box [.d (.v (.int .i64 0)), .nil]))], 736⟩ ?_
     refine sk ⟨[(6, .pt 112 0 0)], [(64, some (.nst 5 38 [(4, 2, 188)] ((((g.f1.set (Int.toNat i) (⟨x1.f0, x1.f1, wr .i64 (x1.f2 + 1), x1.f3, x1.f4⟩ : S38)).set (Int.toNat i) (⟨x12.f0, x12.f1, x12.f2, wr .i64 (x12.f3 - t.f3), x12.f4⟩ : S38)).modify (Int.toNat i) (fun a => ⟨a.f0, a.f1, a.f2, a.f3, lvW a.f4 t.f3 (wr .i64 (g.f0 + 2))⟩)).map d38) [])), (112, some (.box [.d (.v (.int .i64 g.f0)), .ref 64]))], 768⟩ ?_
     refine X.ret ?_
     exact ⟨trivial, _, _, ⟨(⟨g.f0, (((g.f1.set (Int.toNat i) (⟨x1.f0, x1.f1, wr .i64 (x1.f2 + 1), x1.f3, x1.f4⟩ : S38)).set (Int.toNat i) (⟨x12.f0, x12.f1, x12.f2, wr .i64 (x12.f3 - t.f3), x12.f4⟩ : S38)).modify (Int.toNat i) (fun a => ⟨a.f0, a.f1, a.f2, a.f3, lvW a.f4 t.f3 (wr .i64 (g.f0 + 2))⟩))⟩ : S27), (by first | exact (by subst hq5; rw [List.set_set]; exact do_pay ‹g.f1[_]? = some _› ‹_›) | exact (by subst hq8; subst hq9; rw [List.set_set, List.set_set]; exact do_bond ‹g.f1[_]? = some _› ‹_›) | exact (by subst hq11; rw [List.set_set]; exact do_unb ‹g.f1[_]? = some _› ‹_›) | exact (do_none ‹g.f1[_]? = some _› ‹_› ‹_› ‹_›)), rfl, rfl⟩, .inl (Ret.mk' [(64, 64)] (by kernel_rfl) (by kernel_rfl) (by kernel_rfl))⟩
    ·replace hb11 := beq_eq_false_iff_ne.1 (hb11)
     refine X.skip ?_
     refine sk ⟨[(6, .pt 112 0 0)], [(64, some (.nst 5 38 [(4, 2, 188)] ((g.f1.set (Int.toNat i) (⟨x1.f0, x1.f1, wr .i64 (x1.f2 + 1), x1.f3, x1.f4⟩ : S38)).map d38) [])), (112, some (.box [.d (.v (.int .i64 g.f0)), .ref 64]))], 496⟩ ?_
     refine X.ret ?_
     exact ⟨trivial, _, _, ⟨(⟨g.f0, (g.f1.set (Int.toNat i) (⟨x1.f0, x1.f1, wr .i64 (x1.f2 + 1), x1.f3, x1.f4⟩ : S38))⟩ : S27), (by first | exact (by subst hq5; rw [List.set_set]; exact do_pay ‹g.f1[_]? = some _› ‹_›) | exact (by subst hq8; subst hq9; rw [List.set_set, List.set_set]; exact do_bond ‹g.f1[_]? = some _› ‹_›) | exact (by subst hq11; rw [List.set_set]; exact do_unb ‹g.f1[_]? = some _› ‹_›) | exact (do_none ‹g.f1[_]? = some _› ‹_› ‹_› ‹_›)), rfl, rfl⟩, .inl (Ret.mk' [(64, 64)] (by kernel_rfl) (by kernel_rfl) (by kernel_rfl))⟩
 obtain ⟨_, _, ⟨r0, h1_, rfl, rfl⟩, hf⟩ := key
 exact ⟨r0, h1_, hf⟩

theorem i_Apply (g : S27) (t : S35) (hg : acsSm g.f1) (ht : Sm35 t) : ∃ r0 : S27, ∃ r1 : Int, (r0 = (apW g t).1 ∧ r1 = (apW g t).2) ∧ Fn Try.prog 46 [.e (.agg [.d (.v (.int .i64 g.f0)), .d (.sl (g.f1.map d38))]), .e (.agg (cD (d35 t)))] (lookH []) (.tup [.agg [.d (.v (.int .i64 r0.f0)), .ref 64], .c (.d (.v (.int .i64 r1)))]) (lookH [(64, some (.nst 5 38 [(4, 2, 188)] (r0.f1.map d38) []))]) := by
 have key : ∃ x' h', ((fun x' h' => ∃ r0 : S27, ∃ r1 : Int, (r0 = (apW g t).1 ∧ r1 = (apW g t).2) ∧ x' = .tup [.agg [.d (.v (.int .i64 r0.f0)), .ref 64], .c (.d (.v (.int .i64 r1)))] ∧ h' = [(64, some (.nst 5 38 [(4, 2, 188)] (r0.f1.map d38) []))])) x' h' ∧ Fn Try.prog 46 [.e (.agg [.d (.v (.int .i64 g.f0)), .d (.sl (g.f1.map d38))]), .e (.agg (cD (d35 t)))] (lookH []) x' (lookH h') := by
  refine Fn.bodyX (N := 65) hτ Try.func46 rfl rfl rfl rfl ?_
  refine sk ⟨[(2, .pt 64 0 0), (3, .pt 80 0 0), (4, .pt 96 0 0)], [(64, some (.box [.d (.v (.int .i64 g.f0)), .d (.sl (g.f1.map d38))])), (80, some (.box (cD (d35 t)))), (96, some (.box [.d (.v (.int .i64 0)), .nil]))], 128⟩ ?_
  refine X.seq ?_
  have hll := hg.1
  refine rs 4 ?_
  obtain ⟨r1, hr3, hf2⟩ := i_AcctAt g.f1 t.f1 (by first | assumption | omega)
  replace hr3 := hr3.symm; subst hr3
  have hac := fi_bd (nmP t.f1) g.f1
  change -1 ≤ acAt g.f1 t.f1 ∧ acAt g.f1 t.f1 < _ at hac
  refine ca hf2 Try.func12 ?_
  refine go 1 ?_
  refine ek ⟨[(2, .pt 64 0 0), (3, .pt 80 0 0), (4, .pt 96 0 0), (6, iV (acAt g.f1 t.f1))], [(64, some (.box [.d (.v (.int .i64 g.f0)), .d (.sl (g.f1.map d38))])), (80, some (.box (cD (d35 t)))), (96, some (.box [.d (.v (.int .i64 0)), .nil]))], 224⟩ ?_
  refine X.seq ?_
  refine X.block ?_
  refine X.seq (rs 1 ?_)
  obtain ⟨r5, hr7, hf6⟩ := i_LedgerOk g (by assumption)
  replace hr7 := hr7.symm; subst hr7
  refine ca hf6 Try.func91 ?_
  refine go 2 ?_
  rcases Bool.eq_false_or_eq_true (!(ledgerOk g)) with hb9 | hb9
  ·refine aT 16 hb9 ?_
   refine aT 17 hb9 ?_
   replace hb9 := bnot_yes (hb9)
   refine go 5 ?_
   refine ek ⟨[(2, .pt 64 0 0), (3, .pt 80 0 0), (4, .pt 96 0 0), (6, iV (acAt g.f1 t.f1)), (13, bV true)], [(64, some (.box [.d (.v (.int .i64 g.f0)), .d (.sl (g.f1.map d38))])), (80, some (.box (cD (d35 t)))), (96, some (.box [.d (.v (.int .i64 0)), .nil]))], 368⟩ ?_
   refine X.ifT (by kernel_rfl) ?_
   refine X.seq (rs 1 ?_)
   obtain ⟨r10, hr12, hf11⟩ := i_copyLedger g (by assumption)
   replace hr12 := hr12.symm; subst hr12
   refine ca hf11 Try.func47 ?_
   refine go 2 ?_
   refine ek ⟨[(4, .pt 96 0 0), (5, iV 1)], [(96, some (.box [.d (.v (.int .i64 g.f0)), .ref 384])), (384, some (.nst 5 38 [(4, 2, 188)] (g.f1.map d38) []))], 432⟩ ?_
   refine X.ret ?_
   exact ⟨trivial, _, _, ⟨g, 1, (by first | exact (ap_form (.inl ‹_›)) | exact (ap_form (.inr ‹_›)) | exact (ap_none ‹_› ‹_› ‹_›) | exact (ap_nonce ‹_› ‹_› ‹_› ‹_› ‹_›) | exact (ap_short ‹_› ‹_› ‹_› ‹_› ‹_› ‹_›) | exact (ap_full ‹_› ‹_› ‹_› ‹_› ‹_› ‹_› ‹_›) | exact (ap_good ‹_› ‹_› ‹_› ‹_› ‹_› ‹_› ‹_›)), rfl, rfl⟩, .inl (Ret.mk' [(64, 384)] (by kernel_rfl) (by kernel_rfl) (by kernel_rfl))⟩
  ·refine aF 16 hb9 ?_
   refine aF 17 hb9 ?_
   replace hb9 := bnot_no (hb9)
   refine go 1 ?_
   obtain ⟨r14, hr16, hf15⟩ := i_TxOk t (by assumption)
   replace hr16 := hr16.symm; subst hr16
   refine ca hf15 Try.func114 ?_
   refine go 3 ?_
   refine ek ⟨[(2, .pt 64 0 0), (3, .pt 80 0 0), (4, .pt 96 0 0), (6, iV (acAt g.f1 t.f1)), (13, bV (!(txOk t)))], [(64, some (.box [.d (.v (.int .i64 g.f0)), .d (.sl (g.f1.map d38))])), (80, some (.box (cD (d35 t)))), (96, some (.box [.d (.v (.int .i64 0)), .nil]))], 368⟩ ?_
   refine if_ (b := !(txOk t)) (fun hb18 => ?_) (fun hb18 => ?_)
   ·replace hb18 := bnot_yes (hb18)
    refine X.seq (rs 1 ?_)
    obtain ⟨r19, hr21, hf20⟩ := i_copyLedger g (by assumption)
    replace hr21 := hr21.symm; subst hr21
    refine ca hf20 Try.func47 ?_
    refine go 2 ?_
    refine ek ⟨[(4, .pt 96 0 0), (5, iV 1)], [(96, some (.box [.d (.v (.int .i64 g.f0)), .ref 384])), (384, some (.nst 5 38 [(4, 2, 188)] (g.f1.map d38) []))], 432⟩ ?_
    refine X.ret ?_
    exact ⟨trivial, _, _, ⟨g, 1, (by first | exact (ap_form (.inl ‹_›)) | exact (ap_form (.inr ‹_›)) | exact (ap_none ‹_› ‹_› ‹_›) | exact (ap_nonce ‹_› ‹_› ‹_› ‹_› ‹_›) | exact (ap_short ‹_› ‹_› ‹_› ‹_› ‹_› ‹_›) | exact (ap_full ‹_› ‹_› ‹_› ‹_› ‹_› ‹_› ‹_›) | exact (ap_good ‹_› ‹_› ‹_› ‹_› ‹_› ‹_› ‹_›)), rfl, rfl⟩, .inl (Ret.mk' [(64, 384)] (by kernel_rfl) (by kernel_rfl) (by kernel_rfl))⟩
   ·replace hb18 := bnot_no (hb18)
    refine sk ⟨[(2, .pt 64 0 0), (3, .pt 80 0 0), (4, .pt 96 0 0), (6, iV (acAt g.f1 t.f1)), (24, bV (decide (((acAt g.f1 t.f1) : Int) < 0)))], [(64, some (.box [.d (.v (.int .i64 g.f0)), .d (.sl (g.f1.map d38))])), (80, some (.box (cD (d35 t)))), (96, some (.box [.d (.v (.int .i64 0)), .nil]))], 416⟩ ?_
    refine if_ (b := decide (((acAt g.f1 t.f1) : Int) < 0)) (fun hb23 => ?_) (fun hb23 => ?_)
    ·replace hb23 := of_decide_eq_true (hb23)
     refine X.seq (rs 1 ?_)
     obtain ⟨r24, hr26, hf25⟩ := i_copyLedger g (by assumption)
     replace hr26 := hr26.symm; subst hr26
     refine ca hf25 Try.func47 ?_
     refine go 2 ?_
     refine ek ⟨[(4, .pt 96 0 0), (5, iV 2)], [(96, some (.box [.d (.v (.int .i64 g.f0)), .ref 432])), (432, some (.nst 5 38 [(4, 2, 188)] (g.f1.map d38) []))], 480⟩ ?_
     refine X.ret ?_
     exact ⟨trivial, _, _, ⟨g, 2, (by first | exact (ap_form (.inl ‹_›)) | exact (ap_form (.inr ‹_›)) | exact (ap_none ‹_› ‹_› ‹_›) | exact (ap_nonce ‹_› ‹_› ‹_› ‹_› ‹_›) | exact (ap_short ‹_› ‹_› ‹_› ‹_› ‹_› ‹_›) | exact (ap_full ‹_› ‹_› ‹_› ‹_› ‹_› ‹_› ‹_›) | exact (ap_good ‹_› ‹_› ‹_› ‹_› ‹_› ‹_› ‹_›)), rfl, rfl⟩, .inl (Ret.mk' [(64, 432)] (by kernel_rfl) (by kernel_rfl) (by kernel_rfl))⟩
    ·replace hb23 := of_decide_eq_false (hb23)
     refine X.seq (rs 5 ?_)
     obtain ⟨x28, hx28⟩ : ∃ x, g.f1[Int.toNat (acAt g.f1 t.f1)]? = some x := ⟨_, List.getElem?_eq_getElem (by first | omega | (simp; done) | (simp; omega))⟩
     refine CH.idx hτ (d38 x28) (rows := (g.f1.map d38)) (n := (acAt g.f1 t.f1)) (sz := 5) (by kernel_rfl) (by kernel_rfl) (by first | omega | (simp; done) | (simp; omega)) (by rw [List.getElem?_map, hx28]; rfl) (by kernel_rfl) ?_
     refine go 4 ?_
     refine ek ⟨[(2, .pt 64 0 0), (3, .pt 80 0 0), (4, .pt 96 0 0), (6, iV (acAt g.f1 t.f1)), (29, bV (t.f4 != x28.f2))], [(64, some (.box [.d (.v (.int .i64 g.f0)), .d (.sl (g.f1.map d38))])), (80, some (.box (cD (d35 t)))), (96, some (.box [.d (.v (.int .i64 0)), .nil]))], 576⟩ ?_
     refine if_ (b := (t.f4 != x28.f2)) (fun hb29 => ?_) (fun hb29 => ?_)
     ·replace hb29 := bne_iff_ne.1 (hb29)
      refine X.seq (rs 1 ?_)
      obtain ⟨r30, hr32, hf31⟩ := i_copyLedger g (by assumption)
      replace hr32 := hr32.symm; subst hr32
      refine ca hf31 Try.func47 ?_
      refine go 2 ?_
      refine ek ⟨[(4, .pt 96 0 0), (5, iV 3)], [(96, some (.box [.d (.v (.int .i64 g.f0)), .ref 592])), (592, some (.nst 5 38 [(4, 2, 188)] (g.f1.map d38) []))], 640⟩ ?_
      refine X.ret ?_
      exact ⟨trivial, _, _, ⟨g, 3, (by first | exact (ap_form (.inl ‹_›)) | exact (ap_form (.inr ‹_›)) | exact (ap_none ‹_› ‹_› ‹_›) | exact (ap_nonce ‹_› ‹_› ‹_› ‹_› ‹_›) | exact (ap_short ‹_› ‹_› ‹_› ‹_› ‹_› ‹_›) | exact (ap_full ‹_› ‹_› ‹_› ‹_› ‹_› ‹_› ‹_›) | exact (ap_good ‹_› ‹_› ‹_› ‹_› ‹_› ‹_› ‹_›)), rfl, rfl⟩, .inl (Ret.mk' [(64, 592)] (by kernel_rfl) (by kernel_rfl) (by kernel_rfl))⟩
     ·replace hb29 := bne_eq_false_iff_eq.1 (hb29)
      refine X.seq (rs 3 ?_)
      refine CH.idx hτ (d38 x28) (rows := (g.f1.map d38)) (n := (acAt g.f1 t.f1)) (sz := 5) (by kernel_rfl) (by kernel_rfl) (by first | omega | (simp; done) | (simp; omega)) (by rw [List.getElem?_map, hx28]; rfl) (by kernel_rfl) ?_
      refine go 2 ?_
      obtain ⟨r34, hr36, hf35⟩ := i_has x28 t.f0
      replace hr36 := hr36.symm; subst hr36
      refine ca hf35 Try.func115 ?_
      refine go 4 ?_
      refine ek ⟨[(2, .pt 64 0 0), (3, .pt 80 0 0), (4, .pt 96 0 0), (6, iV (acAt g.f1 t.f1)), (41, bV (decide (((hasW x28 t.f0) : Int) < t.f3)))], [(64, some (.box [.d (.v (.int .i64 g.f0)), .d (.sl (g.f1.map d38))])), (80, some (.box (cD (d35 t)))), (96, some (.box [.d (.v (.int .i64 0)), .nil]))], 752⟩ ?_
      refine if_ (b := decide (((hasW x28 t.f0) : Int) < t.f3)) (fun hb38 => ?_) (fun hb38 => ?_)
      ·replace hb38 := of_decide_eq_true (hb38)
       refine X.seq (rs 1 ?_)
       obtain ⟨r39, hr41, hf40⟩ := i_copyLedger g (by assumption)
       replace hr41 := hr41.symm; subst hr41
       refine ca hf40 Try.func47 ?_
       refine go 2 ?_
       refine ek ⟨[(4, .pt 96 0 0), (5, iV 4)], [(96, some (.box [.d (.v (.int .i64 g.f0)), .ref 768])), (768, some (.nst 5 38 [(4, 2, 188)] (g.f1.map d38) []))], 816⟩ ?_
       refine X.ret ?_
       exact ⟨trivial, _, _, ⟨g, 4, (by first | exact (ap_form (.inl ‹_›)) | exact (ap_form (.inr ‹_›)) | exact (ap_none ‹_› ‹_› ‹_›) | exact (ap_nonce ‹_› ‹_› ‹_› ‹_› ‹_›) | exact (ap_short ‹_› ‹_› ‹_› ‹_› ‹_› ‹_›) | exact (ap_full ‹_› ‹_› ‹_› ‹_› ‹_› ‹_› ‹_›) | exact (ap_good ‹_› ‹_› ‹_› ‹_› ‹_› ‹_› ‹_›)), rfl, rfl⟩, .inl (Ret.mk' [(64, 768)] (by kernel_rfl) (by kernel_rfl) (by kernel_rfl))⟩
      ·replace hb38 := of_decide_eq_false (hb38)
       refine X.skip ?_
       refine X.seq (rs 1 ?_)
       obtain ⟨r43, hr45, hf44⟩ := i_copyLedger g (by assumption)
       replace hr45 := hr45.symm; subst hr45
       refine ca hf44 Try.func47 ?_
       refine go 2 ?_
       obtain ⟨r47, hr49, hf48⟩ := i_done g (acAt g.f1 t.f1) t (by assumption) (by first | assumption | omega)
       replace hr49 := hr49.symm; subst hr49
       refine CH.call hf48 Try.func116 ⟨rfl, rfl⟩ [(768, 0)] (by kernel_rfl) (by kernel_rfl) (by kernel_rfl) (by kernel_rfl) ?_
       refine go 2 ?_
       refine ek ⟨[(2, .pt 64 0 0), (4, .pt 96 0 0), (7, .pt 832 0 0)], [(64, some (.box [.d (.v (.int .i64 g.f0)), .d (.sl (g.f1.map d38))])), (96, some (.box [.d (.v (.int .i64 0)), .nil])), (816, some (.nst 5 38 [(4, 2, 188)] ((((doW g (Int.toNat (acAt g.f1 t.f1)) t)).f1).map d38) [])), (832, some (.box [.d (.v (.int .i64 (((doW g (Int.toNat (acAt g.f1 t.f1)) t)).f0))), .ref 816]))], 864⟩ ?_
       refine X.seq ?_
       refine X.seq (rs 1 ?_)
       obtain ⟨r51, hr53, hf52⟩ := i_LedgerOk ((doW g (Int.toNat (acAt g.f1 t.f1)) t)) (by exact acs_do' ‹_› hg ht)
       replace hr53 := hr53.symm; subst hr53
       refine ca hf52 Try.func91 ?_
       refine go 1 ?_
       refine ek ⟨[(2, .pt 64 0 0), (4, .pt 96 0 0), (7, .pt 832 0 0), (61, bV (!(ledgerOk ((doW g (Int.toNat (acAt g.f1 t.f1)) t)))))], [(64, some (.box [.d (.v (.int .i64 g.f0)), .d (.sl (g.f1.map d38))])), (96, some (.box [.d (.v (.int .i64 0)), .nil])), (816, some (.nst 5 38 [(4, 2, 188)] ((((doW g (Int.toNat (acAt g.f1 t.f1)) t)).f1).map d38) [])), (832, some (.box [.d (.v (.int .i64 (((doW g (Int.toNat (acAt g.f1 t.f1)) t)).f0))), .ref 816]))], 912⟩ ?_
       refine if_ (b := !(ledgerOk ((doW g (Int.toNat (acAt g.f1 t.f1)) t)))) (fun hb55 => ?_) (fun hb55 => ?_)
       ·replace hb55 := bnot_yes (hb55)
        refine X.seq (rs 1 ?_)
        obtain ⟨r56, hr58, hf57⟩ := i_copyLedger g (by assumption)
        replace hr58 := hr58.symm; subst hr58
        refine ca hf57 Try.func47 ?_
        refine go 2 ?_
        refine ek ⟨[(4, .pt 96 0 0), (5, iV 5)], [(96, some (.box [.d (.v (.int .i64 g.f0)), .ref 928])), (928, some (.nst 5 38 [(4, 2, 188)] (g.f1.map d38) []))], 976⟩ ?_
        refine X.ret ?_
        exact ⟨trivial, _, _, ⟨g, 5, (by first | exact (ap_form (.inl ‹_›)) | exact (ap_form (.inr ‹_›)) | exact (ap_none ‹_› ‹_› ‹_›) | exact (ap_nonce ‹_› ‹_› ‹_› ‹_› ‹_›) | exact (ap_short ‹_› ‹_› ‹_› ‹_› ‹_› ‹_›) | exact (ap_full ‹_› ‹_› ‹_› ‹_› ‹_› ‹_› ‹_›) | exact (ap_good ‹_› ‹_› ‹_› ‹_› ‹_› ‹_› ‹_›)), rfl, rfl⟩, .inl (Ret.mk' [(64, 928)] (by kernel_rfl) (by kernel_rfl) (by kernel_rfl))⟩
       ·replace hb55 := bnot_no (hb55)
        refine X.skip ?_
        refine sk ⟨[(4, .pt 96 0 0), (5, iV 0)], [(96, some (.box [.d (.v (.int .i64 (((doW g (Int.toNat (acAt g.f1 t.f1)) t)).f0))), .ref 816])), (816, some (.nst 5 38 [(4, 2, 188)] ((((doW g (Int.toNat (acAt g.f1 t.f1)) t)).f1).map d38) []))], 960⟩ ?_
        refine X.ret ?_
        exact ⟨trivial, _, _, ⟨((doW g (Int.toNat (acAt g.f1 t.f1)) t)), 0, (by first | exact (ap_form (.inl ‹_›)) | exact (ap_form (.inr ‹_›)) | exact (ap_none ‹_› ‹_› ‹_›) | exact (ap_nonce ‹_› ‹_› ‹_› ‹_› ‹_›) | exact (ap_short ‹_› ‹_› ‹_› ‹_› ‹_› ‹_›) | exact (ap_full ‹_› ‹_› ‹_› ‹_› ‹_› ‹_› ‹_›) | exact (ap_good ‹_› ‹_› ‹_› ‹_› ‹_› ‹_› ‹_›)), rfl, rfl⟩, .inl (Ret.mk' [(64, 816)] (by kernel_rfl) (by kernel_rfl) (by kernel_rfl))⟩
 obtain ⟨_, _, ⟨r0, r1, h1_, rfl, rfl⟩, hf⟩ := key
 exact ⟨r0, r1, h1_, hf⟩

theorem s_l4Copy (l : List S38) (hl : acsSm l) : ∃ r0 : List S38, (r0 = l) ∧ Fn Try.prog 148 [lV (l.map d38)] (lookH []) (rV 64) (lookH [(64, some (.row 5 38 (r0.map d38) false true))]) := by
 have key : ∃ x' h', ((fun x' h' => ∃ r0 : List S38, (r0 = l) ∧ x' = rV 64 ∧ h' = [(64, some (.row 5 38 (r0.map d38) false true))])) x' h' ∧ Fn Try.prog 148 [lV (l.map d38)] (lookH []) x' (lookH h') := by
  refine Fn.bodyX (N := 27) hτ Try.func148 rfl rfl rfl rfl ?_
  refine sk ⟨[(0, lV (l.map d38))], [], 80⟩ ?_
  refine sk ⟨[(0, lV (l.map d38)), (3, rV 80)], [(80, some (.row 5 38 [] false true))], 112⟩ ?_
  refine X.seq ?_
  refine X.seq ?_
  have hll := hl.1
  refine rk ⟨[(0, lV (l.map d38)), (3, rV 80), (4, iV 0)], [(80, some (.row 5 38 [] false true))], 128⟩ ?_
  refine X.block ?_
  -- 3: Lv3 : List S38, v4 : Int
  refine X.loop (σ := { g : (List S38) × Int // (fun (Lv3 : List S38) (v4 : Int) => 0 ≤ v4 ∧ v4 ≤ l.length ∧ Lv3 = l.take v4.toNat) g.1 g.2 }) (fun g => (fun (Lv3 : List S38) (v4 : Int) => ⟨[(0, lV (l.map d38)), (3, rV 80), (4, iV v4)], [(80, some (.row 5 38 (Lv3.map d38) false true))], 128⟩) g.1.1 g.1.2) (fun g => (fun (Lv3 : List S38) (v4 : Int) => (l.length - v4).toNat) g.1.1 g.1.2) ⟨([], 0), ⟨by first | omega | (dsimp only; omega), by first | omega | (dsimp only; omega), by simp⟩⟩ (Wk.less (by kernel_rfl)) (fun g => ?_)
  obtain ⟨⟨Lv3, v4⟩, hg2⟩ := g
  have hg2 : 0 ≤ v4 ∧ v4 ≤ l.length ∧ Lv3 = l.take v4.toNat := hg2
  obtain ⟨_, _, hL⟩ := hg2
  refine X.seq ?_
  refine X.seq ?_
  have el3 : (l.map d38).length = l.length := List.length_map ..
  refine rk ⟨[(0, lV (l.map d38)), (3, rV 80), (4, iV v4), (10, bV (decide ((v4 : Int) < ((l.map d38).length : Int))))], [(80, some (.row 5 38 (Lv3.map d38) false true))], 192⟩ ?_
  refine if_ (b := decide ((v4 : Int) < ((l.map d38).length : Int))) (fun hb4 => ?_) (fun hb4 => ?_)
  ·replace hb4 := of_decide_eq_true (hb4)
   refine X.skip ?_
   refine X.seq ?_
   refine X.block ?_
   refine X.seq (rs 2 ?_)
   obtain ⟨x5, hx5⟩ : ∃ x, l[Int.toNat v4]? = some x := ⟨_, List.getElem?_eq_getElem (by first | omega | (simp; done) | (simp; omega))⟩
   have hxl := (all_at hl.2 hx5).2
   refine CH.idx hτ (d38 x5) (rows := (l.map d38)) (n := v4) (sz := 5) (by kernel_rfl) (by kernel_rfl) (by first | omega | (simp; done) | (simp; omega)) (by rw [List.getElem?_map, hx5]; rfl) (by kernel_rfl) ?_
   refine go 3 ?_
   refine ek ⟨[(0, lV (l.map d38)), (3, rV 80), (4, iV v4), (5, .pt 256 0 0)], [(80, some (.row 5 38 (Lv3.map d38) false true)), (256, some (.box (cD (d38 x5))))], 288⟩ ?_
   refine X.seq (rs 3 ?_)
   have el6 : (x5.f4.map d188).length = x5.f4.length := List.length_map ..
   refine CH.app hτ (rows := []) (rows2 := (x5.f4.map d188)) (sz := 2) (bys := 16) true (by kernel_rfl) (by kernel_rfl) (fun _ => flat_d d188 (fun x => rfl)) (flat_ok (f := d188) (fun x => rfl)) (by simp only [List.length_map] <;> (first | done | omega | (simp; done) | (simp; omega))) (by kernel_rfl) ?_
   refine go 2 ?_
   refine ek ⟨[(0, lV (l.map d38)), (3, rV 80), (4, iV v4), (5, .pt 256 0 0)], [(80, some (.row 5 38 (Lv3.map d38) false true)), (256, some (.box [.d (.v (.string x5.f0)), .d (.v (.int .i64 x5.f1)), .d (.v (.int .i64 x5.f2)), .d (.v (.int .i64 x5.f3)), .ref 336])), (336, some (.row 2 188 (x5.f4.map d188) false true))], 384⟩ ?_
   refine rs 3 ?_
   have el7 : (Lv3.map d38).length = Lv3.length := List.length_map ..
   have el8 : (([x5] : List S38).map d38).length = ([x5] : List S38).length := List.length_map ..
   have el9 : ([x5] : List S38).length = 1 := rfl
   refine CH.app hτ (rows := (Lv3.map d38)) (rows2 := (([x5] : List S38).map d38)) (sz := 5) (bys := 64) false (by kernel_rfl) (by kernel_rfl) (fun h => by cases h) (flat_ok (f := d38) (fun x => rfl)) (by simp only [List.length_map] <;> (rw [hL]; simp; omega)) (by kernel_rfl) ?_
   refine go 1 ?_
   refine CH.endk ⟨[(0, lV (l.map d38)), (3, rV 432), (4, iV v4)], [(432, some (.row 5 38 ((Lv3.map d38) ++ (([x5] : List S38).map d38)) false true))], 464⟩ (by kernel_rfl) (by kernel_rfl) (s2 := ⟨[(0, lV (l.map d38)), (3, rV 432), (4, iV v4)], [(432, some (.row 5 38 ((Lv3 ++ ([x5] : List S38)).map d38) false true))], 464⟩) (congrArg (fun z : List (List D) => (⟨[(0, lV (l.map d38)), (3, rV 432), (4, iV v4)], [(432, some (.row 5 38 z false true))], 464⟩ : St)) (show (Lv3.map d38) ++ (([x5] : List S38).map d38) = ((Lv3 ++ ([x5] : List S38)).map d38) from List.map_append.symm)) ?_
   refine X.rk ⟨[(0, lV (l.map d38)), (3, rV 432), (4, iV (wrap64 (v4 + 1)))], [(432, some (.row 5 38 ((Lv3 ++ ([x5] : List S38)).map d38) false true))], 512⟩ hτ hmix (by kernel_rfl) (by kernel_rfl) (s2 := ⟨[(0, lV (l.map d38)), (3, rV 432), (4, iV (v4 + 1))], [(432, some (.row 5 38 ((Lv3 ++ ([x5] : List S38)).map d38) false true))], 512⟩) (congrArg (fun z : Int => (⟨[(0, lV (l.map d38)), (3, rV 432), (4, iV z)], [(432, some (.row 5 38 ((Lv3 ++ ([x5] : List S38)).map d38) false true))], 512⟩ : St)) (show wrap64 (v4 + 1) = (v4 + 1) by rw [w64 (n := (v4 + 1)) (by omega) (by omega)])) ?_
   refine ⟨⟨((Lv3 ++ ([x5] : List S38)), (v4 + 1)), ⟨by first | omega | (dsimp only; omega), by first | omega | (dsimp only; omega), by rw [hL]; exact take_succ (by first | omega | (dsimp only; omega)) ‹_›⟩⟩, by first | exact rfl | omega | (dsimp only; omega) | (simp only [List.length_append, List.length_cons, List.length_nil, List.length_set]; omega) | (simp; done) | (simp; omega), Wk.mk' [(80, 432)] (by kernel_rfl) (by kernel_rfl) (by kernel_rfl)⟩
  ·replace hb4 := of_decide_eq_false (hb4)
   refine X.exit ?_
   refine sk ⟨[(2, rV 80)], [(80, some (.row 5 38 (Lv3.map d38) false true))], 224⟩ ?_
   refine X.ret ?_
   exact ⟨trivial, _, _, ⟨Lv3, (by rw [hL]; exact take_all (by omega)), rfl, rfl⟩, .inl (Ret.mk' [(64, 80)] (by kernel_rfl) (by kernel_rfl) (by kernel_rfl))⟩
 obtain ⟨_, _, ⟨r0, h1_, rfl, rfl⟩, hf⟩ := key
 exact ⟨r0, h1_, hf⟩

theorem s_l6Copy (g : S27) (hg : acsSm g.f1) : ∃ r0 : S27, (r0 = g) ∧ Fn Try.prog 88 [.e (.agg [.d (.v (.int .i64 g.f0)), .d (.sl (g.f1.map d38))])] (lookH []) (.e (.agg [.d (.v (.int .i64 r0.f0)), .ref 64])) (lookH [(64, some (.row 5 38 (r0.f1.map d38) false true))]) := by
 have key : ∃ x' h', ((fun x' h' => ∃ r0 : S27, (r0 = g) ∧ x' = .e (.agg [.d (.v (.int .i64 r0.f0)), .ref 64]) ∧ h' = [(64, some (.row 5 38 (r0.f1.map d38) false true))])) x' h' ∧ Fn Try.prog 88 [.e (.agg [.d (.v (.int .i64 g.f0)), .d (.sl (g.f1.map d38))])] (lookH []) x' (lookH h') := by
  refine Fn.bodyX (N := 9) hτ Try.func88 rfl rfl rfl rfl ?_
  refine sk ⟨[(1, .pt 64 0 0), (2, .pt 80 0 0)], [(64, some (.box [.d (.v (.int .i64 g.f0)), .d (.sl (g.f1.map d38))])), (80, some (.box [.d (.v (.int .i64 0)), .nil]))], 96⟩ ?_
  refine X.seq (rs 4 ?_)
  obtain ⟨r1, hr3, hf2⟩ := s_l4Copy g.f1 (by assumption)
  replace hr3 := hr3.symm; subst hr3
  refine ca hf2 Try.func148 ?_
  refine go 2 ?_
  refine ek ⟨[(2, .pt 80 0 0)], [(80, some (.box [.d (.v (.int .i64 g.f0)), .ref 160])), (160, some (.row 5 38 (g.f1.map d38) false true))], 208⟩ ?_
  refine X.ret ?_
  exact ⟨trivial, _, _, ⟨g, rfl, rfl, rfl⟩, .inl (Ret.mk' [(64, 160)] (by kernel_rfl) (by kernel_rfl) (by kernel_rfl))⟩
 obtain ⟨_, _, ⟨r0, h1_, rfl, rfl⟩, hf⟩ := key
 exact ⟨r0, h1_, hf⟩

theorem s_l4With (l : List S38) (s : ByteArray) (hl : acsSm l) (hs : srtA l) : ∃ r0 : List S38, (r0 = withW l s) ∧ Fn Try.prog 165 [lV (l.map d38), .e (.c (.d (.v (.string s))))] (lookH []) (rV 64) (lookH [(64, some (.row 5 38 (r0.map d38) false true))]) := by
 have key : ∃ x' h', ((fun x' h' => ∃ r0 : List S38, (r0 = withW l s) ∧ x' = rV 64 ∧ h' = [(64, some (.row 5 38 (r0.map d38) false true))])) x' h' ∧ Fn Try.prog 165 [lV (l.map d38), .e (.c (.d (.v (.string s))))] (lookH []) x' (lookH h') := by
  refine Fn.bodyX (N := 49) hτ Try.func165 rfl rfl rfl rfl ?_
  refine sk ⟨[(0, lV (l.map d38)), (1, .e (.c (.d (.v (.string s)))))], [], 80⟩ ?_
  refine X.seq ?_
  have hll := hl.1
  refine rs 1 ?_
  obtain ⟨r1, hr3, hf2⟩ := s_l4Copy l (by assumption)
  replace hr3 := hr3.symm; subst hr3
  refine ca hf2 Try.func148 ?_
  refine go 1 ?_
  refine ek ⟨[(0, lV (l.map d38)), (1, .e (.c (.d (.v (.string s))))), (5, rV 96)], [(96, some (.row 5 38 (l.map d38) false true))], 128⟩ ?_
  refine X.seq ?_
  refine X.seq (rs 2 ?_)
  obtain ⟨r5, hr7, hf6⟩ := s_AcctAt l s (by first | assumption | omega)
  replace hr7 := hr7.symm; subst hr7
  have hac := fi_bd (nmP s) l
  change -1 ≤ acAt l s ∧ acAt l s < _ at hac
  refine ca hf6 Try.func50 ?_
  refine go 1 ?_
  refine ek ⟨[(1, .e (.c (.d (.v (.string s))))), (5, rV 96), (12, bV (decide (((acAt l s) : Int) ≥ 0)))], [(96, some (.row 5 38 (l.map d38) false true))], 192⟩ ?_
  refine if_ (b := decide (((acAt l s) : Int) ≥ 0)) (fun hb9 => ?_) (fun hb9 => ?_)
  ·replace hb9 := of_decide_eq_true (hb9)
   refine sk ⟨[(4, rV 96)], [(96, some (.row 5 38 (l.map d38) false true))], 224⟩ ?_
   refine X.ret ?_
   exact ⟨trivial, _, _, ⟨l, (by first | exact (with_yes ‹_›) | exact (with_end hs ‹_› (by omega) (by omega) hE hG (.inl (by omega))) | exact (with_end hs ‹_› (by omega) (by omega) hE hG (.inr ⟨_, ‹_›, ‹_›⟩))), rfl, rfl⟩, .inl (Ret.mk' [(64, 96)] (by kernel_rfl) (by kernel_rfl) (by kernel_rfl))⟩
  ·replace hb9 := of_decide_eq_false (hb9)
   refine X.skip ?_
   refine X.seq (rs 3 ?_)
   have el10 : (l.map d38).length = l.length := List.length_map ..
   have el11 : (([(⟨(⟨#[]⟩ : ByteArray), 0, 0, 0, []⟩ : S38)] : List S38).map d38).length = ([(⟨(⟨#[]⟩ : ByteArray), 0, 0, 0, []⟩ : S38)] : List S38).length := List.length_map ..
   have el12 : ([(⟨(⟨#[]⟩ : ByteArray), 0, 0, 0, []⟩ : S38)] : List S38).length = 1 := rfl
   refine CH.app hτ (rows := (l.map d38)) (rows2 := (([(⟨(⟨#[]⟩ : ByteArray), 0, 0, 0, []⟩ : S38)] : List S38).map d38)) (sz := 5) (bys := 64) false (by kernel_rfl) (by kernel_rfl) (fun h => by cases h) (flat_ok (f := d38) (fun x => rfl)) (by simp only [List.length_map] <;> (first | done | omega | (simp; done) | (simp; omega))) (by kernel_rfl) ?_
   refine go 1 ?_
   refine CH.endk ⟨[(1, .e (.c (.d (.v (.string s))))), (5, rV 240)], [(240, some (.row 5 38 ((l.map d38) ++ (([(⟨(⟨#[]⟩ : ByteArray), 0, 0, 0, []⟩ : S38)] : List S38).map d38)) false true))], 272⟩ (by kernel_rfl) (by kernel_rfl) (s2 := ⟨[(1, .e (.c (.d (.v (.string s))))), (5, rV 240)], [(240, some (.row 5 38 ((l ++ ([(⟨(⟨#[]⟩ : ByteArray), 0, 0, 0, []⟩ : S38)] : List S38)).map d38) false true))], 272⟩) (congrArg (fun z : List (List D) => (⟨[(1, .e (.c (.d (.v (.string s))))), (5, rV 240)], [(240, some (.row 5 38 z false true))], 272⟩ : St)) (show (l.map d38) ++ (([(⟨(⟨#[]⟩ : ByteArray), 0, 0, 0, []⟩ : S38)] : List S38).map d38) = ((l ++ ([(⟨(⟨#[]⟩ : ByteArray), 0, 0, 0, []⟩ : S38)] : List S38)).map d38) from List.map_append.symm)) ?_
   refine X.seq ?_
   have el13 : ((l ++ ([(⟨(⟨#[]⟩ : ByteArray), 0, 0, 0, []⟩ : S38)] : List S38)).map d38).length = (l ++ ([(⟨(⟨#[]⟩ : ByteArray), 0, 0, 0, []⟩ : S38)] : List S38)).length := List.length_map ..
   have el14 : (l ++ ([(⟨(⟨#[]⟩ : ByteArray), 0, 0, 0, []⟩ : S38)] : List S38)).length = l.length + ([(⟨(⟨#[]⟩ : ByteArray), 0, 0, 0, []⟩ : S38)] : List S38).length := List.length_append
   have el15 : ([(⟨(⟨#[]⟩ : ByteArray), 0, 0, 0, []⟩ : S38)] : List S38).length = 1 := rfl
   refine X.rk ⟨[(1, .e (.c (.d (.v (.string s))))), (5, rV 240), (6, iV (wrap64 ((((l ++ ([(⟨(⟨#[]⟩ : ByteArray), 0, 0, 0, []⟩ : S38)] : List S38)).map d38).length : Int) - 1)))], [(240, some (.row 5 38 ((l ++ ([(⟨(⟨#[]⟩ : ByteArray), 0, 0, 0, []⟩ : S38)] : List S38)).map d38) false true))], 336⟩ hτ hmix (by kernel_rfl) (by kernel_rfl) (s2 := ⟨[(1, .e (.c (.d (.v (.string s))))), (5, rV 240), (6, iV ((((l ++ ([(⟨(⟨#[]⟩ : ByteArray), 0, 0, 0, []⟩ : S38)] : List S38)).map d38).length : Int) - 1))], [(240, some (.row 5 38 ((l ++ ([(⟨(⟨#[]⟩ : ByteArray), 0, 0, 0, []⟩ : S38)] : List S38)).map d38) false true))], 336⟩) (congrArg (fun z : Int => (⟨[(1, .e (.c (.d (.v (.string s))))), (5, rV 240), (6, iV z)], [(240, some (.row 5 38 ((l ++ ([(⟨(⟨#[]⟩ : ByteArray), 0, 0, 0, []⟩ : S38)] : List S38)).map d38) false true))], 336⟩ : St)) (show wrap64 ((((l ++ ([(⟨(⟨#[]⟩ : ByteArray), 0, 0, 0, []⟩ : S38)] : List S38)).map d38).length : Int) - 1) = ((((l ++ ([(⟨(⟨#[]⟩ : ByteArray), 0, 0, 0, []⟩ : S38)] : List S38)).map d38).length : Int) - 1) by rw [w64 (n := ((((l ++ ([(⟨(⟨#[]⟩ : ByteArray), 0, 0, 0, []⟩ : S38)] : List S38)).map d38).length : Int) - 1)) (by omega) (by omega)])) ?_
   refine X.gen (fun n16 : Int => ⟨[(1, .e (.c (.d (.v (.string s))))), (5, rV 240), (6, iV n16)], [(240, some (.row 5 38 ((l ++ ([(⟨(⟨#[]⟩ : ByteArray), 0, 0, 0, []⟩ : S38)] : List S38)).map d38) false true))], 336⟩) (((((l ++ ([(⟨(⟨#[]⟩ : ByteArray), 0, 0, 0, []⟩ : S38)] : List S38)).map d38).length : Int) - 1)) (fun n16 hn16 => ?_)
   refine X.seq ?_
   refine X.block ?_
   -- 6: Lv5 : List S38, v6 : Int
   refine X.loop (σ := { g : (List S38) × Int // (fun (Lv5 : List S38) (v6 : Int) => 0 ≤ v6 ∧ v6 ≤ (l.length : Int) ∧ Lv5.length = l.length + 1 ∧ Lv5.set v6.toNat (ac0 s) = insAt l [ac0 s] v6.toNat ∧ (∀ (j : Nat) (x : S38), v6.toNat ≤ j → l[j]? = some x → Op.bytesLess s.toList x.f0.toList = true)) g.1 g.2 }) (fun g => (fun (Lv5 : List S38) (v6 : Int) => ⟨[(1, .e (.c (.d (.v (.string s))))), (5, rV 240), (6, iV v6)], [(240, some (.row 5 38 (Lv5.map d38) false true))], 336⟩) g.1.1 g.1.2) (fun g => (fun (Lv5 : List S38) (v6 : Int) => v6.toNat) g.1.1 g.1.2) ⟨((l ++ ([(⟨(⟨#[]⟩ : ByteArray), 0, 0, 0, []⟩ : S38)] : List S38)), n16), ⟨by first | omega | (simp; done) | (simp; omega), by first | omega | (simp; done) | (simp; omega), by simp, (by rw [show Int.toNat _ = l.length from (by first | omega | simp)]; exact shf_first), fun j x h hx => by have := (List.getElem?_eq_some_iff.1 hx).1; simp at h; omega⟩⟩ (Wk.less (by kernel_rfl)) (fun g => ?_)
   obtain ⟨⟨Lv5, v6⟩, hg18⟩ := g
   have hg18 : 0 ≤ v6 ∧ v6 ≤ (l.length : Int) ∧ Lv5.length = l.length + 1 ∧ Lv5.set v6.toNat (ac0 s) = insAt l [ac0 s] v6.toNat ∧ (∀ (j : Nat) (x : S38), v6.toNat ≤ j → l[j]? = some x → Op.bytesLess s.toList x.f0.toList = true) := hg18
   obtain ⟨_, _, hL, hE, hG⟩ := hg18
   refine X.seq ?_
   refine X.seq (rs 3 ?_)
   rcases Bool.eq_false_or_eq_true (decide ((v6 : Int) > 0)) with hb19 | hb19
   ·refine aT 22 hb19 ?_
    refine aT 23 hb19 ?_
    replace hb19 := of_decide_eq_true (hb19)
    refine go 3 ?_
    refine CH.alt 26 (sV (.int .i64 (wrap64 (v6 - 1)))) (sV (.int .i64 ((v6 - 1)))) (by kernel_rfl) (by rw [w64 (n := (v6 - 1)) (by omega) (by omega)]) ?_
    refine CH.idxR hτ (rows := (Lv5.map d38)) (n := (v6 - 1)) (b := 240) (by kernel_rfl) (by kernel_rfl) (by first | omega | (simp; done) | (simp; omega)) (by simp only [List.length_map, List.length_set]; first | omega | (simp; done) | (simp; omega)) (by kernel_rfl) ?_
    refine go 1 ?_
    obtain ⟨x20, hx20⟩ : ∃ x, Lv5[Int.toNat (v6 - 1)]? = some x := ⟨_, List.getElem?_eq_getElem (by first | omega | (simp; done) | (simp; omega))⟩
    refine CH.row hτ (d38 x20) (by kernel_rfl) (by kernel_rfl) (by rw [List.getElem?_map, hx20]; rfl) (by kernel_rfl) ?_
    refine go 3 ?_
    refine ek ⟨[(1, .e (.c (.d (.v (.string s))))), (5, rV 240), (6, iV v6), (32, bV (!(Op.bytesLess x20.f0.toList s.toList || x20.f0.toList == s.toList)))], [(240, some (.row 5 38 (Lv5.map d38) false true))], 528⟩ ?_
    refine if_ (b := !(Op.bytesLess x20.f0.toList s.toList || x20.f0.toList == s.toList)) (fun hb21 => ?_) (fun hb21 => ?_)
    ·replace hb21 := leq_no (bnot_yes (hb21))
     refine X.skip ?_
     refine X.block ?_
     refine X.seq (rs 5 ?_)
     refine CH.alt 37 (sV (.int .i64 (wrap64 (v6 - 1)))) (sV (.int .i64 ((v6 - 1)))) (by kernel_rfl) (by rw [w64 (n := (v6 - 1)) (by omega) (by omega)]) ?_
     refine CH.idxR hτ (rows := (Lv5.map d38)) (n := (v6 - 1)) (b := 240) (by kernel_rfl) (by kernel_rfl) (by first | omega | (simp; done) | (simp; omega)) (by simp only [List.length_map, List.length_set]; first | omega | (simp; done) | (simp; omega)) (by kernel_rfl) ?_
     refine CH.row hτ (d38 x20) (by kernel_rfl) (by kernel_rfl) (by rw [List.getElem?_map, hx20]; rfl) (by kernel_rfl) ?_
     refine CH.idxR hτ (rows := (Lv5.map d38)) (n := v6) (b := 240) (by kernel_rfl) (by kernel_rfl) (by first | omega | (simp; done) | (simp; omega)) (by simp only [List.length_map, List.length_set]; first | omega | (simp; done) | (simp; omega)) (by kernel_rfl) ?_
     obtain ⟨x22, hx22⟩ : ∃ x, Lv5[Int.toNat v6]? = some x := ⟨_, List.getElem?_eq_getElem (by first | omega | (simp; done) | (simp; omega))⟩
     refine CH.row hτ (d38 x22) (by kernel_rfl) (by kernel_rfl) (by rw [List.getElem?_map, hx22]; rfl) (by kernel_rfl) ?_
     refine CH.endk ⟨[(1, .e (.c (.d (.v (.string s))))), (5, rV 240), (6, iV v6)], [(240, some (.row 5 38 ((Lv5.map d38).set (Int.toNat v6) (d38 x20)) false true))], 672⟩ (by kernel_rfl) (by kernel_rfl) (s2 := ⟨[(1, .e (.c (.d (.v (.string s))))), (5, rV 240), (6, iV v6)], [(240, some (.row 5 38 ((Lv5.set (Int.toNat v6) x20).map d38) false true))], 672⟩) (congrArg (fun z : List (List D) => (⟨[(1, .e (.c (.d (.v (.string s))))), (5, rV 240), (6, iV v6)], [(240, some (.row 5 38 z false true))], 672⟩ : St)) (show ((Lv5.map d38).set (Int.toNat v6) (d38 x20)) = ((Lv5.set (Int.toNat v6) x20).map d38) from List.map_set.symm)) ?_
     refine X.rk ⟨[(1, .e (.c (.d (.v (.string s))))), (5, rV 240), (6, iV (wrap64 (v6 - 1)))], [(240, some (.row 5 38 ((Lv5.set (Int.toNat v6) x20).map d38) false true))], 720⟩ hτ hmix (by kernel_rfl) (by kernel_rfl) (s2 := ⟨[(1, .e (.c (.d (.v (.string s))))), (5, rV 240), (6, iV (v6 - 1))], [(240, some (.row 5 38 ((Lv5.set (Int.toNat v6) x20).map d38) false true))], 720⟩) (congrArg (fun z : Int => (⟨[(1, .e (.c (.d (.v (.string s))))), (5, rV 240), (6, iV z)], [(240, some (.row 5 38 ((Lv5.set (Int.toNat v6) x20).map d38) false true))], 720⟩ : St)) (show wrap64 (v6 - 1) = (v6 - 1) by rw [w64 (n := (v6 - 1)) (by omega) (by omega)])) ?_
     refine ⟨⟨((Lv5.set (Int.toNat v6) x20), (v6 - 1)), ⟨by first | omega | (dsimp only; omega), by first | omega | (dsimp only; omega), by simpa using hL, shf_next (by first | omega | (dsimp only; omega)) (by first | omega | (dsimp only; omega)) hL hE ‹_›, shf_gt (by first | omega | (dsimp only; omega)) (by first | omega | (dsimp only; omega)) hE hG ‹_› ‹_›⟩⟩, by first | exact rfl | omega | (dsimp only; omega) | (simp only [List.length_append, List.length_cons, List.length_nil, List.length_set]; omega) | (simp; done) | (simp; omega), Wk.mk' [(240, 240)] (by kernel_rfl) (by kernel_rfl) (by kernel_rfl)⟩
    ·replace hb21 := leq_yes (bnot_no (hb21))
     refine X.exit ?_
     refine X.seq (rs 4 ?_)
     refine CH.idxR hτ (rows := (Lv5.map d38)) (n := v6) (b := 240) (by kernel_rfl) (by kernel_rfl) (by first | omega | (simp; done) | (simp; omega)) (by simp only [List.length_map, List.length_set]; first | omega | (simp; done) | (simp; omega)) (by kernel_rfl) ?_
     obtain ⟨x23, hx23⟩ : ∃ x, Lv5[Int.toNat v6]? = some x := ⟨_, List.getElem?_eq_getElem (by first | omega | (simp; done) | (simp; omega))⟩
     refine CH.row hτ (d38 x23) (by kernel_rfl) (by kernel_rfl) (by rw [List.getElem?_map, hx23]; rfl) (by kernel_rfl) ?_
     refine CH.endk ⟨[(5, rV 240)], [(240, some (.row 5 38 ((Lv5.map d38).set (Int.toNat v6) (d38 (⟨s, 0, 0, 0, []⟩ : S38))) false true))], 624⟩ (by kernel_rfl) (by kernel_rfl) (s2 := ⟨[(5, rV 240)], [(240, some (.row 5 38 ((Lv5.set (Int.toNat v6) (⟨s, 0, 0, 0, []⟩ : S38)).map d38) false true))], 624⟩) (congrArg (fun z : List (List D) => (⟨[(5, rV 240)], [(240, some (.row 5 38 z false true))], 624⟩ : St)) (show ((Lv5.map d38).set (Int.toNat v6) (d38 (⟨s, 0, 0, 0, []⟩ : S38))) = ((Lv5.set (Int.toNat v6) (⟨s, 0, 0, 0, []⟩ : S38)).map d38) from List.map_set.symm)) ?_
     refine sk ⟨[(4, rV 240)], [(240, some (.row 5 38 ((Lv5.set (Int.toNat v6) (⟨s, 0, 0, 0, []⟩ : S38)).map d38) false true))], 656⟩ ?_
     refine X.ret ?_
     exact ⟨trivial, _, _, ⟨(Lv5.set (Int.toNat v6) (⟨s, 0, 0, 0, []⟩ : S38)), (by first | exact (with_yes ‹_›) | exact (with_end hs ‹_› (by omega) (by omega) hE hG (.inl (by omega))) | exact (with_end hs ‹_› (by omega) (by omega) hE hG (.inr ⟨_, ‹_›, ‹_›⟩))), rfl, rfl⟩, .inl (Ret.mk' [(64, 240)] (by kernel_rfl) (by kernel_rfl) (by kernel_rfl))⟩
   ·refine aF 22 hb19 ?_
    refine aF 23 hb19 ?_
    replace hb19 := of_decide_eq_false (hb19)
    refine go 9 ?_
    refine ek ⟨[(1, .e (.c (.d (.v (.string s))))), (5, rV 240), (6, iV v6), (32, bV false)], [(240, some (.row 5 38 (Lv5.map d38) false true))], 528⟩ ?_
    refine X.ifF (by kernel_rfl) ?_
    refine X.exit ?_
    refine X.seq (rs 4 ?_)
    refine CH.idxR hτ (rows := (Lv5.map d38)) (n := v6) (b := 240) (by kernel_rfl) (by kernel_rfl) (by first | omega | (simp; done) | (simp; omega)) (by simp only [List.length_map, List.length_set]; first | omega | (simp; done) | (simp; omega)) (by kernel_rfl) ?_
    obtain ⟨x24, hx24⟩ : ∃ x, Lv5[Int.toNat v6]? = some x := ⟨_, List.getElem?_eq_getElem (by first | omega | (simp; done) | (simp; omega))⟩
    refine CH.row hτ (d38 x24) (by kernel_rfl) (by kernel_rfl) (by rw [List.getElem?_map, hx24]; rfl) (by kernel_rfl) ?_
    refine CH.endk ⟨[(5, rV 240)], [(240, some (.row 5 38 ((Lv5.map d38).set (Int.toNat v6) (d38 (⟨s, 0, 0, 0, []⟩ : S38))) false true))], 624⟩ (by kernel_rfl) (by kernel_rfl) (s2 := ⟨[(5, rV 240)], [(240, some (.row 5 38 ((Lv5.set (Int.toNat v6) (⟨s, 0, 0, 0, []⟩ : S38)).map d38) false true))], 624⟩) (congrArg (fun z : List (List D) => (⟨[(5, rV 240)], [(240, some (.row 5 38 z false true))], 624⟩ : St)) (show ((Lv5.map d38).set (Int.toNat v6) (d38 (⟨s, 0, 0, 0, []⟩ : S38))) = ((Lv5.set (Int.toNat v6) (⟨s, 0, 0, 0, []⟩ : S38)).map d38) from List.map_set.symm)) ?_
    refine sk ⟨[(4, rV 240)], [(240, some (.row 5 38 ((Lv5.set (Int.toNat v6) (⟨s, 0, 0, 0, []⟩ : S38)).map d38) false true))], 656⟩ ?_
    refine X.ret ?_
    exact ⟨trivial, _, _, ⟨(Lv5.set (Int.toNat v6) (⟨s, 0, 0, 0, []⟩ : S38)), (by first | exact (with_yes ‹_›) | exact (with_end hs ‹_› (by omega) (by omega) hE hG (.inl (by omega))) | exact (with_end hs ‹_› (by omega) (by omega) hE hG (.inr ⟨_, ‹_›, ‹_›⟩))), rfl, rfl⟩, .inl (Ret.mk' [(64, 240)] (by kernel_rfl) (by kernel_rfl) (by kernel_rfl))⟩
 obtain ⟨_, _, ⟨r0, h1_, rfl, rfl⟩, hf⟩ := key
 exact ⟨r0, h1_, hf⟩

theorem s_l6Leave (l : List S188) (n : Int) (t : Int) (hl : l.length ≤ 2000000) : ∃ r0 : List S188, (r0 = lvG n t l) ∧ Fn Try.prog 166 [lV (l.map d188), iV n, iV t] (lookH []) (.e (.c (.f (.sl (r0.map d188))))) (lookH []) := by
 have key : ∃ x' h', ((fun x' h' => ∃ r0 : List S188, (r0 = lvG n t l) ∧ x' = .e (.c (.f (.sl (r0.map d188)))) ∧ h' = [])) x' h' ∧ Fn Try.prog 166 [lV (l.map d188), iV n, iV t] (lookH []) x' (lookH h') := by
  refine Fn.bodyX (N := 62) hτ Try.func166 rfl rfl rfl rfl ?_
  refine sk ⟨[(0, lV (l.map d188)), (1, iV n), (2, iV t)], [], 80⟩ ?_
  refine sk ⟨[(0, lV (l.map d188)), (1, iV n), (2, iV t), (7, rV 80)], [(80, some (.row 2 188 [] false true))], 112⟩ ?_
  refine sk ⟨[(0, lV (l.map d188)), (1, iV n), (2, iV t), (7, rV 80), (8, bV false)], [(80, some (.row 2 188 [] false true))], 128⟩ ?_
  refine X.seq ?_
  refine sk ⟨[(0, lV (l.map d188)), (1, iV n), (2, iV t), (7, rV 80), (8, bV false), (9, iV 0)], [(80, some (.row 2 188 [] false true))], 144⟩ ?_
  refine X.block ?_
  -- 4: Lv7 : List S188, v8 : Bool, v9 : Int
  refine X.loop (σ := { g : (List S188) × Bool × Int // (fun (Lv7 : List S188) (v8 : Bool) (v9 : Int) => 0 ≤ v9 ∧ v9 ≤ l.length ∧ lvJ l n t Lv7 v8 v9) g.1 g.2.1 g.2.2 }) (fun g => (fun (Lv7 : List S188) (v8 : Bool) (v9 : Int) => ⟨[(0, lV (l.map d188)), (1, iV n), (2, iV t), (7, rV 80), (8, bV v8), (9, iV v9)], [(80, some (.row 2 188 (Lv7.map d188) false true))], 144⟩) g.1.1 g.1.2.1 g.1.2.2) (fun g => (fun (Lv7 : List S188) (v8 : Bool) (v9 : Int) => (l.length - v9).toNat) g.1.1 g.1.2.1 g.1.2.2) ⟨([], false, 0), ⟨by first | omega | (dsimp only; omega), by first | omega | (dsimp only; omega), lv_i0, by simp⟩⟩ (Wk.less (by kernel_rfl)) (fun g => ?_)
  obtain ⟨⟨Lv7, v8, v9⟩, hg2⟩ := g
  have hg2 : 0 ≤ v9 ∧ v9 ≤ l.length ∧ lvJ l n t Lv7 v8 v9 := hg2
  obtain ⟨_, _, hJ⟩ := hg2
  refine X.seq ?_
  refine X.seq ?_
  have el3 : (l.map d188).length = l.length := List.length_map ..
  refine rk ⟨[(0, lV (l.map d188)), (1, iV n), (2, iV t), (7, rV 80), (8, bV v8), (9, iV v9), (15, bV (decide ((v9 : Int) < ((l.map d188).length : Int))))], [(80, some (.row 2 188 (Lv7.map d188) false true))], 208⟩ ?_
  refine if_ (b := decide ((v9 : Int) < ((l.map d188).length : Int))) (fun hb4 => ?_) (fun hb4 => ?_)
  ·replace hb4 := of_decide_eq_true (hb4)
   refine X.skip ?_
   refine X.seq ?_
   refine X.block ?_
   refine X.seq (rs 2 ?_)
   obtain ⟨x5, hx5⟩ : ∃ x, l[Int.toNat v9]? = some x := ⟨_, List.getElem?_eq_getElem (by first | omega | (simp; done) | (simp; omega))⟩
   refine CH.idx hτ (d188 x5) (rows := (l.map d188)) (n := v9) (sz := 2) (by kernel_rfl) (by kernel_rfl) (by first | omega | (simp; done) | (simp; omega)) (by rw [List.getElem?_map, hx5]; rfl) (by kernel_rfl) ?_
   refine go 3 ?_
   refine ek ⟨[(0, lV (l.map d188)), (1, iV n), (2, iV t), (7, rV 80), (8, bV v8), (9, iV v9), (10, .pt 272 0 0)], [(80, some (.row 2 188 (Lv7.map d188) false true)), (272, some (.box [.d (.v (.int .i64 x5.f0)), .d (.v (.int .i64 x5.f1))]))], 304⟩ ?_
   refine X.seq ?_
   refine X.seq (rs 3 ?_)
   rcases Bool.eq_false_or_eq_true (!v8) with hb6 | hb6
   ·refine aT 23 hb6 ?_
    refine aT 24 hb6 ?_
    replace hb6 := bnot_yes (hb6)
    refine go 5 ?_
    refine ek ⟨[(0, lV (l.map d188)), (1, iV n), (2, iV t), (7, rV 80), (8, bV v8), (9, iV v9), (10, .pt 272 0 0), (29, bV (x5.f1 == t))], [(80, some (.row 2 188 (Lv7.map d188) false true)), (272, some (.box [.d (.v (.int .i64 x5.f0)), .d (.v (.int .i64 x5.f1))]))], 432⟩ ?_
    refine if_ (b := (x5.f1 == t)) (fun hb7 => ?_) (fun hb7 => ?_)
    ·replace hb7 := eq_of_beq (hb7)
     refine sk ⟨[(0, lV (l.map d188)), (1, iV n), (2, iV t), (7, rV 80), (9, iV v9), (10, .pt 272 0 0)], [(80, some (.row 2 188 (Lv7.map d188) false true)), (272, some (.box [.d (.v (.int .i64 (wr .i64 (x5.f0 + n)))), .d (.v (.int .i64 x5.f1))]))], 528⟩ ?_
     refine rk ⟨[(0, lV (l.map d188)), (1, iV n), (2, iV t), (7, rV 80), (8, bV true), (9, iV v9), (10, .pt 272 0 0)], [(80, some (.row 2 188 (Lv7.map d188) false true)), (272, some (.box [.d (.v (.int .i64 (wr .i64 (x5.f0 + n)))), .d (.v (.int .i64 x5.f1))]))], 544⟩ ?_
     refine X.seq ?_
     refine sk ⟨[(0, lV (l.map d188)), (1, iV n), (2, iV t), (7, rV 80), (8, bV true), (9, iV v9), (10, .pt 272 0 0), (42, bV false)], [(80, some (.row 2 188 (Lv7.map d188) false true)), (272, some (.box [.d (.v (.int .i64 (wr .i64 (x5.f0 + n)))), .d (.v (.int .i64 x5.f1))]))], 672⟩ ?_
     refine X.ifF (by kernel_rfl) ?_
     refine X.skip ?_
     have hjl := hJ.2
     refine rs 3 ?_
     have el8 : (Lv7.map d188).length = Lv7.length := List.length_map ..
     have el9 : (([(⟨wr .i64 (x5.f0 + n), x5.f1⟩ : S188)] : List S188).map d188).length = ([(⟨wr .i64 (x5.f0 + n), x5.f1⟩ : S188)] : List S188).length := List.length_map ..
     have el10 : ([(⟨wr .i64 (x5.f0 + n), x5.f1⟩ : S188)] : List S188).length = 1 := rfl
     refine CH.app hτ (rows := (Lv7.map d188)) (rows2 := (([(⟨wr .i64 (x5.f0 + n), x5.f1⟩ : S188)] : List S188).map d188)) (sz := 2) (bys := 16) true (by kernel_rfl) (by kernel_rfl) (fun _ => flat_d d188 (fun x => rfl)) (flat_ok (f := d188) (fun x => rfl)) (by simp only [List.length_map] <;> (first | done | omega | (simp; done) | (simp; omega))) (by kernel_rfl) ?_
     refine go 1 ?_
     refine CH.endk ⟨[(0, lV (l.map d188)), (1, iV n), (2, iV t), (7, rV 720), (8, bV true), (9, iV v9)], [(720, some (.row 2 188 ((Lv7.map d188) ++ (([(⟨wr .i64 (x5.f0 + n), x5.f1⟩ : S188)] : List S188).map d188)) false true))], 752⟩ (by kernel_rfl) (by kernel_rfl) (s2 := ⟨[(0, lV (l.map d188)), (1, iV n), (2, iV t), (7, rV 720), (8, bV true), (9, iV v9)], [(720, some (.row 2 188 ((Lv7 ++ ([(⟨wr .i64 (x5.f0 + n), x5.f1⟩ : S188)] : List S188)).map d188) false true))], 752⟩) (congrArg (fun z : List (List D) => (⟨[(0, lV (l.map d188)), (1, iV n), (2, iV t), (7, rV 720), (8, bV true), (9, iV v9)], [(720, some (.row 2 188 z false true))], 752⟩ : St)) (show (Lv7.map d188) ++ (([(⟨wr .i64 (x5.f0 + n), x5.f1⟩ : S188)] : List S188).map d188) = ((Lv7 ++ ([(⟨wr .i64 (x5.f0 + n), x5.f1⟩ : S188)] : List S188)).map d188) from List.map_append.symm)) ?_
     refine X.rk ⟨[(0, lV (l.map d188)), (1, iV n), (2, iV t), (7, rV 720), (8, bV true), (9, iV (wrap64 (v9 + 1)))], [(720, some (.row 2 188 ((Lv7 ++ ([(⟨wr .i64 (x5.f0 + n), x5.f1⟩ : S188)] : List S188)).map d188) false true))], 800⟩ hτ hmix (by kernel_rfl) (by kernel_rfl) (s2 := ⟨[(0, lV (l.map d188)), (1, iV n), (2, iV t), (7, rV 720), (8, bV true), (9, iV (v9 + 1))], [(720, some (.row 2 188 ((Lv7 ++ ([(⟨wr .i64 (x5.f0 + n), x5.f1⟩ : S188)] : List S188)).map d188) false true))], 800⟩) (congrArg (fun z : Int => (⟨[(0, lV (l.map d188)), (1, iV n), (2, iV t), (7, rV 720), (8, bV true), (9, iV z)], [(720, some (.row 2 188 ((Lv7 ++ ([(⟨wr .i64 (x5.f0 + n), x5.f1⟩ : S188)] : List S188)).map d188) false true))], 800⟩ : St)) (show wrap64 (v9 + 1) = (v9 + 1) by rw [w64 (n := (v9 + 1)) (by omega) (by omega)])) ?_
     refine ⟨⟨((Lv7 ++ ([(⟨wr .i64 (x5.f0 + n), x5.f1⟩ : S188)] : List S188)), true, (v9 + 1)), ⟨by first | omega | (dsimp only; omega), by first | omega | (dsimp only; omega), by first | exact lvj_eq (by first | omega | (dsimp only; omega)) ‹_› ‹_› hJ ‹_› | exact lvj_gt (by first | omega | (dsimp only; omega)) ‹_› ‹_› hJ ‹_› | exact lvj_lt (by first | omega | (dsimp only; omega)) ‹_› ‹_› hJ ‹_› ‹_› | exact lvj_put (by first | omega | (dsimp only; omega)) ‹_› ‹_› hJ | (exfalso; simp_all)⟩⟩, by first | exact rfl | omega | (dsimp only; omega) | (simp only [List.length_append, List.length_cons, List.length_nil, List.length_set]; omega) | (simp; done) | (simp; omega), Wk.mk' [(80, 720)] (by kernel_rfl) (by kernel_rfl) (by kernel_rfl)⟩
    ·replace hb7 := beq_eq_false_iff_ne.1 (hb7)
     refine X.skip ?_
     refine X.seq ?_
     refine X.seq (rs 3 ?_)
     rcases Bool.eq_false_or_eq_true (!v8) with hb11 | hb11
     ·refine aT 36 hb11 ?_
      refine aT 37 hb11 ?_
      replace hb11 := bnot_yes (hb11)
      refine go 5 ?_
      refine ek ⟨[(0, lV (l.map d188)), (1, iV n), (2, iV t), (7, rV 80), (8, bV v8), (9, iV v9), (10, .pt 272 0 0), (42, bV (decide ((x5.f1 : Int) > t)))], [(80, some (.row 2 188 (Lv7.map d188) false true)), (272, some (.box [.d (.v (.int .i64 x5.f0)), .d (.v (.int .i64 x5.f1))]))], 560⟩ ?_
      refine if_ (b := decide ((x5.f1 : Int) > t)) (fun hb12 => ?_) (fun hb12 => ?_)
      ·replace hb12 := of_decide_eq_true (hb12)
       refine X.seq ?_
       have hjl := hJ.2
       refine rs 5 ?_
       have el13 : (Lv7.map d188).length = Lv7.length := List.length_map ..
       have el14 : (([(⟨n, t⟩ : S188)] : List S188).map d188).length = ([(⟨n, t⟩ : S188)] : List S188).length := List.length_map ..
       have el15 : ([(⟨n, t⟩ : S188)] : List S188).length = 1 := rfl
       refine CH.app hτ (rows := (Lv7.map d188)) (rows2 := (([(⟨n, t⟩ : S188)] : List S188).map d188)) (sz := 2) (bys := 16) true (by kernel_rfl) (by kernel_rfl) (fun _ => flat_d d188 (fun x => rfl)) (flat_ok (f := d188) (fun x => rfl)) (by simp only [List.length_map] <;> (first | done | omega | (simp; done) | (simp; omega))) (by kernel_rfl) ?_
       refine go 1 ?_
       refine CH.endk ⟨[(0, lV (l.map d188)), (1, iV n), (2, iV t), (7, rV 640), (9, iV v9), (10, .pt 272 0 0)], [(272, some (.box [.d (.v (.int .i64 x5.f0)), .d (.v (.int .i64 x5.f1))])), (640, some (.row 2 188 ((Lv7.map d188) ++ (([(⟨n, t⟩ : S188)] : List S188).map d188)) false true))], 672⟩ (by kernel_rfl) (by kernel_rfl) (s2 := ⟨[(0, lV (l.map d188)), (1, iV n), (2, iV t), (7, rV 640), (9, iV v9), (10, .pt 272 0 0)], [(272, some (.box [.d (.v (.int .i64 x5.f0)), .d (.v (.int .i64 x5.f1))])), (640, some (.row 2 188 ((Lv7 ++ ([(⟨n, t⟩ : S188)] : List S188)).map d188) false true))], 672⟩) (congrArg (fun z : List (List D) => (⟨[(0, lV (l.map d188)), (1, iV n), (2, iV t), (7, rV 640), (9, iV v9), (10, .pt 272 0 0)], [(272, some (.box [.d (.v (.int .i64 x5.f0)), .d (.v (.int .i64 x5.f1))])), (640, some (.row 2 188 z false true))], 672⟩ : St)) (show (Lv7.map d188) ++ (([(⟨n, t⟩ : S188)] : List S188).map d188) = ((Lv7 ++ ([(⟨n, t⟩ : S188)] : List S188)).map d188) from List.map_append.symm)) ?_
       refine rk ⟨[(0, lV (l.map d188)), (1, iV n), (2, iV t), (7, rV 640), (8, bV true), (9, iV v9), (10, .pt 272 0 0)], [(272, some (.box [.d (.v (.int .i64 x5.f0)), .d (.v (.int .i64 x5.f1))])), (640, some (.row 2 188 ((Lv7 ++ ([(⟨n, t⟩ : S188)] : List S188)).map d188) false true))], 688⟩ ?_
       have hjl := hJ.2
       refine rs 3 ?_
       have el16 : ((Lv7 ++ ([(⟨n, t⟩ : S188)] : List S188)).map d188).length = (Lv7 ++ ([(⟨n, t⟩ : S188)] : List S188)).length := List.length_map ..
       have el17 : (Lv7 ++ ([(⟨n, t⟩ : S188)] : List S188)).length = Lv7.length + ([(⟨n, t⟩ : S188)] : List S188).length := List.length_append
       have el18 : ([(⟨n, t⟩ : S188)] : List S188).length = 1 := rfl
       have el19 : (([x5] : List S188).map d188).length = ([x5] : List S188).length := List.length_map ..
       have el20 : ([x5] : List S188).length = 1 := rfl
       refine CH.app hτ (rows := ((Lv7 ++ ([(⟨n, t⟩ : S188)] : List S188)).map d188)) (rows2 := (([x5] : List S188).map d188)) (sz := 2) (bys := 16) true (by kernel_rfl) (by kernel_rfl) (fun _ => flat_d d188 (fun x => rfl)) (flat_ok (f := d188) (fun x => rfl)) (by simp only [List.length_map] <;> (first | done | omega | (simp; done) | (simp; omega))) (by kernel_rfl) ?_
       refine go 1 ?_
       refine CH.endk ⟨[(0, lV (l.map d188)), (1, iV n), (2, iV t), (7, rV 736), (8, bV true), (9, iV v9)], [(736, some (.row 2 188 (((Lv7 ++ ([(⟨n, t⟩ : S188)] : List S188)).map d188) ++ (([x5] : List S188).map d188)) false true))], 768⟩ (by kernel_rfl) (by kernel_rfl) (s2 := ⟨[(0, lV (l.map d188)), (1, iV n), (2, iV t), (7, rV 736), (8, bV true), (9, iV v9)], [(736, some (.row 2 188 (((Lv7 ++ ([(⟨n, t⟩ : S188)] : List S188)) ++ ([x5] : List S188)).map d188) false true))], 768⟩) (congrArg (fun z : List (List D) => (⟨[(0, lV (l.map d188)), (1, iV n), (2, iV t), (7, rV 736), (8, bV true), (9, iV v9)], [(736, some (.row 2 188 z false true))], 768⟩ : St)) (show ((Lv7 ++ ([(⟨n, t⟩ : S188)] : List S188)).map d188) ++ (([x5] : List S188).map d188) = (((Lv7 ++ ([(⟨n, t⟩ : S188)] : List S188)) ++ ([x5] : List S188)).map d188) from List.map_append.symm)) ?_
       refine X.rk ⟨[(0, lV (l.map d188)), (1, iV n), (2, iV t), (7, rV 736), (8, bV true), (9, iV (wrap64 (v9 + 1)))], [(736, some (.row 2 188 (((Lv7 ++ ([(⟨n, t⟩ : S188)] : List S188)) ++ ([x5] : List S188)).map d188) false true))], 816⟩ hτ hmix (by kernel_rfl) (by kernel_rfl) (s2 := ⟨[(0, lV (l.map d188)), (1, iV n), (2, iV t), (7, rV 736), (8, bV true), (9, iV (v9 + 1))], [(736, some (.row 2 188 (((Lv7 ++ ([(⟨n, t⟩ : S188)] : List S188)) ++ ([x5] : List S188)).map d188) false true))], 816⟩) (congrArg (fun z : Int => (⟨[(0, lV (l.map d188)), (1, iV n), (2, iV t), (7, rV 736), (8, bV true), (9, iV z)], [(736, some (.row 2 188 (((Lv7 ++ ([(⟨n, t⟩ : S188)] : List S188)) ++ ([x5] : List S188)).map d188) false true))], 816⟩ : St)) (show wrap64 (v9 + 1) = (v9 + 1) by rw [w64 (n := (v9 + 1)) (by omega) (by omega)])) ?_
       refine ⟨⟨(((Lv7 ++ ([(⟨n, t⟩ : S188)] : List S188)) ++ ([x5] : List S188)), true, (v9 + 1)), ⟨by first | omega | (dsimp only; omega), by first | omega | (dsimp only; omega), by first | exact lvj_eq (by first | omega | (dsimp only; omega)) ‹_› ‹_› hJ ‹_› | exact lvj_gt (by first | omega | (dsimp only; omega)) ‹_› ‹_› hJ ‹_› | exact lvj_lt (by first | omega | (dsimp only; omega)) ‹_› ‹_› hJ ‹_› ‹_› | exact lvj_put (by first | omega | (dsimp only; omega)) ‹_› ‹_› hJ | (exfalso; simp_all)⟩⟩, by first | exact rfl | omega | (dsimp only; omega) | (simp only [List.length_append, List.length_cons, List.length_nil, List.length_set]; omega) | (simp; done) | (simp; omega), Wk.mk' [(80, 736)] (by kernel_rfl) (by kernel_rfl) (by kernel_rfl)⟩
      ·replace hb12 := of_decide_eq_false (hb12)
       refine X.skip ?_
       have hjl := hJ.2
       refine rs 3 ?_
       have el21 : (Lv7.map d188).length = Lv7.length := List.length_map ..
       have el22 : (([x5] : List S188).map d188).length = ([x5] : List S188).length := List.length_map ..
       have el23 : ([x5] : List S188).length = 1 := rfl
       refine CH.app hτ (rows := (Lv7.map d188)) (rows2 := (([x5] : List S188).map d188)) (sz := 2) (bys := 16) true (by kernel_rfl) (by kernel_rfl) (fun _ => flat_d d188 (fun x => rfl)) (flat_ok (f := d188) (fun x => rfl)) (by simp only [List.length_map] <;> (first | done | omega | (simp; done) | (simp; omega))) (by kernel_rfl) ?_
       refine go 1 ?_
       refine CH.endk ⟨[(0, lV (l.map d188)), (1, iV n), (2, iV t), (7, rV 608), (8, bV v8), (9, iV v9)], [(608, some (.row 2 188 ((Lv7.map d188) ++ (([x5] : List S188).map d188)) false true))], 640⟩ (by kernel_rfl) (by kernel_rfl) (s2 := ⟨[(0, lV (l.map d188)), (1, iV n), (2, iV t), (7, rV 608), (8, bV v8), (9, iV v9)], [(608, some (.row 2 188 ((Lv7 ++ ([x5] : List S188)).map d188) false true))], 640⟩) (congrArg (fun z : List (List D) => (⟨[(0, lV (l.map d188)), (1, iV n), (2, iV t), (7, rV 608), (8, bV v8), (9, iV v9)], [(608, some (.row 2 188 z false true))], 640⟩ : St)) (show (Lv7.map d188) ++ (([x5] : List S188).map d188) = ((Lv7 ++ ([x5] : List S188)).map d188) from List.map_append.symm)) ?_
       refine X.rk ⟨[(0, lV (l.map d188)), (1, iV n), (2, iV t), (7, rV 608), (8, bV v8), (9, iV (wrap64 (v9 + 1)))], [(608, some (.row 2 188 ((Lv7 ++ ([x5] : List S188)).map d188) false true))], 688⟩ hτ hmix (by kernel_rfl) (by kernel_rfl) (s2 := ⟨[(0, lV (l.map d188)), (1, iV n), (2, iV t), (7, rV 608), (8, bV v8), (9, iV (v9 + 1))], [(608, some (.row 2 188 ((Lv7 ++ ([x5] : List S188)).map d188) false true))], 688⟩) (congrArg (fun z : Int => (⟨[(0, lV (l.map d188)), (1, iV n), (2, iV t), (7, rV 608), (8, bV v8), (9, iV z)], [(608, some (.row 2 188 ((Lv7 ++ ([x5] : List S188)).map d188) false true))], 688⟩ : St)) (show wrap64 (v9 + 1) = (v9 + 1) by rw [w64 (n := (v9 + 1)) (by omega) (by omega)])) ?_
       refine ⟨⟨((Lv7 ++ ([x5] : List S188)), v8, (v9 + 1)), ⟨by first | omega | (dsimp only; omega), by first | omega | (dsimp only; omega), by first | exact lvj_eq (by first | omega | (dsimp only; omega)) ‹_› ‹_› hJ ‹_› | exact lvj_gt (by first | omega | (dsimp only; omega)) ‹_› ‹_› hJ ‹_› | exact lvj_lt (by first | omega | (dsimp only; omega)) ‹_› ‹_› hJ ‹_› ‹_› | exact lvj_put (by first | omega | (dsimp only; omega)) ‹_› ‹_› hJ | (exfalso; simp_all)⟩⟩, by first | exact rfl | omega | (dsimp only; omega) | (simp only [List.length_append, List.length_cons, List.length_nil, List.length_set]; omega) | (simp; done) | (simp; omega), Wk.mk' [(80, 608)] (by kernel_rfl) (by kernel_rfl) (by kernel_rfl)⟩
     ·refine aF 36 hb11 ?_
      refine aF 37 hb11 ?_
      replace hb11 := bnot_no (hb11)
      refine go 5 ?_
      refine ek ⟨[(0, lV (l.map d188)), (1, iV n), (2, iV t), (7, rV 80), (8, bV v8), (9, iV v9), (10, .pt 272 0 0), (42, bV false)], [(80, some (.row 2 188 (Lv7.map d188) false true)), (272, some (.box [.d (.v (.int .i64 x5.f0)), .d (.v (.int .i64 x5.f1))]))], 560⟩ ?_
      refine X.ifF (by kernel_rfl) ?_
      refine X.skip ?_
      have hjl := hJ.2
      refine rs 3 ?_
      have el24 : (Lv7.map d188).length = Lv7.length := List.length_map ..
      have el25 : (([x5] : List S188).map d188).length = ([x5] : List S188).length := List.length_map ..
      have el26 : ([x5] : List S188).length = 1 := rfl
      refine CH.app hτ (rows := (Lv7.map d188)) (rows2 := (([x5] : List S188).map d188)) (sz := 2) (bys := 16) true (by kernel_rfl) (by kernel_rfl) (fun _ => flat_d d188 (fun x => rfl)) (flat_ok (f := d188) (fun x => rfl)) (by simp only [List.length_map] <;> (first | done | omega | (simp; done) | (simp; omega))) (by kernel_rfl) ?_
      refine go 1 ?_
      refine CH.endk ⟨[(0, lV (l.map d188)), (1, iV n), (2, iV t), (7, rV 608), (8, bV v8), (9, iV v9)], [(608, some (.row 2 188 ((Lv7.map d188) ++ (([x5] : List S188).map d188)) false true))], 640⟩ (by kernel_rfl) (by kernel_rfl) (s2 := ⟨[(0, lV (l.map d188)), (1, iV n), (2, iV t), (7, rV 608), (8, bV v8), (9, iV v9)], [(608, some (.row 2 188 ((Lv7 ++ ([x5] : List S188)).map d188) false true))], 640⟩) (congrArg (fun z : List (List D) => (⟨[(0, lV (l.map d188)), (1, iV n), (2, iV t), (7, rV 608), (8, bV v8), (9, iV v9)], [(608, some (.row 2 188 z false true))], 640⟩ : St)) (show (Lv7.map d188) ++ (([x5] : List S188).map d188) = ((Lv7 ++ ([x5] : List S188)).map d188) from List.map_append.symm)) ?_
      refine X.rk ⟨[(0, lV (l.map d188)), (1, iV n), (2, iV t), (7, rV 608), (8, bV v8), (9, iV (wrap64 (v9 + 1)))], [(608, some (.row 2 188 ((Lv7 ++ ([x5] : List S188)).map d188) false true))], 688⟩ hτ hmix (by kernel_rfl) (by kernel_rfl) (s2 := ⟨[(0, lV (l.map d188)), (1, iV n), (2, iV t), (7, rV 608), (8, bV v8), (9, iV (v9 + 1))], [(608, some (.row 2 188 ((Lv7 ++ ([x5] : List S188)).map d188) false true))], 688⟩) (congrArg (fun z : Int => (⟨[(0, lV (l.map d188)), (1, iV n), (2, iV t), (7, rV 608), (8, bV v8), (9, iV z)], [(608, some (.row 2 188 ((Lv7 ++ ([x5] : List S188)).map d188) false true))], 688⟩ : St)) (show wrap64 (v9 + 1) = (v9 + 1) by rw [w64 (n := (v9 + 1)) (by omega) (by omega)])) ?_
      refine ⟨⟨((Lv7 ++ ([x5] : List S188)), v8, (v9 + 1)), ⟨by first | omega | (dsimp only; omega), by first | omega | (dsimp only; omega), by first | exact lvj_eq (by first | omega | (dsimp only; omega)) ‹_› ‹_› hJ ‹_› | exact lvj_gt (by first | omega | (dsimp only; omega)) ‹_› ‹_› hJ ‹_› | exact lvj_lt (by first | omega | (dsimp only; omega)) ‹_› ‹_› hJ ‹_› ‹_› | exact lvj_put (by first | omega | (dsimp only; omega)) ‹_› ‹_› hJ | (exfalso; simp_all)⟩⟩, by first | exact rfl | omega | (dsimp only; omega) | (simp only [List.length_append, List.length_cons, List.length_nil, List.length_set]; omega) | (simp; done) | (simp; omega), Wk.mk' [(80, 608)] (by kernel_rfl) (by kernel_rfl) (by kernel_rfl)⟩
   ·refine aF 23 hb6 ?_
    refine aF 24 hb6 ?_
    replace hb6 := bnot_no (hb6)
    refine go 5 ?_
    refine ek ⟨[(0, lV (l.map d188)), (1, iV n), (2, iV t), (7, rV 80), (8, bV v8), (9, iV v9), (10, .pt 272 0 0), (29, bV false)], [(80, some (.row 2 188 (Lv7.map d188) false true)), (272, some (.box [.d (.v (.int .i64 x5.f0)), .d (.v (.int .i64 x5.f1))]))], 432⟩ ?_
    refine X.ifF (by kernel_rfl) ?_
    refine X.skip ?_
    refine X.seq ?_
    refine X.seq (rs 3 ?_)
    rcases Bool.eq_false_or_eq_true (!v8) with hb27 | hb27
    ·refine aT 36 hb27 ?_
     refine aT 37 hb27 ?_
     replace hb27 := bnot_yes (hb27)
     refine go 5 ?_
     refine ek ⟨[(0, lV (l.map d188)), (1, iV n), (2, iV t), (7, rV 80), (8, bV v8), (9, iV v9), (10, .pt 272 0 0), (42, bV (decide ((x5.f1 : Int) > t)))], [(80, some (.row 2 188 (Lv7.map d188) false true)), (272, some (.box [.d (.v (.int .i64 x5.f0)), .d (.v (.int .i64 x5.f1))]))], 560⟩ ?_
     refine if_ (b := decide ((x5.f1 : Int) > t)) (fun hb28 => ?_) (fun hb28 => ?_)
     ·replace hb28 := of_decide_eq_true (hb28)
      refine X.seq ?_
      have hjl := hJ.2
      refine rs 5 ?_
      have el29 : (Lv7.map d188).length = Lv7.length := List.length_map ..
      have el30 : (([(⟨n, t⟩ : S188)] : List S188).map d188).length = ([(⟨n, t⟩ : S188)] : List S188).length := List.length_map ..
      have el31 : ([(⟨n, t⟩ : S188)] : List S188).length = 1 := rfl
      refine CH.app hτ (rows := (Lv7.map d188)) (rows2 := (([(⟨n, t⟩ : S188)] : List S188).map d188)) (sz := 2) (bys := 16) true (by kernel_rfl) (by kernel_rfl) (fun _ => flat_d d188 (fun x => rfl)) (flat_ok (f := d188) (fun x => rfl)) (by simp only [List.length_map] <;> (first | done | omega | (simp; done) | (simp; omega))) (by kernel_rfl) ?_
      refine go 1 ?_
      refine CH.endk ⟨[(0, lV (l.map d188)), (1, iV n), (2, iV t), (7, rV 640), (9, iV v9), (10, .pt 272 0 0)], [(272, some (.box [.d (.v (.int .i64 x5.f0)), .d (.v (.int .i64 x5.f1))])), (640, some (.row 2 188 ((Lv7.map d188) ++ (([(⟨n, t⟩ : S188)] : List S188).map d188)) false true))], 672⟩ (by kernel_rfl) (by kernel_rfl) (s2 := ⟨[(0, lV (l.map d188)), (1, iV n), (2, iV t), (7, rV 640), (9, iV v9), (10, .pt 272 0 0)], [(272, some (.box [.d (.v (.int .i64 x5.f0)), .d (.v (.int .i64 x5.f1))])), (640, some (.row 2 188 ((Lv7 ++ ([(⟨n, t⟩ : S188)] : List S188)).map d188) false true))], 672⟩) (congrArg (fun z : List (List D) => (⟨[(0, lV (l.map d188)), (1, iV n), (2, iV t), (7, rV 640), (9, iV v9), (10, .pt 272 0 0)], [(272, some (.box [.d (.v (.int .i64 x5.f0)), .d (.v (.int .i64 x5.f1))])), (640, some (.row 2 188 z false true))], 672⟩ : St)) (show (Lv7.map d188) ++ (([(⟨n, t⟩ : S188)] : List S188).map d188) = ((Lv7 ++ ([(⟨n, t⟩ : S188)] : List S188)).map d188) from List.map_append.symm)) ?_
      refine rk ⟨[(0, lV (l.map d188)), (1, iV n), (2, iV t), (7, rV 640), (8, bV true), (9, iV v9), (10, .pt 272 0 0)], [(272, some (.box [.d (.v (.int .i64 x5.f0)), .d (.v (.int .i64 x5.f1))])), (640, some (.row 2 188 ((Lv7 ++ ([(⟨n, t⟩ : S188)] : List S188)).map d188) false true))], 688⟩ ?_
      have hjl := hJ.2
      refine rs 3 ?_
      have el32 : ((Lv7 ++ ([(⟨n, t⟩ : S188)] : List S188)).map d188).length = (Lv7 ++ ([(⟨n, t⟩ : S188)] : List S188)).length := List.length_map ..
      have el33 : (Lv7 ++ ([(⟨n, t⟩ : S188)] : List S188)).length = Lv7.length + ([(⟨n, t⟩ : S188)] : List S188).length := List.length_append
      have el34 : ([(⟨n, t⟩ : S188)] : List S188).length = 1 := rfl
      have el35 : (([x5] : List S188).map d188).length = ([x5] : List S188).length := List.length_map ..
      have el36 : ([x5] : List S188).length = 1 := rfl
      refine CH.app hτ (rows := ((Lv7 ++ ([(⟨n, t⟩ : S188)] : List S188)).map d188)) (rows2 := (([x5] : List S188).map d188)) (sz := 2) (bys := 16) true (by kernel_rfl) (by kernel_rfl) (fun _ => flat_d d188 (fun x => rfl)) (flat_ok (f := d188) (fun x => rfl)) (by simp only [List.length_map] <;> (first | done | omega | (simp; done) | (simp; omega))) (by kernel_rfl) ?_
      refine go 1 ?_
      refine CH.endk ⟨[(0, lV (l.map d188)), (1, iV n), (2, iV t), (7, rV 736), (8, bV true), (9, iV v9)], [(736, some (.row 2 188 (((Lv7 ++ ([(⟨n, t⟩ : S188)] : List S188)).map d188) ++ (([x5] : List S188).map d188)) false true))], 768⟩ (by kernel_rfl) (by kernel_rfl) (s2 := ⟨[(0, lV (l.map d188)), (1, iV n), (2, iV t), (7, rV 736), (8, bV true), (9, iV v9)], [(736, some (.row 2 188 (((Lv7 ++ ([(⟨n, t⟩ : S188)] : List S188)) ++ ([x5] : List S188)).map d188) false true))], 768⟩) (congrArg (fun z : List (List D) => (⟨[(0, lV (l.map d188)), (1, iV n), (2, iV t), (7, rV 736), (8, bV true), (9, iV v9)], [(736, some (.row 2 188 z false true))], 768⟩ : St)) (show ((Lv7 ++ ([(⟨n, t⟩ : S188)] : List S188)).map d188) ++ (([x5] : List S188).map d188) = (((Lv7 ++ ([(⟨n, t⟩ : S188)] : List S188)) ++ ([x5] : List S188)).map d188) from List.map_append.symm)) ?_
      refine X.rk ⟨[(0, lV (l.map d188)), (1, iV n), (2, iV t), (7, rV 736), (8, bV true), (9, iV (wrap64 (v9 + 1)))], [(736, some (.row 2 188 (((Lv7 ++ ([(⟨n, t⟩ : S188)] : List S188)) ++ ([x5] : List S188)).map d188) false true))], 816⟩ hτ hmix (by kernel_rfl) (by kernel_rfl) (s2 := ⟨[(0, lV (l.map d188)), (1, iV n), (2, iV t), (7, rV 736), (8, bV true), (9, iV (v9 + 1))], [(736, some (.row 2 188 (((Lv7 ++ ([(⟨n, t⟩ : S188)] : List S188)) ++ ([x5] : List S188)).map d188) false true))], 816⟩) (congrArg (fun z : Int => (⟨[(0, lV (l.map d188)), (1, iV n), (2, iV t), (7, rV 736), (8, bV true), (9, iV z)], [(736, some (.row 2 188 (((Lv7 ++ ([(⟨n, t⟩ : S188)] : List S188)) ++ ([x5] : List S188)).map d188) false true))], 816⟩ : St)) (show wrap64 (v9 + 1) = (v9 + 1) by rw [w64 (n := (v9 + 1)) (by omega) (by omega)])) ?_
      refine ⟨⟨(((Lv7 ++ ([(⟨n, t⟩ : S188)] : List S188)) ++ ([x5] : List S188)), true, (v9 + 1)), ⟨by first | omega | (dsimp only; omega), by first | omega | (dsimp only; omega), by first | exact lvj_eq (by first | omega | (dsimp only; omega)) ‹_› ‹_› hJ ‹_› | exact lvj_gt (by first | omega | (dsimp only; omega)) ‹_› ‹_› hJ ‹_› | exact lvj_lt (by first | omega | (dsimp only; omega)) ‹_› ‹_› hJ ‹_› ‹_› | exact lvj_put (by first | omega | (dsimp only; omega)) ‹_› ‹_› hJ | (exfalso; simp_all)⟩⟩, by first | exact rfl | omega | (dsimp only; omega) | (simp only [List.length_append, List.length_cons, List.length_nil, List.length_set]; omega) | (simp; done) | (simp; omega), Wk.mk' [(80, 736)] (by kernel_rfl) (by kernel_rfl) (by kernel_rfl)⟩
     ·replace hb28 := of_decide_eq_false (hb28)
      refine X.skip ?_
      have hjl := hJ.2
      refine rs 3 ?_
      have el37 : (Lv7.map d188).length = Lv7.length := List.length_map ..
      have el38 : (([x5] : List S188).map d188).length = ([x5] : List S188).length := List.length_map ..
      have el39 : ([x5] : List S188).length = 1 := rfl
      refine CH.app hτ (rows := (Lv7.map d188)) (rows2 := (([x5] : List S188).map d188)) (sz := 2) (bys := 16) true (by kernel_rfl) (by kernel_rfl) (fun _ => flat_d d188 (fun x => rfl)) (flat_ok (f := d188) (fun x => rfl)) (by simp only [List.length_map] <;> (first | done | omega | (simp; done) | (simp; omega))) (by kernel_rfl) ?_
      refine go 1 ?_
      refine CH.endk ⟨[(0, lV (l.map d188)), (1, iV n), (2, iV t), (7, rV 608), (8, bV v8), (9, iV v9)], [(608, some (.row 2 188 ((Lv7.map d188) ++ (([x5] : List S188).map d188)) false true))], 640⟩ (by kernel_rfl) (by kernel_rfl) (s2 := ⟨[(0, lV (l.map d188)), (1, iV n), (2, iV t), (7, rV 608), (8, bV v8), (9, iV v9)], [(608, some (.row 2 188 ((Lv7 ++ ([x5] : List S188)).map d188) false true))], 640⟩) (congrArg (fun z : List (List D) => (⟨[(0, lV (l.map d188)), (1, iV n), (2, iV t), (7, rV 608), (8, bV v8), (9, iV v9)], [(608, some (.row 2 188 z false true))], 640⟩ : St)) (show (Lv7.map d188) ++ (([x5] : List S188).map d188) = ((Lv7 ++ ([x5] : List S188)).map d188) from List.map_append.symm)) ?_
      refine X.rk ⟨[(0, lV (l.map d188)), (1, iV n), (2, iV t), (7, rV 608), (8, bV v8), (9, iV (wrap64 (v9 + 1)))], [(608, some (.row 2 188 ((Lv7 ++ ([x5] : List S188)).map d188) false true))], 688⟩ hτ hmix (by kernel_rfl) (by kernel_rfl) (s2 := ⟨[(0, lV (l.map d188)), (1, iV n), (2, iV t), (7, rV 608), (8, bV v8), (9, iV (v9 + 1))], [(608, some (.row 2 188 ((Lv7 ++ ([x5] : List S188)).map d188) false true))], 688⟩) (congrArg (fun z : Int => (⟨[(0, lV (l.map d188)), (1, iV n), (2, iV t), (7, rV 608), (8, bV v8), (9, iV z)], [(608, some (.row 2 188 ((Lv7 ++ ([x5] : List S188)).map d188) false true))], 688⟩ : St)) (show wrap64 (v9 + 1) = (v9 + 1) by rw [w64 (n := (v9 + 1)) (by omega) (by omega)])) ?_
      refine ⟨⟨((Lv7 ++ ([x5] : List S188)), v8, (v9 + 1)), ⟨by first | omega | (dsimp only; omega), by first | omega | (dsimp only; omega), by first | exact lvj_eq (by first | omega | (dsimp only; omega)) ‹_› ‹_› hJ ‹_› | exact lvj_gt (by first | omega | (dsimp only; omega)) ‹_› ‹_› hJ ‹_› | exact lvj_lt (by first | omega | (dsimp only; omega)) ‹_› ‹_› hJ ‹_› ‹_› | exact lvj_put (by first | omega | (dsimp only; omega)) ‹_› ‹_› hJ | (exfalso; simp_all)⟩⟩, by first | exact rfl | omega | (dsimp only; omega) | (simp only [List.length_append, List.length_cons, List.length_nil, List.length_set]; omega) | (simp; done) | (simp; omega), Wk.mk' [(80, 608)] (by kernel_rfl) (by kernel_rfl) (by kernel_rfl)⟩
    ·refine aF 36 hb27 ?_
     refine aF 37 hb27 ?_
     replace hb27 := bnot_no (hb27)
     refine go 5 ?_
     refine ek ⟨[(0, lV (l.map d188)), (1, iV n), (2, iV t), (7, rV 80), (8, bV v8), (9, iV v9), (10, .pt 272 0 0), (42, bV false)], [(80, some (.row 2 188 (Lv7.map d188) false true)), (272, some (.box [.d (.v (.int .i64 x5.f0)), .d (.v (.int .i64 x5.f1))]))], 560⟩ ?_
     refine X.ifF (by kernel_rfl) ?_
     refine X.skip ?_
     have hjl := hJ.2
     refine rs 3 ?_
     have el40 : (Lv7.map d188).length = Lv7.length := List.length_map ..
     have el41 : (([x5] : List S188).map d188).length = ([x5] : List S188).length := List.length_map ..
     have el42 : ([x5] : List S188).length = 1 := rfl
     refine CH.app hτ (rows := (Lv7.map d188)) (rows2 := (([x5] : List S188).map d188)) (sz := 2) (bys := 16) true (by kernel_rfl) (by kernel_rfl) (fun _ => flat_d d188 (fun x => rfl)) (flat_ok (f := d188) (fun x => rfl)) (by simp only [List.length_map] <;> (first | done | omega | (simp; done) | (simp; omega))) (by kernel_rfl) ?_
     refine go 1 ?_
     refine CH.endk ⟨[(0, lV (l.map d188)), (1, iV n), (2, iV t), (7, rV 608), (8, bV v8), (9, iV v9)], [(608, some (.row 2 188 ((Lv7.map d188) ++ (([x5] : List S188).map d188)) false true))], 640⟩ (by kernel_rfl) (by kernel_rfl) (s2 := ⟨[(0, lV (l.map d188)), (1, iV n), (2, iV t), (7, rV 608), (8, bV v8), (9, iV v9)], [(608, some (.row 2 188 ((Lv7 ++ ([x5] : List S188)).map d188) false true))], 640⟩) (congrArg (fun z : List (List D) => (⟨[(0, lV (l.map d188)), (1, iV n), (2, iV t), (7, rV 608), (8, bV v8), (9, iV v9)], [(608, some (.row 2 188 z false true))], 640⟩ : St)) (show (Lv7.map d188) ++ (([x5] : List S188).map d188) = ((Lv7 ++ ([x5] : List S188)).map d188) from List.map_append.symm)) ?_
     refine X.rk ⟨[(0, lV (l.map d188)), (1, iV n), (2, iV t), (7, rV 608), (8, bV v8), (9, iV (wrap64 (v9 + 1)))], [(608, some (.row 2 188 ((Lv7 ++ ([x5] : List S188)).map d188) false true))], 688⟩ hτ hmix (by kernel_rfl) (by kernel_rfl) (s2 := ⟨[(0, lV (l.map d188)), (1, iV n), (2, iV t), (7, rV 608), (8, bV v8), (9, iV (v9 + 1))], [(608, some (.row 2 188 ((Lv7 ++ ([x5] : List S188)).map d188) false true))], 688⟩) (congrArg (fun z : Int => (⟨[(0, lV (l.map d188)), (1, iV n), (2, iV t), (7, rV 608), (8, bV v8), (9, iV z)], [(608, some (.row 2 188 ((Lv7 ++ ([x5] : List S188)).map d188) false true))], 688⟩ : St)) (show wrap64 (v9 + 1) = (v9 + 1) by rw [w64 (n := (v9 + 1)) (by omega) (by omega)])) ?_
     refine ⟨⟨((Lv7 ++ ([x5] : List S188)), v8, (v9 + 1)), ⟨by first | omega | (dsimp only; omega), by first | omega | (dsimp only; omega), by first | exact lvj_eq (by first | omega | (dsimp only; omega)) ‹_› ‹_› hJ ‹_› | exact lvj_gt (by first | omega | (dsimp only; omega)) ‹_› ‹_› hJ ‹_› | exact lvj_lt (by first | omega | (dsimp only; omega)) ‹_› ‹_› hJ ‹_› ‹_› | exact lvj_put (by first | omega | (dsimp only; omega)) ‹_› ‹_› hJ | (exfalso; simp_all)⟩⟩, by first | exact rfl | omega | (dsimp only; omega) | (simp only [List.length_append, List.length_cons, List.length_nil, List.length_set]; omega) | (simp; done) | (simp; omega), Wk.mk' [(80, 608)] (by kernel_rfl) (by kernel_rfl) (by kernel_rfl)⟩
  ·replace hb4 := of_decide_eq_false (hb4)
   refine X.exit ?_
   refine X.seq ?_
   refine sk ⟨[(1, iV n), (2, iV t), (7, rV 80), (54, bV (!v8))], [(80, some (.row 2 188 (Lv7.map d188) false true))], 240⟩ ?_
   refine if_ (b := !v8) (fun hb43 => ?_) (fun hb43 => ?_)
   ·replace hb43 := bnot_yes (hb43)
    have hjl := hJ.2
    refine rs 5 ?_
    have el44 : (Lv7.map d188).length = Lv7.length := List.length_map ..
    have el45 : (([(⟨n, t⟩ : S188)] : List S188).map d188).length = ([(⟨n, t⟩ : S188)] : List S188).length := List.length_map ..
    have el46 : ([(⟨n, t⟩ : S188)] : List S188).length = 1 := rfl
    refine CH.app hτ (rows := (Lv7.map d188)) (rows2 := (([(⟨n, t⟩ : S188)] : List S188).map d188)) (sz := 2) (bys := 16) true (by kernel_rfl) (by kernel_rfl) (fun _ => flat_d d188 (fun x => rfl)) (flat_ok (f := d188) (fun x => rfl)) (by simp only [List.length_map] <;> (first | done | omega | (simp; done) | (simp; omega))) (by kernel_rfl) ?_
    refine go 1 ?_
    refine CH.endk ⟨[(7, rV 320)], [(320, some (.row 2 188 ((Lv7.map d188) ++ (([(⟨n, t⟩ : S188)] : List S188).map d188)) false true))], 352⟩ (by kernel_rfl) (by kernel_rfl) (s2 := ⟨[(7, rV 320)], [(320, some (.row 2 188 ((Lv7 ++ ([(⟨n, t⟩ : S188)] : List S188)).map d188) false true))], 352⟩) (congrArg (fun z : List (List D) => (⟨[(7, rV 320)], [(320, some (.row 2 188 z false true))], 352⟩ : St)) (show (Lv7.map d188) ++ (([(⟨n, t⟩ : S188)] : List S188).map d188) = ((Lv7 ++ ([(⟨n, t⟩ : S188)] : List S188)).map d188) from List.map_append.symm)) ?_
    refine sk ⟨[(6, rV 320)], [(320, some (.row 2 188 ((Lv7 ++ ([(⟨n, t⟩ : S188)] : List S188)).map d188) false true))], 384⟩ ?_
    refine X.ret ?_
    exact ⟨trivial, _, _, ⟨(Lv7 ++ ([(⟨n, t⟩ : S188)] : List S188)), (by first | exact (lvj_e1 hJ ‹_› (by omega)) | exact (lvj_e2 hJ ‹_› (by omega))), rfl, rfl⟩, .inr ⟨⟨[(6, .e (.c (.f (.sl ((Lv7 ++ ([(⟨n, t⟩ : S188)] : List S188)).map d188)))))], [(320, some (.row 2 188 ((Lv7 ++ ([(⟨n, t⟩ : S188)] : List S188)).map d188) true true))], 384⟩, Wk.less (by kernel_rfl), Ret.mk' [] (by kernel_rfl) (by kernel_rfl) (by kernel_rfl)⟩⟩
   ·replace hb43 := bnot_no (hb43)
    refine X.skip ?_
    refine sk ⟨[(6, rV 80)], [(80, some (.row 2 188 (Lv7.map d188) false true))], 272⟩ ?_
    refine X.ret ?_
    exact ⟨trivial, _, _, ⟨Lv7, (by first | exact (lvj_e1 hJ ‹_› (by omega)) | exact (lvj_e2 hJ ‹_› (by omega))), rfl, rfl⟩, .inr ⟨⟨[(6, .e (.c (.f (.sl (Lv7.map d188)))))], [(80, some (.row 2 188 (Lv7.map d188) true true))], 272⟩, Wk.less (by kernel_rfl), Ret.mk' [] (by kernel_rfl) (by kernel_rfl) (by kernel_rfl)⟩⟩
 obtain ⟨_, _, ⟨r0, h1_, rfl, rfl⟩, hf⟩ := key
 exact ⟨r0, h1_, hf⟩

theorem s_l6Do (g : S27) (t : S35) (k : Int) (hg : acsSm g.f1) (hgl : ledgerOk g = true) (ht : txOk t = true) (hk : 0 ≤ k ∧ k < (g.f1.length : Int)) : ∃ r0 : S27, (r0 = doW g (Int.toNat k) t) ∧ Fn Try.prog 120 [.e (.agg [.d (.v (.int .i64 g.f0)), .d (.sl (g.f1.map d38))]), .e (.agg (cD (d35 t))), iV k] (lookH []) (.e (.agg [.d (.v (.int .i64 r0.f0)), .ref 64])) (lookH [(64, some (.row 5 38 (r0.f1.map d38) false true))]) := by
 have key : ∃ x' h', ((fun x' h' => ∃ r0 : S27, (r0 = doW g (Int.toNat k) t) ∧ x' = .e (.agg [.d (.v (.int .i64 r0.f0)), .ref 64]) ∧ h' = [(64, some (.row 5 38 (r0.f1.map d38) false true))])) x' h' ∧ Fn Try.prog 120 [.e (.agg [.d (.v (.int .i64 g.f0)), .d (.sl (g.f1.map d38))]), .e (.agg (cD (d35 t))), iV k] (lookH []) x' (lookH h') := by
  refine Fn.bodyX (N := 109) hτ Try.func120 rfl rfl rfl rfl ?_
  refine sk ⟨[(2, iV k), (3, .pt 64 0 0), (4, .pt 80 0 0), (6, .pt 96 0 0)], [(64, some (.box [.d (.v (.int .i64 g.f0)), .d (.sl (g.f1.map d38))])), (80, some (.box (cD (d35 t)))), (96, some (.box [.d (.v (.int .i64 0)), .nil]))], 112⟩ ?_
  refine X.seq (rs 1 ?_)
  obtain ⟨r1, hr3, hf2⟩ := s_l6Copy g (by assumption)
  replace hr3 := hr3.symm; subst hr3
  refine ca hf2 Try.func88 ?_
  refine go 2 ?_
  refine ek ⟨[(2, iV k), (3, .pt 64 0 0), (4, .pt 80 0 0), (6, .pt 96 0 0), (7, .pt 144 0 0)], [(64, some (.box [.d (.v (.int .i64 g.f0)), .d (.sl (g.f1.map d38))])), (80, some (.box (cD (d35 t)))), (96, some (.box [.d (.v (.int .i64 0)), .nil])), (128, some (.row 5 38 (g.f1.map d38) false true)), (144, some (.box [.d (.v (.int .i64 g.f0)), .ref 128]))], 176⟩ ?_
  refine X.seq ?_
  have hll := hg.1
  refine rs 3 ?_
  refine CH.idxR hτ (rows := (g.f1.map d38)) (n := k) (b := 128) (by kernel_rfl) (by kernel_rfl) (by first | omega | (simp; done) | (simp; omega)) (by simp only [List.length_map, List.length_set]; first | omega | (simp; done) | (simp; omega)) (by kernel_rfl) ?_
  refine go 1 ?_
  refine ek ⟨[(3, .pt 64 0 0), (4, .pt 80 0 0), (6, .pt 96 0 0), (7, .pt 144 0 0), (8, .pt 128 (Int.toNat k) 0)], [(64, some (.box [.d (.v (.int .i64 g.f0)), .d (.sl (g.f1.map d38))])), (80, some (.box (cD (d35 t)))), (96, some (.box [.d (.v (.int .i64 0)), .nil])), (128, some (.row 5 38 (g.f1.map d38) false true)), (144, some (.box [.d (.v (.int .i64 g.f0)), .ref 128]))], 256⟩ ?_
  refine X.seq (rs 4 ?_)
  obtain ⟨x5, hx5⟩ : ∃ x, g.f1[Int.toNat k]? = some x := ⟨_, List.getElem?_eq_getElem (by first | omega | (simp; done) | (simp; omega))⟩
  have hx4 := all_at hg.2 hx5; have hx3 := hx5
  refine CH.row hτ (d38 x5) (by kernel_rfl) (by kernel_rfl) (by rw [List.getElem?_map, hx5]; rfl) (by kernel_rfl) ?_
  refine go 3 ?_
  refine CH.row hτ (d38 x5) (by kernel_rfl) (by kernel_rfl) (by rw [List.getElem?_map, hx5]; rfl) (by kernel_rfl) ?_
  refine CH.endk ⟨[(3, .pt 64 0 0), (4, .pt 80 0 0), (6, .pt 96 0 0), (7, .pt 144 0 0), (8, .pt 128 (Int.toNat k) 0)], [(64, some (.box [.d (.v (.int .i64 g.f0)), .d (.sl (g.f1.map d38))])), (80, some (.box (cD (d35 t)))), (96, some (.box [.d (.v (.int .i64 0)), .nil])), (128, some (.row 5 38 ((g.f1.map d38).set (Int.toNat k) (d38 (⟨x5.f0, x5.f1, wr .i64 (x5.f2 + 1), x5.f3, x5.f4⟩ : S38))) false true)), (144, some (.box [.d (.v (.int .i64 g.f0)), .ref 128]))], 400⟩ (by kernel_rfl) (by kernel_rfl) (s2 := ⟨[(3, .pt 64 0 0), (4, .pt 80 0 0), (6, .pt 96 0 0), (7, .pt 144 0 0), (8, .pt 128 (Int.toNat k) 0)], [(64, some (.box [.d (.v (.int .i64 g.f0)), .d (.sl (g.f1.map d38))])), (80, some (.box (cD (d35 t)))), (96, some (.box [.d (.v (.int .i64 0)), .nil])), (128, some (.row 5 38 ((g.f1.set (Int.toNat k) (⟨x5.f0, x5.f1, wr .i64 (x5.f2 + 1), x5.f3, x5.f4⟩ : S38)).map d38) false true)), (144, some (.box [.d (.v (.int .i64 g.f0)), .ref 128]))], 400⟩) (congrArg (fun z : List (List D) => (⟨[(3, .pt 64 0 0), (4, .pt 80 0 0), (6, .pt 96 0 0), (7, .pt 144 0 0), (8, .pt 128 (Int.toNat k) 0)], [(64, some (.box [.d (.v (.int .i64 g.f0)), .d (.sl (g.f1.map d38))])), (80, some (.box (cD (d35 t)))), (96, some (.box [.d (.v (.int .i64 0)), .nil])), (128, some (.row 5 38 z false true)), (144, some (.box [.d (.v (.int .i64 g.f0)), .ref 128]))], 400⟩ : St)) (show ((g.f1.map d38).set (Int.toNat k) (d38 (⟨x5.f0, x5.f1, wr .i64 (x5.f2 + 1), x5.f3, x5.f4⟩ : S38))) = ((g.f1.set (Int.toNat k) (⟨x5.f0, x5.f1, wr .i64 (x5.f2 + 1), x5.f3, x5.f4⟩ : S38)).map d38) from List.map_set.symm)) ?_
  refine X.seq ?_
  refine sk ⟨[(3, .pt 64 0 0), (4, .pt 80 0 0), (6, .pt 96 0 0), (7, .pt 144 0 0), (8, .pt 128 (Int.toNat k) 0), (25, iV t.f0)], [(64, some (.box [.d (.v (.int .i64 g.f0)), .d (.sl (g.f1.map d38))])), (80, some (.box (cD (d35 t)))), (96, some (.box [.d (.v (.int .i64 0)), .nil])), (128, some (.row 5 38 ((g.f1.set (Int.toNat k) (⟨x5.f0, x5.f1, wr .i64 (x5.f2 + 1), x5.f3, x5.f4⟩ : S38)).map d38) false true)), (144, some (.box [.d (.v (.int .i64 g.f0)), .ref 128]))], 432⟩ ?_
  refine X.block ?_
  refine sk ⟨[(3, .pt 64 0 0), (4, .pt 80 0 0), (6, .pt 96 0 0), (7, .pt 144 0 0), (8, .pt 128 (Int.toNat k) 0), (25, iV t.f0), (49, bV (t.f0 == 1))], [(64, some (.box [.d (.v (.int .i64 g.f0)), .d (.sl (g.f1.map d38))])), (80, some (.box (cD (d35 t)))), (96, some (.box [.d (.v (.int .i64 0)), .nil])), (128, some (.row 5 38 ((g.f1.set (Int.toNat k) (⟨x5.f0, x5.f1, wr .i64 (x5.f2 + 1), x5.f3, x5.f4⟩ : S38)).map d38) false true)), (144, some (.box [.d (.v (.int .i64 g.f0)), .ref 128]))], 464⟩ ?_
  refine if_ (b := (t.f0 == 1)) (fun hb6 => ?_) (fun hb6 => ?_)
  ·replace hb6 := eq_of_beq (hb6)
   refine X.seq (rs 4 ?_)
   obtain ⟨x7, hx7⟩ : ∃ x, (g.f1.set (Int.toNat k) (⟨x5.f0, x5.f1, wr .i64 (x5.f2 + 1), x5.f3, x5.f4⟩ : S38))[Int.toNat k]? = some x := ⟨_, List.getElem?_eq_getElem (by first | omega | (simp; done) | (simp; omega))⟩
   have hq8 := set_eq hx7
   refine CH.row hτ (d38 x7) (by kernel_rfl) (by kernel_rfl) (by rw [List.getElem?_map, hx7]; rfl) (by kernel_rfl) ?_
   refine go 5 ?_
   refine CH.row hτ (d38 x7) (by kernel_rfl) (by kernel_rfl) (by rw [List.getElem?_map, hx7]; rfl) (by kernel_rfl) ?_
   refine CH.endk ⟨[(4, .pt 80 0 0), (6, .pt 96 0 0), (7, .pt 144 0 0)], [(80, some (.box (cD (d35 t)))), (96, some (.box [.d (.v (.int .i64 0)), .nil])), (128, some (.row 5 38 (((g.f1.set (Int.toNat k) (⟨x5.f0, x5.f1, wr .i64 (x5.f2 + 1), x5.f3, x5.f4⟩ : S38)).map d38).set (Int.toNat k) (d38 (⟨x7.f0, wr .i64 (x7.f1 - t.f3), x7.f2, x7.f3, x7.f4⟩ : S38))) false true)), (144, some (.box [.d (.v (.int .i64 g.f0)), .ref 128]))], 640⟩ (by kernel_rfl) (by kernel_rfl) (s2 := ⟨[(4, .pt 80 0 0), (6, .pt 96 0 0), (7, .pt 144 0 0)], [(80, some (.box (cD (d35 t)))), (96, some (.box [.d (.v (.int .i64 0)), .nil])), (128, some (.row 5 38 (((g.f1.set (Int.toNat k) (⟨x5.f0, x5.f1, wr .i64 (x5.f2 + 1), x5.f3, x5.f4⟩ : S38)).set (Int.toNat k) (⟨x7.f0, wr .i64 (x7.f1 - t.f3), x7.f2, x7.f3, x7.f4⟩ : S38)).map d38) false true)), (144, some (.box [.d (.v (.int .i64 g.f0)), .ref 128]))], 640⟩) (congrArg (fun z : List (List D) => (⟨[(4, .pt 80 0 0), (6, .pt 96 0 0), (7, .pt 144 0 0)], [(80, some (.box (cD (d35 t)))), (96, some (.box [.d (.v (.int .i64 0)), .nil])), (128, some (.row 5 38 z false true)), (144, some (.box [.d (.v (.int .i64 g.f0)), .ref 128]))], 640⟩ : St)) (show (((g.f1.set (Int.toNat k) (⟨x5.f0, x5.f1, wr .i64 (x5.f2 + 1), x5.f3, x5.f4⟩ : S38)).map d38).set (Int.toNat k) (d38 (⟨x7.f0, wr .i64 (x7.f1 - t.f3), x7.f2, x7.f3, x7.f4⟩ : S38))) = (((g.f1.set (Int.toNat k) (⟨x5.f0, x5.f1, wr .i64 (x5.f2 + 1), x5.f3, x5.f4⟩ : S38)).set (Int.toNat k) (⟨x7.f0, wr .i64 (x7.f1 - t.f3), x7.f2, x7.f3, x7.f4⟩ : S38)).map d38) from List.map_set.symm)) ?_
   refine X.seq (rs 4 ?_)
   obtain ⟨r8, hr10, hf9⟩ := s_l4With ((g.f1.set (Int.toNat k) (⟨x5.f0, x5.f1, wr .i64 (x5.f2 + 1), x5.f3, x5.f4⟩ : S38)).set (Int.toNat k) (⟨x7.f0, wr .i64 (x7.f1 - t.f3), x7.f2, x7.f3, x7.f4⟩ : S38)) t.f2 (by (subst hq8; refine ⟨by simp only [List.length_set]; omega, all_set (p := acSm) (all_set (p := acSm) hg.2 ?_) ?_⟩ <;> exact hx4)) (by (subst hq8; rw [List.set_set]; exact srt_set (lg_srt hgl) hx3 rfl))
   replace hr10 := hr10.symm; subst hr10
   have hwl := with_len ((g.f1.set (Int.toNat k) (⟨x5.f0, x5.f1, wr .i64 (x5.f2 + 1), x5.f3, x5.f4⟩ : S38)).set (Int.toNat k) (⟨x7.f0, wr .i64 (x7.f1 - t.f3), x7.f2, x7.f3, x7.f4⟩ : S38)) t.f2
   try simp only [List.length_set] at hwl
   have haw := acAt_with ((g.f1.set (Int.toNat k) (⟨x5.f0, x5.f1, wr .i64 (x5.f2 + 1), x5.f3, x5.f4⟩ : S38)).set (Int.toNat k) (⟨x7.f0, wr .i64 (x7.f1 - t.f3), x7.f2, x7.f3, x7.f4⟩ : S38)) t.f2
   refine ca hf9 Try.func165 ?_
   refine go 2 ?_
   refine ek ⟨[(4, .pt 80 0 0), (6, .pt 96 0 0), (7, .pt 144 0 0)], [(80, some (.box (cD (d35 t)))), (96, some (.box [.d (.v (.int .i64 0)), .nil])), (144, some (.box [.d (.v (.int .i64 g.f0)), .ref 704])), (704, some (.row 5 38 ((withW ((g.f1.set (Int.toNat k) (⟨x5.f0, x5.f1, wr .i64 (x5.f2 + 1), x5.f3, x5.f4⟩ : S38)).set (Int.toNat k) (⟨x7.f0, wr .i64 (x7.f1 - t.f3), x7.f2, x7.f3, x7.f4⟩ : S38)) t.f2).map d38) false true))], 752⟩ ?_
   refine X.seq (rs 4 ?_)
   obtain ⟨r12, hr14, hf13⟩ := s_AcctAt (withW ((g.f1.set (Int.toNat k) (⟨x5.f0, x5.f1, wr .i64 (x5.f2 + 1), x5.f3, x5.f4⟩ : S38)).set (Int.toNat k) (⟨x7.f0, wr .i64 (x7.f1 - t.f3), x7.f2, x7.f3, x7.f4⟩ : S38)) t.f2) t.f2 (by first | assumption | omega)
   replace hr14 := hr14.symm; subst hr14
   have hac := fi_bd (nmP t.f2) (withW ((g.f1.set (Int.toNat k) (⟨x5.f0, x5.f1, wr .i64 (x5.f2 + 1), x5.f3, x5.f4⟩ : S38)).set (Int.toNat k) (⟨x7.f0, wr .i64 (x7.f1 - t.f3), x7.f2, x7.f3, x7.f4⟩ : S38)) t.f2)
   change -1 ≤ acAt (withW ((g.f1.set (Int.toNat k) (⟨x5.f0, x5.f1, wr .i64 (x5.f2 + 1), x5.f3, x5.f4⟩ : S38)).set (Int.toNat k) (⟨x7.f0, wr .i64 (x7.f1 - t.f3), x7.f2, x7.f3, x7.f4⟩ : S38)) t.f2) t.f2 ∧ acAt (withW ((g.f1.set (Int.toNat k) (⟨x5.f0, x5.f1, wr .i64 (x5.f2 + 1), x5.f3, x5.f4⟩ : S38)).set (Int.toNat k) (⟨x7.f0, wr .i64 (x7.f1 - t.f3), x7.f2, x7.f3, x7.f4⟩ : S38)) t.f2) t.f2 < _ at hac
   refine ca hf13 Try.func50 ?_
   refine go 1 ?_
   refine ek ⟨[(4, .pt 80 0 0), (6, .pt 96 0 0), (7, .pt 144 0 0), (9, iV (acAt (withW ((g.f1.set (Int.toNat k) (⟨x5.f0, x5.f1, wr .i64 (x5.f2 + 1), x5.f3, x5.f4⟩ : S38)).set (Int.toNat k) (⟨x7.f0, wr .i64 (x7.f1 - t.f3), x7.f2, x7.f3, x7.f4⟩ : S38)) t.f2) t.f2))], [(80, some (.box (cD (d35 t)))), (96, some (.box [.d (.v (.int .i64 0)), .nil])), (144, some (.box [.d (.v (.int .i64 g.f0)), .ref 704])), (704, some (.row 5 38 ((withW ((g.f1.set (Int.toNat k) (⟨x5.f0, x5.f1, wr .i64 (x5.f2 + 1), x5.f3, x5.f4⟩ : S38)).set (Int.toNat k) (⟨x7.f0, wr .i64 (x7.f1 - t.f3), x7.f2, x7.f3, x7.f4⟩ : S38)) t.f2).map d38) false true))], 848⟩ ?_
   refine X.gen (fun n16 : Int => ⟨[(4, .pt 80 0 0), (6, .pt 96 0 0), (7, .pt 144 0 0), (9, iV n16)], [(80, some (.box (cD (d35 t)))), (96, some (.box [.d (.v (.int .i64 0)), .nil])), (144, some (.box [.d (.v (.int .i64 g.f0)), .ref 704])), (704, some (.row 5 38 ((withW ((g.f1.set (Int.toNat k) (⟨x5.f0, x5.f1, wr .i64 (x5.f2 + 1), x5.f3, x5.f4⟩ : S38)).set (Int.toNat k) (⟨x7.f0, wr .i64 (x7.f1 - t.f3), x7.f2, x7.f3, x7.f4⟩ : S38)) t.f2).map d38) false true))], 848⟩) ((acAt (withW ((g.f1.set (Int.toNat k) (⟨x5.f0, x5.f1, wr .i64 (x5.f2 + 1), x5.f3, x5.f4⟩ : S38)).set (Int.toNat k) (⟨x7.f0, wr .i64 (x7.f1 - t.f3), x7.f2, x7.f3, x7.f4⟩ : S38)) t.f2) t.f2)) (fun n16 hn16 => ?_)
   refine rs 6 ?_
   refine CH.idxR hτ (rows := ((withW ((g.f1.set (Int.toNat k) (⟨x5.f0, x5.f1, wr .i64 (x5.f2 + 1), x5.f3, x5.f4⟩ : S38)).set (Int.toNat k) (⟨x7.f0, wr .i64 (x7.f1 - t.f3), x7.f2, x7.f3, x7.f4⟩ : S38)) t.f2).map d38)) (n := n16) (b := 704) (by kernel_rfl) (by kernel_rfl) (by first | omega | (simp; done) | (simp; omega)) (by simp only [List.length_map, List.length_set]; first | omega | (simp; done) | (simp; omega)) (by kernel_rfl) ?_
   refine go 1 ?_
   obtain ⟨x17, hx17⟩ : ∃ x, (withW ((g.f1.set (Int.toNat k) (⟨x5.f0, x5.f1, wr .i64 (x5.f2 + 1), x5.f3, x5.f4⟩ : S38)).set (Int.toNat k) (⟨x7.f0, wr .i64 (x7.f1 - t.f3), x7.f2, x7.f3, x7.f4⟩ : S38)) t.f2)[Int.toNat n16]? = some x := ⟨_, List.getElem?_eq_getElem (by first | omega | (simp; done) | (simp; omega))⟩
   refine CH.row hτ (d38 x17) (by kernel_rfl) (by kernel_rfl) (by rw [List.getElem?_map, hx17]; rfl) (by kernel_rfl) ?_
   refine go 3 ?_
   refine CH.idxR hτ (rows := ((withW ((g.f1.set (Int.toNat k) (⟨x5.f0, x5.f1, wr .i64 (x5.f2 + 1), x5.f3, x5.f4⟩ : S38)).set (Int.toNat k) (⟨x7.f0, wr .i64 (x7.f1 - t.f3), x7.f2, x7.f3, x7.f4⟩ : S38)) t.f2).map d38)) (n := n16) (b := 704) (by kernel_rfl) (by kernel_rfl) (by first | omega | (simp; done) | (simp; omega)) (by simp only [List.length_map, List.length_set]; first | omega | (simp; done) | (simp; omega)) (by kernel_rfl) ?_
   refine go 1 ?_
   refine CH.row hτ (d38 x17) (by kernel_rfl) (by kernel_rfl) (by rw [List.getElem?_map, hx17]; rfl) (by kernel_rfl) ?_
   refine CH.endk ⟨[(6, .pt 96 0 0), (7, .pt 144 0 0)], [(96, some (.box [.d (.v (.int .i64 0)), .nil])), (144, some (.box [.d (.v (.int .i64 g.f0)), .ref 704])), (704, some (.row 5 38 (((withW ((g.f1.set (Int.toNat k) (⟨x5.f0, x5.f1, wr .i64 (x5.f2 + 1), x5.f3, x5.f4⟩ : S38)).set (Int.toNat k) (⟨x7.f0, wr .i64 (x7.f1 - t.f3), x7.f2, x7.f3, x7.f4⟩ : S38)) t.f2).map d38).set (Int.toNat n16) (d38 (⟨x17.f0, wr .i64 (x17.f1 + t.f3), x17.f2, x17.f3, x17.f4⟩ : S38))) false true))], 1088⟩ (by kernel_rfl) (by kernel_rfl) (s2 := ⟨[(6, .pt 96 0 0), (7, .pt 144 0 0)], [(96, some (.box [.d (.v (.int .i64 0)), .nil])), (144, some (.box [.d (.v (.int .i64 g.f0)), .ref 704])), (704, some (.row 5 38 (((withW ((g.f1.set (Int.toNat k) (⟨x5.f0, x5.f1, wr .i64 (x5.f2 + 1), x5.f3, x5.f4⟩ : S38)).set (Int.toNat k) (⟨x7.f0, wr .i64 (x7.f1 - t.f3), x7.f2, x7.f3, x7.f4⟩ : S38)) t.f2).set (Int.toNat n16) (⟨x17.f0, wr .i64 (x17.f1 + t.f3), x17.f2, x17.f3, x17.f4⟩ : S38)).map d38) false true))], 1088⟩) (congrArg (fun z : List (List D) => (⟨[(6, .pt 96 0 0), (7, .pt 144 0 0)], [(96, some (.box [.d (.v (.int .i64 0)), .nil])), (144, some (.box [.d (.v (.int .i64 g.f0)), .ref 704])), (704, some (.row 5 38 z false true))], 1088⟩ : St)) (show (((withW ((g.f1.set (Int.toNat k) (⟨x5.f0, x5.f1, wr .i64 (x5.f2 + 1), x5.f3, x5.f4⟩ : S38)).set (Int.toNat k) (⟨x7.f0, wr .i64 (x7.f1 - t.f3), x7.f2, x7.f3, x7.f4⟩ : S38)) t.f2).map d38).set (Int.toNat n16) (d38 (⟨x17.f0, wr .i64 (x17.f1 + t.f3), x17.f2, x17.f3, x17.f4⟩ : S38))) = (((withW ((g.f1.set (Int.toNat k) (⟨x5.f0, x5.f1, wr .i64 (x5.f2 + 1), x5.f3, x5.f4⟩ : S38)).set (Int.toNat k) (⟨x7.f0, wr .i64 (x7.f1 - t.f3), x7.f2, x7.f3, x7.f4⟩ : S38)) t.f2).set (Int.toNat n16) (⟨x17.f0, wr .i64 (x17.f1 + t.f3), x17.f2, x17.f3, x17.f4⟩ : S38)).map d38) from List.map_set.symm)) ?_
   refine sk ⟨[(6, .pt 96 0 0)], [(96, some (.box [.d (.v (.int .i64 g.f0)), .ref 704])), (704, some (.row 5 38 (((withW ((g.f1.set (Int.toNat k) (⟨x5.f0, x5.f1, wr .i64 (x5.f2 + 1), x5.f3, x5.f4⟩ : S38)).set (Int.toNat k) (⟨x7.f0, wr .i64 (x7.f1 - t.f3), x7.f2, x7.f3, x7.f4⟩ : S38)) t.f2).set (Int.toNat n16) (⟨x17.f0, wr .i64 (x17.f1 + t.f3), x17.f2, x17.f3, x17.f4⟩ : S38)).map d38) false true))], 1120⟩ ?_
   refine X.ret ?_
   exact ⟨trivial, _, _, ⟨(⟨g.f0, ((withW ((g.f1.set (Int.toNat k) (⟨x5.f0, x5.f1, wr .i64 (x5.f2 + 1), x5.f3, x5.f4⟩ : S38)).set (Int.toNat k) (⟨x7.f0, wr .i64 (x7.f1 - t.f3), x7.f2, x7.f3, x7.f4⟩ : S38)) t.f2).set (Int.toNat n16) (⟨x17.f0, wr .i64 (x17.f1 + t.f3), x17.f2, x17.f3, x17.f4⟩ : S38))⟩ : S27), (by first | exact (by subst_vars; rw [List.set_set] at *; exact do_pay2 ht hx3 ‹_› ‹(withW _ _)[_]? = some _›) | exact (by subst hq13; subst hq14; rw [List.set_set, List.set_set]; exact do_bond ‹g.f1[_]? = some _› ‹_›) | exact (by subst hq5; subst hq6; rw [List.set_set, List.set_set]; exact do_unb2 hgl ht ‹g.f1[_]? = some _› ‹_› ‹_›)), rfl, rfl⟩, .inl (Ret.mk' [(64, 704)] (by kernel_rfl) (by kernel_rfl) (by kernel_rfl))⟩
  ·replace hb6 := beq_eq_false_iff_ne.1 (hb6)
   refine sk ⟨[(3, .pt 64 0 0), (4, .pt 80 0 0), (6, .pt 96 0 0), (7, .pt 144 0 0), (8, .pt 128 (Int.toNat k) 0), (86, bV (t.f0 == 2))], [(64, some (.box [.d (.v (.int .i64 g.f0)), .d (.sl (g.f1.map d38))])), (80, some (.box (cD (d35 t)))), (96, some (.box [.d (.v (.int .i64 0)), .nil])), (128, some (.row 5 38 ((g.f1.set (Int.toNat k) (⟨x5.f0, x5.f1, wr .i64 (x5.f2 + 1), x5.f3, x5.f4⟩ : S38)).map d38) false true)), (144, some (.box [.d (.v (.int .i64 g.f0)), .ref 128]))], 496⟩ ?_
   refine if_ (b := (t.f0 == 2)) (fun hb18 => ?_) (fun hb18 => ?_)
   ·replace hb18 := eq_of_beq (hb18)
    refine X.seq (rs 4 ?_)
    obtain ⟨x19, hx19⟩ : ∃ x, (g.f1.set (Int.toNat k) (⟨x5.f0, x5.f1, wr .i64 (x5.f2 + 1), x5.f3, x5.f4⟩ : S38))[Int.toNat k]? = some x := ⟨_, List.getElem?_eq_getElem (by first | omega | (simp; done) | (simp; omega))⟩
    have hq13 := set_eq hx19
    refine CH.row hτ (d38 x19) (by kernel_rfl) (by kernel_rfl) (by rw [List.getElem?_map, hx19]; rfl) (by kernel_rfl) ?_
    refine go 5 ?_
    refine CH.row hτ (d38 x19) (by kernel_rfl) (by kernel_rfl) (by rw [List.getElem?_map, hx19]; rfl) (by kernel_rfl) ?_
    refine CH.endk ⟨[(4, .pt 80 0 0), (6, .pt 96 0 0), (7, .pt 144 0 0), (8, .pt 128 (Int.toNat k) 0)], [(80, some (.box (cD (d35 t)))), (96, some (.box [.d (.v (.int .i64 0)), .nil])), (128, some (.row 5 38 (((g.f1.set (Int.toNat k) (⟨x5.f0, x5.f1, wr .i64 (x5.f2 + 1), x5.f3, x5.f4⟩ : S38)).map d38).set (Int.toNat k) (d38 (⟨x19.f0, wr .i64 (x19.f1 - t.f3), x19.f2, x19.f3, x19.f4⟩ : S38))) false true)), (144, some (.box [.d (.v (.int .i64 g.f0)), .ref 128]))], 672⟩ (by kernel_rfl) (by kernel_rfl) (s2 := ⟨[(4, .pt 80 0 0), (6, .pt 96 0 0), (7, .pt 144 0 0), (8, .pt 128 (Int.toNat k) 0)], [(80, some (.box (cD (d35 t)))), (96, some (.box [.d (.v (.int .i64 0)), .nil])), (128, some (.row 5 38 (((g.f1.set (Int.toNat k) (⟨x5.f0, x5.f1, wr .i64 (x5.f2 + 1), x5.f3, x5.f4⟩ : S38)).set (Int.toNat k) (⟨x19.f0, wr .i64 (x19.f1 - t.f3), x19.f2, x19.f3, x19.f4⟩ : S38)).map d38) false true)), (144, some (.box [.d (.v (.int .i64 g.f0)), .ref 128]))], 672⟩) (congrArg (fun z : List (List D) => (⟨[(4, .pt 80 0 0), (6, .pt 96 0 0), (7, .pt 144 0 0), (8, .pt 128 (Int.toNat k) 0)], [(80, some (.box (cD (d35 t)))), (96, some (.box [.d (.v (.int .i64 0)), .nil])), (128, some (.row 5 38 z false true)), (144, some (.box [.d (.v (.int .i64 g.f0)), .ref 128]))], 672⟩ : St)) (show (((g.f1.set (Int.toNat k) (⟨x5.f0, x5.f1, wr .i64 (x5.f2 + 1), x5.f3, x5.f4⟩ : S38)).map d38).set (Int.toNat k) (d38 (⟨x19.f0, wr .i64 (x19.f1 - t.f3), x19.f2, x19.f3, x19.f4⟩ : S38))) = (((g.f1.set (Int.toNat k) (⟨x5.f0, x5.f1, wr .i64 (x5.f2 + 1), x5.f3, x5.f4⟩ : S38)).set (Int.toNat k) (⟨x19.f0, wr .i64 (x19.f1 - t.f3), x19.f2, x19.f3, x19.f4⟩ : S38)).map d38) from List.map_set.symm)) ?_
    refine rs 4 ?_
    obtain ⟨x20, hx20⟩ : ∃ x, ((g.f1.set (Int.toNat k) (⟨x5.f0, x5.f1, wr .i64 (x5.f2 + 1), x5.f3, x5.f4⟩ : S38)).set (Int.toNat k) (⟨x19.f0, wr .i64 (x19.f1 - t.f3), x19.f2, x19.f3, x19.f4⟩ : S38))[Int.toNat k]? = some x := ⟨_, List.getElem?_eq_getElem (by first | omega | (simp; done) | (simp; omega))⟩
    have hq14 := set_eq hx20
    refine CH.row hτ (d38 x20) (by kernel_rfl) (by kernel_rfl) (by rw [List.getElem?_map, hx20]; rfl) (by kernel_rfl) ?_
    refine go 5 ?_
    refine CH.row hτ (d38 x20) (by kernel_rfl) (by kernel_rfl) (by rw [List.getElem?_map, hx20]; rfl) (by kernel_rfl) ?_
    refine CH.endk ⟨[(6, .pt 96 0 0), (7, .pt 144 0 0)], [(96, some (.box [.d (.v (.int .i64 0)), .nil])), (128, some (.row 5 38 ((((g.f1.set (Int.toNat k) (⟨x5.f0, x5.f1, wr .i64 (x5.f2 + 1), x5.f3, x5.f4⟩ : S38)).set (Int.toNat k) (⟨x19.f0, wr .i64 (x19.f1 - t.f3), x19.f2, x19.f3, x19.f4⟩ : S38)).map d38).set (Int.toNat k) (d38 (⟨x20.f0, x20.f1, x20.f2, wr .i64 (x20.f3 + t.f3), x20.f4⟩ : S38))) false true)), (144, some (.box [.d (.v (.int .i64 g.f0)), .ref 128]))], 848⟩ (by kernel_rfl) (by kernel_rfl) (s2 := ⟨[(6, .pt 96 0 0), (7, .pt 144 0 0)], [(96, some (.box [.d (.v (.int .i64 0)), .nil])), (128, some (.row 5 38 ((((g.f1.set (Int.toNat k) (⟨x5.f0, x5.f1, wr .i64 (x5.f2 + 1), x5.f3, x5.f4⟩ : S38)).set (Int.toNat k) (⟨x19.f0, wr .i64 (x19.f1 - t.f3), x19.f2, x19.f3, x19.f4⟩ : S38)).set (Int.toNat k) (⟨x20.f0, x20.f1, x20.f2, wr .i64 (x20.f3 + t.f3), x20.f4⟩ : S38)).map d38) false true)), (144, some (.box [.d (.v (.int .i64 g.f0)), .ref 128]))], 848⟩) (congrArg (fun z : List (List D) => (⟨[(6, .pt 96 0 0), (7, .pt 144 0 0)], [(96, some (.box [.d (.v (.int .i64 0)), .nil])), (128, some (.row 5 38 z false true)), (144, some (.box [.d (.v (.int .i64 g.f0)), .ref 128]))], 848⟩ : St)) (show ((((g.f1.set (Int.toNat k) (⟨x5.f0, x5.f1, wr .i64 (x5.f2 + 1), x5.f3, x5.f4⟩ : S38)).set (Int.toNat k) (⟨x19.f0, wr .i64 (x19.f1 - t.f3), x19.f2, x19.f3, x19.f4⟩ : S38)).map d38).set (Int.toNat k) (d38 (⟨x20.f0, x20.f1, x20.f2, wr .i64 (x20.f3 + t.f3), x20.f4⟩ : S38))) = ((((g.f1.set (Int.toNat k) (⟨x5.f0, x5.f1, wr .i64 (x5.f2 + 1), x5.f3, x5.f4⟩ : S38)).set (Int.toNat k) (⟨x19.f0, wr .i64 (x19.f1 - t.f3), x19.f2, x19.f3, x19.f4⟩ : S38)).set (Int.toNat k) (⟨x20.f0, x20.f1, x20.f2, wr .i64 (x20.f3 + t.f3), x20.f4⟩ : S38)).map d38) from List.map_set.symm)) ?_
    refine sk ⟨[(6, .pt 96 0 0)], [(96, some (.box [.d (.v (.int .i64 g.f0)), .ref 128])), (128, some (.row 5 38 ((((g.f1.set (Int.toNat k) (⟨x5.f0, x5.f1, wr .i64 (x5.f2 + 1), x5.f3, x5.f4⟩ : S38)).set (Int.toNat k) (⟨x19.f0, wr .i64 (x19.f1 - t.f3), x19.f2, x19.f3, x19.f4⟩ : S38)).set (Int.toNat k) (⟨x20.f0, x20.f1, x20.f2, wr .i64 (x20.f3 + t.f3), x20.f4⟩ : S38)).map d38) false true))], 880⟩ ?_
    refine X.ret ?_
    exact ⟨trivial, _, _, ⟨(⟨g.f0, (((g.f1.set (Int.toNat k) (⟨x5.f0, x5.f1, wr .i64 (x5.f2 + 1), x5.f3, x5.f4⟩ : S38)).set (Int.toNat k) (⟨x19.f0, wr .i64 (x19.f1 - t.f3), x19.f2, x19.f3, x19.f4⟩ : S38)).set (Int.toNat k) (⟨x20.f0, x20.f1, x20.f2, wr .i64 (x20.f3 + t.f3), x20.f4⟩ : S38))⟩ : S27), (by first | exact (by subst_vars; rw [List.set_set] at *; exact do_pay2 ht hx3 ‹_› ‹(withW _ _)[_]? = some _›) | exact (by subst hq13; subst hq14; rw [List.set_set, List.set_set]; exact do_bond ‹g.f1[_]? = some _› ‹_›) | exact (by subst hq5; subst hq6; rw [List.set_set, List.set_set]; exact do_unb2 hgl ht ‹g.f1[_]? = some _› ‹_› ‹_›)), rfl, rfl⟩, .inl (Ret.mk' [(64, 128)] (by kernel_rfl) (by kernel_rfl) (by kernel_rfl))⟩
   ·replace hb18 := beq_eq_false_iff_ne.1 (hb18)
    refine X.seq (rs 4 ?_)
    obtain ⟨x21, hx21⟩ : ∃ x, (g.f1.set (Int.toNat k) (⟨x5.f0, x5.f1, wr .i64 (x5.f2 + 1), x5.f3, x5.f4⟩ : S38))[Int.toNat k]? = some x := ⟨_, List.getElem?_eq_getElem (by first | omega | (simp; done) | (simp; omega))⟩
    have hq5 := set_eq hx21
    refine CH.row hτ (d38 x21) (by kernel_rfl) (by kernel_rfl) (by rw [List.getElem?_map, hx21]; rfl) (by kernel_rfl) ?_
    refine go 5 ?_
    refine CH.row hτ (d38 x21) (by kernel_rfl) (by kernel_rfl) (by rw [List.getElem?_map, hx21]; rfl) (by kernel_rfl) ?_
    refine CH.endk ⟨[(3, .pt 64 0 0), (4, .pt 80 0 0), (6, .pt 96 0 0), (7, .pt 144 0 0), (8, .pt 128 (Int.toNat k) 0)], [(64, some (.box [.d (.v (.int .i64 g.f0)), .d (.sl (g.f1.map d38))])), (80, some (.box (cD (d35 t)))), (96, some (.box [.d (.v (.int .i64 0)), .nil])), (128, some (.row 5 38 (((g.f1.set (Int.toNat k) (⟨x5.f0, x5.f1, wr .i64 (x5.f2 + 1), x5.f3, x5.f4⟩ : S38)).map d38).set (Int.toNat k) (d38 (⟨x21.f0, x21.f1, x21.f2, wr .i64 (x21.f3 - t.f3), x21.f4⟩ : S38))) false true)), (144, some (.box [.d (.v (.int .i64 g.f0)), .ref 128]))], 672⟩ (by kernel_rfl) (by kernel_rfl) (s2 := ⟨[(3, .pt 64 0 0), (4, .pt 80 0 0), (6, .pt 96 0 0), (7, .pt 144 0 0), (8, .pt 128 (Int.toNat k) 0)], [(64, some (.box [.d (.v (.int .i64 g.f0)), .d (.sl (g.f1.map d38))])), (80, some (.box (cD (d35 t)))), (96, some (.box [.d (.v (.int .i64 0)), .nil])), (128, some (.row 5 38 (((g.f1.set (Int.toNat k) (⟨x5.f0, x5.f1, wr .i64 (x5.f2 + 1), x5.f3, x5.f4⟩ : S38)).set (Int.toNat k) (⟨x21.f0, x21.f1, x21.f2, wr .i64 (x21.f3 - t.f3), x21.f4⟩ : S38)).map d38) false true)), (144, some (.box [.d (.v (.int .i64 g.f0)), .ref 128]))], 672⟩) (congrArg (fun z : List (List D) => (⟨[(3, .pt 64 0 0), (4, .pt 80 0 0), (6, .pt 96 0 0), (7, .pt 144 0 0), (8, .pt 128 (Int.toNat k) 0)], [(64, some (.box [.d (.v (.int .i64 g.f0)), .d (.sl (g.f1.map d38))])), (80, some (.box (cD (d35 t)))), (96, some (.box [.d (.v (.int .i64 0)), .nil])), (128, some (.row 5 38 z false true)), (144, some (.box [.d (.v (.int .i64 g.f0)), .ref 128]))], 672⟩ : St)) (show (((g.f1.set (Int.toNat k) (⟨x5.f0, x5.f1, wr .i64 (x5.f2 + 1), x5.f3, x5.f4⟩ : S38)).map d38).set (Int.toNat k) (d38 (⟨x21.f0, x21.f1, x21.f2, wr .i64 (x21.f3 - t.f3), x21.f4⟩ : S38))) = (((g.f1.set (Int.toNat k) (⟨x5.f0, x5.f1, wr .i64 (x5.f2 + 1), x5.f3, x5.f4⟩ : S38)).set (Int.toNat k) (⟨x21.f0, x21.f1, x21.f2, wr .i64 (x21.f3 - t.f3), x21.f4⟩ : S38)).map d38) from List.map_set.symm)) ?_
    refine rs 4 ?_
    obtain ⟨x22, hx22⟩ : ∃ x, ((g.f1.set (Int.toNat k) (⟨x5.f0, x5.f1, wr .i64 (x5.f2 + 1), x5.f3, x5.f4⟩ : S38)).set (Int.toNat k) (⟨x21.f0, x21.f1, x21.f2, wr .i64 (x21.f3 - t.f3), x21.f4⟩ : S38))[Int.toNat k]? = some x := ⟨_, List.getElem?_eq_getElem (by first | omega | (simp; done) | (simp; omega))⟩
    have hq6 := set_eq hx22
    refine CH.row hτ (d38 x22) (by kernel_rfl) (by kernel_rfl) (by rw [List.getElem?_map, hx22]; rfl) (by kernel_rfl) ?_
    refine go 5 ?_
    obtain ⟨r23, hr25, hf24⟩ := s_l6Leave x22.f4 t.f3 (wr .i64 (g.f0 + 2)) (by (subst hq6; subst hq5; exact hx4.2))
    replace hr25 := hr25.symm; subst hr25
    refine ca hf24 Try.func166 ?_
    refine go 2 ?_
    refine CH.row hτ (d38 x22) (by kernel_rfl) (by kernel_rfl) (by rw [List.getElem?_map, hx22]; rfl) (by kernel_rfl) ?_
    refine CH.endk ⟨[(6, .pt 96 0 0), (7, .pt 144 0 0)], [(96, some (.box [.d (.v (.int .i64 0)), .nil])), (128, some (.row 5 38 ((((g.f1.set (Int.toNat k) (⟨x5.f0, x5.f1, wr .i64 (x5.f2 + 1), x5.f3, x5.f4⟩ : S38)).set (Int.toNat k) (⟨x21.f0, x21.f1, x21.f2, wr .i64 (x21.f3 - t.f3), x21.f4⟩ : S38)).map d38).set (Int.toNat k) (d38 (⟨x22.f0, x22.f1, x22.f2, x22.f3, (lvG t.f3 (wr .i64 (g.f0 + 2)) x22.f4)⟩ : S38))) false true)), (144, some (.box [.d (.v (.int .i64 g.f0)), .ref 128]))], 896⟩ (by kernel_rfl) (by kernel_rfl) (s2 := ⟨[(6, .pt 96 0 0), (7, .pt 144 0 0)], [(96, some (.box [.d (.v (.int .i64 0)), .nil])), (128, some (.row 5 38 ((((g.f1.set (Int.toNat k) (⟨x5.f0, x5.f1, wr .i64 (x5.f2 + 1), x5.f3, x5.f4⟩ : S38)).set (Int.toNat k) (⟨x21.f0, x21.f1, x21.f2, wr .i64 (x21.f3 - t.f3), x21.f4⟩ : S38)).set (Int.toNat k) (⟨x22.f0, x22.f1, x22.f2, x22.f3, (lvG t.f3 (wr .i64 (g.f0 + 2)) x22.f4)⟩ : S38)).map d38) false true)), (144, some (.box [.d (.v (.int .i64 g.f0)), .ref 128]))], 896⟩) (congrArg (fun z : List (List D) => (⟨[(6, .pt 96 0 0), (7, .pt 144 0 0)], [(96, some (.box [.d (.v (.int .i64 0)), .nil])), (128, some (.row 5 38 z false true)), (144, some (.box [.d (.v (.int .i64 g.f0)), .ref 128]))], 896⟩ : St)) (show ((((g.f1.set (Int.toNat k) (⟨x5.f0, x5.f1, wr .i64 (x5.f2 + 1), x5.f3, x5.f4⟩ : S38)).set (Int.toNat k) (⟨x21.f0, x21.f1, x21.f2, wr .i64 (x21.f3 - t.f3), x21.f4⟩ : S38)).map d38).set (Int.toNat k) (d38 (⟨x22.f0, x22.f1, x22.f2, x22.f3, (lvG t.f3 (wr .i64 (g.f0 + 2)) x22.f4)⟩ : S38))) = ((((g.f1.set (Int.toNat k) (⟨x5.f0, x5.f1, wr .i64 (x5.f2 + 1), x5.f3, x5.f4⟩ : S38)).set (Int.toNat k) (⟨x21.f0, x21.f1, x21.f2, wr .i64 (x21.f3 - t.f3), x21.f4⟩ : S38)).set (Int.toNat k) (⟨x22.f0, x22.f1, x22.f2, x22.f3, (lvG t.f3 (wr .i64 (g.f0 + 2)) x22.f4)⟩ : S38)).map d38) from List.map_set.symm)) ?_
    refine sk ⟨[(6, .pt 96 0 0)], [(96, some (.box [.d (.v (.int .i64 g.f0)), .ref 128])), (128, some (.row 5 38 ((((g.f1.set (Int.toNat k) (⟨x5.f0, x5.f1, wr .i64 (x5.f2 + 1), x5.f3, x5.f4⟩ : S38)).set (Int.toNat k) (⟨x21.f0, x21.f1, x21.f2, wr .i64 (x21.f3 - t.f3), x21.f4⟩ : S38)).set (Int.toNat k) (⟨x22.f0, x22.f1, x22.f2, x22.f3, (lvG t.f3 (wr .i64 (g.f0 + 2)) x22.f4)⟩ : S38)).map d38) false true))], 928⟩ ?_
    refine X.ret ?_
    exact ⟨trivial, _, _, ⟨(⟨g.f0, (((g.f1.set (Int.toNat k) (⟨x5.f0, x5.f1, wr .i64 (x5.f2 + 1), x5.f3, x5.f4⟩ : S38)).set (Int.toNat k) (⟨x21.f0, x21.f1, x21.f2, wr .i64 (x21.f3 - t.f3), x21.f4⟩ : S38)).set (Int.toNat k) (⟨x22.f0, x22.f1, x22.f2, x22.f3, (lvG t.f3 (wr .i64 (g.f0 + 2)) x22.f4)⟩ : S38))⟩ : S27), (by first | exact (by subst_vars; rw [List.set_set] at *; exact do_pay2 ht hx3 ‹_› ‹(withW _ _)[_]? = some _›) | exact (by subst hq13; subst hq14; rw [List.set_set, List.set_set]; exact do_bond ‹g.f1[_]? = some _› ‹_›) | exact (by subst hq5; subst hq6; rw [List.set_set, List.set_set]; exact do_unb2 hgl ht ‹g.f1[_]? = some _› ‹_› ‹_›)), rfl, rfl⟩, .inl (Ret.mk' [(64, 128)] (by kernel_rfl) (by kernel_rfl) (by kernel_rfl))⟩
 obtain ⟨_, _, ⟨r0, h1_, rfl, rfl⟩, hf⟩ := key
 exact ⟨r0, h1_, hf⟩

theorem s_Apply (g : S27) (t : S35) (hg : acsSm g.f1) (ht : Sm35 t) : ∃ r0 : S27, ∃ r1 : Int, (r0 = (apW g t).1 ∧ r1 = (apW g t).2) ∧ Fn Try.prog 53 [.e (.agg [.d (.v (.int .i64 g.f0)), .d (.sl (g.f1.map d38))]), .e (.agg (cD (d35 t)))] (lookH []) (.tup [.agg [.d (.v (.int .i64 r0.f0)), .ref 64], .c (.d (.v (.int .i64 r1)))]) (lookH [(64, some (.row 5 38 (r0.f1.map d38) false true))]) := by
 have key : ∃ x' h', ((fun x' h' => ∃ r0 : S27, ∃ r1 : Int, (r0 = (apW g t).1 ∧ r1 = (apW g t).2) ∧ x' = .tup [.agg [.d (.v (.int .i64 r0.f0)), .ref 64], .c (.d (.v (.int .i64 r1)))] ∧ h' = [(64, some (.row 5 38 (r0.f1.map d38) false true))])) x' h' ∧ Fn Try.prog 53 [.e (.agg [.d (.v (.int .i64 g.f0)), .d (.sl (g.f1.map d38))]), .e (.agg (cD (d35 t)))] (lookH []) x' (lookH h') := by
  refine Fn.bodyX (N := 64) hτ Try.func53 rfl rfl rfl rfl ?_
  refine sk ⟨[(2, .pt 64 0 0), (3, .pt 80 0 0), (4, .pt 96 0 0)], [(64, some (.box [.d (.v (.int .i64 g.f0)), .d (.sl (g.f1.map d38))])), (80, some (.box (cD (d35 t)))), (96, some (.box [.d (.v (.int .i64 0)), .nil]))], 128⟩ ?_
  refine X.seq ?_
  have hll := hg.1
  refine rs 1 ?_
  obtain ⟨r1, hr3, hf2⟩ := s_l6Copy g (by assumption)
  replace hr3 := hr3.symm; subst hr3
  refine ca hf2 Try.func88 ?_
  refine go 2 ?_
  refine ek ⟨[(2, .pt 64 0 0), (3, .pt 80 0 0), (4, .pt 96 0 0), (6, .pt 160 0 0)], [(64, some (.box [.d (.v (.int .i64 g.f0)), .d (.sl (g.f1.map d38))])), (80, some (.box (cD (d35 t)))), (96, some (.box [.d (.v (.int .i64 0)), .nil])), (144, some (.row 5 38 (g.f1.map d38) false true)), (160, some (.box [.d (.v (.int .i64 g.f0)), .ref 144]))], 192⟩ ?_
  refine X.seq ?_
  refine X.seq (rs 1 ?_)
  obtain ⟨r5, hr7, hf6⟩ := s_LedgerOk g (by assumption)
  replace hr7 := hr7.symm; subst hr7
  refine ca hf6 Try.func87 ?_
  refine go 2 ?_
  rcases Bool.eq_false_or_eq_true (!(ledgerOk g)) with hb9 | hb9
  ·refine aT 15 hb9 ?_
   refine aT 16 hb9 ?_
   replace hb9 := bnot_yes (hb9)
   refine go 4 ?_
   refine ek ⟨[(2, .pt 64 0 0), (3, .pt 80 0 0), (4, .pt 96 0 0), (6, .pt 160 0 0), (20, bV true)], [(64, some (.box [.d (.v (.int .i64 g.f0)), .d (.sl (g.f1.map d38))])), (80, some (.box (cD (d35 t)))), (96, some (.box [.d (.v (.int .i64 0)), .nil])), (144, some (.row 5 38 (g.f1.map d38) false true)), (160, some (.box [.d (.v (.int .i64 g.f0)), .ref 144]))], 320⟩ ?_
   refine X.ifT (by kernel_rfl) ?_
   refine sk ⟨[(4, .pt 96 0 0), (5, iV 1)], [(96, some (.box [.d (.v (.int .i64 g.f0)), .ref 144])), (144, some (.row 5 38 (g.f1.map d38) false true))], 368⟩ ?_
   refine X.ret ?_
   exact ⟨trivial, _, _, ⟨g, 1, (by first | exact (ap_form (.inl ‹_›)) | exact (ap_form (.inr ‹_›)) | exact (ap_none ‹_› ‹_› ‹_›) | exact (ap_nonce ‹_› ‹_› ‹_› ‹_› (Ne.symm ‹_›)) | exact (ap_short ‹_› ‹_› ‹_› ‹_› (Eq.symm ‹_›) (by first | exact hv3 ‹_› ‹_› | exact hvN ‹_› ‹_›)) | exact (ap_full ‹_› ‹_› ‹_› ‹_› (Eq.symm ‹_›) (by first | exact hv3' ‹_› ‹_› | exact hvN' ‹_› ‹_›) ‹_›) | exact (ap_good ‹_› ‹_› ‹_› ‹_› (Eq.symm ‹_›) (by first | exact hv3' ‹_› ‹_› | exact hvN' ‹_› ‹_›) ‹_›)), rfl, rfl⟩, .inl (Ret.mk' [(64, 144)] (by kernel_rfl) (by kernel_rfl) (by kernel_rfl))⟩
  ·refine aF 15 hb9 ?_
   refine aF 16 hb9 ?_
   replace hb9 := bnot_no (hb9)
   refine go 1 ?_
   obtain ⟨r10, hr12, hf11⟩ := s_TxOk t (by assumption)
   replace hr12 := hr12.symm; subst hr12
   refine ca hf11 Try.func119 ?_
   refine go 2 ?_
   refine ek ⟨[(2, .pt 64 0 0), (3, .pt 80 0 0), (4, .pt 96 0 0), (6, .pt 160 0 0), (20, bV (!(txOk t)))], [(64, some (.box [.d (.v (.int .i64 g.f0)), .d (.sl (g.f1.map d38))])), (80, some (.box (cD (d35 t)))), (96, some (.box [.d (.v (.int .i64 0)), .nil])), (144, some (.row 5 38 (g.f1.map d38) false true)), (160, some (.box [.d (.v (.int .i64 g.f0)), .ref 144]))], 320⟩ ?_
   refine if_ (b := !(txOk t)) (fun hb14 => ?_) (fun hb14 => ?_)
   ·replace hb14 := bnot_yes (hb14)
    refine sk ⟨[(4, .pt 96 0 0), (5, iV 1)], [(96, some (.box [.d (.v (.int .i64 g.f0)), .ref 144])), (144, some (.row 5 38 (g.f1.map d38) false true))], 368⟩ ?_
    refine X.ret ?_
    exact ⟨trivial, _, _, ⟨g, 1, (by first | exact (ap_form (.inl ‹_›)) | exact (ap_form (.inr ‹_›)) | exact (ap_none ‹_› ‹_› ‹_›) | exact (ap_nonce ‹_› ‹_› ‹_› ‹_› (Ne.symm ‹_›)) | exact (ap_short ‹_› ‹_› ‹_› ‹_› (Eq.symm ‹_›) (by first | exact hv3 ‹_› ‹_› | exact hvN ‹_› ‹_›)) | exact (ap_full ‹_› ‹_› ‹_› ‹_› (Eq.symm ‹_›) (by first | exact hv3' ‹_› ‹_› | exact hvN' ‹_› ‹_›) ‹_›) | exact (ap_good ‹_› ‹_› ‹_› ‹_› (Eq.symm ‹_›) (by first | exact hv3' ‹_› ‹_› | exact hvN' ‹_› ‹_›) ‹_›)), rfl, rfl⟩, .inl (Ret.mk' [(64, 144)] (by kernel_rfl) (by kernel_rfl) (by kernel_rfl))⟩
   ·replace hb14 := bnot_no (hb14)
    refine X.skip ?_
    refine X.seq (rs 4 ?_)
    obtain ⟨r15, hr17, hf16⟩ := s_AcctAt g.f1 t.f1 (by first | assumption | omega)
    replace hr17 := hr17.symm; subst hr17
    have hac := fi_bd (nmP t.f1) g.f1
    change -1 ≤ acAt g.f1 t.f1 ∧ acAt g.f1 t.f1 < _ at hac
    refine ca hf16 Try.func50 ?_
    refine go 1 ?_
    refine ek ⟨[(2, .pt 64 0 0), (3, .pt 80 0 0), (4, .pt 96 0 0), (6, .pt 160 0 0), (7, iV (acAt g.f1 t.f1))], [(64, some (.box [.d (.v (.int .i64 g.f0)), .d (.sl (g.f1.map d38))])), (80, some (.box (cD (d35 t)))), (96, some (.box [.d (.v (.int .i64 0)), .nil])), (144, some (.row 5 38 (g.f1.map d38) false true)), (160, some (.box [.d (.v (.int .i64 g.f0)), .ref 144]))], 416⟩ ?_
    refine X.seq ?_
    refine sk ⟨[(2, .pt 64 0 0), (3, .pt 80 0 0), (4, .pt 96 0 0), (6, .pt 160 0 0), (7, iV (acAt g.f1 t.f1)), (28, bV (decide (((acAt g.f1 t.f1) : Int) < 0)))], [(64, some (.box [.d (.v (.int .i64 g.f0)), .d (.sl (g.f1.map d38))])), (80, some (.box (cD (d35 t)))), (96, some (.box [.d (.v (.int .i64 0)), .nil])), (144, some (.row 5 38 (g.f1.map d38) false true)), (160, some (.box [.d (.v (.int .i64 g.f0)), .ref 144]))], 448⟩ ?_
    refine if_ (b := decide (((acAt g.f1 t.f1) : Int) < 0)) (fun hb19 => ?_) (fun hb19 => ?_)
    ·replace hb19 := of_decide_eq_true (hb19)
     refine sk ⟨[(4, .pt 96 0 0), (5, iV 2)], [(96, some (.box [.d (.v (.int .i64 g.f0)), .ref 144])), (144, some (.row 5 38 (g.f1.map d38) false true))], 496⟩ ?_
     refine X.ret ?_
     exact ⟨trivial, _, _, ⟨g, 2, (by first | exact (ap_form (.inl ‹_›)) | exact (ap_form (.inr ‹_›)) | exact (ap_none ‹_› ‹_› ‹_›) | exact (ap_nonce ‹_› ‹_› ‹_› ‹_› (Ne.symm ‹_›)) | exact (ap_short ‹_› ‹_› ‹_› ‹_› (Eq.symm ‹_›) (by first | exact hv3 ‹_› ‹_› | exact hvN ‹_› ‹_›)) | exact (ap_full ‹_› ‹_› ‹_› ‹_› (Eq.symm ‹_›) (by first | exact hv3' ‹_› ‹_› | exact hvN' ‹_› ‹_›) ‹_›) | exact (ap_good ‹_› ‹_› ‹_› ‹_› (Eq.symm ‹_›) (by first | exact hv3' ‹_› ‹_› | exact hvN' ‹_› ‹_›) ‹_›)), rfl, rfl⟩, .inl (Ret.mk' [(64, 144)] (by kernel_rfl) (by kernel_rfl) (by kernel_rfl))⟩
    ·replace hb19 := of_decide_eq_false (hb19)
     refine X.skip ?_
     refine X.seq (rs 3 ?_)
     obtain ⟨x20, hx20⟩ : ∃ x, g.f1[Int.toNat (acAt g.f1 t.f1)]? = some x := ⟨_, List.getElem?_eq_getElem (by first | omega | (simp; done) | (simp; omega))⟩
     refine CH.idx hτ (d38 x20) (rows := (g.f1.map d38)) (n := (acAt g.f1 t.f1)) (sz := 5) (by kernel_rfl) (by kernel_rfl) (by first | omega | (simp; done) | (simp; omega)) (by rw [List.getElem?_map, hx20]; rfl) (by kernel_rfl) ?_
     refine go 3 ?_
     refine ek ⟨[(2, .pt 64 0 0), (3, .pt 80 0 0), (4, .pt 96 0 0), (6, .pt 160 0 0), (7, iV (acAt g.f1 t.f1)), (8, .pt 528 0 0)], [(64, some (.box [.d (.v (.int .i64 g.f0)), .d (.sl (g.f1.map d38))])), (80, some (.box (cD (d35 t)))), (96, some (.box [.d (.v (.int .i64 0)), .nil])), (144, some (.row 5 38 (g.f1.map d38) false true)), (160, some (.box [.d (.v (.int .i64 g.f0)), .ref 144])), (528, some (.box (cD (d38 x20))))], 560⟩ ?_
     refine sk ⟨[(2, .pt 64 0 0), (3, .pt 80 0 0), (4, .pt 96 0 0), (6, .pt 160 0 0), (7, iV (acAt g.f1 t.f1)), (8, .pt 528 0 0), (9, iV x20.f1)], [(64, some (.box [.d (.v (.int .i64 g.f0)), .d (.sl (g.f1.map d38))])), (80, some (.box (cD (d35 t)))), (96, some (.box [.d (.v (.int .i64 0)), .nil])), (144, some (.row 5 38 (g.f1.map d38) false true)), (160, some (.box [.d (.v (.int .i64 g.f0)), .ref 144])), (528, some (.box (cD (d38 x20))))], 608⟩ ?_
     refine X.seq ?_
     refine sk ⟨[(2, .pt 64 0 0), (3, .pt 80 0 0), (4, .pt 96 0 0), (6, .pt 160 0 0), (7, iV (acAt g.f1 t.f1)), (8, .pt 528 0 0), (9, iV x20.f1), (39, bV (t.f0 == 3))], [(64, some (.box [.d (.v (.int .i64 g.f0)), .d (.sl (g.f1.map d38))])), (80, some (.box (cD (d35 t)))), (96, some (.box [.d (.v (.int .i64 0)), .nil])), (144, some (.row 5 38 (g.f1.map d38) false true)), (160, some (.box [.d (.v (.int .i64 g.f0)), .ref 144])), (528, some (.box (cD (d38 x20))))], 656⟩ ?_
     refine if_ (b := (t.f0 == 3)) (fun hb21 => ?_) (fun hb21 => ?_)
     ·replace hb21 := eq_of_beq (hb21)
      refine rk ⟨[(2, .pt 64 0 0), (3, .pt 80 0 0), (4, .pt 96 0 0), (6, .pt 160 0 0), (7, iV (acAt g.f1 t.f1)), (8, .pt 528 0 0), (9, iV x20.f3)], [(64, some (.box [.d (.v (.int .i64 g.f0)), .d (.sl (g.f1.map d38))])), (80, some (.box (cD (d35 t)))), (96, some (.box [.d (.v (.int .i64 0)), .nil])), (144, some (.row 5 38 (g.f1.map d38) false true)), (160, some (.box [.d (.v (.int .i64 g.f0)), .ref 144])), (528, some (.box (cD (d38 x20))))], 704⟩ ?_
      refine X.seq ?_
      refine X.block ?_
      refine sk ⟨[(2, .pt 64 0 0), (3, .pt 80 0 0), (4, .pt 96 0 0), (6, .pt 160 0 0), (7, iV (acAt g.f1 t.f1)), (9, iV x20.f3), (42, bV (x20.f2 != t.f4))], [(64, some (.box [.d (.v (.int .i64 g.f0)), .d (.sl (g.f1.map d38))])), (80, some (.box (cD (d35 t)))), (96, some (.box [.d (.v (.int .i64 0)), .nil])), (144, some (.row 5 38 (g.f1.map d38) false true)), (160, some (.box [.d (.v (.int .i64 g.f0)), .ref 144]))], 800⟩ ?_
      refine if_ (b := (x20.f2 != t.f4)) (fun hb22 => ?_) (fun hb22 => ?_)
      ·replace hb22 := bne_iff_ne.1 (hb22)
       refine sk ⟨[(4, .pt 96 0 0), (5, iV 3)], [(96, some (.box [.d (.v (.int .i64 g.f0)), .ref 144])), (144, some (.row 5 38 (g.f1.map d38) false true))], 848⟩ ?_
       refine X.ret ?_
       exact ⟨trivial, _, _, ⟨g, 3, (by first | exact (ap_form (.inl ‹_›)) | exact (ap_form (.inr ‹_›)) | exact (ap_none ‹_› ‹_› ‹_›) | exact (ap_nonce ‹_› ‹_› ‹_› ‹_› (Ne.symm ‹_›)) | exact (ap_short ‹_› ‹_› ‹_› ‹_› (Eq.symm ‹_›) (by first | exact hv3 ‹_› ‹_› | exact hvN ‹_› ‹_›)) | exact (ap_full ‹_› ‹_› ‹_› ‹_› (Eq.symm ‹_›) (by first | exact hv3' ‹_› ‹_› | exact hvN' ‹_› ‹_›) ‹_›) | exact (ap_good ‹_› ‹_› ‹_› ‹_› (Eq.symm ‹_›) (by first | exact hv3' ‹_› ‹_› | exact hvN' ‹_› ‹_›) ‹_›)), rfl, rfl⟩, .inl (Ret.mk' [(64, 144)] (by kernel_rfl) (by kernel_rfl) (by kernel_rfl))⟩
      ·replace hb22 := bne_eq_false_iff_eq.1 (hb22)
       refine sk ⟨[(2, .pt 64 0 0), (3, .pt 80 0 0), (4, .pt 96 0 0), (6, .pt 160 0 0), (7, iV (acAt g.f1 t.f1)), (49, bV (decide ((x20.f3 : Int) < t.f3)))], [(64, some (.box [.d (.v (.int .i64 g.f0)), .d (.sl (g.f1.map d38))])), (80, some (.box (cD (d35 t)))), (96, some (.box [.d (.v (.int .i64 0)), .nil])), (144, some (.row 5 38 (g.f1.map d38) false true)), (160, some (.box [.d (.v (.int .i64 g.f0)), .ref 144]))], 880⟩ ?_
       refine if_ (b := decide ((x20.f3 : Int) < t.f3)) (fun hb23 => ?_) (fun hb23 => ?_)
       ·replace hb23 := of_decide_eq_true (hb23)
        refine sk ⟨[(4, .pt 96 0 0), (5, iV 4)], [(96, some (.box [.d (.v (.int .i64 g.f0)), .ref 144])), (144, some (.row 5 38 (g.f1.map d38) false true))], 928⟩ ?_
        refine X.ret ?_
        exact ⟨trivial, _, _, ⟨g, 4, (by first | exact (ap_form (.inl ‹_›)) | exact (ap_form (.inr ‹_›)) | exact (ap_none ‹_› ‹_› ‹_›) | exact (ap_nonce ‹_› ‹_› ‹_› ‹_› (Ne.symm ‹_›)) | exact (ap_short ‹_› ‹_› ‹_› ‹_› (Eq.symm ‹_›) (by first | exact hv3 ‹_› ‹_› | exact hvN ‹_› ‹_›)) | exact (ap_full ‹_› ‹_› ‹_› ‹_› (Eq.symm ‹_›) (by first | exact hv3' ‹_› ‹_› | exact hvN' ‹_› ‹_›) ‹_›) | exact (ap_good ‹_› ‹_› ‹_› ‹_› (Eq.symm ‹_›) (by first | exact hv3' ‹_› ‹_› | exact hvN' ‹_› ‹_›) ‹_›)), rfl, rfl⟩, .inl (Ret.mk' [(64, 144)] (by kernel_rfl) (by kernel_rfl) (by kernel_rfl))⟩
       ·replace hb23 := of_decide_eq_false (hb23)
        refine X.skip ?_
        refine X.seq (rs 3 ?_)
        obtain ⟨r24, hr26, hf25⟩ := s_l6Do g t (acAt g.f1 t.f1) (by assumption) (by assumption) (by assumption) (by first | assumption | omega)
        replace hr26 := hr26.symm; subst hr26
        refine ca hf25 Try.func120 ?_
        refine go 2 ?_
        refine ek ⟨[(4, .pt 96 0 0), (6, .pt 160 0 0), (10, .pt 944 0 0)], [(96, some (.box [.d (.v (.int .i64 0)), .nil])), (144, some (.row 5 38 (g.f1.map d38) false true)), (160, some (.box [.d (.v (.int .i64 g.f0)), .ref 144])), (928, some (.row 5 38 ((((doW g (Int.toNat (acAt g.f1 t.f1)) t)).f1).map d38) false true)), (944, some (.box [.d (.v (.int .i64 (((doW g (Int.toNat (acAt g.f1 t.f1)) t)).f0))), .ref 928]))], 976⟩ ?_
        refine X.seq ?_
        refine X.seq (rs 1 ?_)
        obtain ⟨r28, hr30, hf29⟩ := s_LedgerOk ((doW g (Int.toNat (acAt g.f1 t.f1)) t)) (by exact acs_do' ‹_› hg ht)
        replace hr30 := hr30.symm; subst hr30
        refine ca hf29 Try.func87 ?_
        refine go 1 ?_
        refine ek ⟨[(4, .pt 96 0 0), (6, .pt 160 0 0), (10, .pt 944 0 0), (61, bV (!(ledgerOk ((doW g (Int.toNat (acAt g.f1 t.f1)) t)))))], [(96, some (.box [.d (.v (.int .i64 0)), .nil])), (144, some (.row 5 38 (g.f1.map d38) false true)), (160, some (.box [.d (.v (.int .i64 g.f0)), .ref 144])), (928, some (.row 5 38 ((((doW g (Int.toNat (acAt g.f1 t.f1)) t)).f1).map d38) false true)), (944, some (.box [.d (.v (.int .i64 (((doW g (Int.toNat (acAt g.f1 t.f1)) t)).f0))), .ref 928]))], 1024⟩ ?_
        refine if_ (b := !(ledgerOk ((doW g (Int.toNat (acAt g.f1 t.f1)) t)))) (fun hb32 => ?_) (fun hb32 => ?_)
        ·replace hb32 := bnot_yes (hb32)
         refine sk ⟨[(4, .pt 96 0 0), (5, iV 5)], [(96, some (.box [.d (.v (.int .i64 g.f0)), .ref 144])), (144, some (.row 5 38 (g.f1.map d38) false true))], 1072⟩ ?_
         refine X.ret ?_
         exact ⟨trivial, _, _, ⟨g, 5, (by first | exact (ap_form (.inl ‹_›)) | exact (ap_form (.inr ‹_›)) | exact (ap_none ‹_› ‹_› ‹_›) | exact (ap_nonce ‹_› ‹_› ‹_› ‹_› (Ne.symm ‹_›)) | exact (ap_short ‹_› ‹_› ‹_› ‹_› (Eq.symm ‹_›) (by first | exact hv3 ‹_› ‹_› | exact hvN ‹_› ‹_›)) | exact (ap_full ‹_› ‹_› ‹_› ‹_› (Eq.symm ‹_›) (by first | exact hv3' ‹_› ‹_› | exact hvN' ‹_› ‹_›) ‹_›) | exact (ap_good ‹_› ‹_› ‹_› ‹_› (Eq.symm ‹_›) (by first | exact hv3' ‹_› ‹_› | exact hvN' ‹_› ‹_›) ‹_›)), rfl, rfl⟩, .inl (Ret.mk' [(64, 144)] (by kernel_rfl) (by kernel_rfl) (by kernel_rfl))⟩
        ·replace hb32 := bnot_no (hb32)
         refine X.skip ?_
         refine sk ⟨[(4, .pt 96 0 0), (5, iV 0)], [(96, some (.box [.d (.v (.int .i64 (((doW g (Int.toNat (acAt g.f1 t.f1)) t)).f0))), .ref 928])), (928, some (.row 5 38 ((((doW g (Int.toNat (acAt g.f1 t.f1)) t)).f1).map d38) false true))], 1072⟩ ?_
         refine X.ret ?_
         exact ⟨trivial, _, _, ⟨((doW g (Int.toNat (acAt g.f1 t.f1)) t)), 0, (by first | exact (ap_form (.inl ‹_›)) | exact (ap_form (.inr ‹_›)) | exact (ap_none ‹_› ‹_› ‹_›) | exact (ap_nonce ‹_› ‹_› ‹_› ‹_› (Ne.symm ‹_›)) | exact (ap_short ‹_› ‹_› ‹_› ‹_› (Eq.symm ‹_›) (by first | exact hv3 ‹_› ‹_› | exact hvN ‹_› ‹_›)) | exact (ap_full ‹_› ‹_› ‹_› ‹_› (Eq.symm ‹_›) (by first | exact hv3' ‹_› ‹_› | exact hvN' ‹_› ‹_›) ‹_›) | exact (ap_good ‹_› ‹_› ‹_› ‹_› (Eq.symm ‹_›) (by first | exact hv3' ‹_› ‹_› | exact hvN' ‹_› ‹_›) ‹_›)), rfl, rfl⟩, .inl (Ret.mk' [(64, 928)] (by kernel_rfl) (by kernel_rfl) (by kernel_rfl))⟩
     ·replace hb21 := beq_eq_false_iff_ne.1 (hb21)
      refine X.skip ?_
      refine X.seq ?_
      refine X.block ?_
      refine sk ⟨[(2, .pt 64 0 0), (3, .pt 80 0 0), (4, .pt 96 0 0), (6, .pt 160 0 0), (7, iV (acAt g.f1 t.f1)), (9, iV x20.f1), (42, bV (x20.f2 != t.f4))], [(64, some (.box [.d (.v (.int .i64 g.f0)), .d (.sl (g.f1.map d38))])), (80, some (.box (cD (d35 t)))), (96, some (.box [.d (.v (.int .i64 0)), .nil])), (144, some (.row 5 38 (g.f1.map d38) false true)), (160, some (.box [.d (.v (.int .i64 g.f0)), .ref 144]))], 752⟩ ?_
      refine if_ (b := (x20.f2 != t.f4)) (fun hb33 => ?_) (fun hb33 => ?_)
      ·replace hb33 := bne_iff_ne.1 (hb33)
       refine sk ⟨[(4, .pt 96 0 0), (5, iV 3)], [(96, some (.box [.d (.v (.int .i64 g.f0)), .ref 144])), (144, some (.row 5 38 (g.f1.map d38) false true))], 800⟩ ?_
       refine X.ret ?_
       exact ⟨trivial, _, _, ⟨g, 3, (by first | exact (ap_form (.inl ‹_›)) | exact (ap_form (.inr ‹_›)) | exact (ap_none ‹_› ‹_› ‹_›) | exact (ap_nonce ‹_› ‹_› ‹_› ‹_› (Ne.symm ‹_›)) | exact (ap_short ‹_› ‹_› ‹_› ‹_› (Eq.symm ‹_›) (by first | exact hv3 ‹_› ‹_› | exact hvN ‹_› ‹_›)) | exact (ap_full ‹_› ‹_› ‹_› ‹_› (Eq.symm ‹_›) (by first | exact hv3' ‹_› ‹_› | exact hvN' ‹_› ‹_›) ‹_›) | exact (ap_good ‹_› ‹_› ‹_› ‹_› (Eq.symm ‹_›) (by first | exact hv3' ‹_› ‹_› | exact hvN' ‹_› ‹_›) ‹_›)), rfl, rfl⟩, .inl (Ret.mk' [(64, 144)] (by kernel_rfl) (by kernel_rfl) (by kernel_rfl))⟩
      ·replace hb33 := bne_eq_false_iff_eq.1 (hb33)
       refine sk ⟨[(2, .pt 64 0 0), (3, .pt 80 0 0), (4, .pt 96 0 0), (6, .pt 160 0 0), (7, iV (acAt g.f1 t.f1)), (49, bV (decide ((x20.f1 : Int) < t.f3)))], [(64, some (.box [.d (.v (.int .i64 g.f0)), .d (.sl (g.f1.map d38))])), (80, some (.box (cD (d35 t)))), (96, some (.box [.d (.v (.int .i64 0)), .nil])), (144, some (.row 5 38 (g.f1.map d38) false true)), (160, some (.box [.d (.v (.int .i64 g.f0)), .ref 144]))], 832⟩ ?_
       refine if_ (b := decide ((x20.f1 : Int) < t.f3)) (fun hb34 => ?_) (fun hb34 => ?_)
       ·replace hb34 := of_decide_eq_true (hb34)
        refine sk ⟨[(4, .pt 96 0 0), (5, iV 4)], [(96, some (.box [.d (.v (.int .i64 g.f0)), .ref 144])), (144, some (.row 5 38 (g.f1.map d38) false true))], 880⟩ ?_
        refine X.ret ?_
        exact ⟨trivial, _, _, ⟨g, 4, (by first | exact (ap_form (.inl ‹_›)) | exact (ap_form (.inr ‹_›)) | exact (ap_none ‹_› ‹_› ‹_›) | exact (ap_nonce ‹_› ‹_› ‹_› ‹_› (Ne.symm ‹_›)) | exact (ap_short ‹_› ‹_› ‹_› ‹_› (Eq.symm ‹_›) (by first | exact hv3 ‹_› ‹_› | exact hvN ‹_› ‹_›)) | exact (ap_full ‹_› ‹_› ‹_› ‹_› (Eq.symm ‹_›) (by first | exact hv3' ‹_› ‹_› | exact hvN' ‹_› ‹_›) ‹_›) | exact (ap_good ‹_› ‹_› ‹_› ‹_› (Eq.symm ‹_›) (by first | exact hv3' ‹_› ‹_› | exact hvN' ‹_› ‹_›) ‹_›)), rfl, rfl⟩, .inl (Ret.mk' [(64, 144)] (by kernel_rfl) (by kernel_rfl) (by kernel_rfl))⟩
       ·replace hb34 := of_decide_eq_false (hb34)
        refine X.skip ?_
        refine X.seq (rs 3 ?_)
        obtain ⟨r35, hr37, hf36⟩ := s_l6Do g t (acAt g.f1 t.f1) (by assumption) (by assumption) (by assumption) (by first | assumption | omega)
        replace hr37 := hr37.symm; subst hr37
        refine ca hf36 Try.func120 ?_
        refine go 2 ?_
        refine ek ⟨[(4, .pt 96 0 0), (6, .pt 160 0 0), (10, .pt 896 0 0)], [(96, some (.box [.d (.v (.int .i64 0)), .nil])), (144, some (.row 5 38 (g.f1.map d38) false true)), (160, some (.box [.d (.v (.int .i64 g.f0)), .ref 144])), (880, some (.row 5 38 ((((doW g (Int.toNat (acAt g.f1 t.f1)) t)).f1).map d38) false true)), (896, some (.box [.d (.v (.int .i64 (((doW g (Int.toNat (acAt g.f1 t.f1)) t)).f0))), .ref 880]))], 928⟩ ?_
        refine X.seq ?_
        refine X.seq (rs 1 ?_)
        obtain ⟨r39, hr41, hf40⟩ := s_LedgerOk ((doW g (Int.toNat (acAt g.f1 t.f1)) t)) (by exact acs_do' ‹_› hg ht)
        replace hr41 := hr41.symm; subst hr41
        refine ca hf40 Try.func87 ?_
        refine go 1 ?_
        refine ek ⟨[(4, .pt 96 0 0), (6, .pt 160 0 0), (10, .pt 896 0 0), (61, bV (!(ledgerOk ((doW g (Int.toNat (acAt g.f1 t.f1)) t)))))], [(96, some (.box [.d (.v (.int .i64 0)), .nil])), (144, some (.row 5 38 (g.f1.map d38) false true)), (160, some (.box [.d (.v (.int .i64 g.f0)), .ref 144])), (880, some (.row 5 38 ((((doW g (Int.toNat (acAt g.f1 t.f1)) t)).f1).map d38) false true)), (896, some (.box [.d (.v (.int .i64 (((doW g (Int.toNat (acAt g.f1 t.f1)) t)).f0))), .ref 880]))], 976⟩ ?_
        refine if_ (b := !(ledgerOk ((doW g (Int.toNat (acAt g.f1 t.f1)) t)))) (fun hb43 => ?_) (fun hb43 => ?_)
        ·replace hb43 := bnot_yes (hb43)
         refine sk ⟨[(4, .pt 96 0 0), (5, iV 5)], [(96, some (.box [.d (.v (.int .i64 g.f0)), .ref 144])), (144, some (.row 5 38 (g.f1.map d38) false true))], 1024⟩ ?_
         refine X.ret ?_
         exact ⟨trivial, _, _, ⟨g, 5, (by first | exact (ap_form (.inl ‹_›)) | exact (ap_form (.inr ‹_›)) | exact (ap_none ‹_› ‹_› ‹_›) | exact (ap_nonce ‹_› ‹_› ‹_› ‹_› (Ne.symm ‹_›)) | exact (ap_short ‹_› ‹_› ‹_› ‹_› (Eq.symm ‹_›) (by first | exact hv3 ‹_› ‹_› | exact hvN ‹_› ‹_›)) | exact (ap_full ‹_› ‹_› ‹_› ‹_› (Eq.symm ‹_›) (by first | exact hv3' ‹_› ‹_› | exact hvN' ‹_› ‹_›) ‹_›) | exact (ap_good ‹_› ‹_› ‹_› ‹_› (Eq.symm ‹_›) (by first | exact hv3' ‹_› ‹_› | exact hvN' ‹_› ‹_›) ‹_›)), rfl, rfl⟩, .inl (Ret.mk' [(64, 144)] (by kernel_rfl) (by kernel_rfl) (by kernel_rfl))⟩
        ·replace hb43 := bnot_no (hb43)
         refine X.skip ?_
         refine sk ⟨[(4, .pt 96 0 0), (5, iV 0)], [(96, some (.box [.d (.v (.int .i64 (((doW g (Int.toNat (acAt g.f1 t.f1)) t)).f0))), .ref 880])), (880, some (.row 5 38 ((((doW g (Int.toNat (acAt g.f1 t.f1)) t)).f1).map d38) false true))], 1024⟩ ?_
         refine X.ret ?_
         exact ⟨trivial, _, _, ⟨((doW g (Int.toNat (acAt g.f1 t.f1)) t)), 0, (by first | exact (ap_form (.inl ‹_›)) | exact (ap_form (.inr ‹_›)) | exact (ap_none ‹_› ‹_› ‹_›) | exact (ap_nonce ‹_› ‹_› ‹_› ‹_› (Ne.symm ‹_›)) | exact (ap_short ‹_› ‹_› ‹_› ‹_› (Eq.symm ‹_›) (by first | exact hv3 ‹_› ‹_› | exact hvN ‹_› ‹_›)) | exact (ap_full ‹_› ‹_› ‹_› ‹_› (Eq.symm ‹_›) (by first | exact hv3' ‹_› ‹_› | exact hvN' ‹_› ‹_›) ‹_›) | exact (ap_good ‹_› ‹_› ‹_› ‹_› (Eq.symm ‹_›) (by first | exact hv3' ‹_› ‹_› | exact hvN' ‹_› ‹_›) ‹_›)), rfl, rfl⟩, .inl (Ret.mk' [(64, 880)] (by kernel_rfl) (by kernel_rfl) (by kernel_rfl))⟩
 obtain ⟨_, _, ⟨r0, r1, h1_, rfl, rfl⟩, hf⟩ := key
 exact ⟨r0, r1, h1_, hf⟩
end Go.Proofs.Ytggmeldoecnkaaa.Av
