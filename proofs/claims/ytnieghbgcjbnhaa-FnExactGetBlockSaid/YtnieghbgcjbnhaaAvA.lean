/-
What functions of the program come to, walked one by one.
Conditions: none beside those that each theorem names.
-/
import Derived.Test.YtnieghbgcjbnhaaAv23
import Derived.Test.YtnieghbgcjbnhaaAvT
set_option linter.unusedVariables false
set_option linter.unusedSimpArgs false
namespace Go.Proofs.Ytnieghbgcjbnhaa.Av
open Go.RowKit
set_option maxRecDepth 20000
set_option maxHeartbeats 4000000
def iV (n : Int) : AV := .e (.c (.d (.v (.int .i64 n))))
def bV (b : Bool) : AV := .e (.c (.d (.v (.bool b))))
def lV (l : List (List D)) : AV := .e (.c (.d (.sl l)))
def rV (b : Nat) : AV := .e (.c (.ref b))
def cD (l : List D) : List Cell := l.map .d
def SmS (s : ByteArray) : Prop := s.size ≤ 2000000
def SmN (l : List ByteArray) : Prop := l.length ≤ 2000000 ∧ ∀ s, s ∈ l → SmS s
def Sm43 (q : S43) : Prop := SmN q.f2
def Sm46 (q : S46) : Prop := SmN q.f1 ∧ q.f2.length ≤ 2000000
def Sm26 (q : S26) : Prop := SmS q.f1 ∧ SmS q.f2
def Sm107 (q : S107) : Prop := SmS q.f0
def SmT (l : List S26) : Prop := l.length ≤ 2000000 ∧ ∀ x, x ∈ l → Sm26 x
def SmV (l : List S107) : Prop := l.length ≤ 2000000 ∧ ∀ x, x ∈ l → Sm107 x
def Sm49 (q : S49) : Prop := SmS q.f3 ∧ Sm43 q.f4 ∧ Sm46 q.f5 ∧ SmT q.f6 ∧ SmV q.f8 ∧ SmS q.f9
def SmL (l : List S49) : Prop := l.length ≤ 2000000 ∧ ∀ x, x ∈ l → Sm49 x
theorem all_at {α : Type} {p : α → Prop} {l : List α} (h : ∀ x, x ∈ l → p x) {i : Nat} {x : α} (hx : l[i]? = some x) : p x := h x (List.mem_of_getElem? hx)
theorem all_app {α : Type} {p : α → Prop} {l l' : List α} (h : ∀ x, x ∈ l → p x) (h' : ∀ x, x ∈ l' → p x) : ∀ x, x ∈ l ++ l' → p x := fun x hx => (List.mem_append.1 hx).elim (h x) (h' x)
theorem all_one {α : Type} {p : α → Prop} {x : α} (h : p x) : ∀ y, y ∈ [x] → p y := fun y hy => by rw [List.mem_singleton.1 hy]; exact h
theorem all_nil {α : Type} {p : α → Prop} : ∀ y : α, y ∈ ([] : List α) → p y := fun y hy => by cases hy
theorem SmL.at {l : List S49} (h : SmL l) {i : Nat} {x : S49} (hx : l[i]? = some x) : Sm49 x := all_at h.2 hx
theorem w8 (b : UInt8) : wr .i64 (b.toNat : Int) = b.toNat := by
  have := b.toNat_lt
  exact w64 (by omega) (by omega)
def inR (x a b : Int) : Bool := decide (a ≤ x) && decide (x ≤ b)
theorem inR_iff {x a b : Int} : inR x a b = true ↔ a ≤ x ∧ x ≤ b := by simp [inR]
theorem inR_yes {x a b : Int} (h : inR x a b = true) : a ≤ x ∧ x ≤ b := inR_iff.1 h
theorem inR_no {x a b : Int} (h : inR x a b = false) : ¬ (a ≤ x ∧ x ≤ b) := fun q => by rw [inR_iff.2 q] at h; cases h
theorem bnot_yes {b : Bool} (h : (!b) = true) : b = false := by simpa using h
theorem bnot_no {b : Bool} (h : (!b) = false) : b = true := by simpa using h
theorem beq_yes {a b : List UInt8} (h : (a == b) = true) : a = b := by simpa using h
theorem beq_no {a b : List UInt8} (h : (a == b) = false) : a ≠ b := by simpa using h
theorem less_total : ∀ a b : List UInt8, (Op.bytesLess a b || a == b) = !(Op.bytesLess b a)
  | [], [] => rfl
  | [], _ :: _ => rfl
  | _ :: _, [] => rfl
  | x :: xs, y :: ys => by
    have ih := less_total xs ys
    rcases Nat.lt_trichotomy x.toNat y.toNat with h | h | h
    · have h1 : x < y := h
      have h2 : ¬ y < x := fun q => by have : y.toNat < x.toNat := q; omega
      have h3 : ¬ y = x := fun q => by subst q; omega
      simp [Op.bytesLess, h1, h2, h3]
    · obtain rfl : x = y := UInt8.toNat_inj.1 h
      simp only [Op.bytesLess]
      have h1 : ¬ x < x := UInt8.lt_irrefl x
      simp only [h1, decide_false, Bool.false_or, beq_self_eq_true, Bool.true_and]
      rw [← ih]
      simp
    · have h1 : y < x := h
      have h2 : ¬ x < y := fun q => by have : x.toNat < y.toNat := q; omega
      have h3 : ¬ x = y := fun q => by subst q; omega
      simp [Op.bytesLess, h1, h2, h3]
theorem leq_yes {a b : List UInt8} (h : (Op.bytesLess a b || a == b) = true) : Op.bytesLess b a = false := by rw [less_total] at h; exact bnot_yes h
theorem leq_no {a b : List UInt8} (h : (Op.bytesLess a b || a == b) = false) : Op.bytesLess b a = true := by rw [less_total] at h; exact bnot_no h
theorem tf {a : Bool} {p : Prop} (h : a = true) (h' : a = false) : p := by rw [h] at h'; cases h'
theorem prev_fn {α : Type} {Q : α → Prop} {i : Int} {o : Option α} {x : α} (hx : o = some x) (h : Q x) : ∀ y, 0 < i → o = some y → Q y := fun y _ hy => by rw [hx] at hy; cases hy; exact h
theorem fls {P : Prop} {i : Decidable P} (h : ¬ P) : false = @decide P i := (decide_eq_false h).symm
theorem tru {P : Prop} {i : Decidable P} (h : P) : true = @decide P i := (decide_eq_true h).symm
theorem dcd {P : Prop} {i : Decidable P} {a : Bool} (h : a = true ↔ P) : a = @decide P i := by
  cases a with
  | true => exact tru (h.1 rfl)
  | false => exact fls fun q => by have := h.2 q; cases this
/-- All up to i. -/
def Upto {α : Type} (R : Int → α → Prop) (g : Nat → Option α) (i : Int) : Prop := ∀ (j : Int) (x : α), 0 ≤ j → j < i → g j.toNat = some x → R j x
section
variable {α : Type} {R : Int → α → Prop} {g : Nat → Option α} {i n : Int} {x : α}
theorem upto_zero : Upto R g 0 := fun j x h1 h2 => by omega
theorem upto_nx (h0 : 0 ≤ i) (hA : Upto R g i) (hx : g i.toNat = some x) (h : R i x) : Upto R g (i + 1) := fun j y h1 h2 hy => by
  by_cases he : j = i
  · subst he; rw [hx] at hy; cases hy; exact h
  · exact hA j y h1 (by omega) hy
theorem upto_no (h0 : 0 ≤ i) (hi : i < n) (hx : g i.toNat = some x) (h : ¬ R i x) : ¬ Upto R g n := fun q => h (q i x h0 hi hx)
theorem upto_all (hA : Upto R g i) (h : n ≤ i) : Upto R g n := fun j x h1 h2 hx => hA j x h1 (by omega) hx
end
theorem all_no {α : Type} {p : α → Bool} {l : List α} {i : Nat} {x : α} (hx : l[i]? = some x) (h : p x = false) : l.all p = false := by
  rw [List.all_eq_false]
  exact ⟨x, List.mem_of_getElem? hx, by simp [h]⟩
theorem all_yes {α : Type} {p : α → Bool} {l : List α} (h : Upto (fun _ x => p x = true) (fun n => l[n]?) l.length) : l.all p = true := by
  rw [List.all_eq_true]
  intro x hx
  obtain ⟨j, hj⟩ := List.mem_iff_getElem?.1 hx
  have := (List.getElem?_eq_some_iff.1 hj).1
  exact h j x (by omega) (by omega) (by simpa using hj)
def chR (_ : Int) (b : UInt8) : Prop := 97 ≤ (b.toNat : Int) ∧ (b.toNat : Int) ≤ 122 ∨ 48 ≤ (b.toNat : Int) ∧ (b.toNat : Int) ≤ 57
def nameP (s : ByteArray) : Prop := Upto chR (fun n => s[n]?) s.size ∧ 1 ≤ (s.size : Int) ∧ (s.size : Int) ≤ 8
noncomputable def nameOk (s : ByteArray) : Bool := @decide (nameP s) (Classical.propDecidable _)
def namesR (l : List ByteArray) (i : Int) (x : ByteArray) : Prop := nameOk x = true ∧ ∀ y, 0 < i → l[(i - 1).toNat]? = some y → Op.bytesLess y.toList x.toList = true
def namesP (l : List ByteArray) : Prop := Upto (namesR l) (fun n => l[n]?) l.length ∧ (l.length : Int) ≤ 20
noncomputable def namesOk (l : List ByteArray) : Bool := @decide (namesP l) (Classical.propDecidable _)
def rootQ (q : S43) : Bool := q.f0 == 0 && (q.f1 == -1 && (q.f2.length : Int) == 0)
def noneT (t : S46) : Bool := t.f0 == 0 && ((t.f1.length : Int) == 0 && (t.f2.length : Int) == 0)
noncomputable def qcForm (q : S43) (r b : Int) : Bool := rootQ q || (inR q.f0 1 r && (inR q.f1 0 b && namesOk q.f2))
noncomputable def tcForm (t : S46) (r : Int) : Bool := noneT t || (inR t.f0 1 r && (namesOk t.f1 && ((t.f2.length : Int) == (t.f1.length : Int) && t.f2.all fun h => inR h 0 (wr .i64 (t.f0 - 1)))))
noncomputable def txOk (t : S26) : Bool := inR t.f0 1 3 && (nameOk t.f1 && (inR t.f3 1 1000000 && (inR t.f4 0 10000 && (if t.f0 = 1 then nameOk t.f2 else t.f2.toList == (⟨#[]⟩ : ByteArray).toList))))
def setR (l : List S107) (i : Int) (x : S107) : Prop := nameOk x.f0 = true ∧ (1 ≤ x.f1 ∧ x.f1 ≤ 1000000) ∧ ∀ y, 0 < i → l[(i - 1).toNat]? = some y → Op.bytesLess y.f0.toList x.f0.toList = true
def setP (l : List S107) : Prop := Upto (setR l) (fun n => l[n]?) l.length ∧ 1 ≤ (l.length : Int) ∧ (l.length : Int) ≤ 12
noncomputable def setOk (l : List S107) : Bool := @decide (setP l) (Classical.propDecidable _)
noncomputable def blockOk (b : S49) : Bool := inR b.f0 0 100000 && (inR b.f1 0 900 && (inR b.f2 1 10000 && (nameOk b.f3 && (qcForm b.f4 (wr .i64 (b.f2 - 1)) (wr .i64 (b.f0 - 1)) && (tcForm b.f5 (wr .i64 (b.f2 - 1)) && (decide ((b.f6.length : Int) ≤ 4) && (b.f6.all txOk &&
  (if b.f7 = true then setOk b.f8 && (b.f9.size : Int) == 32 else (b.f8.length : Int) == 0 && b.f9.toList == (⟨#[]⟩ : ByteArray).toList))))))))
theorem inR_ff {x a b : Int} (h : ¬ (a ≤ x ∧ x ≤ b)) : inR x a b = false := by
  cases hr : inR x a b with
  | false => rfl
  | true => exact absurd (inR_yes hr) h
theorem strOf_size (ns : List Int) : (strOf ns).size = ns.length := by
  have : ∀ (ns : List Int) (s : ByteArray), (ns.foldl (fun r n => r.push (UInt8.ofNat n.toNat)) s).size = s.size + ns.length := by
    intro ns
    induction ns with
    | nil => intro s; simp
    | cons n ns ih => intro s; rw [List.foldl_cons, ih, ByteArray.size_push]; simp; omega
  have h := this ns ByteArray.empty
  simpa [strOf] using h
noncomputable def allEq {α : Type} (l m : List α) : Bool := @decide (l = m) (Classical.propDecidable _)
theorem allEq_iff {α : Type} {l m : List α} : allEq l m = true ↔ l = m := by simp [allEq]
theorem allEq_self {α : Type} (l : List α) : allEq l l = true := allEq_iff.2 rfl
section
variable {α : Type} {l m : List α} {i : Int} {x y : α}
theorem eq_stp {k : Nat} (hy : m[k]? = some y) (e : x = y) : m[k]? = some x := e ▸ hy
theorem eq_no {k : Nat} (hx : l[k]? = some x) (hy : m[k]? = some y) (h : x ≠ y) : l ≠ m := fun e => by subst e; rw [hx] at hy; cases hy; exact h rfl
theorem eq_all (hA : Upto (fun j x => m[j.toNat]? = some x) (fun n => l[n]?) i) (hi : (l.length : Int) ≤ i) (hl : l.length = m.length) : l = m := by
  apply List.ext_getElem?
  intro k
  rcases Nat.lt_or_ge k l.length with h | h
  · have hx := List.getElem?_eq_getElem h
    have this : m[(k : Int).toNat]? = some l[k] := hA (k : Int) (l[k]) (by omega) (by omega) (by rw [Int.toNat_natCast]; exact hx)
    rw [hx]
    rw [Int.toNat_natCast] at this
    exact this.symm
  · rw [List.getElem?_eq_none h, List.getElem?_eq_none (by omega)]
end
theorem eq_noS {l m : List ByteArray} {k : Nat} {x y : ByteArray} (hx : l[k]? = some x) (hy : m[k]? = some y) (h : x.toList ≠ y.toList) : l ≠ m := eq_no hx hy fun e => h (by rw [e])
theorem tdiv10 (x : Int) (h : 0 < x) : 0 ≤ Int.tdiv x 10 ∧ Int.tdiv x 10 < x := by
  rw [Int.tdiv_eq_ediv_of_nonneg (by omega)]
  omega
end Go.Proofs.Ytnieghbgcjbnhaa.Av
