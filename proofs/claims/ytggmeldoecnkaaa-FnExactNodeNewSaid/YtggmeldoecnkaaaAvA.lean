/-
What functions of the program come to, walked one by one.
Conditions: none beside those that each theorem names.
-/
import Derived.Test.YtggmeldoecnkaaaAv22
import Derived.Laws.StructEq
import Derived.Test.YtggmeldoecnkaaaAvT
set_option linter.unusedVariables false
set_option linter.unusedSimpArgs false
namespace Go.Proofs.Ytggmeldoecnkaaa.Av
open Go.RowKit
set_option maxRecDepth 20000
set_option maxHeartbeats 4000000
def iV (n : Int) : AV := .e (.c (.d (.v (.int .i64 n))))
def bV (b : Bool) : AV := .e (.c (.d (.v (.bool b))))
def lV (l : List (List D)) : AV := .e (.c (.d (.sl l)))
def rV (b : Nat) : AV := .e (.c (.ref b))
def cD (l : List D) : List Cell := l.map .d
def SmS (s : ByteArray) : Prop := s.size ≤ 2000000
def SmN (l : List ByteArray) : Prop := l.length ≤ 2000000 ∧ ∀ s, s ∈ l → SmS s
def Sm68 (q : S68) : Prop := SmN q.f2
def Sm69 (q : S69) : Prop := SmN q.f1 ∧ q.f2.length ≤ 2000000
def Sm35 (q : S35) : Prop := SmS q.f1 ∧ SmS q.f2
def Sm165 (q : S165) : Prop := SmS q.f0
def SmT (l : List S35) : Prop := l.length ≤ 2000000 ∧ ∀ x, x ∈ l → Sm35 x
def SmV (l : List S165) : Prop := l.length ≤ 2000000 ∧ ∀ x, x ∈ l → Sm165 x
def Sm72 (q : S72) : Prop := SmS q.f3 ∧ Sm68 q.f4 ∧ Sm69 q.f5 ∧ SmT q.f6 ∧ SmV q.f8 ∧ SmS q.f9
def SmL (l : List S72) : Prop := l.length ≤ 2000000 ∧ ∀ x, x ∈ l → Sm72 x
theorem all_at {α : Type} {p : α → Prop} {l : List α} (h : ∀ x, x ∈ l → p x) {i : Nat} {x : α} (hx : l[i]? = some x) : p x := h x (List.mem_of_getElem? hx)
theorem SmL.at {l : List S72} (h : SmL l) {i : Nat} {x : S72} (hx : l[i]? = some x) : Sm72 x := all_at h.2 hx
theorem take_succ {α : Type} {l : List α} {i : Int} {x : α} (h0 : 0 ≤ i) (hx : l[i.toNat]? = some x) : l.take i.toNat ++ [x] = l.take (i + 1).toNat := by
  rw [show (i + 1).toNat = i.toNat + 1 by omega, List.take_add_one, hx]; rfl
theorem take_all {α : Type} {l : List α} {i : Int} (h : ¬ i < (l.length : Int)) : l.take i.toNat = l := List.take_of_length_le (by omega)
theorem w8 (b : UInt8) : wr .i64 (b.toNat : Int) = b.toNat := by
  have := b.toNat_lt
  exact w64 (by omega) (by omega)
def inR (x a b : Int) : Bool := decide (a ≤ x) && decide (x ≤ b)
theorem inR_iff {x a b : Int} : inR x a b = true ↔ a ≤ x ∧ x ≤ b := by simp [inR]
theorem inR_yes {x a b : Int} (h : inR x a b = true) : a ≤ x ∧ x ≤ b := inR_iff.1 h
theorem inR_no {x a b : Int} (h : inR x a b = false) : ¬ (a ≤ x ∧ x ≤ b) := fun q => by rw [inR_iff.2 q] at h; cases h
theorem bnot_yes {b : Bool} (h : (!b) = true) : b = false := by simpa using h
theorem bnot_no {b : Bool} (h : (!b) = false) : b = true := by simpa using h
theorem beq_yes {a b : List UInt8} (h : (a == b) = true) : a = b := by simpa using h
theorem beq_no {a b : List UInt8} (h : (a == b) = false) : a ≠ b := by simpa using h
theorem less_total : ∀ a b : List UInt8, (Op.bytesLess a b || a == b) = !(Op.bytesLess b a)
  | [], [] => rfl
  | [], _ :: _ => rfl
  | _ :: _, [] => rfl
  | x :: xs, y :: ys => by
    have ih := less_total xs ys
    rcases Nat.lt_trichotomy x.toNat y.toNat with h | h | h
    · have h1 : x < y := h
      have h2 : ¬ y < x := fun q => by have : y.toNat < x.toNat := q; omega
      have h3 : ¬ y = x := fun q => by subst q; omega
      simp [Op.bytesLess, h1, h2, h3]
    · obtain rfl : x = y := UInt8.toNat_inj.1 h
      simp only [Op.bytesLess]
      have h1 : ¬ x < x := UInt8.lt_irrefl x
      simp only [h1, decide_false, Bool.false_or, beq_self_eq_true, Bool.true_and]
      rw [← ih]
      simp
    · have h1 : y < x := h
      have h2 : ¬ x < y := fun q => by have : x.toNat < y.toNat := q; omega
      have h3 : ¬ x = y := fun q => by subst q; omega
      simp [Op.bytesLess, h1, h2, h3]
theorem leq_yes {a b : List UInt8} (h : (Op.bytesLess a b || a == b) = true) : Op.bytesLess b a = false := by rw [less_total] at h; exact bnot_yes h
theorem leq_no {a b : List UInt8} (h : (Op.bytesLess a b || a == b) = false) : Op.bytesLess b a = true := by rw [less_total] at h; exact bnot_no h
theorem tf {a : Bool} {p : Prop} (h : a = true) (h' : a = false) : p := by rw [h] at h'; cases h'
theorem prev_fn {α : Type} {Q : α → Prop} {i : Int} {o : Option α} {x : α} (hx : o = some x) (h : Q x) : ∀ y, 0 < i → o = some y → Q y := fun y _ hy => by rw [hx] at hy; cases hy; exact h
theorem fls {P : Prop} {i : Decidable P} (h : ¬ P) : false = @decide P i := (decide_eq_false h).symm
theorem tru {P : Prop} {i : Decidable P} (h : P) : true = @decide P i := (decide_eq_true h).symm
theorem dcd {P : Prop} {i : Decidable P} {a : Bool} (h : a = true ↔ P) : a = @decide P i := by
  cases a with
  | true => exact tru (h.1 rfl)
  | false => exact fls fun q => by have := h.2 q; cases this
/-- All up to i. -/
def Upto {α : Type} (R : Int → α → Prop) (g : Nat → Option α) (i : Int) : Prop := ∀ (j : Int) (x : α), 0 ≤ j → j < i → g j.toNat = some x → R j x
section
variable {α : Type} {R : Int → α → Prop} {g : Nat → Option α} {i n : Int} {x : α}
theorem upto_zero : Upto R g 0 := fun j x h1 h2 => by omega
theorem upto_nx (h0 : 0 ≤ i) (hA : Upto R g i) (hx : g i.toNat = some x) (h : R i x) : Upto R g (i + 1) := fun j y h1 h2 hy => by
  by_cases he : j = i
  · subst he; rw [hx] at hy; cases hy; exact h
  · exact hA j y h1 (by omega) hy
theorem upto_no (h0 : 0 ≤ i) (hi : i < n) (hx : g i.toNat = some x) (h : ¬ R i x) : ¬ Upto R g n := fun q => h (q i x h0 hi hx)
theorem upto_all (hA : Upto R g i) (h : n ≤ i) : Upto R g n := fun j x h1 h2 hx => hA j x h1 (by omega) hx
end
def chR (_ : Int) (b : UInt8) : Prop := 97 ≤ (b.toNat : Int) ∧ (b.toNat : Int) ≤ 122 ∨ 48 ≤ (b.toNat : Int) ∧ (b.toNat : Int) ≤ 57
def nameP (s : ByteArray) : Prop := Upto chR (fun n => s[n]?) s.size ∧ 1 ≤ (s.size : Int) ∧ (s.size : Int) ≤ 8
noncomputable def nameOk (s : ByteArray) : Bool := @decide (nameP s) (Classical.propDecidable _)
noncomputable def txOk (t : S35) : Bool := inR t.f0 1 3 && (nameOk t.f1 && (inR t.f3 1 1000000 && (inR t.f4 0 10000 && (if t.f0 = 1 then nameOk t.f2 else t.f2.toList == (⟨#[]⟩ : ByteArray).toList))))
theorem strOf_size (ns : List Int) : (strOf ns).size = ns.length := by
  have : ∀ (ns : List Int) (s : ByteArray), (ns.foldl (fun r n => r.push (UInt8.ofNat n.toNat)) s).size = s.size + ns.length := by
    intro ns
    induction ns with
    | nil => intro s; simp
    | cons n ns ih => intro s; rw [List.foldl_cons, ih, ByteArray.size_push]; simp; omega
  have h := this ns ByteArray.empty
  simpa [strOf] using h
noncomputable def allEq {α : Type} (l m : List α) : Bool := @decide (l = m) (Classical.propDecidable _)
theorem allEq_iff {α : Type} {l m : List α} : allEq l m = true ↔ l = m := by simp [allEq]
theorem allEq_self {α : Type} (l : List α) : allEq l l = true := allEq_iff.2 rfl
section
variable {α : Type} {l m : List α} {i : Int} {x y : α}
theorem eq_stp {k : Nat} (hy : m[k]? = some y) (e : x = y) : m[k]? = some x := e ▸ hy
theorem eq_no {k : Nat} (hx : l[k]? = some x) (hy : m[k]? = some y) (h : x ≠ y) : l ≠ m := fun e => by subst e; rw [hx] at hy; cases hy; exact h rfl
theorem eq_all (hA : Upto (fun j x => m[j.toNat]? = some x) (fun n => l[n]?) i) (hi : (l.length : Int) ≤ i) (hl : l.length = m.length) : l = m := by
  apply List.ext_getElem?
  intro k
  rcases Nat.lt_or_ge k l.length with h | h
  · have hx := List.getElem?_eq_getElem h
    have this : m[(k : Int).toNat]? = some l[k] := hA (k : Int) (l[k]) (by omega) (by omega) (by rw [Int.toNat_natCast]; exact hx)
    rw [hx]
    rw [Int.toNat_natCast] at this
    exact this.symm
  · rw [List.getElem?_eq_none h, List.getElem?_eq_none (by omega)]
end
theorem eq_noS {l m : List ByteArray} {k : Nat} {x y : ByteArray} (hx : l[k]? = some x) (hy : m[k]? = some y) (h : x.toList ≠ y.toList) : l ≠ m := eq_no hx hy fun e => h (by rw [e])
theorem mem_upto {α : Type} {P : α → Prop} {l : List α} {i : Int} (hA : Upto (fun _ x => P x) (fun n => l[n]?) i) (h : (l.length : Int) ≤ i) : ∀ x, x ∈ l → P x := fun x hx => by
  obtain ⟨j, hj⟩ := List.mem_iff_getElem?.1 hx
  have := (List.getElem?_eq_some_iff.1 hj).1
  exact hA j x (by omega) (by omega) (by simpa using hj)
theorem tdiv10 (x : Int) (h : 0 < x) : 0 ≤ Int.tdiv x 10 ∧ Int.tdiv x 10 < x := by
  rw [Int.tdiv_eq_ediv_of_nonneg (by omega)]
  omega
section
variable {N : Nat} {s : St} {R : Exit → St → Prop} {id : Nat} {ops : Array Oper} {draw : Bool} {K : List (Oper × Rec) → St → Prop} {m : Cf}
theorem rk (s1 : St) (k : R .normal s1) (e : regB τ N s ops draw = true := by kernel_rfl) (h : lessL (nxt s ops.size (Av.run τ N ops ops.size (st0 s ops))) s1 = lessR s1 := by kernel_rfl) : X Try.prog N (.region id ops draw) R s := X.rk s1 hτ hmix e h rfl k
theorem sk {y : Code} (s1 : St) (k : X Try.prog N y R s1) (e : regB τ N s ops draw = true := by kernel_rfl) (h : lessL (nxt s ops.size (Av.run τ N ops ops.size (st0 s ops))) s1 = lessR s1 := by kernel_rfl) : X Try.prog N (.seq (.region id ops draw) y) R s := X.seq (X.rk s1 hτ hmix e h rfl k)
theorem rs (n : Nat) (k : CH (c0 Try.prog N) ops (fun rs s' => (draw = true → drOk ops rs = true) ∧ ∃ s1, lessL ⟨s'.T, s'.H, s.nx + 16 * ops.size⟩ s1 = lessR s1 ∧ R .normal s1) (Av.run τ N ops n (st0 s ops))) (e : Nat.ble 64 s.nx = true := by kernel_rfl) : X Try.prog N (.region id ops draw) R s := X.rs n hτ hmix e k
theorem go (n : Nat) (k : CH (c0 Try.prog N) ops K (Av.run τ N ops n m)) (e : Nat.ble 64 m.s.nx = true := by kernel_rfl) : CH (c0 Try.prog N) ops K m := CH.go n hτ e k
theorem ek (s1 : St) (k : R .normal s1) (e : (m.l.isEmpty && (!draw || drOk ops m.rs.reverse)) = true := by kernel_rfl) (h : lessL (nxt s ops.size m) s1 = lessR s1 := by kernel_rfl) : CH (c0 Try.prog N) ops (fun rs s' => (draw = true → drOk ops rs = true) ∧ ∃ s1, lessL ⟨s'.T, s'.H, s.nx + 16 * ops.size⟩ s1 = lessR s1 ∧ R .normal s1) m := CH.endk s1 e h rfl k
theorem aT (t : Nat) {p : Bool} (h : p = true) (k : CH (c0 Try.prog N) ops K (m.alt t (sV (.bool true)))) (e : look m.s.T t = some (sV (.bool p)) := by kernel_rfl) : CH (c0 Try.prog N) ops K m := CH.alt t _ _ e (by rw [h]) k
theorem aF (t : Nat) {p : Bool} (h : p = false) (k : CH (c0 Try.prog N) ops K (m.alt t (sV (.bool false)))) (e : look m.s.T t = some (sV (.bool p)) := by kernel_rfl) : CH (c0 Try.prog N) ops K m := CH.alt t _ _ e (by rw [h]) k
theorem ca {f : FuncId} {args : List AV} {h0 h1 : List (Nat × Option Blk)} {x : AV} {fn : Func} (hfn : Fn Try.prog f args (lookH h0) x (lookH h1)) (hf : Try.prog.funcs[f]? = some fn) (k : CH (c0 Try.prog N) ops K (advO ((hdO N ops m).bind fun o => callR false m.s.tm m.s.hp m.id [] x h1 o.op) m)) (hname : ((fn.name == "runtime.NumGoroutine") = false) ∧ fn.body.isSome = true := by exact ⟨rfl, rfl⟩) (h64 : Nat.ble 64 m.s.nx = true := by kernel_rfl)
    (e : ((hdO N ops m).bind fun o => callA m.s.tm m.s.hp [] o.op) = some (f, args) := by kernel_rfl) (eh : handed m.s.hp [] = h0 := by kernel_rfl) (hb : okR m ((hdO N ops m).bind fun o => callR false m.s.tm m.s.hp m.id [] x h1 o.op) = true := by kernel_rfl) : CH (c0 Try.prog N) ops K m := CH.call hfn hf hname [] h64 e eh hb k
theorem mkr {ty : Ty} {q : Prop} {rv : List ResultVar} {x : AV} {h1 : List (Nat × Option Blk)} (e : retX ty s.tm s.hp rv = some (x.mp (rn [])) := by kernel_rfl) (e2 : (h1.map fun p => s.hp (rn [] p.1)) = (h1.map fun p => p.2.map (Blk.mp (rn []))) := by kernel_rfl) (e3 : (nodupB (h1.map fun p => rn [] p.1) && (([] : List (Nat × Nat)).all fun p => Nat.ble 64 p.1)) = true := by kernel_rfl) : Ret ty rv s x h1 ∨ q := .inl (Ret.mk' [] e e2 e3)
theorem if_ {o : Operand} {b : Bool} {x y : Code} (h1 : b = true → X Try.prog N x R s) (h2 : b = false → X Try.prog N y R s) (hb : (evO s.tm o).bind sc = some (.bool b) := by kernel_rfl) : X Try.prog N (.cond o x y) R s := X.if_ hb h1 h2
end
end Go.Proofs.Ytggmeldoecnkaaa.Av
