/-
What functions of the program come to, walked one by one.
Conditions: none beside those that each theorem names.
-/
import Derived.Test.YtggmeldoecnkaaaAv23
import Derived.Test.YtggmeldoecnkaaaAvT
set_option linter.unusedVariables false
set_option linter.unusedSimpArgs false
namespace Go.Proofs.Ytggmeldoecnkaaa.Av
open Go.RowKit
set_option maxRecDepth 20000
set_option maxHeartbeats 4000000
def iV (n : Int) : AV := .e (.c (.d (.v (.int .i64 n))))
def bV (b : Bool) : AV := .e (.c (.d (.v (.bool b))))
def lV (l : List (List D)) : AV := .e (.c (.d (.sl l)))
def rV (b : Nat) : AV := .e (.c (.ref b))
def cD (l : List D) : List Cell := l.map .d
def cF (l : List D) : List Cell := l.map .f
def SmS (s : ByteArray) : Prop := s.size ≤ 2000000
def SmN (l : List ByteArray) : Prop := l.length ≤ 2000000 ∧ ∀ s, s ∈ l → SmS s
def Sm68 (q : S68) : Prop := SmN q.f2
def Sm69 (q : S69) : Prop := SmN q.f1 ∧ q.f2.length ≤ 2000000
def Sm35 (q : S35) : Prop := SmS q.f1 ∧ SmS q.f2
def Sm165 (q : S165) : Prop := SmS q.f0
def SmT (l : List S35) : Prop := l.length ≤ 2000000 ∧ ∀ x, x ∈ l → Sm35 x
def SmV (l : List S165) : Prop := l.length ≤ 2000000 ∧ ∀ x, x ∈ l → Sm165 x
def Sm72 (q : S72) : Prop := SmS q.f3 ∧ Sm68 q.f4 ∧ Sm69 q.f5 ∧ SmT q.f6 ∧ SmV q.f8 ∧ SmS q.f9
def SmL (l : List S72) : Prop := l.length ≤ 2000000 ∧ ∀ x, x ∈ l → Sm72 x
theorem all_at {α : Type} {p : α → Prop} {l : List α} (h : ∀ x, x ∈ l → p x) {i : Nat} {x : α} (hx : l[i]? = some x) : p x := h x (List.mem_of_getElem? hx)
theorem all_app {α : Type} {p : α → Prop} {l l' : List α} (h : ∀ x, x ∈ l → p x) (h' : ∀ x, x ∈ l' → p x) : ∀ x, x ∈ l ++ l' → p x := fun x hx => (List.mem_append.1 hx).elim (h x) (h' x)
theorem all_one {α : Type} {p : α → Prop} {x : α} (h : p x) : ∀ y, y ∈ [x] → p y := fun y hy => by rw [List.mem_singleton.1 hy]; exact h
theorem all_set {α : Type} {p : α → Prop} {l : List α} (h : ∀ x, x ∈ l → p x) {i : Nat} {y : α} (hy : p y) : ∀ x, x ∈ l.set i y → p x := fun x hx => (List.mem_or_eq_of_mem_set hx).elim (h x) (fun e => e ▸ hy)
theorem SmL.at {l : List S72} (h : SmL l) {i : Nat} {x : S72} (hx : l[i]? = some x) : Sm72 x := all_at h.2 hx
theorem take_succ {α : Type} {l : List α} {i : Int} {x : α} (h0 : 0 ≤ i) (hx : l[i.toNat]? = some x) : l.take i.toNat ++ [x] = l.take (i + 1).toNat := by
  rw [show (i + 1).toNat = i.toNat + 1 by omega, List.take_add_one, hx]; rfl
theorem take_all {α : Type} {l : List α} {i : Int} (h : ¬ i < (l.length : Int)) : l.take i.toNat = l := List.take_of_length_le (by omega)
theorem w8 (b : UInt8) : wr .i64 (b.toNat : Int) = b.toNat := by
  have := b.toNat_lt
  exact w64 (by omega) (by omega)
def inR (x a b : Int) : Bool := decide (a ≤ x) && decide (x ≤ b)
theorem inR_iff {x a b : Int} : inR x a b = true ↔ a ≤ x ∧ x ≤ b := by simp [inR]
theorem inR_yes {x a b : Int} (h : inR x a b = true) : a ≤ x ∧ x ≤ b := inR_iff.1 h
theorem inR_no {x a b : Int} (h : inR x a b = false) : ¬ (a ≤ x ∧ x ≤ b) := fun q => by rw [inR_iff.2 q] at h; cases h
theorem bnot_yes {b : Bool} (h : (!b) = true) : b = false := by simpa using h
theorem bnot_no {b : Bool} (h : (!b) = false) : b = true := by simpa using h
theorem beq_yes {a b : List UInt8} (h : (a == b) = true) : a = b := by simpa using h
theorem beq_no {a b : List UInt8} (h : (a == b) = false) : a ≠ b := by simpa using h
theorem less_total : ∀ a b : List UInt8, (Op.bytesLess a b || a == b) = !(Op.bytesLess b a)
  | [], [] => rfl
  | [], _ :: _ => rfl
  | _ :: _, [] => rfl
  | x :: xs, y :: ys => by
    have ih := less_total xs ys
    rcases Nat.lt_trichotomy x.toNat y.toNat with h | h | h
    · have h1 : x < y := h
      have h2 : ¬ y < x := fun q => by have : y.toNat < x.toNat := q; omega
      have h3 : ¬ y = x := fun q => by subst q; omega
      simp [Op.bytesLess, h1, h2, h3]
    · obtain rfl : x = y := UInt8.toNat_inj.1 h
      simp only [Op.bytesLess]
      have h1 : ¬ x < x := UInt8.lt_irrefl x
      simp only [h1, decide_false, Bool.false_or, beq_self_eq_true, Bool.true_and]
      rw [← ih]
      simp
    · have h1 : y < x := h
      have h2 : ¬ x < y := fun q => by have : x.toNat < y.toNat := q; omega
      have h3 : ¬ x = y := fun q => by subst q; omega
      simp [Op.bytesLess, h1, h2, h3]
theorem leq_yes {a b : List UInt8} (h : (Op.bytesLess a b || a == b) = true) : Op.bytesLess b a = false := by rw [less_total] at h; exact bnot_yes h
theorem leq_no {a b : List UInt8} (h : (Op.bytesLess a b || a == b) = false) : Op.bytesLess b a = true := by rw [less_total] at h; exact bnot_no h
theorem tf {a : Bool} {p : Prop} (h : a = true) (h' : a = false) : p := by rw [h] at h'; cases h'
theorem prev_fn {α : Type} {Q : α → Prop} {i : Int} {o : Option α} {x : α} (hx : o = some x) (h : Q x) : ∀ y, 0 < i → o = some y → Q y := fun y _ hy => by rw [hx] at hy; cases hy; exact h
theorem fls {P : Prop} {i : Decidable P} (h : ¬ P) : false = @decide P i := (decide_eq_false h).symm
theorem tru {P : Prop} {i : Decidable P} (h : P) : true = @decide P i := (decide_eq_true h).symm
theorem dcd {P : Prop} {i : Decidable P} {a : Bool} (h : a = true ↔ P) : a = @decide P i := by
  cases a with
  | true => exact tru (h.1 rfl)
  | false => exact fls fun q => by have := h.2 q; cases this
/-- All up to i. -/
def Upto {α : Type} (R : Int → α → Prop) (g : Nat → Option α) (i : Int) : Prop := ∀ (j : Int) (x : α), 0 ≤ j → j < i → g j.toNat = some x → R j x
section
variable {α : Type} {R : Int → α → Prop} {g : Nat → Option α} {i n : Int} {x : α}
theorem upto_zero : Upto R g 0 := fun j x h1 h2 => by omega
theorem upto_nx (h0 : 0 ≤ i) (hA : Upto R g i) (hx : g i.toNat = some x) (h : R i x) : Upto R g (i + 1) := fun j y h1 h2 hy => by
  by_cases he : j = i
  · subst he; rw [hx] at hy; cases hy; exact h
  · exact hA j y h1 (by omega) hy
theorem upto_no (h0 : 0 ≤ i) (hi : i < n) (hx : g i.toNat = some x) (h : ¬ R i x) : ¬ Upto R g n := fun q => h (q i x h0 hi hx)
theorem upto_all (hA : Upto R g i) (h : n ≤ i) : Upto R g n := fun j x h1 h2 hx => hA j x h1 (by omega) hx
end
theorem all_no {α : Type} {p : α → Bool} {l : List α} {i : Nat} {x : α} (hx : l[i]? = some x) (h : p x = false) : l.all p = false := by
  rw [List.all_eq_false]
  exact ⟨x, List.mem_of_getElem? hx, by simp [h]⟩
theorem all_yes {α : Type} {p : α → Bool} {l : List α} (h : Upto (fun _ x => p x = true) (fun n => l[n]?) l.length) : l.all p = true := by
  rw [List.all_eq_true]
  intro x hx
  obtain ⟨j, hj⟩ := List.mem_iff_getElem?.1 hx
  have := (List.getElem?_eq_some_iff.1 hj).1
  exact h j x (by omega) (by omega) (by simpa using hj)
def chR (_ : Int) (b : UInt8) : Prop := 97 ≤ (b.toNat : Int) ∧ (b.toNat : Int) ≤ 122 ∨ 48 ≤ (b.toNat : Int) ∧ (b.toNat : Int) ≤ 57
def nameP (s : ByteArray) : Prop := Upto chR (fun n => s[n]?) s.size ∧ 1 ≤ (s.size : Int) ∧ (s.size : Int) ≤ 8
noncomputable def nameOk (s : ByteArray) : Bool := @decide (nameP s) (Classical.propDecidable _)
def namesR (l : List ByteArray) (i : Int) (x : ByteArray) : Prop := nameOk x = true ∧ ∀ y, 0 < i → l[(i - 1).toNat]? = some y → Op.bytesLess y.toList x.toList = true
def namesP (l : List ByteArray) : Prop := Upto (namesR l) (fun n => l[n]?) l.length ∧ (l.length : Int) ≤ 20
noncomputable def namesOk (l : List ByteArray) : Bool := @decide (namesP l) (Classical.propDecidable _)
def rootQ (q : S68) : Bool := q.f0 == 0 && (q.f1 == -1 && (q.f2.length : Int) == 0)
def noneT (t : S69) : Bool := t.f0 == 0 && ((t.f1.length : Int) == 0 && (t.f2.length : Int) == 0)
noncomputable def qcForm (q : S68) (r b : Int) : Bool := rootQ q || (inR q.f0 1 r && (inR q.f1 0 b && namesOk q.f2))
noncomputable def tcForm (t : S69) (r : Int) : Bool := noneT t || (inR t.f0 1 r && (namesOk t.f1 && ((t.f2.length : Int) == (t.f1.length : Int) && t.f2.all fun h => inR h 0 (wr .i64 (t.f0 - 1)))))
noncomputable def txOk (t : S35) : Bool := inR t.f0 1 3 && (nameOk t.f1 && (inR t.f3 1 1000000 && (inR t.f4 0 10000 && (if t.f0 = 1 then nameOk t.f2 else t.f2.toList == (⟨#[]⟩ : ByteArray).toList))))
def setR (l : List S165) (i : Int) (x : S165) : Prop := nameOk x.f0 = true ∧ (1 ≤ x.f1 ∧ x.f1 ≤ 1000000) ∧ ∀ y, 0 < i → l[(i - 1).toNat]? = some y → Op.bytesLess y.f0.toList x.f0.toList = true
def setP (l : List S165) : Prop := Upto (setR l) (fun n => l[n]?) l.length ∧ 1 ≤ (l.length : Int) ∧ (l.length : Int) ≤ 12
noncomputable def setOk (l : List S165) : Bool := @decide (setP l) (Classical.propDecidable _)
noncomputable def blockOk (b : S72) : Bool := inR b.f0 0 100000 && (inR b.f1 0 900 && (inR b.f2 1 10000 && (nameOk b.f3 && (qcForm b.f4 (wr .i64 (b.f2 - 1)) (wr .i64 (b.f0 - 1)) && (tcForm b.f5 (wr .i64 (b.f2 - 1)) && (decide ((b.f6.length : Int) ≤ 4) && (b.f6.all txOk &&
  (if b.f7 = true then setOk b.f8 && (b.f9.size : Int) == 32 else (b.f8.length : Int) == 0 && b.f9.toList == (⟨#[]⟩ : ByteArray).toList))))))))
theorem inR_ff {x a b : Int} (h : ¬ (a ≤ x ∧ x ≤ b)) : inR x a b = false := by
  cases hr : inR x a b with
  | false => rfl
  | true => exact absurd (inR_yes hr) h
def idAt (l : List S72) (id : Int) : Int := match l.findIdx? (fun b => b.f0 == id) with
  | some i => i
  | none => -1
theorem idAt_yes {l : List S72} {id i : Int} {x : S72} (h0 : 0 ≤ i) (hx : l[i.toNat]? = some x) (h : x.f0 = id) (hn : ∀ (j : Nat) (y : S72), j < i.toNat → l[j]? = some y → y.f0 ≠ id) : idAt l id = i := by
  have : l.findIdx? (fun b => b.f0 == id) = some i.toNat := by
    rw [List.findIdx?_eq_some_iff_getElem]
    obtain ⟨hl, he⟩ := List.getElem?_eq_some_iff.1 hx
    refine ⟨hl, by rw [he]; simpa using h, fun j hj => ?_⟩
    have := hn j _ hj (List.getElem?_eq_getElem (by omega))
    simpa using this
  unfold idAt
  rw [this]
  show ((i.toNat : Nat) : Int) = i
  omega
theorem idAt_no {l : List S72} {id : Int} (hn : ∀ (j : Nat) (y : S72), l[j]? = some y → y.f0 ≠ id) : idAt l id = -1 := by
  have : l.findIdx? (fun b => b.f0 == id) = none := by
    rw [List.findIdx?_eq_none_iff]
    intro x hx
    obtain ⟨j, hj⟩ := List.mem_iff_getElem?.1 hx
    simpa using hn j x hj
  unfold idAt
  rw [this]
theorem strOf_size (ns : List Int) : (strOf ns).size = ns.length := by
  have : ∀ (ns : List Int) (s : ByteArray), (ns.foldl (fun r n => r.push (UInt8.ofNat n.toNat)) s).size = s.size + ns.length := by
    intro ns
    induction ns with
    | nil => intro s; simp
    | cons n ns ih => intro s; rw [List.foldl_cons, ih, ByteArray.size_push]; simp; omega
  have h := this ns ByteArray.empty
  simpa [strOf] using h
theorem idAt_bd (l : List S72) (id : Int) : -1 ≤ idAt l id ∧ idAt l id < (l.length : Int) := by
  unfold idAt
  split
  · rename_i i h
    have := (List.findIdx?_eq_some_iff_getElem.1 h).1
    omega
  · omega
theorem before_succ {l : List S72} {id i : Int} {x : S72} (h0 : 0 ≤ i) (hx : l[i.toNat]? = some x) (h : x.f0 ≠ id) (hn : ∀ (j : Nat) (y : S72), j < i.toNat → l[j]? = some y → y.f0 ≠ id) : ∀ (j : Nat) (y : S72), j < (i + 1).toNat → l[j]? = some y → y.f0 ≠ id := fun j y hj hy => by
  by_cases he : j = i.toNat
  · subst he; rw [hx] at hy; cases hy; exact h
  · exact hn j y (by omega) hy
noncomputable def allEq {α : Type} (l m : List α) : Bool := @decide (l = m) (Classical.propDecidable _)
theorem allEq_iff {α : Type} {l m : List α} : allEq l m = true ↔ l = m := by simp [allEq]
theorem allEq_self {α : Type} (l : List α) : allEq l l = true := allEq_iff.2 rfl
section
variable {α : Type} {l m : List α} {i : Int} {x y : α}
theorem eq_stp {k : Nat} (hy : m[k]? = some y) (e : x = y) : m[k]? = some x := e ▸ hy
theorem eq_no {k : Nat} (hx : l[k]? = some x) (hy : m[k]? = some y) (h : x ≠ y) : l ≠ m := fun e => by subst e; rw [hx] at hy; cases hy; exact h rfl
theorem eq_all (hA : Upto (fun j x => m[j.toNat]? = some x) (fun n => l[n]?) i) (hi : (l.length : Int) ≤ i) (hl : l.length = m.length) : l = m := by
  apply List.ext_getElem?
  intro k
  rcases Nat.lt_or_ge k l.length with h | h
  · have hx := List.getElem?_eq_getElem h
    have this : m[(k : Int).toNat]? = some l[k] := hA (k : Int) (l[k]) (by omega) (by omega) (by rw [Int.toNat_natCast]; exact hx)
    rw [hx]
    rw [Int.toNat_natCast] at this
    exact this.symm
  · rw [List.getElem?_eq_none h, List.getElem?_eq_none (by omega)]
end
theorem eq_noS {l m : List ByteArray} {k : Nat} {x y : ByteArray} (hx : l[k]? = some x) (hy : m[k]? = some y) (h : x.toList ≠ y.toList) : l ≠ m := eq_no hx hy fun e => h (by rw [e])
theorem mem_upto {α : Type} {P : α → Prop} {l : List α} {i : Int} (hA : Upto (fun _ x => P x) (fun n => l[n]?) i) (h : (l.length : Int) ≤ i) : ∀ x, x ∈ l → P x := fun x hx => by
  obtain ⟨j, hj⟩ := List.mem_iff_getElem?.1 hx
  have := (List.getElem?_eq_some_iff.1 hj).1
  exact hA j x (by omega) (by omega) (by simpa using hj)
theorem tdiv10 (x : Int) (h : 0 < x) : 0 ≤ Int.tdiv x 10 ∧ Int.tdiv x 10 < x := by
  rw [Int.tdiv_eq_ediv_of_nonneg (by omega)]
  omega
section
variable {N : Nat} {s : St} {R : Exit → St → Prop} {id : Nat} {ops : Array Oper} {draw : Bool} {K : List (Oper × Rec) → St → Prop} {m : Cf}
theorem rk (s1 : St) (k : R .normal s1) (e : regB τ N s ops draw = true := by kernel_rfl) (h : lessL (nxt s ops.size (Av.run τ N ops ops.size (st0 s ops))) s1 = lessR s1 := by kernel_rfl) : X Try.prog N (.region id ops draw) R s := X.rk s1 hτ hmix e h rfl k
theorem sk {y : Code} (s1 : St) (k : X Try.prog N y R s1) (e : regB τ N s ops draw = true := by kernel_rfl) (h : lessL (nxt s ops.size (Av.run τ N ops ops.size (st0 s ops))) s1 = lessR s1 := by kernel_rfl) : X Try.prog N (.seq (.region id ops draw) y) R s := X.seq (X.rk s1 hτ hmix e h rfl k)
theorem rs (n : Nat) (k : CH (c0 Try.prog N) ops (fun rs s' => (draw = true → drOk ops rs = true) ∧ ∃ s1, lessL ⟨s'.T, s'.H, s.nx + 16 * ops.size⟩ s1 = lessR s1 ∧ R .normal s1) (Av.run τ N ops n (st0 s ops))) (e : Nat.ble 64 s.nx = true := by kernel_rfl) : X Try.prog N (.region id ops draw) R s := X.rs n hτ hmix e k
theorem go (n : Nat) (k : CH (c0 Try.prog N) ops K (Av.run τ N ops n m)) (e : Nat.ble 64 m.s.nx = true := by kernel_rfl) : CH (c0 Try.prog N) ops K m := CH.go n hτ e k
theorem ek (s1 : St) (k : R .normal s1) (e : (m.l.isEmpty && (!draw || drOk ops m.rs.reverse)) = true := by kernel_rfl) (h : lessL (nxt s ops.size m) s1 = lessR s1 := by kernel_rfl) : CH (c0 Try.prog N) ops (fun rs s' => (draw = true → drOk ops rs = true) ∧ ∃ s1, lessL ⟨s'.T, s'.H, s.nx + 16 * ops.size⟩ s1 = lessR s1 ∧ R .normal s1) m := CH.endk s1 e h rfl k
theorem aT (t : Nat) {p : Bool} (h : p = true) (k : CH (c0 Try.prog N) ops K (m.alt t (sV (.bool true)))) (e : look m.s.T t = some (sV (.bool p)) := by kernel_rfl) : CH (c0 Try.prog N) ops K m := CH.alt t _ _ e (by rw [h]) k
theorem aF (t : Nat) {p : Bool} (h : p = false) (k : CH (c0 Try.prog N) ops K (m.alt t (sV (.bool false)))) (e : look m.s.T t = some (sV (.bool p)) := by kernel_rfl) : CH (c0 Try.prog N) ops K m := CH.alt t _ _ e (by rw [h]) k
theorem ca {f : FuncId} {args : List AV} {h0 h1 : List (Nat × Option Blk)} {x : AV} {fn : Func} (hfn : Fn Try.prog f args (lookH h0) x (lookH h1)) (hf : Try.prog.funcs[f]? = some fn) (k : CH (c0 Try.prog N) ops K (advO ((hdO N ops m).bind fun o => callR false m.s.tm m.s.hp m.id [] x h1 o.op) m)) (hname : ((fn.name == "runtime.NumGoroutine") = false) ∧ fn.body.isSome = true := by exact ⟨rfl, rfl⟩) (h64 : Nat.ble 64 m.s.nx = true := by kernel_rfl)
    (e : ((hdO N ops m).bind fun o => callA m.s.tm m.s.hp [] o.op) = some (f, args) := by kernel_rfl) (eh : handed m.s.hp [] = h0 := by kernel_rfl) (hb : okR m ((hdO N ops m).bind fun o => callR false m.s.tm m.s.hp m.id [] x h1 o.op) = true := by kernel_rfl) : CH (c0 Try.prog N) ops K m := CH.call hfn hf hname [] h64 e eh hb k
theorem mkr {ty : Ty} {q : Prop} {rv : List ResultVar} {x : AV} {h1 : List (Nat × Option Blk)} (e : retX ty s.tm s.hp rv = some (x.mp (rn [])) := by kernel_rfl) (e2 : (h1.map fun p => s.hp (rn [] p.1)) = (h1.map fun p => p.2.map (Blk.mp (rn []))) := by kernel_rfl) (e3 : (nodupB (h1.map fun p => rn [] p.1) && (([] : List (Nat × Nat)).all fun p => Nat.ble 64 p.1)) = true := by kernel_rfl) : Ret ty rv s x h1 ∨ q := .inl (Ret.mk' [] e e2 e3)
theorem if_ {o : Operand} {b : Bool} {x y : Code} (h1 : b = true → X Try.prog N x R s) (h2 : b = false → X Try.prog N y R s) (hb : (evO s.tm o).bind sc = some (.bool b) := by kernel_rfl) : X Try.prog N (.cond o x y) R s := X.if_ hb h1 h2
end
theorem s_l8CopyQc (q : S68) (hq : Sm68 q) : ∃ r0 : S68, (r0 = q) ∧ Fn Try.prog 127 [.e (.agg (cD (d68 q)))] (lookH []) (.e (.agg [.d (.v (.int .i64 r0.f0)), .d (.v (.int .i64 r0.f1)), .ref 64])) (lookH [(64, some (.row 1 9 (r0.f2.map dS) false true))]) := by
 have key : ∃ x' h', ((fun x' h' => ∃ r0 : S68, (r0 = q) ∧ x' = .e (.agg [.d (.v (.int .i64 r0.f0)), .d (.v (.int .i64 r0.f1)), .ref 64]) ∧ h' = [(64, some (.row 1 9 (r0.f2.map dS) false true))])) x' h' ∧ Fn Try.prog 127 [.e (.agg (cD (d68 q)))] (lookH []) x' (lookH h') := by
  refine Fn.bodyX (N := 9) hτ Try.func127 rfl rfl rfl rfl ?_
  refine sk ⟨[(1, .pt 64 0 0), (2, .pt 80 0 0)], [(64, some (.box (cD (d68 q)))), (80, some (.box [.d (.v (.int .i64 0)), .d (.v (.int .i64 0)), .nil]))], 96⟩ ?_
  refine X.seq ?_
  have hq2 := hq
  simp only [Sm68, Sm69, Sm72, SmN, SmT, SmV] at hq2
  refine rs 3 ?_
  have el1 : (q.f2.map dS).length = q.f2.length := List.length_map ..
  refine CH.app hτ (rows := []) (rows2 := (q.f2.map dS)) (sz := 1) (bys := 16) true (by kernel_rfl) (by kernel_rfl) (fun _ => flat_d dS (fun x => rfl)) (flat_ok (f := dS) (fun x => rfl)) (by simp only [List.length_map] <;> (first | done | omega | (simp; done) | (simp; omega))) (by kernel_rfl) ?_
  refine go 2 ?_
  refine ek ⟨[(1, .pt 64 0 0), (2, .pt 80 0 0)], [(64, some (.box [.d (.v (.int .i64 q.f0)), .d (.v (.int .i64 q.f1)), .ref 144])), (80, some (.box [.d (.v (.int .i64 0)), .d (.v (.int .i64 0)), .nil])), (144, some (.row 1 9 (q.f2.map dS) false true))], 192⟩ ?_
  refine sk ⟨[(2, .pt 80 0 0)], [(80, some (.box [.d (.v (.int .i64 q.f0)), .d (.v (.int .i64 q.f1)), .ref 144])), (144, some (.row 1 9 (q.f2.map dS) false true))], 224⟩ ?_
  refine X.ret ?_
  exact ⟨trivial, _, _, ⟨q, by first | exact rfl | omega | (dsimp only; omega) | (simp only [List.length_append, List.length_cons, List.length_nil, List.length_set]; omega) | (simp; done) | (simp; omega), rfl, rfl⟩, .inl (Ret.mk' [(64, 144)] (by kernel_rfl) (by kernel_rfl) (by kernel_rfl))⟩
 obtain ⟨_, _, ⟨r0, h1_, rfl, rfl⟩, hf⟩ := key
 exact ⟨r0, h1_, hf⟩

theorem s_l8CopyTc (q : S69) (hq : Sm69 q) : ∃ r0 : S69, (r0 = q) ∧ Fn Try.prog 128 [.e (.agg (cD (d69 q)))] (lookH []) (.e (.agg [.d (.v (.int .i64 r0.f0)), .ref 64, .ref 65])) (lookH [(64, some (.row 1 9 (r0.f1.map dS) false true)), (65, some (.row 1 3 (r0.f2.map dI) false true))]) := by
 have key : ∃ x' h', ((fun x' h' => ∃ r0 : S69, (r0 = q) ∧ x' = .e (.agg [.d (.v (.int .i64 r0.f0)), .ref 64, .ref 65]) ∧ h' = [(64, some (.row 1 9 (r0.f1.map dS) false true)), (65, some (.row 1 3 (r0.f2.map dI) false true))])) x' h' ∧ Fn Try.prog 128 [.e (.agg (cD (d69 q)))] (lookH []) x' (lookH h') := by
  refine Fn.bodyX (N := 14) hτ Try.func128 rfl rfl rfl rfl ?_
  refine sk ⟨[(1, .pt 64 0 0), (2, .pt 80 0 0)], [(64, some (.box (cD (d69 q)))), (80, some (.box [.d (.v (.int .i64 0)), .nil, .nil]))], 96⟩ ?_
  refine X.seq ?_
  have hq2 := hq
  simp only [Sm68, Sm69, Sm72, SmN, SmT, SmV] at hq2
  refine rs 3 ?_
  have el1 : (q.f1.map dS).length = q.f1.length := List.length_map ..
  refine CH.app hτ (rows := []) (rows2 := (q.f1.map dS)) (sz := 1) (bys := 16) true (by kernel_rfl) (by kernel_rfl) (fun _ => flat_d dS (fun x => rfl)) (flat_ok (f := dS) (fun x => rfl)) (by simp only [List.length_map] <;> (first | done | omega | (simp; done) | (simp; omega))) (by kernel_rfl) ?_
  refine go 2 ?_
  refine ek ⟨[(1, .pt 64 0 0), (2, .pt 80 0 0)], [(64, some (.box [.d (.v (.int .i64 q.f0)), .ref 144, .d (.sl (q.f2.map dI))])), (80, some (.box [.d (.v (.int .i64 0)), .nil, .nil])), (144, some (.row 1 9 (q.f1.map dS) false true))], 192⟩ ?_
  refine X.seq (rs 3 ?_)
  have el2 : (q.f2.map dI).length = q.f2.length := List.length_map ..
  refine CH.app hτ (rows := []) (rows2 := (q.f2.map dI)) (sz := 1) (bys := 8) true (by kernel_rfl) (by kernel_rfl) (fun _ => flat_d dI (fun x => rfl)) (flat_ok (f := dI) (fun x => rfl)) (by simp only [List.length_map] <;> (first | done | omega | (simp; done) | (simp; omega))) (by kernel_rfl) ?_
  refine go 2 ?_
  refine ek ⟨[(1, .pt 64 0 0), (2, .pt 80 0 0)], [(64, some (.box [.d (.v (.int .i64 q.f0)), .ref 144, .ref 240])), (80, some (.box [.d (.v (.int .i64 0)), .nil, .nil])), (144, some (.row 1 9 (q.f1.map dS) false true)), (240, some (.row 1 3 (q.f2.map dI) false true))], 288⟩ ?_
  refine sk ⟨[(2, .pt 80 0 0)], [(80, some (.box [.d (.v (.int .i64 q.f0)), .ref 144, .ref 240])), (144, some (.row 1 9 (q.f1.map dS) false true)), (240, some (.row 1 3 (q.f2.map dI) false true))], 320⟩ ?_
  refine X.ret ?_
  exact ⟨trivial, _, _, ⟨q, by first | exact rfl | omega | (dsimp only; omega) | (simp only [List.length_append, List.length_cons, List.length_nil, List.length_set]; omega) | (simp; done) | (simp; omega), rfl, rfl⟩, .inl (Ret.mk' [(64, 144), (65, 240)] (by kernel_rfl) (by kernel_rfl) (by kernel_rfl))⟩
 obtain ⟨_, _, ⟨r0, h1_, rfl, rfl⟩, hf⟩ := key
 exact ⟨r0, h1_, hf⟩

theorem s_l9Copy (q : S72) (hq : Sm72 q) : ∃ r0 : S72, (r0 = q) ∧ Fn Try.prog 65 [.e (.agg (cD (d72 q)))] (lookH []) (.e (.agg [.d (.v (.int .i64 r0.f0)), .d (.v (.int .i64 r0.f1)), .d (.v (.int .i64 r0.f2)), .d (.v (.string r0.f3)), .d (.v (.int .i64 r0.f4.f0)), .d (.v (.int .i64 r0.f4.f1)), .ref 64, .d (.v (.int .i64 r0.f5.f0)), .ref 65, .ref 66, .ref 67, .d (.v (.bool r0.f7)), .ref 68, .d (.v (.string r0.f9))])) (lookH [(64, some (.row 1 9 (r0.f4.f2.map dS) false true)), (65, some (.row 1 9 (r0.f5.f1.map dS) false true)), (66, some (.row 1 3 (r0.f5.f2.map dI) false true)), (67, some (.row 5 35 (r0.f6.map d35) false true)), (68, some (.row 2 165 (r0.f8.map d165) false true))]) := by
 have key : ∃ x' h', ((fun x' h' => ∃ r0 : S72, (r0 = q) ∧ x' = .e (.agg [.d (.v (.int .i64 r0.f0)), .d (.v (.int .i64 r0.f1)), .d (.v (.int .i64 r0.f2)), .d (.v (.string r0.f3)), .d (.v (.int .i64 r0.f4.f0)), .d (.v (.int .i64 r0.f4.f1)), .ref 64, .d (.v (.int .i64 r0.f5.f0)), .ref 65, .ref 66, .ref 67, .d (.v (.bool r0.f7)), .ref 68, .d (.v (.string r0.f9))]) ∧ h' = [(64, some (.row 1 9 (r0.f4.f2.map dS) false true)), (65, some (.row 1 9 (r0.f5.f1.map dS) false true)), (66, some (.row 1 3 (r0.f5.f2.map dI) false true)), (67, some (.row 5 35 (r0.f6.map d35) false true)), (68, some (.row 2 165 (r0.f8.map d165) false true))])) x' h' ∧ Fn Try.prog 65 [.e (.agg (cD (d72 q)))] (lookH []) x' (lookH h') := by
  refine Fn.bodyX (N := 22) hτ Try.func65 rfl rfl rfl rfl ?_
  refine sk ⟨[(1, .pt 64 0 0), (2, .pt 80 0 0)], [(64, some (.box (cD (d72 q)))), (80, some (.box [.d (.v (.int .i64 0)), .d (.v (.int .i64 0)), .d (.v (.int .i64 0)), .d (.v (.string (⟨#[]⟩ : ByteArray))), .d (.v (.int .i64 0)), .d (.v (.int .i64 0)), .nil, .d (.v (.int .i64 0)), .nil, .nil, .nil, .d (.v (.bool false)), .nil, .d (.v (.string (⟨#[]⟩ : ByteArray)))]))], 96⟩ ?_
  refine X.seq ?_
  have hq2 := hq
  simp only [Sm68, Sm69, Sm72, SmN, SmT, SmV] at hq2
  refine rs 2 ?_
  obtain ⟨r1, hr3, hf2⟩ := s_l8CopyQc q.f4 (by exact hq.2.1)
  replace hr3 := hr3.symm; subst hr3
  refine ca hf2 Try.func127 ?_
  refine go 2 ?_
  refine ek ⟨[(1, .pt 64 0 0), (2, .pt 80 0 0)], [(64, some (.box [.d (.v (.int .i64 q.f0)), .d (.v (.int .i64 q.f1)), .d (.v (.int .i64 q.f2)), .d (.v (.string q.f3)), .d (.v (.int .i64 q.f4.f0)), .d (.v (.int .i64 q.f4.f1)), .ref 128, .d (.v (.int .i64 q.f5.f0)), .d (.sl (q.f5.f1.map dS)), .d (.sl (q.f5.f2.map dI)), .d (.sl (q.f6.map d35)), .d (.v (.bool q.f7)), .d (.sl (q.f8.map d165)), .d (.v (.string q.f9))])), (80, some (.box [.d (.v (.int .i64 0)), .d (.v (.int .i64 0)), .d (.v (.int .i64 0)), .d (.v (.string (⟨#[]⟩ : ByteArray))), .d (.v (.int .i64 0)), .d (.v (.int .i64 0)), .nil, .d (.v (.int .i64 0)), .nil, .nil, .nil, .d (.v (.bool false)), .nil, .d (.v (.string (⟨#[]⟩ : ByteArray)))])), (128, some (.row 1 9 (q.f4.f2.map dS) false true))], 176⟩ ?_
  refine X.seq (rs 2 ?_)
  obtain ⟨r5, hr7, hf6⟩ := s_l8CopyTc q.f5 (by exact hq.2.2.1)
  replace hr7 := hr7.symm; subst hr7
  refine ca hf6 Try.func128 ?_
  refine go 2 ?_
  refine ek ⟨[(1, .pt 64 0 0), (2, .pt 80 0 0)], [(64, some (.box [.d (.v (.int .i64 q.f0)), .d (.v (.int .i64 q.f1)), .d (.v (.int .i64 q.f2)), .d (.v (.string q.f3)), .d (.v (.int .i64 q.f4.f0)), .d (.v (.int .i64 q.f4.f1)), .ref 128, .d (.v (.int .i64 q.f5.f0)), .ref 208, .ref 209, .d (.sl (q.f6.map d35)), .d (.v (.bool q.f7)), .d (.sl (q.f8.map d165)), .d (.v (.string q.f9))])), (80, some (.box [.d (.v (.int .i64 0)), .d (.v (.int .i64 0)), .d (.v (.int .i64 0)), .d (.v (.string (⟨#[]⟩ : ByteArray))), .d (.v (.int .i64 0)), .d (.v (.int .i64 0)), .nil, .d (.v (.int .i64 0)), .nil, .nil, .nil, .d (.v (.bool false)), .nil, .d (.v (.string (⟨#[]⟩ : ByteArray)))])), (128, some (.row 1 9 (q.f4.f2.map dS) false true)), (208, some (.row 1 9 (q.f5.f1.map dS) false true)), (209, some (.row 1 3 (q.f5.f2.map dI) false true))], 256⟩ ?_
  refine X.seq (rs 3 ?_)
  have el9 : (q.f6.map d35).length = q.f6.length := List.length_map ..
  refine CH.app hτ (rows := []) (rows2 := (q.f6.map d35)) (sz := 5) (bys := 56) true (by kernel_rfl) (by kernel_rfl) (fun _ => flat_d d35 (fun x => rfl)) (flat_ok (f := d35) (fun x => rfl)) (by simp only [List.length_map] <;> (first | done | omega | (simp; done) | (simp; omega))) (by kernel_rfl) ?_
  refine go 2 ?_
  refine ek ⟨[(1, .pt 64 0 0), (2, .pt 80 0 0)], [(64, some (.box [.d (.v (.int .i64 q.f0)), .d (.v (.int .i64 q.f1)), .d (.v (.int .i64 q.f2)), .d (.v (.string q.f3)), .d (.v (.int .i64 q.f4.f0)), .d (.v (.int .i64 q.f4.f1)), .ref 128, .d (.v (.int .i64 q.f5.f0)), .ref 208, .ref 209, .ref 304, .d (.v (.bool q.f7)), .d (.sl (q.f8.map d165)), .d (.v (.string q.f9))])), (80, some (.box [.d (.v (.int .i64 0)), .d (.v (.int .i64 0)), .d (.v (.int .i64 0)), .d (.v (.string (⟨#[]⟩ : ByteArray))), .d (.v (.int .i64 0)), .d (.v (.int .i64 0)), .nil, .d (.v (.int .i64 0)), .nil, .nil, .nil, .d (.v (.bool false)), .nil, .d (.v (.string (⟨#[]⟩ : ByteArray)))])), (128, some (.row 1 9 (q.f4.f2.map dS) false true)), (208, some (.row 1 9 (q.f5.f1.map dS) false true)), (209, some (.row 1 3 (q.f5.f2.map dI) false true)), (304, some (.row 5 35 (q.f6.map d35) false true))], 352⟩ ?_
  refine X.seq (rs 3 ?_)
  have el10 : (q.f8.map d165).length = q.f8.length := List.length_map ..
  refine CH.app hτ (rows := []) (rows2 := (q.f8.map d165)) (sz := 2) (bys := 24) true (by kernel_rfl) (by kernel_rfl) (fun _ => flat_d d165 (fun x => rfl)) (flat_ok (f := d165) (fun x => rfl)) (by simp only [List.length_map] <;> (first | done | omega | (simp; done) | (simp; omega))) (by kernel_rfl) ?_
  refine go 2 ?_
  refine ek ⟨[(1, .pt 64 0 0), (2, .pt 80 0 0)], [(64, some (.box [.d (.v (.int .i64 q.f0)), .d (.v (.int .i64 q.f1)), .d (.v (.int .i64 q.f2)), .d (.v (.string q.f3)), .d (.v (.int .i64 q.f4.f0)), .d (.v (.int .i64 q.f4.f1)), .ref 128, .d (.v (.int .i64 q.f5.f0)), .ref 208, .ref 209, .ref 304, .d (.v (.bool q.f7)), .ref 400, .d (.v (.string q.f9))])), (80, some (.box [.d (.v (.int .i64 0)), .d (.v (.int .i64 0)), .d (.v (.int .i64 0)), .d (.v (.string (⟨#[]⟩ : ByteArray))), .d (.v (.int .i64 0)), .d (.v (.int .i64 0)), .nil, .d (.v (.int .i64 0)), .nil, .nil, .nil, .d (.v (.bool false)), .nil, .d (.v (.string (⟨#[]⟩ : ByteArray)))])), (128, some (.row 1 9 (q.f4.f2.map dS) false true)), (208, some (.row 1 9 (q.f5.f1.map dS) false true)), (209, some (.row 1 3 (q.f5.f2.map dI) false true)), (304, some (.row 5 35 (q.f6.map d35) false true)), (400, some (.row 2 165 (q.f8.map d165) false true))], 448⟩ ?_
  refine sk ⟨[(2, .pt 80 0 0)], [(80, some (.box [.d (.v (.int .i64 q.f0)), .d (.v (.int .i64 q.f1)), .d (.v (.int .i64 q.f2)), .d (.v (.string q.f3)), .d (.v (.int .i64 q.f4.f0)), .d (.v (.int .i64 q.f4.f1)), .ref 128, .d (.v (.int .i64 q.f5.f0)), .ref 208, .ref 209, .ref 304, .d (.v (.bool q.f7)), .ref 400, .d (.v (.string q.f9))])), (128, some (.row 1 9 (q.f4.f2.map dS) false true)), (208, some (.row 1 9 (q.f5.f1.map dS) false true)), (209, some (.row 1 3 (q.f5.f2.map dI) false true)), (304, some (.row 5 35 (q.f6.map d35) false true)), (400, some (.row 2 165 (q.f8.map d165) false true))], 480⟩ ?_
  refine X.ret ?_
  exact ⟨trivial, _, _, ⟨q, by first | exact rfl | omega | (dsimp only; omega) | (simp only [List.length_append, List.length_cons, List.length_nil, List.length_set]; omega) | (simp; done) | (simp; omega), rfl, rfl⟩, .inl (Ret.mk' [(64, 128), (65, 208), (66, 209), (67, 304), (68, 400)] (by kernel_rfl) (by kernel_rfl) (by kernel_rfl))⟩
 obtain ⟨_, _, ⟨r0, h1_, rfl, rfl⟩, hf⟩ := key
 exact ⟨r0, h1_, hf⟩

theorem s_l10Copy (l : List S72) (hl : SmL l) : ∃ r0 : List S72, (r0 = l) ∧ Fn Try.prog 64 [lV (l.map d72)] (lookH []) (rV 64) (lookH [(64, some (.row 14 72 (r0.map d72) false true))]) := by
 have key : ∃ x' h', ((fun x' h' => ∃ r0 : List S72, (r0 = l) ∧ x' = rV 64 ∧ h' = [(64, some (.row 14 72 (r0.map d72) false true))])) x' h' ∧ Fn Try.prog 64 [lV (l.map d72)] (lookH []) x' (lookH h') := by
  refine Fn.bodyX (N := 21) hτ Try.func64 rfl rfl rfl rfl ?_
  refine sk ⟨[(0, lV (l.map d72))], [], 80⟩ ?_
  refine sk ⟨[(0, lV (l.map d72)), (3, rV 80)], [(80, some (.row 14 72 [] false true))], 112⟩ ?_
  refine X.seq ?_
  refine sk ⟨[(0, lV (l.map d72)), (3, rV 80), (4, iV 0)], [(80, some (.row 14 72 [] false true))], 128⟩ ?_
  refine X.block ?_
  -- 3: Lv3 : List S72, v4 : Int
  refine X.loop (σ := { g : (List S72) × Int // (fun (Lv3 : List S72) (v4 : Int) => 0 ≤ v4 ∧ v4 ≤ l.length ∧ Lv3 = l.take v4.toNat) g.1 g.2 }) (fun g => (fun (Lv3 : List S72) (v4 : Int) => ⟨[(0, lV (l.map d72)), (3, rV 80), (4, iV v4)], [(80, some (.row 14 72 (Lv3.map d72) false true))], 128⟩) g.1.1 g.1.2) (fun g => (fun (Lv3 : List S72) (v4 : Int) => (l.length - v4).toNat) g.1.1 g.1.2) ⟨([], 0), by simp⟩ (Wk.less (by kernel_rfl)) (fun g => ?_)
  obtain ⟨⟨Lv3, v4⟩, hg2⟩ := g
  have hg2 : 0 ≤ v4 ∧ v4 ≤ l.length ∧ Lv3 = l.take v4.toNat := hg2
  obtain ⟨_, _, hL⟩ := hg2
  refine X.seq ?_
  refine X.seq ?_
  have hll := hl.1
  have el3 : (l.map d72).length = l.length := List.length_map ..
  refine rk ⟨[(0, lV (l.map d72)), (3, rV 80), (4, iV v4), (9, bV (decide ((v4 : Int) < ((l.map d72).length : Int))))], [(80, some (.row 14 72 (Lv3.map d72) false true))], 192⟩ ?_
  refine if_ (b := decide ((v4 : Int) < ((l.map d72).length : Int))) (fun hb4 => ?_) (fun hb4 => ?_)
  ·replace hb4 := of_decide_eq_true (hb4)
   refine X.skip ?_
   refine X.seq ?_
   refine X.block ?_
   refine rs 3 ?_
   obtain ⟨x5, hx5⟩ : ∃ x, l[Int.toNat v4]? = some x := ⟨_, List.getElem?_eq_getElem (by first | omega | (simp; done) | (simp; omega))⟩
   refine CH.idx hτ (d72 x5) (rows := (l.map d72)) (n := v4) (sz := 14) (by kernel_rfl) (by kernel_rfl) (by first | omega | (simp; done) | (simp; omega)) (by rw [List.getElem?_map, hx5]; rfl) (by kernel_rfl) ?_
   refine go 1 ?_
   obtain ⟨r6, hr8, hf7⟩ := s_l9Copy x5 (by exact hl.at ‹_›)
   replace hr8 := hr8.symm; subst hr8
   refine ca hf7 Try.func65 ?_
   refine go 1 ?_
   have el10 : (Lv3.map d72).length = Lv3.length := List.length_map ..
   have el11 : (([x5] : List S72).map d72).length = ([x5] : List S72).length := List.length_map ..
   have el12 : ([x5] : List S72).length = 1 := rfl
   refine CH.app hτ (rows := (Lv3.map d72)) (rows2 := (([x5] : List S72).map d72)) (sz := 14) (bys := 208) false (by kernel_rfl) (by kernel_rfl) (fun h => by cases h) (flat_ok (f := d72) (fun x => rfl)) (by simp only [List.length_map] <;> (rw [hL]; simp; omega)) (by kernel_rfl) ?_
   refine go 1 ?_
   refine CH.endk ⟨[(0, lV (l.map d72)), (3, rV 304), (4, iV v4)], [(304, some (.row 14 72 ((Lv3.map d72) ++ (([x5] : List S72).map d72)) false true))], 336⟩ (by kernel_rfl) (by kernel_rfl) (s2 := ⟨[(0, lV (l.map d72)), (3, rV 304), (4, iV v4)], [(304, some (.row 14 72 ((Lv3 ++ ([x5] : List S72)).map d72) false true))], 336⟩) (congrArg (fun z : List (List D) => (⟨[(0, lV (l.map d72)), (3, rV 304), (4, iV v4)], [(304, some (.row 14 72 z false true))], 336⟩ : St)) (show (Lv3.map d72) ++ (([x5] : List S72).map d72) = ((Lv3 ++ ([x5] : List S72)).map d72) from List.map_append.symm)) ?_
   refine X.rk ⟨[(0, lV (l.map d72)), (3, rV 304), (4, iV (wrap64 (v4 + 1)))], [(304, some (.row 14 72 ((Lv3 ++ ([x5] : List S72)).map d72) false true))], 384⟩ hτ hmix (by kernel_rfl) (by kernel_rfl) (s2 := ⟨[(0, lV (l.map d72)), (3, rV 304), (4, iV (v4 + 1))], [(304, some (.row 14 72 ((Lv3 ++ ([x5] : List S72)).map d72) false true))], 384⟩) (congrArg (fun z : Int => (⟨[(0, lV (l.map d72)), (3, rV 304), (4, iV z)], [(304, some (.row 14 72 ((Lv3 ++ ([x5] : List S72)).map d72) false true))], 384⟩ : St)) (show wrap64 (v4 + 1) = (v4 + 1) by rw [w64 (n := (v4 + 1)) (by omega) (by omega)])) ?_
   refine ⟨⟨((Lv3 ++ ([x5] : List S72)), (v4 + 1)), ⟨by first | omega | (dsimp only; omega), by first | omega | (dsimp only; omega), by rw [hL]; exact take_succ (by first | omega | (dsimp only; omega)) ‹_›⟩⟩, by first | exact rfl | omega | (dsimp only; omega) | (simp only [List.length_append, List.length_cons, List.length_nil, List.length_set]; omega) | (simp; done) | (simp; omega), Wk.mk' [(80, 304)] (by kernel_rfl) (by kernel_rfl) (by kernel_rfl)⟩
  ·replace hb4 := of_decide_eq_false (hb4)
   refine X.exit ?_
   refine sk ⟨[(2, rV 80)], [(80, some (.row 14 72 (Lv3.map d72) false true))], 224⟩ ?_
   refine X.ret ?_
   exact ⟨trivial, _, _, ⟨Lv3, by rw [hL]; exact take_all (by omega), rfl, rfl⟩, .inl (Ret.mk' [(64, 80)] (by kernel_rfl) (by kernel_rfl) (by kernel_rfl))⟩
 obtain ⟨_, _, ⟨r0, h1_, rfl, rfl⟩, hf⟩ := key
 exact ⟨r0, h1_, hf⟩

theorem s_l10At (l : List S72) (id : Int) (hl : l.length ≤ 2000000) : ∃ r0 : Int, (r0 = idAt l id) ∧ Fn Try.prog 63 [lV (l.map d72), iV id] (lookH []) (iV r0) (lookH []) := by
 have key : ∃ x' h', ((fun x' h' => ∃ r0 : Int, (r0 = idAt l id) ∧ x' = iV r0 ∧ h' = [])) x' h' ∧ Fn Try.prog 63 [lV (l.map d72), iV id] (lookH []) x' (lookH h') := by
  refine Fn.bodyX (N := 20) hτ Try.func63 rfl rfl rfl rfl ?_
  refine sk ⟨[(0, lV (l.map d72)), (1, iV id)], [], 80⟩ ?_
  refine X.seq ?_
  refine sk ⟨[(0, lV (l.map d72)), (1, iV id), (5, iV 0)], [], 96⟩ ?_
  refine X.block ?_
  -- 2: v5 : Int
  refine X.loop (σ := { g : Int // (fun (v5 : Int) => 0 ≤ v5 ∧ v5 ≤ l.length ∧ ∀ (j : Nat) (y : S72), j < v5.toNat → l[j]? = some y → y.f0 ≠ id) g }) (fun g => (fun (v5 : Int) => ⟨[(0, lV (l.map d72)), (1, iV id), (5, iV v5)], [], 96⟩) g.1) (fun g => (fun (v5 : Int) => (l.length - v5).toNat) g.1) ⟨0, ⟨by first | omega | (dsimp only; omega), by first | omega | (dsimp only; omega), fun j y h => by simp at h⟩⟩ (Wk.less (by kernel_rfl)) (fun g => ?_)
  obtain ⟨v5, hg2⟩ := g
  have hg2 : 0 ≤ v5 ∧ v5 ≤ l.length ∧ ∀ (j : Nat) (y : S72), j < v5.toNat → l[j]? = some y → y.f0 ≠ id := hg2
  obtain ⟨_, _, hn⟩ := hg2
  refine X.seq ?_
  refine X.seq ?_
  have el3 : (l.map d72).length = l.length := List.length_map ..
  refine rk ⟨[(0, lV (l.map d72)), (1, iV id), (5, iV v5), (9, bV (decide ((v5 : Int) < ((l.map d72).length : Int))))], [], 160⟩ ?_
  refine if_ (b := decide ((v5 : Int) < ((l.map d72).length : Int))) (fun hb4 => ?_) (fun hb4 => ?_)
  ·replace hb4 := of_decide_eq_true (hb4)
   refine X.skip ?_
   refine X.seq ?_
   refine X.block ?_
   refine X.seq (rs 2 ?_)
   obtain ⟨x5, hx5⟩ : ∃ x, l[Int.toNat v5]? = some x := ⟨_, List.getElem?_eq_getElem (by first | omega | (simp; done) | (simp; omega))⟩
   refine CH.idx hτ (d72 x5) (rows := (l.map d72)) (n := v5) (sz := 14) (by kernel_rfl) (by kernel_rfl) (by first | omega | (simp; done) | (simp; omega)) (by rw [List.getElem?_map, hx5]; rfl) (by kernel_rfl) ?_
   refine go 4 ?_
   refine ek ⟨[(0, lV (l.map d72)), (1, iV id), (5, iV v5), (18, bV (x5.f0 == id))], [], 272⟩ ?_
   refine if_ (b := (x5.f0 == id)) (fun hb6 => ?_) (fun hb6 => ?_)
   ·replace hb6 := eq_of_beq (hb6)
    refine sk ⟨[(4, iV v5)], [], 304⟩ ?_
    refine X.ret ?_
    exact ⟨trivial, _, _, ⟨v5, (idAt_yes (by omega) ‹_› ‹_› hn).symm, rfl, rfl⟩, mkr⟩
   ·replace hb6 := beq_eq_false_iff_ne.1 (hb6)
    refine X.skip ?_
    refine X.rk ⟨[(0, lV (l.map d72)), (1, iV id), (5, iV (wrap64 (v5 + 1)))], [], 320⟩ hτ hmix (by kernel_rfl) (by kernel_rfl) (s2 := ⟨[(0, lV (l.map d72)), (1, iV id), (5, iV (v5 + 1))], [], 320⟩) (congrArg (fun z : Int => (⟨[(0, lV (l.map d72)), (1, iV id), (5, iV z)], [], 320⟩ : St)) (show wrap64 (v5 + 1) = (v5 + 1) by rw [w64 (n := (v5 + 1)) (by omega) (by omega)])) ?_
    refine ⟨⟨(v5 + 1), ⟨by first | omega | (dsimp only; omega), by first | omega | (dsimp only; omega), before_succ (by first | omega | (dsimp only; omega)) ‹_› ‹_› hn⟩⟩, by first | exact rfl | omega | (dsimp only; omega) | (simp only [List.length_append, List.length_cons, List.length_nil, List.length_set]; omega) | (simp; done) | (simp; omega), Wk.mk' [] (by kernel_rfl) (by kernel_rfl) (by kernel_rfl)⟩
  ·replace hb4 := of_decide_eq_false (hb4)
   refine X.exit ?_
   refine sk ⟨[(4, iV (-1))], [], 176⟩ ?_
   refine X.ret ?_
   exact ⟨trivial, _, _, ⟨(-1), (idAt_no fun j y hj => hn j y (by have := (List.getElem?_eq_some_iff.1 hj).1; omega) hj).symm, rfl, rfl⟩, mkr⟩
 obtain ⟨_, _, ⟨r0, h1_, rfl, rfl⟩, hf⟩ := key
 exact ⟨r0, h1_, hf⟩
end Go.Proofs.Ytggmeldoecnkaaa.Av
