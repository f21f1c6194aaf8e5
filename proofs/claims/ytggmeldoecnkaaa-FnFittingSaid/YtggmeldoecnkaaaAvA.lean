/-
What functions of the program come to, walked one by one.
Conditions: none beside those that each theorem names.
-/
import Derived.Test.YtggmeldoecnkaaaAv22
import Derived.Laws.StructEq
import Derived.Test.YtggmeldoecnkaaaAvT
set_option linter.unusedVariables false
set_option linter.unusedSimpArgs false
namespace Go.Proofs.Ytggmeldoecnkaaa.Av
open Go.RowKit
set_option maxRecDepth 20000
set_option maxHeartbeats 4000000
def iV (n : Int) : AV := .e (.c (.d (.v (.int .i64 n))))
def bV (b : Bool) : AV := .e (.c (.d (.v (.bool b))))
def lV (l : List (List D)) : AV := .e (.c (.d (.sl l)))
def rV (b : Nat) : AV := .e (.c (.ref b))
def cD (l : List D) : List Cell := l.map .d
def SmS (s : ByteArray) : Prop := s.size ≤ 2000000
def SmN (l : List ByteArray) : Prop := l.length ≤ 2000000 ∧ ∀ s, s ∈ l → SmS s
def Sm68 (q : S68) : Prop := SmN q.f2
def Sm69 (q : S69) : Prop := SmN q.f1 ∧ q.f2.length ≤ 2000000
def Sm35 (q : S35) : Prop := SmS q.f1 ∧ SmS q.f2
def Sm165 (q : S165) : Prop := SmS q.f0
def SmT (l : List S35) : Prop := l.length ≤ 2000000 ∧ ∀ x, x ∈ l → Sm35 x
def SmV (l : List S165) : Prop := l.length ≤ 2000000 ∧ ∀ x, x ∈ l → Sm165 x
def Sm72 (q : S72) : Prop := SmS q.f3 ∧ Sm68 q.f4 ∧ Sm69 q.f5 ∧ SmT q.f6 ∧ SmV q.f8 ∧ SmS q.f9
def SmL (l : List S72) : Prop := l.length ≤ 2000000 ∧ ∀ x, x ∈ l → Sm72 x
theorem all_at {α : Type} {p : α → Prop} {l : List α} (h : ∀ x, x ∈ l → p x) {i : Nat} {x : α} (hx : l[i]? = some x) : p x := h x (List.mem_of_getElem? hx)
theorem all_app {α : Type} {p : α → Prop} {l l' : List α} (h : ∀ x, x ∈ l → p x) (h' : ∀ x, x ∈ l' → p x) : ∀ x, x ∈ l ++ l' → p x := fun x hx => (List.mem_append.1 hx).elim (h x) (h' x)
theorem all_one {α : Type} {p : α → Prop} {x : α} (h : p x) : ∀ y, y ∈ [x] → p y := fun y hy => by rw [List.mem_singleton.1 hy]; exact h
theorem all_set {α : Type} {p : α → Prop} {l : List α} (h : ∀ x, x ∈ l → p x) {i : Nat} {y : α} (hy : p y) : ∀ x, x ∈ l.set i y → p x := fun x hx => (List.mem_or_eq_of_mem_set hx).elim (h x) (fun e => e ▸ hy)
theorem all_nil {α : Type} {p : α → Prop} : ∀ y : α, y ∈ ([] : List α) → p y := fun y hy => by cases hy
theorem mem_small {r : ByteArray} {l : List ByteArray} (h : r ∈ l) (hl : (l.all fun s => Nat.ble s.size 2000000) = true) : SmS r := Nat.le_of_ble_eq_true (List.all_eq_true.1 hl r h)
theorem SmL.at {l : List S72} (h : SmL l) {i : Nat} {x : S72} (hx : l[i]? = some x) : Sm72 x := all_at h.2 hx
theorem take_succ {α : Type} {l : List α} {i : Int} {x : α} (h0 : 0 ≤ i) (hx : l[i.toNat]? = some x) : l.take i.toNat ++ [x] = l.take (i + 1).toNat := by
  rw [show (i + 1).toNat = i.toNat + 1 by omega, List.take_add_one, hx]; rfl
theorem take_all {α : Type} {l : List α} {i : Int} (h : ¬ i < (l.length : Int)) : l.take i.toNat = l := List.take_of_length_le (by omega)
theorem w8 (b : UInt8) : wr .i64 (b.toNat : Int) = b.toNat := by
  have := b.toNat_lt
  exact w64 (by omega) (by omega)
def inR (x a b : Int) : Bool := decide (a ≤ x) && decide (x ≤ b)
theorem inR_iff {x a b : Int} : inR x a b = true ↔ a ≤ x ∧ x ≤ b := by simp [inR]
theorem inR_yes {x a b : Int} (h : inR x a b = true) : a ≤ x ∧ x ≤ b := inR_iff.1 h
theorem inR_no {x a b : Int} (h : inR x a b = false) : ¬ (a ≤ x ∧ x ≤ b) := fun q => by rw [inR_iff.2 q] at h; cases h
theorem bnot_yes {b : Bool} (h : (!b) = true) : b = false := by simpa using h
theorem bnot_no {b : Bool} (h : (!b) = false) : b = true := by simpa using h
theorem beq_yes {a b : List UInt8} (h : (a == b) = true) : a = b := by simpa using h
theorem beq_no {a b : List UInt8} (h : (a == b) = false) : a ≠ b := by simpa using h
theorem less_irrefl : ∀ a : List UInt8, Op.bytesLess a a = false
  | [] => rfl
  | x :: xs => by
    simp only [Op.bytesLess, less_irrefl xs, Bool.and_false, Bool.or_false, decide_eq_false_iff_not]
    exact UInt8.lt_irrefl x
theorem less_total : ∀ a b : List UInt8, (Op.bytesLess a b || a == b) = !(Op.bytesLess b a)
  | [], [] => rfl
  | [], _ :: _ => rfl
  | _ :: _, [] => rfl
  | x :: xs, y :: ys => by
    have ih := less_total xs ys
    rcases Nat.lt_trichotomy x.toNat y.toNat with h | h | h
    · have h1 : x < y := h
      have h2 : ¬ y < x := fun q => by have : y.toNat < x.toNat := q; omega
      have h3 : ¬ y = x := fun q => by subst q; omega
      simp [Op.bytesLess, h1, h2, h3]
    · obtain rfl : x = y := UInt8.toNat_inj.1 h
      simp only [Op.bytesLess]
      have h1 : ¬ x < x := UInt8.lt_irrefl x
      simp only [h1, decide_false, Bool.false_or, beq_self_eq_true, Bool.true_and]
      rw [← ih]
      simp
    · have h1 : y < x := h
      have h2 : ¬ x < y := fun q => by have : x.toNat < y.toNat := q; omega
      have h3 : ¬ x = y := fun q => by subst q; omega
      simp [Op.bytesLess, h1, h2, h3]
theorem leq_yes {a b : List UInt8} (h : (Op.bytesLess a b || a == b) = true) : Op.bytesLess b a = false := by rw [less_total] at h; exact bnot_yes h
theorem leq_no {a b : List UInt8} (h : (Op.bytesLess a b || a == b) = false) : Op.bytesLess b a = true := by rw [less_total] at h; exact bnot_no h
theorem tf {a : Bool} {p : Prop} (h : a = true) (h' : a = false) : p := by rw [h] at h'; cases h'
theorem prev_fn {α : Type} {Q : α → Prop} {i : Int} {o : Option α} {x : α} (hx : o = some x) (h : Q x) : ∀ y, 0 < i → o = some y → Q y := fun y _ hy => by rw [hx] at hy; cases hy; exact h
theorem fls {P : Prop} {i : Decidable P} (h : ¬ P) : false = @decide P i := (decide_eq_false h).symm
theorem tru {P : Prop} {i : Decidable P} (h : P) : true = @decide P i := (decide_eq_true h).symm
theorem dcd {P : Prop} {i : Decidable P} {a : Bool} (h : a = true ↔ P) : a = @decide P i := by
  cases a with
  | true => exact tru (h.1 rfl)
  | false => exact fls fun q => by have := h.2 q; cases this
/-- All up to i. -/
def Upto {α : Type} (R : Int → α → Prop) (g : Nat → Option α) (i : Int) : Prop := ∀ (j : Int) (x : α), 0 ≤ j → j < i → g j.toNat = some x → R j x
section
variable {α : Type} {R : Int → α → Prop} {g : Nat → Option α} {i n : Int} {x : α}
theorem upto_zero : Upto R g 0 := fun j x h1 h2 => by omega
theorem upto_nx (h0 : 0 ≤ i) (hA : Upto R g i) (hx : g i.toNat = some x) (h : R i x) : Upto R g (i + 1) := fun j y h1 h2 hy => by
  by_cases he : j = i
  · subst he; rw [hx] at hy; cases hy; exact h
  · exact hA j y h1 (by omega) hy
theorem upto_no (h0 : 0 ≤ i) (hi : i < n) (hx : g i.toNat = some x) (h : ¬ R i x) : ¬ Upto R g n := fun q => h (q i x h0 hi hx)
theorem upto_all (hA : Upto R g i) (h : n ≤ i) : Upto R g n := fun j x h1 h2 hx => hA j x h1 (by omega) hx
end
def chR (_ : Int) (b : UInt8) : Prop := 97 ≤ (b.toNat : Int) ∧ (b.toNat : Int) ≤ 122 ∨ 48 ≤ (b.toNat : Int) ∧ (b.toNat : Int) ≤ 57
def nameP (s : ByteArray) : Prop := Upto chR (fun n => s[n]?) s.size ∧ 1 ≤ (s.size : Int) ∧ (s.size : Int) ≤ 8
noncomputable def nameOk (s : ByteArray) : Bool := @decide (nameP s) (Classical.propDecidable _)
noncomputable def txOk (t : S35) : Bool := inR t.f0 1 3 && (nameOk t.f1 && (inR t.f3 1 1000000 && (inR t.f4 0 10000 && (if t.f0 = 1 then nameOk t.f2 else t.f2.toList == (⟨#[]⟩ : ByteArray).toList))))
section
variable {α : Type} {l m : List α} {i : Int} {x y : α}
end
theorem mem_upto {α : Type} {P : α → Prop} {l : List α} {i : Int} (hA : Upto (fun _ x => P x) (fun n => l[n]?) i) (h : (l.length : Int) ≤ i) : ∀ x, x ∈ l → P x := fun x hx => by
  obtain ⟨j, hj⟩ := List.mem_iff_getElem?.1 hx
  have := (List.getElem?_eq_some_iff.1 hj).1
  exact hA j x (by omega) (by omega) (by simpa using hj)
section
variable {N : Nat} {s : St} {R : Exit → St → Prop} {id : Nat} {ops : Array Oper} {draw : Bool} {K : List (Oper × Rec) → St → Prop} {m : Cf}
theorem rk (s1 : St) (k : R .normal s1) (e : regB τ N s ops draw = true := by kernel_rfl) (h : lessL (nxt s ops.size (Av.run τ N ops ops.size (st0 s ops))) s1 = lessR s1 := by kernel_rfl) : X Try.prog N (.region id ops draw) R s := X.rk s1 hτ hmix e h rfl k
theorem sk {y : Code} (s1 : St) (k : X Try.prog N y R s1) (e : regB τ N s ops draw = true := by kernel_rfl) (h : lessL (nxt s ops.size (Av.run τ N ops ops.size (st0 s ops))) s1 = lessR s1 := by kernel_rfl) : X Try.prog N (.seq (.region id ops draw) y) R s := X.seq (X.rk s1 hτ hmix e h rfl k)
theorem rs (n : Nat) (k : CH (c0 Try.prog N) ops (fun rs s' => (draw = true → drOk ops rs = true) ∧ ∃ s1, lessL ⟨s'.T, s'.H, s.nx + 16 * ops.size⟩ s1 = lessR s1 ∧ R .normal s1) (Av.run τ N ops n (st0 s ops))) (e : Nat.ble 64 s.nx = true := by kernel_rfl) : X Try.prog N (.region id ops draw) R s := X.rs n hτ hmix e k
theorem go (n : Nat) (k : CH (c0 Try.prog N) ops K (Av.run τ N ops n m)) (e : Nat.ble 64 m.s.nx = true := by kernel_rfl) : CH (c0 Try.prog N) ops K m := CH.go n hτ e k
theorem ek (s1 : St) (k : R .normal s1) (e : (m.l.isEmpty && (!draw || drOk ops m.rs.reverse)) = true := by kernel_rfl) (h : lessL (nxt s ops.size m) s1 = lessR s1 := by kernel_rfl) : CH (c0 Try.prog N) ops (fun rs s' => (draw = true → drOk ops rs = true) ∧ ∃ s1, lessL ⟨s'.T, s'.H, s.nx + 16 * ops.size⟩ s1 = lessR s1 ∧ R .normal s1) m := CH.endk s1 e h rfl k
theorem aT (t : Nat) {p : Bool} (h : p = true) (k : CH (c0 Try.prog N) ops K (m.alt t (sV (.bool true)))) (e : look m.s.T t = some (sV (.bool p)) := by kernel_rfl) : CH (c0 Try.prog N) ops K m := CH.alt t _ _ e (by rw [h]) k
theorem aF (t : Nat) {p : Bool} (h : p = false) (k : CH (c0 Try.prog N) ops K (m.alt t (sV (.bool false)))) (e : look m.s.T t = some (sV (.bool p)) := by kernel_rfl) : CH (c0 Try.prog N) ops K m := CH.alt t _ _ e (by rw [h]) k
theorem ca {f : FuncId} {args : List AV} {h0 h1 : List (Nat × Option Blk)} {x : AV} {fn : Func} (hfn : Fn Try.prog f args (lookH h0) x (lookH h1)) (hf : Try.prog.funcs[f]? = some fn) (k : CH (c0 Try.prog N) ops K (advO ((hdO N ops m).bind fun o => callR false m.s.tm m.s.hp m.id [] x h1 o.op) m)) (hname : ((fn.name == "runtime.NumGoroutine") = false) ∧ fn.body.isSome = true := by exact ⟨rfl, rfl⟩) (h64 : Nat.ble 64 m.s.nx = true := by kernel_rfl)
    (e : ((hdO N ops m).bind fun o => callA m.s.tm m.s.hp [] o.op) = some (f, args) := by kernel_rfl) (eh : handed m.s.hp [] = h0 := by kernel_rfl) (hb : okR m ((hdO N ops m).bind fun o => callR false m.s.tm m.s.hp m.id [] x h1 o.op) = true := by kernel_rfl) : CH (c0 Try.prog N) ops K m := CH.call hfn hf hname [] h64 e eh hb k
theorem mkr {ty : Ty} {q : Prop} {rv : List ResultVar} {x : AV} {h1 : List (Nat × Option Blk)} (e : retX ty s.tm s.hp rv = some (x.mp (rn [])) := by kernel_rfl) (e2 : (h1.map fun p => s.hp (rn [] p.1)) = (h1.map fun p => p.2.map (Blk.mp (rn []))) := by kernel_rfl) (e3 : (nodupB (h1.map fun p => rn [] p.1) && (([] : List (Nat × Nat)).all fun p => Nat.ble 64 p.1)) = true := by kernel_rfl) : Ret ty rv s x h1 ∨ q := .inl (Ret.mk' [] e e2 e3)
theorem if_ {o : Operand} {b : Bool} {x y : Code} (h1 : b = true → X Try.prog N x R s) (h2 : b = false → X Try.prog N y R s) (hb : (evO s.tm o).bind sc = some (.bool b) := by kernel_rfl) : X Try.prog N (.cond o x y) R s := X.if_ hb h1 h2
end
theorem s_l1New (code : List Int) (hl : code.length ≤ 4611686018427387904) : ∃ i1 h1 : Int, (i1 = 0) ∧ Fn Try.prog 40 [.e (.c (.k 0 (.sl (code.map dB))))] (lookH []) (.pt 64 0 0) (lookH [(64, some (.box [.k 0 (.sl (code.map dB)), .d (.v (.int .i64 i1)), .d (.v (.int .i64 h1))]))]) := by
  have key : ∃ x' h', ((fun x' h' => ∃ i1 h1 : Int, (i1 = 0) ∧ x' = .pt 64 0 0 ∧ h' = [(64, some (.box [.k 0 (.sl (code.map dB)), .d (.v (.int .i64 i1)), .d (.v (.int .i64 h1))]))])) x' h' ∧ Fn Try.prog 40 [.e (.c (.k 0 (.sl (code.map dB))))] (lookH []) x' (lookH h') := by
    refine Fn.bodyX (N := 32) hτ Try.func40 rfl rfl rfl rfl ?_
    refine sk ⟨[(0, .e (.c (.k 0 (.sl (code.map dB)))))], [], 80⟩ ?_
    refine X.seq ?_
    have el1 : (code.map dB).length = code.length := List.length_map ..
    refine rk ⟨[(0, .e (.c (.k 0 (.sl (code.map dB))))), (3, iV (wr .i64 (366366 + ((code.map dB).length : Int))))], [], 144⟩ ?_
    refine X.seq ?_
    refine sk ⟨[(0, .e (.c (.k 0 (.sl (code.map dB))))), (3, iV (wr .i64 (366366 + ((code.map dB).length : Int)))), (4, iV 0)], [], 160⟩ ?_
    refine X.block ?_
    -- 3: v3 : Int, v4 : Int
    refine X.loop (σ := { g : Int × Int // (fun (v3 : Int) (v4 : Int) => 0 ≤ v4 ∧ v4 ≤ code.length) g.1 g.2 }) (fun g => (fun (v3 : Int) (v4 : Int) => ⟨[(0, .e (.c (.k 0 (.sl (code.map dB))))), (3, iV v3), (4, iV v4)], [], 160⟩) g.1.1 g.1.2) (fun g => (fun (v3 : Int) (v4 : Int) => (code.length - v4).toNat) g.1.1 g.1.2) ⟨(wr .i64 (366366 + ((code.map dB).length : Int)), 0), by first | exact rfl | omega | (dsimp only; omega) | (simp only [List.length_append, List.length_cons, List.length_nil, List.length_set]; omega) | (simp; done) | (simp; omega)⟩ (Wk.less (by kernel_rfl)) (fun g => ?_)
    obtain ⟨⟨v3, v4⟩, hg3⟩ := g
    have hg3 : 0 ≤ v4 ∧ v4 ≤ code.length := hg3
    refine X.seq ?_
    refine X.seq (rs 5 ?_)
    rcases Bool.eq_false_or_eq_true (decide ((v4 : Int) < ((code.map dB).length : Int))) with hb4 | hb4
    · refine aT 11 hb4 ?_
      refine aT 12 hb4 ?_
      replace hb4 := of_decide_eq_true (hb4)
      refine go 3 ?_
      refine ek ⟨[(0, .e (.c (.k 0 (.sl (code.map dB))))), (3, iV v3), (4, iV v4), (15, bV (decide ((v4 : Int) < 4000)))], [], 288⟩ ?_
      refine if_ (b := decide ((v4 : Int) < 4000)) (fun hb5 => ?_) (fun hb5 => ?_)
      · replace hb5 := of_decide_eq_true (hb5)
        refine X.skip ?_
        refine X.seq ?_
        refine X.block ?_
        refine rs 4 ?_
        obtain ⟨x6, hx6⟩ : ∃ x, code[Int.toNat v4]? = some x := ⟨_, List.getElem?_eq_getElem (by first | omega | (simp; done) | (simp; omega))⟩
        refine CH.idx hτ (dB x6) (rows := (code.map dB)) (n := v4) (sz := 1) (by kernel_rfl) (by kernel_rfl) (by first | omega | (simp; done) | (simp; omega)) (by rw [List.getElem?_map, hx6]; rfl) (by kernel_rfl) ?_
        refine go 6 ?_
        have fa7 := and_le (wr .i64 ((wr .i64 ((wr .i64 (v3 * 137)) + (wr .i64 (x6)))) + 11)) 1073741823 30 rfl (by decide)
        refine ek ⟨[(0, .e (.c (.k 0 (.sl (code.map dB))))), (3, iV (wr .i64 ((BitVec.ofInt 64 (wr .i64 ((wr .i64 ((wr .i64 (v3 * 137)) + (wr .i64 (x6)))) + 11)) &&& BitVec.ofInt 64 1073741823).toNat))), (4, iV v4)], [], 464⟩ ?_
        refine X.gen (fun n8 : Int => ⟨[(0, .e (.c (.k 0 (.sl (code.map dB))))), (3, iV n8), (4, iV v4)], [], 464⟩) (wr .i64 ((BitVec.ofInt 64 (wr .i64 ((wr .i64 ((wr .i64 (v3 * 137)) + (wr .i64 (x6)))) + 11)) &&& BitVec.ofInt 64 1073741823).toNat)) (fun n8 hn8 => ?_)
        refine X.rk ⟨[(0, .e (.c (.k 0 (.sl (code.map dB))))), (3, iV n8), (4, iV (wrap64 (v4 + 1)))], [], 512⟩ hτ hmix (by kernel_rfl) (by kernel_rfl) (s2 := ⟨[(0, .e (.c (.k 0 (.sl (code.map dB))))), (3, iV n8), (4, iV (v4 + 1))], [], 512⟩) (congrArg (fun z : Int => (⟨[(0, .e (.c (.k 0 (.sl (code.map dB))))), (3, iV n8), (4, iV z)], [], 512⟩ : St)) (show wrap64 (v4 + 1) = (v4 + 1) by rw [w64 (n := (v4 + 1)) (by omega) (by omega)])) ?_
        refine ⟨⟨(n8, (v4 + 1)), by first | exact rfl | omega | (dsimp only; omega) | (simp only [List.length_append, List.length_cons, List.length_nil, List.length_set]; omega) | (simp; done) | (simp; omega)⟩, by first | exact rfl | omega | (dsimp only; omega) | (simp only [List.length_append, List.length_cons, List.length_nil, List.length_set]; omega) | (simp; done) | (simp; omega), Wk.mk' [] (by kernel_rfl) (by kernel_rfl) (by kernel_rfl)⟩
      · replace hb5 := of_decide_eq_false (hb5)
        refine X.exit ?_
        refine sk ⟨[(2, .pt 336 0 0)], [(336, some (.box [.k 0 (.sl (code.map dB)), .d (.v (.int .i64 0)), .d (.v (.int .i64 v3))]))], 368⟩ ?_
        refine X.ret ?_
        exact ⟨trivial, _, _, ⟨0, v3, by first | exact rfl | omega | (dsimp only; omega) | (simp only [List.length_append, List.length_cons, List.length_nil, List.length_set]; omega) | (simp; done) | (simp; omega), rfl, rfl⟩, .inl (Ret.mk' [(64, 336)] (by kernel_rfl) (by kernel_rfl) (by kernel_rfl))⟩
    · refine aF 11 hb4 ?_
      refine aF 12 hb4 ?_
      replace hb4 := of_decide_eq_false (hb4)
      refine go 3 ?_
      refine ek ⟨[(0, .e (.c (.k 0 (.sl (code.map dB))))), (3, iV v3), (4, iV v4), (15, bV false)], [], 288⟩ ?_
      refine X.ifF (by kernel_rfl) ?_
      refine X.exit ?_
      refine sk ⟨[(2, .pt 336 0 0)], [(336, some (.box [.k 0 (.sl (code.map dB)), .d (.v (.int .i64 0)), .d (.v (.int .i64 v3))]))], 368⟩ ?_
      refine X.ret ?_
      exact ⟨trivial, _, _, ⟨0, v3, by first | exact rfl | omega | (dsimp only; omega) | (simp only [List.length_append, List.length_cons, List.length_nil, List.length_set]; omega) | (simp; done) | (simp; omega), rfl, rfl⟩, .inl (Ret.mk' [(64, 336)] (by kernel_rfl) (by kernel_rfl) (by kernel_rfl))⟩
  obtain ⟨_, _, ⟨i1, h1, q1, rfl, rfl⟩, hf⟩ := key
  exact ⟨i1, h1, q1, hf⟩

theorem s_l1Byte (bs : List Int) (i0 : Int) (h0 : Int) (hl : bs.length ≤ 4611686018427387904) (hi : 0 ≤ i0 ∧ i0 ≤ bs.length)  : ∃ r0 : Int, ∃ i1 : Int, ∃ h1 : Int, (0 ≤ r0 ∧ r0 ≤ 255) ∧ (0 ≤ i1 ∧ i1 ≤ bs.length) ∧ Fn Try.prog 156 [.pt 0 0 0] (lookH [(0, some (.box [.k 0 (.sl (bs.map dB)), .k 1 (.v (.int .i64 i0)), .k 2 (.v (.int .i64 h0))]))]) (iV r0) (lookH [(0, some (.box [.k 0 (.sl (bs.map dB)), .d (.v (.int .i64 i1)), .d (.v (.int .i64 h1))]))]) := by
 have key : ∃ x' h', ((fun x' h' => ∃ r0 : Int, ∃ i1 : Int, ∃ h1 : Int, (0 ≤ r0 ∧ r0 ≤ 255) ∧ (0 ≤ i1 ∧ i1 ≤ bs.length) ∧ x' = iV r0 ∧ h' = [(0, some (.box [.k 0 (.sl (bs.map dB)), .d (.v (.int .i64 i1)), .d (.v (.int .i64 h1))]))])) x' h' ∧ Fn Try.prog 156 [.pt 0 0 0] (lookH [(0, some (.box [.k 0 (.sl (bs.map dB)), .k 1 (.v (.int .i64 i0)), .k 2 (.v (.int .i64 h0))]))]) x' (lookH h') := by
  refine Fn.bodyX (N := 58) hτ Try.func156 rfl rfl rfl rfl ?_
  refine sk ⟨[(0, .pt 0 0 0)], [(0, some (.box [.k 0 (.sl (bs.map dB)), .d (.v (.int .i64 i0)), .d (.v (.int .i64 h0))]))], 80⟩ ?_
  refine sk ⟨[(0, .pt 0 0 0)], [(0, some (.box [.k 0 (.sl (bs.map dB)), .d (.v (.int .i64 i0)), .d (.v (.int .i64 (wr .i64 ((wr .i64 (h0 * 6364136223846793005)) + 1442695040888963407))))]))], 240⟩ ?_
  refine X.gen (fun n1 : Int => ⟨[(0, .pt 0 0 0)], [(0, some (.box [.k 0 (.sl (bs.map dB)), .d (.v (.int .i64 i0)), .d (.v (.int .i64 n1))]))], 240⟩) (wr .i64 ((wr .i64 (h0 * 6364136223846793005)) + 1442695040888963407)) (fun n1 hn1 => ?_)
  refine X.seq ?_
  have fa2 := and_le (wr .i64 ((BitVec.ofInt 64 (n1 / 2 ^ min (Int.toNat 33) 64) ^^^ BitVec.ofInt 64 (n1 / 2 ^ min (Int.toNat 47) 64)).toNat)) 255 8 rfl (by decide)
  refine rk ⟨[(0, .pt 0 0 0), (3, iV (wr .i64 ((BitVec.ofInt 64 (wr .i64 ((BitVec.ofInt 64 (n1 / 2 ^ min (Int.toNat 33) 64) ^^^ BitVec.ofInt 64 (n1 / 2 ^ min (Int.toNat 47) 64)).toNat)) &&& BitVec.ofInt 64 255).toNat)))], [(0, some (.box [.k 0 (.sl (bs.map dB)), .d (.v (.int .i64 i0)), .d (.v (.int .i64 n1))]))], 448⟩ ?_
  refine X.gen (fun n3 : Int => ⟨[(0, .pt 0 0 0), (3, iV n3)], [(0, some (.box [.k 0 (.sl (bs.map dB)), .d (.v (.int .i64 i0)), .d (.v (.int .i64 n1))]))], 448⟩) (wr .i64 ((BitVec.ofInt 64 (wr .i64 ((BitVec.ofInt 64 (n1 / 2 ^ min (Int.toNat 33) 64) ^^^ BitVec.ofInt 64 (n1 / 2 ^ min (Int.toNat 47) 64)).toNat)) &&& BitVec.ofInt 64 255).toNat)) (fun n3 hn3 => ?_)
  refine X.seq ?_
  refine X.seq ?_
  have el4 : (bs.map dB).length = bs.length := List.length_map ..
  refine rk ⟨[(0, .pt 0 0 0), (3, iV n3), (34, bV (decide ((i0 : Int) < ((bs.map dB).length : Int))))], [(0, some (.box [.k 0 (.sl (bs.map dB)), .d (.v (.int .i64 i0)), .d (.v (.int .i64 n1))]))], 608⟩ ?_
  refine if_ (b := decide ((i0 : Int) < ((bs.map dB).length : Int))) (fun hb5 => ?_) (fun hb5 => ?_)
  ·replace hb5 := of_decide_eq_true (hb5)
   refine X.seq (rs 9 ?_)
   obtain ⟨x6, hx6⟩ : ∃ x, bs[Int.toNat i0]? = some x := ⟨_, List.getElem?_eq_getElem (by first | omega | (simp; done) | (simp; omega))⟩
   refine CH.idx hτ (dB x6) (rows := (bs.map dB)) (n := i0) (sz := 1) (by kernel_rfl) (by kernel_rfl) (by first | omega | (simp; done) | (simp; omega)) (by rw [List.getElem?_map, hx6]; rfl) (by kernel_rfl) ?_
   refine go 5 ?_
   have fa7 := and_le (wr .i64 (n3 + (wr .i64 (x6)))) 255 8 rfl (by decide)
   refine ek ⟨[(0, .pt 0 0 0), (3, iV (wr .i64 ((BitVec.ofInt 64 (wr .i64 (n3 + (wr .i64 (x6)))) &&& BitVec.ofInt 64 255).toNat)))], [(0, some (.box [.k 0 (.sl (bs.map dB)), .d (.v (.int .i64 i0)), .d (.v (.int .i64 n1))]))], 848⟩ ?_
   refine X.gen (fun n8 : Int => ⟨[(0, .pt 0 0 0), (3, iV n8)], [(0, some (.box [.k 0 (.sl (bs.map dB)), .d (.v (.int .i64 i0)), .d (.v (.int .i64 n1))]))], 848⟩) (wr .i64 ((BitVec.ofInt 64 (wr .i64 (n3 + (wr .i64 (x6)))) &&& BitVec.ofInt 64 255).toNat)) (fun n8 hn8 => ?_)
   refine X.rk ⟨[(3, iV n8)], [(0, some (.box [.k 0 (.sl (bs.map dB)), .d (.v (.int .i64 (wrap64 (i0 + 1)))), .d (.v (.int .i64 n1))]))], 992⟩ hτ hmix (by kernel_rfl) (by kernel_rfl) (s2 := ⟨[(3, iV n8)], [(0, some (.box [.k 0 (.sl (bs.map dB)), .d (.v (.int .i64 (i0 + 1))), .d (.v (.int .i64 n1))]))], 992⟩) (congrArg (fun z : Int => (⟨[(3, iV n8)], [(0, some (.box [.k 0 (.sl (bs.map dB)), .d (.v (.int .i64 z)), .d (.v (.int .i64 n1))]))], 992⟩ : St)) (show wrap64 (i0 + 1) = (i0 + 1) by rw [w64 (n := (i0 + 1)) (by omega) (by omega)])) ?_
   refine sk ⟨[(2, iV n8)], [(0, some (.box [.k 0 (.sl (bs.map dB)), .d (.v (.int .i64 (i0 + 1))), .d (.v (.int .i64 n1))]))], 1024⟩ ?_
   refine X.ret ?_
   exact ⟨trivial, _, _, ⟨n8, (i0 + 1), n1, by first | exact rfl | omega | (dsimp only; omega) | (simp only [List.length_append, List.length_cons, List.length_nil, List.length_set]; omega) | (simp; done) | (simp; omega), (by omega), rfl, rfl⟩, mkr⟩
  ·replace hb5 := of_decide_eq_false (hb5)
   refine X.skip ?_
   refine sk ⟨[(2, iV n3)], [(0, some (.box [.k 0 (.sl (bs.map dB)), .d (.v (.int .i64 i0)), .d (.v (.int .i64 n1))]))], 640⟩ ?_
   refine X.ret ?_
   exact ⟨trivial, _, _, ⟨n3, i0, n1, by first | exact rfl | omega | (dsimp only; omega) | (simp only [List.length_append, List.length_cons, List.length_nil, List.length_set]; omega) | (simp; done) | (simp; omega), (by omega), rfl, rfl⟩, mkr⟩
 obtain ⟨_, _, ⟨r0, i1, h1, h1_, h2_, rfl, rfl⟩, hf⟩ := key
 exact ⟨r0, i1, h1, h1_, h2_, hf⟩

theorem s_l1Below (bs : List Int) (i0 : Int) (h0 : Int) (hl : bs.length ≤ 4611686018427387904) (hi : 0 ≤ i0 ∧ i0 ≤ bs.length) (n : Int) : ∃ r0 : Int, ∃ i1 : Int, ∃ h1 : Int, (0 ≤ r0 ∧ (r0 < n ∨ n ≤ 0 ∧ r0 = 0)) ∧ (0 ≤ i1 ∧ i1 ≤ bs.length) ∧ Fn Try.prog 108 [.pt 0 0 0, iV n] (lookH [(0, some (.box [.k 0 (.sl (bs.map dB)), .k 1 (.v (.int .i64 i0)), .k 2 (.v (.int .i64 h0))]))]) (iV r0) (lookH [(0, some (.box [.k 0 (.sl (bs.map dB)), .d (.v (.int .i64 i1)), .d (.v (.int .i64 h1))]))]) := by
 have key : ∃ x' h', ((fun x' h' => ∃ r0 : Int, ∃ i1 : Int, ∃ h1 : Int, (0 ≤ r0 ∧ (r0 < n ∨ n ≤ 0 ∧ r0 = 0)) ∧ (0 ≤ i1 ∧ i1 ≤ bs.length) ∧ x' = iV r0 ∧ h' = [(0, some (.box [.k 0 (.sl (bs.map dB)), .d (.v (.int .i64 i1)), .d (.v (.int .i64 h1))]))])) x' h' ∧ Fn Try.prog 108 [.pt 0 0 0, iV n] (lookH [(0, some (.box [.k 0 (.sl (bs.map dB)), .k 1 (.v (.int .i64 i0)), .k 2 (.v (.int .i64 h0))]))]) x' (lookH h') := by
  refine Fn.bodyX (N := 31) hτ Try.func108 rfl rfl rfl rfl ?_
  refine sk ⟨[(0, .pt 0 0 0), (1, iV n)], [(0, some (.box [.k 0 (.sl (bs.map dB)), .d (.v (.int .i64 i0)), .d (.v (.int .i64 h0))]))], 80⟩ ?_
  refine X.seq ?_
  refine sk ⟨[(0, .pt 0 0 0), (1, iV n), (9, bV (decide ((n : Int) ≤ 0)))], [(0, some (.box [.k 0 (.sl (bs.map dB)), .d (.v (.int .i64 i0)), .d (.v (.int .i64 h0))]))], 112⟩ ?_
  refine if_ (b := decide ((n : Int) ≤ 0)) (fun hb1 => ?_) (fun hb1 => ?_)
  ·replace hb1 := of_decide_eq_true (hb1)
   refine sk ⟨[(4, iV 0)], [(0, some (.box [.k 0 (.sl (bs.map dB)), .d (.v (.int .i64 i0)), .d (.v (.int .i64 h0))]))], 128⟩ ?_
   refine X.ret ?_
   exact ⟨trivial, _, _, ⟨0, i0, h0, by first | exact rfl | omega | (dsimp only; omega) | (simp only [List.length_append, List.length_cons, List.length_nil, List.length_set]; omega) | (simp; done) | (simp; omega), (by omega), rfl, rfl⟩, mkr⟩
  ·replace hb1 := of_decide_eq_false (hb1)
   refine X.skip ?_
   refine X.seq ?_
   refine sk ⟨[(0, .pt 0 0 0), (1, iV n), (11, bV (decide ((n : Int) ≤ 256)))], [(0, some (.box [.k 0 (.sl (bs.map dB)), .d (.v (.int .i64 i0)), .d (.v (.int .i64 h0))]))], 144⟩ ?_
   refine if_ (b := decide ((n : Int) ≤ 256)) (fun hb2 => ?_) (fun hb2 => ?_)
   ·replace hb2 := of_decide_eq_true (hb2)
    refine X.seq (rs 1 ?_)
    obtain ⟨r3, i6, h7, hr5, hi8, hf4⟩ := s_l1Byte bs i0 h0 (by first | assumption | omega) (by omega)
    obtain ⟨_, _⟩ := hr5
    refine CH.call hf4 Try.func156 ⟨rfl, rfl⟩ [(0, 0)] (by kernel_rfl) (by kernel_rfl) (by kernel_rfl) (by kernel_rfl) ?_
    refine go 1 ?_
    obtain ⟨m9, hm9⟩ := ofN (n := n) (by first | omega | (simp; done) | (simp; omega))
    have ft10 := tmod_lt r3 n (by first | omega | (simp; done) | (simp; omega)) (by omega)
    rw [hm9] at ft10
    refine CH.alt 14 (sV (.int .i64 n)) (sV (.int .i64 (Int.ofNat (m9 + 1)))) (by kernel_rfl) (by rw [hm9]) ?_
    refine go 2 ?_
    refine ek ⟨[(4, iV (Int.tmod r3 (Int.ofNat (m9 + 1))))], [(0, some (.box [.k 0 (.sl (bs.map dB)), .d (.v (.int .i64 i6)), .d (.v (.int .i64 h7))]))], 224⟩ ?_
    refine X.ret ?_
    exact ⟨trivial, _, _, ⟨Int.tmod r3 (Int.ofNat (m9 + 1)), i6, h7, by first | exact rfl | omega | (dsimp only; omega) | (simp only [List.length_append, List.length_cons, List.length_nil, List.length_set]; omega) | (simp; done) | (simp; omega), (by omega), rfl, rfl⟩, mkr⟩
   ·replace hb2 := of_decide_eq_false (hb2)
    refine X.skip ?_
    refine X.seq (rs 1 ?_)
    obtain ⟨r11, i14, h15, hr13, hi16, hf12⟩ := s_l1Byte bs i0 h0 (by first | assumption | omega) (by omega)
    obtain ⟨_, _⟩ := hr13
    refine CH.call hf12 Try.func156 ⟨rfl, rfl⟩ [(0, 0)] (by kernel_rfl) (by kernel_rfl) (by kernel_rfl) (by kernel_rfl) ?_
    refine go 1 ?_
    refine ek ⟨[(0, .pt 0 0 0), (1, iV n), (5, iV r11)], [(0, some (.box [.k 0 (.sl (bs.map dB)), .d (.v (.int .i64 i14)), .d (.v (.int .i64 h15))]))], 192⟩ ?_
    refine X.seq (rs 1 ?_)
    obtain ⟨r17, i20, h21, hr19, hi22, hf18⟩ := s_l1Byte bs i14 h15 (by first | assumption | omega) (by omega)
    obtain ⟨_, _⟩ := hr19
    refine CH.call hf18 Try.func156 ⟨rfl, rfl⟩ [(0, 0)] (by kernel_rfl) (by kernel_rfl) (by kernel_rfl) (by kernel_rfl) ?_
    refine go 1 ?_
    refine ek ⟨[(0, .pt 0 0 0), (1, iV n), (5, iV r11), (6, iV r17)], [(0, some (.box [.k 0 (.sl (bs.map dB)), .d (.v (.int .i64 i20)), .d (.v (.int .i64 h21))]))], 240⟩ ?_
    refine X.seq (rs 1 ?_)
    obtain ⟨r23, i26, h27, hr25, hi28, hf24⟩ := s_l1Byte bs i20 h21 (by first | assumption | omega) (by omega)
    obtain ⟨_, _⟩ := hr25
    refine CH.call hf24 Try.func156 ⟨rfl, rfl⟩ [(0, 0)] (by kernel_rfl) (by kernel_rfl) (by kernel_rfl) (by kernel_rfl) ?_
    refine go 1 ?_
    refine ek ⟨[(1, iV n), (5, iV r11), (6, iV r17), (7, iV r23)], [(0, some (.box [.k 0 (.sl (bs.map dB)), .d (.v (.int .i64 i26)), .d (.v (.int .i64 h27))]))], 288⟩ ?_
    refine X.seq (rs 8 ?_)
    obtain ⟨m29, hm29⟩ := ofN (n := n) (by first | omega | (simp; done) | (simp; omega))
    have ft30 := tmod_lt (((((r11 * 65536)) + ((r17 * 256)))) + r23) n (by first | omega | (simp; done) | (simp; omega)) (by omega)
    rw [hm29] at ft30
    refine CH.alt 29 (sV (.int .i64 n)) (sV (.int .i64 (Int.ofNat (m29 + 1)))) (by kernel_rfl) (by rw [hm29]) ?_
    refine go 2 ?_
    refine CH.endk ⟨[(4, iV (Int.tmod (wrap64 ((wrap64 ((wrap64 (r11 * 65536)) + (wrap64 (r17 * 256)))) + r23)) (Int.ofNat (m29 + 1))))], [(0, some (.box [.k 0 (.sl (bs.map dB)), .d (.v (.int .i64 i26)), .d (.v (.int .i64 h27))]))], 448⟩ (by kernel_rfl) (by kernel_rfl) (s2 := ⟨[(4, iV (Int.tmod ((((((r11 * 65536)) + ((r17 * 256)))) + r23)) (Int.ofNat (m29 + 1))))], [(0, some (.box [.k 0 (.sl (bs.map dB)), .d (.v (.int .i64 i26)), .d (.v (.int .i64 h27))]))], 448⟩) (congrArg (fun z : Int => (⟨[(4, iV z)], [(0, some (.box [.k 0 (.sl (bs.map dB)), .d (.v (.int .i64 i26)), .d (.v (.int .i64 h27))]))], 448⟩ : St)) (show Int.tmod (wrap64 ((wrap64 ((wrap64 (r11 * 65536)) + (wrap64 (r17 * 256)))) + r23)) (Int.ofNat (m29 + 1)) = Int.tmod ((((((r11 * 65536)) + ((r17 * 256)))) + r23)) (Int.ofNat (m29 + 1)) by rw [w64 (n := (r17 * 256)) (by omega) (by omega), w64 (n := (r11 * 65536)) (by omega) (by omega), w64 (n := (((r11 * 65536)) + ((r17 * 256)))) (by omega) (by omega), w64 (n := (((((r11 * 65536)) + ((r17 * 256)))) + r23)) (by omega) (by omega)])) ?_
    refine X.gen (fun n31 : Int => ⟨[(4, iV n31)], [(0, some (.box [.k 0 (.sl (bs.map dB)), .d (.v (.int .i64 i26)), .d (.v (.int .i64 h27))]))], 448⟩) (Int.tmod ((((((r11 * 65536)) + ((r17 * 256)))) + r23)) (Int.ofNat (m29 + 1))) (fun n31 hn31 => ?_)
    refine X.ret ?_
    exact ⟨trivial, _, _, ⟨n31, i26, h27, by first | exact rfl | omega | (dsimp only; omega) | (simp only [List.length_append, List.length_cons, List.length_nil, List.length_set]; omega) | (simp; done) | (simp; omega), (by omega), rfl, rfl⟩, mkr⟩
 obtain ⟨_, _, ⟨r0, i1, h1, h1_, h2_, rfl, rfl⟩, hf⟩ := key
 exact ⟨r0, i1, h1, h1_, h2_, hf⟩

theorem s_l1Once (bs : List Int) (i0 : Int) (h0 : Int) (hl : bs.length ≤ 4611686018427387904) (hi : 0 ≤ i0 ∧ i0 ≤ bs.length) (n : Int) : ∃ r0 : Bool, ∃ i1 : Int, ∃ h1 : Int, (True) ∧ (0 ≤ i1 ∧ i1 ≤ bs.length) ∧ Fn Try.prog 44 [.pt 0 0 0, iV n] (lookH [(0, some (.box [.k 0 (.sl (bs.map dB)), .k 1 (.v (.int .i64 i0)), .k 2 (.v (.int .i64 h0))]))]) (bV r0) (lookH [(0, some (.box [.k 0 (.sl (bs.map dB)), .d (.v (.int .i64 i1)), .d (.v (.int .i64 h1))]))]) := by
 have key : ∃ x' h', ((fun x' h' => ∃ r0 : Bool, ∃ i1 : Int, ∃ h1 : Int, (True) ∧ (0 ≤ i1 ∧ i1 ≤ bs.length) ∧ x' = bV r0 ∧ h' = [(0, some (.box [.k 0 (.sl (bs.map dB)), .d (.v (.int .i64 i1)), .d (.v (.int .i64 h1))]))])) x' h' ∧ Fn Try.prog 44 [.pt 0 0 0, iV n] (lookH [(0, some (.box [.k 0 (.sl (bs.map dB)), .k 1 (.v (.int .i64 i0)), .k 2 (.v (.int .i64 h0))]))]) x' (lookH h') := by
  refine Fn.bodyX (N := 9) hτ Try.func44 rfl rfl rfl rfl ?_
  refine sk ⟨[(0, .pt 0 0 0), (1, iV n)], [(0, some (.box [.k 0 (.sl (bs.map dB)), .d (.v (.int .i64 i0)), .d (.v (.int .i64 h0))]))], 80⟩ ?_
  refine X.seq (rs 2 ?_)
  obtain ⟨r1, i4, h5, hr3, hi6, hf2⟩ := s_l1Below bs i0 h0 (by first | assumption | omega) (by omega) n
  obtain ⟨_, _⟩ := hr3
  refine CH.call hf2 Try.func108 ⟨rfl, rfl⟩ [(0, 0)] (by kernel_rfl) (by kernel_rfl) (by kernel_rfl) (by kernel_rfl) ?_
  refine go 2 ?_
  refine ek ⟨[(4, bV (r1 == 0))], [(0, some (.box [.k 0 (.sl (bs.map dB)), .d (.v (.int .i64 i4)), .d (.v (.int .i64 h5))]))], 160⟩ ?_
  refine X.ret ?_
  exact ⟨trivial, _, _, ⟨(r1 == 0), i4, h5, trivial, (by omega), rfl, rfl⟩, mkr⟩
 obtain ⟨_, _, ⟨r0, i1, h1, h1_, h2_, rfl, rfl⟩, hf⟩ := key
 exact ⟨r0, i1, h1, h1_, h2_, hf⟩

theorem s_l1Int (bs : List Int) (i0 : Int) (h0 : Int) (hl : bs.length ≤ 4611686018427387904) (hi : 0 ≤ i0 ∧ i0 ≤ bs.length) (l : List Int) (hn : 0 < l.length) : ∃ r0 : Int, ∃ i1 : Int, ∃ h1 : Int, (r0 ∈ l) ∧ (0 ≤ i1 ∧ i1 ≤ bs.length) ∧ Fn Try.prog 109 [.pt 0 0 0, lV (l.map dI)] (lookH [(0, some (.box [.k 0 (.sl (bs.map dB)), .k 1 (.v (.int .i64 i0)), .k 2 (.v (.int .i64 h0))]))]) (iV r0) (lookH [(0, some (.box [.k 0 (.sl (bs.map dB)), .d (.v (.int .i64 i1)), .d (.v (.int .i64 h1))]))]) := by
 have key : ∃ x' h', ((fun x' h' => ∃ r0 : Int, ∃ i1 : Int, ∃ h1 : Int, (r0 ∈ l) ∧ (0 ≤ i1 ∧ i1 ≤ bs.length) ∧ x' = iV r0 ∧ h' = [(0, some (.box [.k 0 (.sl (bs.map dB)), .d (.v (.int .i64 i1)), .d (.v (.int .i64 h1))]))])) x' h' ∧ Fn Try.prog 109 [.pt 0 0 0, lV (l.map dI)] (lookH [(0, some (.box [.k 0 (.sl (bs.map dB)), .k 1 (.v (.int .i64 i0)), .k 2 (.v (.int .i64 h0))]))]) x' (lookH h') := by
  refine Fn.bodyX (N := 12) hτ Try.func109 rfl rfl rfl rfl ?_
  refine sk ⟨[(0, .pt 0 0 0), (1, lV (l.map dI))], [(0, some (.box [.k 0 (.sl (bs.map dB)), .d (.v (.int .i64 i0)), .d (.v (.int .i64 h0))]))], 80⟩ ?_
  refine X.seq ?_
  have el1 : (l.map dI).length = l.length := List.length_map ..
  refine rs 4 ?_
  obtain ⟨r2, i5, h6, hr4, hi7, hf3⟩ := s_l1Below bs i0 h0 (by first | assumption | omega) (by omega) ((l.map dI).length : Int)
  obtain ⟨_, _⟩ := hr4
  refine CH.call hf3 Try.func108 ⟨rfl, rfl⟩ [(0, 0)] (by kernel_rfl) (by kernel_rfl) (by kernel_rfl) (by kernel_rfl) ?_
  obtain ⟨x8, hx8⟩ : ∃ x, l[Int.toNat r2]? = some x := ⟨_, List.getElem?_eq_getElem (by first | omega | (simp; done) | (simp; omega))⟩
  refine CH.idx hτ (dI x8) (rows := (l.map dI)) (n := r2) (sz := 1) (by kernel_rfl) (by kernel_rfl) (by first | omega | (simp; done) | (simp; omega)) (by rw [List.getElem?_map, hx8]; rfl) (by kernel_rfl) ?_
  refine go 2 ?_
  refine ek ⟨[(4, iV x8)], [(0, some (.box [.k 0 (.sl (bs.map dB)), .d (.v (.int .i64 i5)), .d (.v (.int .i64 h6))]))], 208⟩ ?_
  refine X.ret ?_
  exact ⟨trivial, _, _, ⟨x8, i5, h6, List.mem_of_getElem? ‹_›, (by omega), rfl, rfl⟩, mkr⟩
 obtain ⟨_, _, ⟨r0, i1, h1, h1_, h2_, rfl, rfl⟩, hf⟩ := key
 exact ⟨r0, i1, h1, h1_, h2_, hf⟩

theorem s_l1Str (bs : List Int) (i0 : Int) (h0 : Int) (hl : bs.length ≤ 4611686018427387904) (hi : 0 ≤ i0 ∧ i0 ≤ bs.length) (l : List ByteArray) (hn : 0 < l.length) : ∃ r0 : ByteArray, ∃ i1 : Int, ∃ h1 : Int, (r0 ∈ l) ∧ (0 ≤ i1 ∧ i1 ≤ bs.length) ∧ Fn Try.prog 185 [.pt 0 0 0, lV (l.map dS)] (lookH [(0, some (.box [.k 0 (.sl (bs.map dB)), .k 1 (.v (.int .i64 i0)), .k 2 (.v (.int .i64 h0))]))]) (.e (.c (.d (.v (.string r0))))) (lookH [(0, some (.box [.k 0 (.sl (bs.map dB)), .d (.v (.int .i64 i1)), .d (.v (.int .i64 h1))]))]) := by
 have key : ∃ x' h', ((fun x' h' => ∃ r0 : ByteArray, ∃ i1 : Int, ∃ h1 : Int, (r0 ∈ l) ∧ (0 ≤ i1 ∧ i1 ≤ bs.length) ∧ x' = .e (.c (.d (.v (.string r0)))) ∧ h' = [(0, some (.box [.k 0 (.sl (bs.map dB)), .d (.v (.int .i64 i1)), .d (.v (.int .i64 h1))]))])) x' h' ∧ Fn Try.prog 185 [.pt 0 0 0, lV (l.map dS)] (lookH [(0, some (.box [.k 0 (.sl (bs.map dB)), .k 1 (.v (.int .i64 i0)), .k 2 (.v (.int .i64 h0))]))]) x' (lookH h') := by
  refine Fn.bodyX (N := 12) hτ Try.func185 rfl rfl rfl rfl ?_
  refine sk ⟨[(0, .pt 0 0 0), (1, lV (l.map dS))], [(0, some (.box [.k 0 (.sl (bs.map dB)), .d (.v (.int .i64 i0)), .d (.v (.int .i64 h0))]))], 80⟩ ?_
  refine X.seq ?_
  have el1 : (l.map dS).length = l.length := List.length_map ..
  refine rs 4 ?_
  obtain ⟨r2, i5, h6, hr4, hi7, hf3⟩ := s_l1Below bs i0 h0 (by first | assumption | omega) (by omega) ((l.map dS).length : Int)
  obtain ⟨_, _⟩ := hr4
  refine CH.call hf3 Try.func108 ⟨rfl, rfl⟩ [(0, 0)] (by kernel_rfl) (by kernel_rfl) (by kernel_rfl) (by kernel_rfl) ?_
  obtain ⟨x8, hx8⟩ : ∃ x, l[Int.toNat r2]? = some x := ⟨_, List.getElem?_eq_getElem (by first | omega | (simp; done) | (simp; omega))⟩
  refine CH.idx hτ (dS x8) (rows := (l.map dS)) (n := r2) (sz := 1) (by kernel_rfl) (by kernel_rfl) (by first | omega | (simp; done) | (simp; omega)) (by rw [List.getElem?_map, hx8]; rfl) (by kernel_rfl) ?_
  refine go 2 ?_
  refine ek ⟨[(4, .e (.c (.d (.v (.string x8)))))], [(0, some (.box [.k 0 (.sl (bs.map dB)), .d (.v (.int .i64 i5)), .d (.v (.int .i64 h6))]))], 208⟩ ?_
  refine X.ret ?_
  exact ⟨trivial, _, _, ⟨x8, i5, h6, List.mem_of_getElem? ‹_›, (by omega), rfl, rfl⟩, mkr⟩
 obtain ⟨_, _, ⟨r0, i1, h1, h1_, h2_, rfl, rfl⟩, hf⟩ := key
 exact ⟨r0, i1, h1, h1_, h2_, hf⟩

theorem s_l1Name (bs : List Int) (i0 : Int) (h0 : Int) (hl : bs.length ≤ 4611686018427387904) (hi : 0 ≤ i0 ∧ i0 ≤ bs.length)  : ∃ r0 : ByteArray, ∃ i1 : Int, ∃ h1 : Int, (SmS r0) ∧ (0 ≤ i1 ∧ i1 ≤ bs.length) ∧ Fn Try.prog 186 [.pt 0 0 0] (lookH [(0, some (.box [.k 0 (.sl (bs.map dB)), .k 1 (.v (.int .i64 i0)), .k 2 (.v (.int .i64 h0))]))]) (.e (.c (.d (.v (.string r0))))) (lookH [(0, some (.box [.k 0 (.sl (bs.map dB)), .d (.v (.int .i64 i1)), .d (.v (.int .i64 h1))]))]) := by
 have key : ∃ x' h', ((fun x' h' => ∃ r0 : ByteArray, ∃ i1 : Int, ∃ h1 : Int, (SmS r0) ∧ (0 ≤ i1 ∧ i1 ≤ bs.length) ∧ x' = .e (.c (.d (.v (.string r0)))) ∧ h' = [(0, some (.box [.k 0 (.sl (bs.map dB)), .d (.v (.int .i64 i1)), .d (.v (.int .i64 h1))]))])) x' h' ∧ Fn Try.prog 186 [.pt 0 0 0] (lookH [(0, some (.box [.k 0 (.sl (bs.map dB)), .k 1 (.v (.int .i64 i0)), .k 2 (.v (.int .i64 h0))]))]) x' (lookH h') := by
  refine Fn.bodyX (N := 6) hτ Try.func186 rfl rfl rfl rfl ?_
  refine sk ⟨[(0, .pt 0 0 0)], [(0, some (.box [.k 0 (.sl (bs.map dB)), .d (.v (.int .i64 i0)), .d (.v (.int .i64 h0))]))], 80⟩ ?_
  refine X.seq (rs 2 ?_)
  obtain ⟨r1, i4, h5, hr3, hi6, hf2⟩ := s_l1Str bs i0 h0 (by first | assumption | omega) (by omega) ([(⟨#[97]⟩ : ByteArray), (⟨#[98]⟩ : ByteArray), (⟨#[99]⟩ : ByteArray), (⟨#[100]⟩ : ByteArray), (⟨#[101]⟩ : ByteArray), (⟨#[97, 49]⟩ : ByteArray)] : List ByteArray) (by first | omega | (simp; done) | (simp; omega))
  have hm := hr3
  refine CH.call hf2 Try.func185 ⟨rfl, rfl⟩ [(0, 0)] (by kernel_rfl) (by kernel_rfl) (by kernel_rfl) (by kernel_rfl) ?_
  refine go 1 ?_
  refine ek ⟨[(2, .e (.c (.d (.v (.string r1)))))], [(0, some (.box [.k 0 (.sl (bs.map dB)), .d (.v (.int .i64 i4)), .d (.v (.int .i64 h5))]))], 144⟩ ?_
  refine X.ret ?_
  exact ⟨trivial, _, _, ⟨r1, i4, h5, mem_small hm (by kernel_rfl), (by omega), rfl, rfl⟩, mkr⟩
 obtain ⟨_, _, ⟨r0, i1, h1, h1_, h2_, rfl, rfl⟩, hf⟩ := key
 exact ⟨r0, i1, h1, h1_, h2_, hf⟩

theorem s_l1Names (bs : List Int) (i0 : Int) (h0 : Int) (hl : bs.length ≤ 4611686018427387904) (hi : 0 ≤ i0 ∧ i0 ≤ bs.length)  : ∃ r0 : List ByteArray, ∃ i1 : Int, ∃ h1 : Int, (r0.length ≤ 5 ∧ ∀ s, s ∈ r0 → SmS s) ∧ (0 ≤ i1 ∧ i1 ≤ bs.length) ∧ Fn Try.prog 184 [.pt 0 0 0] (lookH [(0, some (.box [.k 0 (.sl (bs.map dB)), .k 1 (.v (.int .i64 i0)), .k 2 (.v (.int .i64 h0))]))]) (rV 64) (lookH [(0, some (.box [.k 0 (.sl (bs.map dB)), .d (.v (.int .i64 i1)), .d (.v (.int .i64 h1))])), (64, some (.row 1 9 (r0.map dS) false true))]) := by
 have key : ∃ x' h', ((fun x' h' => ∃ r0 : List ByteArray, ∃ i1 : Int, ∃ h1 : Int, (r0.length ≤ 5 ∧ ∀ s, s ∈ r0 → SmS s) ∧ (0 ≤ i1 ∧ i1 ≤ bs.length) ∧ x' = rV 64 ∧ h' = [(0, some (.box [.k 0 (.sl (bs.map dB)), .d (.v (.int .i64 i1)), .d (.v (.int .i64 h1))])), (64, some (.row 1 9 (r0.map dS) false true))])) x' h' ∧ Fn Try.prog 184 [.pt 0 0 0] (lookH [(0, some (.box [.k 0 (.sl (bs.map dB)), .k 1 (.v (.int .i64 i0)), .k 2 (.v (.int .i64 h0))]))]) x' (lookH h') := by
  refine Fn.bodyX (N := 21) hτ Try.func184 rfl rfl rfl rfl ?_
  refine sk ⟨[(0, .pt 0 0 0)], [(0, some (.box [.k 0 (.sl (bs.map dB)), .d (.v (.int .i64 i0)), .d (.v (.int .i64 h0))]))], 80⟩ ?_
  refine sk ⟨[(0, .pt 0 0 0), (3, rV 80)], [(0, some (.box [.k 0 (.sl (bs.map dB)), .d (.v (.int .i64 i0)), .d (.v (.int .i64 h0))])), (80, some (.row 1 9 [] false true))], 112⟩ ?_
  refine X.seq ?_
  refine sk ⟨[(0, .pt 0 0 0), (3, rV 80), (4, iV 0)], [(0, some (.box [.k 0 (.sl (bs.map dB)), .d (.v (.int .i64 i0)), .d (.v (.int .i64 h0))])), (80, some (.row 1 9 [] false true))], 128⟩ ?_
  refine X.block ?_
  -- 3: c0_1 : Int, c0_2 : Int, Lv3 : List ByteArray, v4 : Int
  refine X.loop (σ := { g : Int × Int × (List ByteArray) × Int // (fun (c0_1 : Int) (c0_2 : Int) (Lv3 : List ByteArray) (v4 : Int) => (0 ≤ c0_1 ∧ c0_1 ≤ bs.length) ∧ (0 ≤ v4 ∧ v4 ≤ 5 ∧ Lv3.length ≤ v4 ∧ ∀ s, s ∈ Lv3 → SmS s)) g.1 g.2.1 g.2.2.1 g.2.2.2 }) (fun g => (fun (c0_1 : Int) (c0_2 : Int) (Lv3 : List ByteArray) (v4 : Int) => ⟨[(0, .pt 0 0 0), (3, rV 80), (4, iV v4)], [(0, some (.box [.k 0 (.sl (bs.map dB)), .d (.v (.int .i64 c0_1)), .d (.v (.int .i64 c0_2))])), (80, some (.row 1 9 (Lv3.map dS) false true))], 128⟩) g.1.1 g.1.2.1 g.1.2.2.1 g.1.2.2.2) (fun g => (fun (c0_1 : Int) (c0_2 : Int) (Lv3 : List ByteArray) (v4 : Int) => (5 - v4).toNat) g.1.1 g.1.2.1 g.1.2.2.1 g.1.2.2.2) ⟨(i0, h0, [], 0), ⟨by first | omega | (dsimp only; omega), ⟨by first | omega | (dsimp only; omega), by simp, by simp, all_nil⟩⟩⟩ (Wk.less (by kernel_rfl)) (fun g => ?_)
  obtain ⟨⟨c0_1, c0_2, Lv3, v4⟩, hg2⟩ := g
  have hg2 : (0 ≤ c0_1 ∧ c0_1 ≤ bs.length) ∧ (0 ≤ v4 ∧ v4 ≤ 5 ∧ Lv3.length ≤ v4 ∧ ∀ s, s ∈ Lv3 → SmS s) := hg2
  obtain ⟨⟨_, _⟩, ⟨_, _, _, hA⟩⟩ := hg2
  refine X.seq ?_
  refine sk ⟨[(0, .pt 0 0 0), (3, rV 80), (4, iV v4), (7, bV (decide ((v4 : Int) < 5)))], [(0, some (.box [.k 0 (.sl (bs.map dB)), .d (.v (.int .i64 c0_1)), .d (.v (.int .i64 c0_2))])), (80, some (.row 1 9 (Lv3.map dS) false true))], 160⟩ ?_
  refine if_ (b := decide ((v4 : Int) < 5)) (fun hb3 => ?_) (fun hb3 => ?_)
  ·replace hb3 := of_decide_eq_true (hb3)
   refine X.skip ?_
   refine X.seq ?_
   refine X.block ?_
   refine X.seq (rs 1 ?_)
   obtain ⟨r4, i7, h8, hr6, hi9, hf5⟩ := s_l1Once bs c0_1 c0_2 (by first | assumption | omega) (by omega) 3
   refine CH.call hf5 Try.func44 ⟨rfl, rfl⟩ [(0, 0)] (by kernel_rfl) (by kernel_rfl) (by kernel_rfl) (by kernel_rfl) ?_
   refine go 1 ?_
   refine ek ⟨[(0, .pt 0 0 0), (3, rV 80), (4, iV v4), (12, bV (!r4))], [(0, some (.box [.k 0 (.sl (bs.map dB)), .d (.v (.int .i64 i7)), .d (.v (.int .i64 h8))])), (80, some (.row 1 9 (Lv3.map dS) false true))], 208⟩ ?_
   refine if_ (b := !r4) (fun hb10 => ?_) (fun hb10 => ?_)
   ·replace hb10 := bnot_yes (hb10)
    refine rs 3 ?_
    refine CH.idxR hτ (rows := (([(⟨#[97]⟩ : ByteArray), (⟨#[98]⟩ : ByteArray), (⟨#[99]⟩ : ByteArray), (⟨#[100]⟩ : ByteArray), (⟨#[101]⟩ : ByteArray)] : List ByteArray).map dS)) (n := v4) (b := 224) (by kernel_rfl) (by kernel_rfl) (by first | omega | (simp; done) | (simp; omega)) (by simp only [List.length_map, List.length_set]; first | omega | (simp; done) | (simp; omega)) (by kernel_rfl) ?_
    obtain ⟨x11, hx11⟩ : ∃ x, ([(⟨#[97]⟩ : ByteArray), (⟨#[98]⟩ : ByteArray), (⟨#[99]⟩ : ByteArray), (⟨#[100]⟩ : ByteArray), (⟨#[101]⟩ : ByteArray)] : List ByteArray)[Int.toNat v4]? = some x := ⟨_, List.getElem?_eq_getElem (by first | omega | (simp; done) | (simp; omega))⟩
    refine CH.row hτ (dS x11) (by kernel_rfl) (by kernel_rfl) (by rw [List.getElem?_map, hx11]; rfl) (by kernel_rfl) ?_
    refine go 1 ?_
    have el12 : (Lv3.map dS).length = Lv3.length := List.length_map ..
    have el13 : (([x11] : List ByteArray).map dS).length = ([x11] : List ByteArray).length := List.length_map ..
    have el14 : ([x11] : List ByteArray).length = 1 := rfl
    refine CH.app hτ (rows := (Lv3.map dS)) (rows2 := (([x11] : List ByteArray).map dS)) (sz := 1) (bys := 16) true (by kernel_rfl) (by kernel_rfl) (fun _ => flat_d dS (fun x => rfl)) (flat_ok (f := dS) (fun x => rfl)) (by simp only [List.length_map] <;> (first | done | omega | (simp; done) | (simp; omega))) (by kernel_rfl) ?_
    refine go 1 ?_
    refine CH.endk ⟨[(0, .pt 0 0 0), (3, rV 304), (4, iV v4)], [(0, some (.box [.k 0 (.sl (bs.map dB)), .d (.v (.int .i64 i7)), .d (.v (.int .i64 h8))])), (304, some (.row 1 9 ((Lv3.map dS) ++ (([x11] : List ByteArray).map dS)) false true))], 336⟩ (by kernel_rfl) (by kernel_rfl) (s2 := ⟨[(0, .pt 0 0 0), (3, rV 304), (4, iV v4)], [(0, some (.box [.k 0 (.sl (bs.map dB)), .d (.v (.int .i64 i7)), .d (.v (.int .i64 h8))])), (304, some (.row 1 9 ((Lv3 ++ ([x11] : List ByteArray)).map dS) false true))], 336⟩) (congrArg (fun z : List (List D) => (⟨[(0, .pt 0 0 0), (3, rV 304), (4, iV v4)], [(0, some (.box [.k 0 (.sl (bs.map dB)), .d (.v (.int .i64 i7)), .d (.v (.int .i64 h8))])), (304, some (.row 1 9 z false true))], 336⟩ : St)) (show (Lv3.map dS) ++ (([x11] : List ByteArray).map dS) = ((Lv3 ++ ([x11] : List ByteArray)).map dS) from List.map_append.symm)) ?_
    refine X.rk ⟨[(0, .pt 0 0 0), (3, rV 304), (4, iV (wrap64 (v4 + 1)))], [(0, some (.box [.k 0 (.sl (bs.map dB)), .d (.v (.int .i64 i7)), .d (.v (.int .i64 h8))])), (304, some (.row 1 9 ((Lv3 ++ ([x11] : List ByteArray)).map dS) false true))], 384⟩ hτ hmix (by kernel_rfl) (by kernel_rfl) (s2 := ⟨[(0, .pt 0 0 0), (3, rV 304), (4, iV (v4 + 1))], [(0, some (.box [.k 0 (.sl (bs.map dB)), .d (.v (.int .i64 i7)), .d (.v (.int .i64 h8))])), (304, some (.row 1 9 ((Lv3 ++ ([x11] : List ByteArray)).map dS) false true))], 384⟩) (congrArg (fun z : Int => (⟨[(0, .pt 0 0 0), (3, rV 304), (4, iV z)], [(0, some (.box [.k 0 (.sl (bs.map dB)), .d (.v (.int .i64 i7)), .d (.v (.int .i64 h8))])), (304, some (.row 1 9 ((Lv3 ++ ([x11] : List ByteArray)).map dS) false true))], 384⟩ : St)) (show wrap64 (v4 + 1) = (v4 + 1) by rw [w64 (n := (v4 + 1)) (by omega) (by omega)])) ?_
    refine ⟨⟨(i7, h8, (Lv3 ++ ([x11] : List ByteArray)), (v4 + 1)), ⟨by first | omega | (dsimp only; omega), ⟨by first | omega | (dsimp only; omega), by first | omega | (dsimp only; omega), by simp only [List.length_append, List.length_cons, List.length_nil]; (first | omega | (dsimp only; omega)), all_app hA (all_one (mem_small (List.mem_of_getElem? ‹_›) (by kernel_rfl)))⟩⟩⟩, by first | exact rfl | omega | (dsimp only; omega) | (simp only [List.length_append, List.length_cons, List.length_nil, List.length_set]; omega) | (simp; done) | (simp; omega), Wk.mk' [(80, 304)] (by kernel_rfl) (by kernel_rfl) (by kernel_rfl)⟩
   ·replace hb10 := bnot_no (hb10)
    refine X.skip ?_
    refine X.rk ⟨[(0, .pt 0 0 0), (3, rV 80), (4, iV (wrap64 (v4 + 1)))], [(0, some (.box [.k 0 (.sl (bs.map dB)), .d (.v (.int .i64 i7)), .d (.v (.int .i64 h8))])), (80, some (.row 1 9 (Lv3.map dS) false true))], 256⟩ hτ hmix (by kernel_rfl) (by kernel_rfl) (s2 := ⟨[(0, .pt 0 0 0), (3, rV 80), (4, iV (v4 + 1))], [(0, some (.box [.k 0 (.sl (bs.map dB)), .d (.v (.int .i64 i7)), .d (.v (.int .i64 h8))])), (80, some (.row 1 9 (Lv3.map dS) false true))], 256⟩) (congrArg (fun z : Int => (⟨[(0, .pt 0 0 0), (3, rV 80), (4, iV z)], [(0, some (.box [.k 0 (.sl (bs.map dB)), .d (.v (.int .i64 i7)), .d (.v (.int .i64 h8))])), (80, some (.row 1 9 (Lv3.map dS) false true))], 256⟩ : St)) (show wrap64 (v4 + 1) = (v4 + 1) by rw [w64 (n := (v4 + 1)) (by omega) (by omega)])) ?_
    refine ⟨⟨(i7, h8, Lv3, (v4 + 1)), ⟨by first | omega | (dsimp only; omega), ⟨by first | omega | (dsimp only; omega), by first | omega | (dsimp only; omega), by first | omega | (dsimp only; omega), hA⟩⟩⟩, by first | exact rfl | omega | (dsimp only; omega) | (simp only [List.length_append, List.length_cons, List.length_nil, List.length_set]; omega) | (simp; done) | (simp; omega), Wk.mk' [(80, 80)] (by kernel_rfl) (by kernel_rfl) (by kernel_rfl)⟩
  ·replace hb3 := of_decide_eq_false (hb3)
   refine X.exit ?_
   refine sk ⟨[(2, rV 80)], [(0, some (.box [.k 0 (.sl (bs.map dB)), .d (.v (.int .i64 c0_1)), .d (.v (.int .i64 c0_2))])), (80, some (.row 1 9 (Lv3.map dS) false true))], 192⟩ ?_
   refine X.ret ?_
   exact ⟨trivial, _, _, ⟨Lv3, c0_1, c0_2, ⟨by omega, hA⟩, (by omega), rfl, rfl⟩, .inl (Ret.mk' [(64, 80)] (by kernel_rfl) (by kernel_rfl) (by kernel_rfl))⟩
 obtain ⟨_, _, ⟨r0, i1, h1, h1_, h2_, rfl, rfl⟩, hf⟩ := key
 exact ⟨r0, i1, h1, h1_, h2_, hf⟩

theorem s_l5Tx (bs : List Int) (i0 : Int) (h0 : Int) (hl : bs.length ≤ 4611686018427387904) (hi : 0 ≤ i0 ∧ i0 ≤ bs.length)  : ∃ r0 : S35, ∃ i1 : Int, ∃ h1 : Int, (Sm35 r0) ∧ (0 ≤ i1 ∧ i1 ≤ bs.length) ∧ Fn Try.prog 160 [.pt 0 0 0] (lookH [(0, some (.box [.k 0 (.sl (bs.map dB)), .k 1 (.v (.int .i64 i0)), .k 2 (.v (.int .i64 h0))]))]) (.e (.agg [.d (.v (.int .i64 r0.f0)), .d (.v (.string r0.f1)), .d (.v (.string r0.f2)), .d (.v (.int .i64 r0.f3)), .d (.v (.int .i64 r0.f4))])) (lookH [(0, some (.box [.k 0 (.sl (bs.map dB)), .d (.v (.int .i64 i1)), .d (.v (.int .i64 h1))]))]) := by
 have key : ∃ x' h', ((fun x' h' => ∃ r0 : S35, ∃ i1 : Int, ∃ h1 : Int, (Sm35 r0) ∧ (0 ≤ i1 ∧ i1 ≤ bs.length) ∧ x' = .e (.agg [.d (.v (.int .i64 r0.f0)), .d (.v (.string r0.f1)), .d (.v (.string r0.f2)), .d (.v (.int .i64 r0.f3)), .d (.v (.int .i64 r0.f4))]) ∧ h' = [(0, some (.box [.k 0 (.sl (bs.map dB)), .d (.v (.int .i64 i1)), .d (.v (.int .i64 h1))]))])) x' h' ∧ Fn Try.prog 160 [.pt 0 0 0] (lookH [(0, some (.box [.k 0 (.sl (bs.map dB)), .k 1 (.v (.int .i64 i0)), .k 2 (.v (.int .i64 h0))]))]) x' (lookH h') := by
  refine Fn.bodyX (N := 22) hτ Try.func160 rfl rfl rfl rfl ?_
  refine sk ⟨[(0, .pt 0 0 0), (2, .pt 64 0 0)], [(0, some (.box [.k 0 (.sl (bs.map dB)), .d (.v (.int .i64 i0)), .d (.v (.int .i64 h0))])), (64, some (.box [.d (.v (.int .i64 0)), .d (.v (.string (⟨#[]⟩ : ByteArray))), .d (.v (.string (⟨#[]⟩ : ByteArray))), .d (.v (.int .i64 0)), .d (.v (.int .i64 0))]))], 80⟩ ?_
  refine X.seq (rs 1 ?_)
  obtain ⟨r1, i4, h5, hr3, hi6, hf2⟩ := s_l1Below bs i0 h0 (by first | assumption | omega) (by omega) 3
  obtain ⟨_, _⟩ := hr3
  refine CH.call hf2 Try.func108 ⟨rfl, rfl⟩ [(0, 0)] (by kernel_rfl) (by kernel_rfl) (by kernel_rfl) (by kernel_rfl) ?_
  refine go 2 ?_
  obtain ⟨r7, i10, h11, hr9, hi12, hf8⟩ := s_l1Name bs i4 h5 (by first | assumption | omega) (by omega)
  have hs := hr9
  refine CH.call hf8 Try.func186 ⟨rfl, rfl⟩ [(0, 0)] (by kernel_rfl) (by kernel_rfl) (by kernel_rfl) (by kernel_rfl) ?_
  refine go 2 ?_
  obtain ⟨r13, i16, h17, hr15, hi18, hf14⟩ := s_l1Int bs i10 h11 (by first | assumption | omega) (by omega) ([1, 5, 10, 3, 200] : List Int) (by first | omega | (simp; done) | (simp; omega))
  have hmi := hr15
  refine CH.call hf14 Try.func109 ⟨rfl, rfl⟩ [(0, 0)] (by kernel_rfl) (by kernel_rfl) (by kernel_rfl) (by kernel_rfl) ?_
  refine go 1 ?_
  obtain ⟨r19, i22, h23, hr21, hi24, hf20⟩ := s_l1Below bs i16 h17 (by first | assumption | omega) (by omega) 4
  obtain ⟨_, _⟩ := hr21
  refine CH.call hf20 Try.func108 ⟨rfl, rfl⟩ [(0, 0)] (by kernel_rfl) (by kernel_rfl) (by kernel_rfl) (by kernel_rfl) ?_
  refine go 3 ?_
  refine CH.endk ⟨[(0, .pt 0 0 0), (2, .pt 64 0 0), (3, .pt 256 0 0)], [(0, some (.box [.k 0 (.sl (bs.map dB)), .d (.v (.int .i64 i22)), .d (.v (.int .i64 h23))])), (64, some (.box [.d (.v (.int .i64 0)), .d (.v (.string (⟨#[]⟩ : ByteArray))), .d (.v (.string (⟨#[]⟩ : ByteArray))), .d (.v (.int .i64 0)), .d (.v (.int .i64 0))])), (256, some (.box [.d (.v (.int .i64 (wrap64 (1 + r1)))), .d (.v (.string r7)), .d (.v (.string (⟨#[]⟩ : ByteArray))), .d (.v (.int .i64 r13)), .d (.v (.int .i64 r19))]))], 288⟩ (by kernel_rfl) (by kernel_rfl) (s2 := ⟨[(0, .pt 0 0 0), (2, .pt 64 0 0), (3, .pt 256 0 0)], [(0, some (.box [.k 0 (.sl (bs.map dB)), .d (.v (.int .i64 i22)), .d (.v (.int .i64 h23))])), (64, some (.box [.d (.v (.int .i64 0)), .d (.v (.string (⟨#[]⟩ : ByteArray))), .d (.v (.string (⟨#[]⟩ : ByteArray))), .d (.v (.int .i64 0)), .d (.v (.int .i64 0))])), (256, some (.box [.d (.v (.int .i64 (1 + r1))), .d (.v (.string r7)), .d (.v (.string (⟨#[]⟩ : ByteArray))), .d (.v (.int .i64 r13)), .d (.v (.int .i64 r19))]))], 288⟩) (congrArg (fun z : Int => (⟨[(0, .pt 0 0 0), (2, .pt 64 0 0), (3, .pt 256 0 0)], [(0, some (.box [.k 0 (.sl (bs.map dB)), .d (.v (.int .i64 i22)), .d (.v (.int .i64 h23))])), (64, some (.box [.d (.v (.int .i64 0)), .d (.v (.string (⟨#[]⟩ : ByteArray))), .d (.v (.string (⟨#[]⟩ : ByteArray))), .d (.v (.int .i64 0)), .d (.v (.int .i64 0))])), (256, some (.box [.d (.v (.int .i64 z)), .d (.v (.string r7)), .d (.v (.string (⟨#[]⟩ : ByteArray))), .d (.v (.int .i64 r13)), .d (.v (.int .i64 r19))]))], 288⟩ : St)) (show wrap64 (1 + r1) = (1 + r1) by rw [w64 (n := (1 + r1)) (by omega) (by omega)])) ?_
  refine X.seq ?_
  refine X.seq ?_
  have hs1 := hs
  refine rk ⟨[(0, .pt 0 0 0), (2, .pt 64 0 0), (3, .pt 256 0 0), (17, bV ((1 + r1) == 1))], [(0, some (.box [.k 0 (.sl (bs.map dB)), .d (.v (.int .i64 i22)), .d (.v (.int .i64 h23))])), (64, some (.box [.d (.v (.int .i64 0)), .d (.v (.string (⟨#[]⟩ : ByteArray))), .d (.v (.string (⟨#[]⟩ : ByteArray))), .d (.v (.int .i64 0)), .d (.v (.int .i64 0))])), (256, some (.box [.d (.v (.int .i64 (1 + r1))), .d (.v (.string r7)), .d (.v (.string (⟨#[]⟩ : ByteArray))), .d (.v (.int .i64 r13)), .d (.v (.int .i64 r19))]))], 336⟩ ?_
  refine if_ (b := ((1 + r1) == 1)) (fun hb25 => ?_) (fun hb25 => ?_)
  ·replace hb25 := eq_of_beq (hb25)
   refine rs 1 ?_
   obtain ⟨r26, i29, h30, hr28, hi31, hf27⟩ := s_l1Name bs i22 h23 (by first | assumption | omega) (by omega)
   have hs := hr28
   refine CH.call hf27 Try.func186 ⟨rfl, rfl⟩ [(0, 0)] (by kernel_rfl) (by kernel_rfl) (by kernel_rfl) (by kernel_rfl) ?_
   refine go 2 ?_
   refine ek ⟨[(2, .pt 64 0 0), (3, .pt 256 0 0)], [(0, some (.box [.k 0 (.sl (bs.map dB)), .d (.v (.int .i64 i29)), .d (.v (.int .i64 h30))])), (64, some (.box [.d (.v (.int .i64 0)), .d (.v (.string (⟨#[]⟩ : ByteArray))), .d (.v (.string (⟨#[]⟩ : ByteArray))), .d (.v (.int .i64 0)), .d (.v (.int .i64 0))])), (256, some (.box [.d (.v (.int .i64 (1 + r1))), .d (.v (.string r7)), .d (.v (.string r26)), .d (.v (.int .i64 r13)), .d (.v (.int .i64 r19))]))], 400⟩ ?_
   refine sk ⟨[(2, .pt 64 0 0)], [(0, some (.box [.k 0 (.sl (bs.map dB)), .d (.v (.int .i64 i29)), .d (.v (.int .i64 h30))])), (64, some (.box [.d (.v (.int .i64 (1 + r1))), .d (.v (.string r7)), .d (.v (.string r26)), .d (.v (.int .i64 r13)), .d (.v (.int .i64 r19))]))], 432⟩ ?_
   refine X.ret ?_
   exact ⟨trivial, _, _, ⟨(⟨(1 + r1), r7, r26, r13, r19⟩ : S35), i29, h30, ⟨hs1, hs⟩, (by omega), rfl, rfl⟩, mkr⟩
  ·replace hb25 := beq_eq_false_iff_ne.1 (hb25)
   refine X.skip ?_
   refine sk ⟨[(2, .pt 64 0 0)], [(0, some (.box [.k 0 (.sl (bs.map dB)), .d (.v (.int .i64 i22)), .d (.v (.int .i64 h23))])), (64, some (.box [.d (.v (.int .i64 (1 + r1))), .d (.v (.string r7)), .d (.v (.string (⟨#[]⟩ : ByteArray))), .d (.v (.int .i64 r13)), .d (.v (.int .i64 r19))]))], 368⟩ ?_
   refine X.ret ?_
   exact ⟨trivial, _, _, ⟨(⟨(1 + r1), r7, (⟨#[]⟩ : ByteArray), r13, r19⟩ : S35), i22, h23, ⟨hs, by show (0 : Nat) ≤ 2000000; omega⟩, (by omega), rfl, rfl⟩, mkr⟩
 obtain ⟨_, _, ⟨r0, i1, h1, h1_, h2_, rfl, rfl⟩, hf⟩ := key
 exact ⟨r0, i1, h1, h1_, h2_, hf⟩

theorem s_l1NameAny (bs : List Int) (i0 : Int) (h0 : Int) (hl : bs.length ≤ 4611686018427387904) (hi : 0 ≤ i0 ∧ i0 ≤ bs.length)  : ∃ r0 : ByteArray, ∃ i1 : Int, ∃ h1 : Int, (SmS r0) ∧ (0 ≤ i1 ∧ i1 ≤ bs.length) ∧ Fn Try.prog 158 [.pt 0 0 0] (lookH [(0, some (.box [.k 0 (.sl (bs.map dB)), .k 1 (.v (.int .i64 i0)), .k 2 (.v (.int .i64 h0))]))]) (.e (.c (.d (.v (.string r0))))) (lookH [(0, some (.box [.k 0 (.sl (bs.map dB)), .d (.v (.int .i64 i1)), .d (.v (.int .i64 h1))]))]) := by
 have key : ∃ x' h', ((fun x' h' => ∃ r0 : ByteArray, ∃ i1 : Int, ∃ h1 : Int, (SmS r0) ∧ (0 ≤ i1 ∧ i1 ≤ bs.length) ∧ x' = .e (.c (.d (.v (.string r0)))) ∧ h' = [(0, some (.box [.k 0 (.sl (bs.map dB)), .d (.v (.int .i64 i1)), .d (.v (.int .i64 h1))]))])) x' h' ∧ Fn Try.prog 158 [.pt 0 0 0] (lookH [(0, some (.box [.k 0 (.sl (bs.map dB)), .k 1 (.v (.int .i64 i0)), .k 2 (.v (.int .i64 h0))]))]) x' (lookH h') := by
  refine Fn.bodyX (N := 10) hτ Try.func158 rfl rfl rfl rfl ?_
  refine sk ⟨[(0, .pt 0 0 0)], [(0, some (.box [.k 0 (.sl (bs.map dB)), .d (.v (.int .i64 i0)), .d (.v (.int .i64 h0))]))], 80⟩ ?_
  refine X.seq ?_
  refine X.seq (rs 1 ?_)
  obtain ⟨r1, i4, h5, hr3, hi6, hf2⟩ := s_l1Once bs i0 h0 (by first | assumption | omega) (by omega) 10
  refine CH.call hf2 Try.func44 ⟨rfl, rfl⟩ [(0, 0)] (by kernel_rfl) (by kernel_rfl) (by kernel_rfl) (by kernel_rfl) ?_
  refine ek ⟨[(0, .pt 0 0 0), (4, bV r1)], [(0, some (.box [.k 0 (.sl (bs.map dB)), .d (.v (.int .i64 i4)), .d (.v (.int .i64 h5))]))], 112⟩ ?_
  refine if_ (b := r1) (fun hb7 => ?_) (fun hb7 => ?_)
  ·refine X.seq (rs 2 ?_)
   obtain ⟨r8, i11, h12, hr10, hi13, hf9⟩ := s_l1Str bs i4 h5 (by first | assumption | omega) (by omega) ([(⟨#[]⟩ : ByteArray), (⟨#[65]⟩ : ByteArray), (⟨#[116, 111, 111, 108, 111, 110, 103, 57, 57]⟩ : ByteArray), (⟨#[97, 32, 98]⟩ : ByteArray), (⟨#[101, 105, 103, 104, 116, 108, 101, 116]⟩ : ByteArray)] : List ByteArray) (by first | omega | (simp; done) | (simp; omega))
   have hm := hr10
   refine CH.call hf9 Try.func185 ⟨rfl, rfl⟩ [(0, 0)] (by kernel_rfl) (by kernel_rfl) (by kernel_rfl) (by kernel_rfl) ?_
   refine go 1 ?_
   refine ek ⟨[(2, .e (.c (.d (.v (.string r8)))))], [(0, some (.box [.k 0 (.sl (bs.map dB)), .d (.v (.int .i64 i11)), .d (.v (.int .i64 h12))]))], 176⟩ ?_
   refine X.ret ?_
   exact ⟨trivial, _, _, ⟨r8, i11, h12, mem_small hm (by kernel_rfl), (by omega), rfl, rfl⟩, mkr⟩
  ·refine X.skip ?_
   refine X.seq (rs 1 ?_)
   obtain ⟨r14, i17, h18, hr16, hi19, hf15⟩ := s_l1Name bs i4 h5 (by first | assumption | omega) (by omega)
   have hs := hr16
   refine CH.call hf15 Try.func186 ⟨rfl, rfl⟩ [(0, 0)] (by kernel_rfl) (by kernel_rfl) (by kernel_rfl) (by kernel_rfl) ?_
   refine go 1 ?_
   refine ek ⟨[(2, .e (.c (.d (.v (.string r14)))))], [(0, some (.box [.k 0 (.sl (bs.map dB)), .d (.v (.int .i64 i17)), .d (.v (.int .i64 h18))]))], 160⟩ ?_
   refine X.ret ?_
   exact ⟨trivial, _, _, ⟨r14, i17, h18, hs, (by omega), rfl, rfl⟩, mkr⟩
 obtain ⟨_, _, ⟨r0, i1, h1, h1_, h2_, rfl, rfl⟩, hf⟩ := key
 exact ⟨r0, i1, h1, h1_, h2_, hf⟩

end Go.Proofs.Ytggmeldoecnkaaa.Av
