/-
A call through a function value; walks whose end is known beforehand (they may split on what no contract tells: is a slice nil?).
Conditions: none beside those that each theorem names.
-/
import Derived.Test.YtggmeldoecnkaaaAv21
import Derived.Lib.SliceRun
set_option linter.unusedVariables false
set_option linter.unusedSimpArgs false
namespace Go.Proofs.Ytggmeldoecnkaaa.Av
open Go.RowKit Go.Proofs.YtggmeldoecnkaaaW.PrintLast

section
variable {P : Program} {N : Nat} {o : Oper} {T : Tm} {H : Hp}
end
section
variable {c : Cn} {ops : Array Oper} {m : Cf} {K : List (Oper × Rec) → St → Prop} {τ : Ty}
end
/-! ### walks whose end is known beforehand -/
/-- For whom a U walks: P, N; its ends may differ from world to world. -/
def U (P : Program) (N : Nat) (x : Code) (R : Exit → St → Prop) (s : St) : Prop := ∀ κ w0 S, W ⟨P, N, κ, w0, S⟩ x R s
section
variable {P : Program} {N : Nat} {s : St} {R : Exit → St → Prop} {τ : Ty} {id : Nat} {ops : Array Oper} {draw : Bool}
theorem U.ofX {x : Code} (h : X P N x R s) : U P N x R s := fun κ w0 S hs a w hr => by
  obtain ⟨e, s', hk', hr', hw⟩ := h hs
  exact wp_mono (hw κ w0 S hs a w hr) fun e1 a' w' ⟨s1, q1, ⟨q2, q3⟩, q4⟩ => ⟨s1, q1, by rw [q2, q3]; exact hr', q4⟩
theorem U.mono {x : Code} {R' : Exit → St → Prop} (h : U P N x R s) (hq : ∀ e s, R e s → R' e s) : U P N x R' s := fun κ w0 S => W.mono (h κ w0 S) hq
theorem U.seq {x y : Code} (h : U P N x (thn (U P N y R) R) s) : U P N (.seq x y) R s := fun κ w0 S => W.seq (W.mono (h κ w0 S) fun e s hr => by
  cases e <;> first | exact hr | exact hr κ w0 S)
theorem U.block {x : Code} (h : U P N x (inB id R) s) : U P N (.block id x) R s := fun κ w0 S => W.block (h κ w0 S)
theorem U.skip (h : R .normal s) : U P N .skip R s := fun _ _ _ => W.skip h
theorem U.exit {i : Nat} (h : R (.exit i) s) : U P N (.exit i) R s := fun _ _ _ => W.exit h
theorem U.ret (h : R .ret s) : U P N .ret R s := fun _ _ _ => W.ret h
theorem U.cond {o : Operand} {b : Bool} {x y : Code} (hb : (evO s.tm o).bind sc = some (.bool b)) (h : U P N (if b then x else y) R s) : U P N (.cond o x y) R s := fun κ w0 S => W.cond hb (h κ w0 S)
theorem U.if_ {o : Operand} {b : Bool} {x y : Code} (hb : (evO s.tm o).bind sc = some (.bool b)) (h1 : b = true → U P N x R s) (h2 : b = false → U P N y R s) : U P N (.cond o x y) R s := by
  refine U.cond hb ?_
  cases b with
  | true => exact h1 rfl
  | false => exact h2 rfl
theorem U.ifT {o : Operand} {x y : Code} (hb : (evO s.tm o).bind sc = some (.bool true)) (h : U P N x R s) : U P N (.cond o x y) R s := U.cond hb h
theorem U.ifF {o : Operand} {x y : Code} (hb : (evO s.tm o).bind sc = some (.bool false)) (h : U P N y R s) : U P N (.cond o x y) R s := U.cond hb h
theorem U.ifN {o : Operand} {p q : Prop} {x y : Code} (hb : evO s.tm o = some (.bo p q)) (h1 : p → U P N x R s) (h2 : q → U P N y R s) : U P N (.cond o x y) R s := fun κ w0 S hs a w hr => by
  obtain ⟨ι, hr0⟩ := hr
  obtain ⟨b, e, hp, hq⟩ := evO_ok hr0 hb
  cases b with
  | true => exact wp_cond e (h1 (hp rfl) κ w0 S hs a w ⟨ι, hr0⟩)
  | false => exact wp_cond e (h2 (hq rfl) κ w0 S hs a w ⟨ι, hr0⟩)
theorem U.weak {x : Code} {s' : St} (h : Wk s s') (k : U P N x R s') : U P N x R s := fun κ w0 S => W.weak h (k κ w0 S)
theorem U.loop {σ : Type} (I : σ → St) (μ : σ → Nat) (g0 : σ) (h0 : Wk s (I g0)) {x : Code} (h : ∀ g, U P N x (thn (fun s' => ∃ g', μ g' < μ g ∧ Wk s' (I g')) R) (I g)) : U P N (.loop x) R s := fun κ w0 S => W.loop I μ g0 h0 fun g => h g κ w0 S
theorem U.rk (s1 : St) (hτ : Tys P τ) (hm : P.follows .mixedOrders = true) (e : regB τ N s ops draw = true) (h : lessL (nxt s ops.size (run τ N ops ops.size (st0 s ops))) s1 = lessR s1) {s2 : St} (h2 : s1 = s2) (k : R .normal s2) : U P N (.region id ops draw) R s :=
  U.ofX (X.rk s1 hτ hm e h h2 k)
theorem U.rs (n : Nat) (hτ : Tys P τ) (hm : P.follows .mixedOrders = true) (e : Nat.ble 64 s.nx = true) (k : CH (c0 P N) ops (fun rs s' => (draw = true → drOk ops rs = true) ∧ ∃ s1, lessL ⟨s'.T, s'.H, s.nx + 16 * ops.size⟩ s1 = lessR s1 ∧ R .normal s1) (run τ N ops n (st0 s ops))) : U P N (.region id ops draw) R s :=
  U.ofX (X.rs n hτ hm e k)
/-- A FUNCTION'S BODY, what it hands back known beforehand. -/
theorem Fn.bodyU {f : FuncId} {fn : Func} {code : Code} (hτ : Tys P τ) {args : List AV} {h0 h1 : List (Nat × Option Blk)} {x : AV} (hf : P.funcs[f]? = some fn) (hc : fn.body = some code) (hN : fn.ntmps = N) (hna : Nat.ble args.length N = true) (hok : okB ⟨numL 0 args, h0, 64⟩ 64 = true)
    (h : U P N code (fun e s' => fin_ e ∧ RetW τ fn.results.toList s' x h1) ⟨numL 0 args, h0, 64⟩) : Fn P f args (lookH h0) x (lookH h1) := by
  refine Fn.body hτ hf hc hN hna hok fun κ w0 S hs a w hr => ?_
  refine wp_mono (h κ w0 S hs a w hr) fun e1 a' w' ⟨s1, q1, ⟨q2, q3⟩, q4⟩ => ?_
  rcases q3 with q3 | ⟨s2, hwk, q3⟩
  · exact ⟨s1, q1, ⟨q2, q3⟩, q4⟩
  · exact ⟨s2, hwk.okB, ⟨q2, q3⟩, (hwk.rel q4).1⟩
end
end Go.Proofs.Ytggmeldoecnkaaa.Av
