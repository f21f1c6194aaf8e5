/-
Walks whose end is found on the way: from a state to one end, one state.
Conditions: none beside those that each theorem names.
-/
import Derived.Test.YtggmeldoecnkaaaAv19
set_option linter.unusedVariables false
set_option linter.unusedSimpArgs false
namespace Go.Proofs.Ytggmeldoecnkaaa.Av
open Go.RowKit Go.Proofs.YtggmeldoecnkaaaW.PrintLast

/-- For whom an X walks: P, N; all the rest is for all. -/
def X (P : Program) (N : Nat) (x : Code) (R : Exit → St → Prop) (s : St) : Prop := okB s s.nx = true → ∃ e s', okB s' s'.nx = true ∧ R e s' ∧ ∀ κ w0 S, W ⟨P, N, κ, w0, S⟩ x (fun e1 s1 => e1 = e ∧ s1 = s') s
section
variable {P : Program} {N : Nat} {s : St} {R : Exit → St → Prop} {τ : Ty} {id : Nat} {ops : Array Oper} {draw : Bool}
theorem X.seq {x y : Code} (h : X P N x (thn (X P N y R) R) s) : X P N (.seq x y) R s := fun hk => by
  obtain ⟨e, s', hk', hr, hw⟩ := h hk
  by_cases he : e = .normal
  · subst he
    obtain ⟨e2, s2, hk2, hr2, hw2⟩ := hr hk'
    refine ⟨e2, s2, hk2, hr2, fun κ w0 S => W.seq (W.mono (hw κ w0 S) fun e1 s1 ⟨h1, h2⟩ => ?_)⟩
    subst h1 h2
    exact hw2 κ w0 S
  · refine ⟨e, s', hk', ?_, fun κ w0 S => W.seq (W.mono (hw κ w0 S) fun e1 s1 ⟨h1, h2⟩ => ?_)⟩
    · cases e <;> first | exact absurd rfl he | exact hr
    · subst h1 h2
      cases e1 <;> first | exact absurd rfl he | exact ⟨rfl, rfl⟩
theorem X.block {x : Code} (h : X P N x (inB id R) s) : X P N (.block id x) R s := fun hk => by
  obtain ⟨e, s', hk', hr, hw⟩ := h hk
  by_cases he : e = .exit id
  · subst he
    refine ⟨.normal, s', hk', by simpa [inB] using hr, fun κ w0 S => W.block (W.mono (hw κ w0 S) fun e1 s1 ⟨h1, h2⟩ => ?_)⟩
    subst h1 h2
    simp [inB]
  · have hi : ∀ Q : Exit → St → Prop, ∀ s, inB id Q e s = Q e s := fun Q s => by
      cases e with
      | exit j =>
        have : Nat.beq j id = false := nbf fun hj => he (by rw [hj])
        simp [inB, this]
      | _ => rfl
    refine ⟨e, s', hk', by rw [hi] at hr; exact hr, fun κ w0 S => W.block (W.mono (hw κ w0 S) fun e1 s1 ⟨h1, h2⟩ => ?_)⟩
    subst h1 h2
    rw [hi]
    exact ⟨rfl, rfl⟩
theorem X.skip (h : R .normal s) : X P N .skip R s := fun hk => ⟨.normal, s, hk, h, fun _ _ _ => W.skip ⟨rfl, rfl⟩⟩
theorem X.exit {i : Nat} (h : R (.exit i) s) : X P N (.exit i) R s := fun hk => ⟨.exit i, s, hk, h, fun _ _ _ => W.exit ⟨rfl, rfl⟩⟩
theorem X.ret (h : R .ret s) : X P N .ret R s := fun hk => ⟨.ret, s, hk, h, fun _ _ _ => W.ret ⟨rfl, rfl⟩⟩
theorem X.cond {o : Operand} {b : Bool} {x y : Code} (hb : (evO s.tm o).bind sc = some (.bool b)) (h : X P N (if b then x else y) R s) : X P N (.cond o x y) R s := fun hk => by
  obtain ⟨e, s', hk', hr, hw⟩ := h hk
  exact ⟨e, s', hk', hr, fun κ w0 S => W.cond hb (hw κ w0 S)⟩
/-- Both ways. -/
theorem X.if_ {o : Operand} {b : Bool} {x y : Code} (hb : (evO s.tm o).bind sc = some (.bool b)) (h1 : b = true → X P N x R s) (h2 : b = false → X P N y R s) : X P N (.cond o x y) R s := by
  refine X.cond hb ?_
  cases b with
  | true => exact h1 rfl
  | false => exact h2 rfl
theorem X.mono {x : Code} {R' : Exit → St → Prop} (h : X P N x R s) (hq : ∀ e s, R e s → R' e s) : X P N x R' s := fun hk => let ⟨e, s', hk', hr, hw⟩ := h hk; ⟨e, s', hk', hq _ _ hr, hw⟩
theorem X.weak {x : Code} {s' : St} (h : Wk s s') (k : X P N x R s') : X P N x R s := fun _ => let ⟨e, s1, hk', hr, hw⟩ := k h.okB; ⟨e, s1, hk', hr, fun κ w0 S => W.weak h (hw κ w0 S)⟩
theorem X.alt {x : Code} (t : Nat) (v0 v : AV) (e : look s.T t = some v0) (h : v0 = v) (k : X P N x R ⟨(t, v) :: s.T, s.H, s.nx⟩) : X P N x R s := fun hk => let ⟨e1, s1, hk', hr, hw⟩ := k (St.alt_ok e h hk); ⟨e1, s1, hk', hr, fun κ w0 S => W.alt t v0 v e h (hw κ w0 S)⟩
/-- How a loop ends. -/
inductive Out (P : Program) (N : Nat) {σ : Type} (I : σ → St) (x : Code) : σ → Exit → St → Prop
  | stop {g : σ} {e : Exit} {s : St} (he : e ≠ .normal) (h : ∀ κ w0 S, W ⟨P, N, κ, w0, S⟩ x (fun e1 s1 => e1 = e ∧ s1 = s) (I g)) : Out P N I x g e s
  | next {g g' : σ} {e : Exit} {s s1 : St} (h : ∀ κ w0 S, W ⟨P, N, κ, w0, S⟩ x (fun e1 s2 => e1 = .normal ∧ s2 = s1) (I g)) (hk : Wk s1 (I g')) (hn : Out P N I x g' e s) : Out P N I x g e s
theorem Out.ofR {σ : Type} (I : σ → St) (μ : σ → Nat) {x : Code} (h : ∀ g, X P N x (thn (fun s' => ∃ g', μ g' < μ g ∧ Wk s' (I g')) R) (I g)) : ∀ (n : Nat) (g : σ), okB (I g) (I g).nx = true → μ g < n → ∃ e s', okB s' s'.nx = true ∧ R e s' ∧ Out P N I x g e s' := by
  intro n
  induction n with
  | zero => intro g _ hg; omega
  | succ n ih =>
    intro g hk hg
    obtain ⟨e, s', hk', hr, hw⟩ := h g hk
    by_cases he : e = .normal
    · subst he
      obtain ⟨g', h1, h2⟩ := hr
      obtain ⟨e2, s2, h3, h4, h6⟩ := ih g' h2.okB (by omega)
      exact ⟨e2, s2, h3, h4, .next hw h2 h6⟩
    · refine ⟨e, s', hk', ?_, .stop he hw⟩
      cases e <;> first | exact absurd rfl he | exact hr
theorem Out.way {σ : Type} {I : σ → St} {x : Code} {g : σ} {e : Exit} {s' : St} (ho : Out P N I x g e s') : ∃ n : Nat, ∃ f : Nat → σ, f 0 = g ∧ e ≠ .normal ∧ (∀ i, i < n → ∃ s1, (∀ κ w0 S, W ⟨P, N, κ, w0, S⟩ x (fun e1 s2 => e1 = .normal ∧ s2 = s1) (I (f i))) ∧ Wk s1 (I (f (i + 1)))) ∧ ∀ κ w0 S, W ⟨P, N, κ, w0, S⟩ x (fun e1 s1 => e1 = e ∧ s1 = s') (I (f n)) := by
  induction ho with
  | stop he h => exact ⟨0, fun _ => _, rfl, he, fun i hi => by omega, h⟩
  | @next g1 g' _ _ s1 h1 h2 h3 ih =>
    obtain ⟨n, f, e0, e3, e1, e2⟩ := ih
    refine ⟨n + 1, fun i => match i with | 0 => g1 | i + 1 => f i, rfl, e3, fun i hi => ?_, e2⟩
    match i, hi with
    | 0, _ => exact ⟨s1, h1, by show Wk s1 (I (f 0)); rw [e0]; exact h2⟩
    | i + 1, hi => exact e1 i (by omega)
theorem X.loop {σ : Type} (I : σ → St) (μ : σ → Nat) (g0 : σ) (h0 : Wk s (I g0)) {x : Code} (h : ∀ g, X P N x (thn (fun s' => ∃ g', μ g' < μ g ∧ Wk s' (I g')) R) (I g)) : X P N (.loop x) R s := fun _ => by
  obtain ⟨e, s', hk', hr, ho⟩ := Out.ofR (R := R) I μ h (μ g0 + 1) g0 h0.okB (by omega)
  obtain ⟨n, f, e0, he, e1, e2⟩ := ho.way
  subst e0
  refine ⟨e, s', hk', hr, fun κ w0 S => W.loop (σ := { i : Nat // i ≤ n }) (fun i => I (f i.1)) (fun i => n - i.1) ⟨0, Nat.zero_le _⟩ h0 (fun i => ?_)⟩
  obtain ⟨i, hi⟩ := i
  by_cases hin : i = n
  · subst hin
    refine W.mono (e2 κ w0 S) fun e1 s1 ⟨h1, h2⟩ => ?_
    subst h1 h2
    cases e1 <;> first | exact absurd rfl he | exact ⟨rfl, rfl⟩
  · obtain ⟨s1, h1, h2⟩ := e1 i (by omega)
    refine W.mono (h1 κ w0 S) fun e1 s2 ⟨q1, q2⟩ => ?_
    subst q1 q2
    exact ⟨⟨i + 1, by omega⟩, by simp only; omega, h2⟩
/-- Whom a region's walk is for does not matter. -/
def c0 (P : Program) (N : Nat) : Cn := ⟨P, N, fun _ => undef, default, ⟨fun _ => False, fun _ => none, fun _ => True⟩⟩
theorem X.regs (hτ : Tys P τ) (hm : P.follows .mixedOrders = true) (e : Nat.ble 64 s.nx = true) (k : CH (c0 P N) ops (fun rs s' => (draw = true → drOk ops rs = true) ∧ R .normal ⟨s'.T, s'.H, s.nx + 16 * ops.size⟩) (run τ N ops ops.size (st0 s ops))) : X P N (.region id ops draw) R s := fun hok => by
  have k2 := CH.run (c := c0 P N) hτ (Nat.le_of_ble_eq_true e) ops.size k
  obtain ⟨rs, s', h1, h2, h3, h4, h5, h6⟩ := k2 (by simpa [Cf.id, st0] using hok)
  simp only [st0, List.reverse_nil, List.nil_append] at h5
  have h7 : okB s' (s.nx + 16 * ops.size) = true := by simpa [st0] using h3
  exact ⟨.normal, ⟨s'.T, s'.H, s.nx + 16 * ops.size⟩, h7, h6, fun κ w0 S => W.region hm e fun _ => ⟨rs, s', h1, h2, h3, h4, h5, rfl, rfl⟩⟩
theorem X.reg (hτ : Tys P τ) (hm : P.follows .mixedOrders = true) (e : (Nat.ble 64 s.nx && ((run τ N ops ops.size (st0 s ops)).l.isEmpty && (!draw || drOk ops (run τ N ops ops.size (st0 s ops)).rs.reverse))) = true)
    (k : R .normal (nxt s ops.size (run τ N ops ops.size (st0 s ops)))) : X P N (.region id ops draw) R s := by
  simp only [Bool.and_eq_true] at e
  refine X.regs hτ hm e.1 (CH.end_ (c := c0 P N) (Q := R) (s := s) (draw := draw) ?_ k)
  simp only [Bool.and_eq_true]
  exact e.2
theorem Cell.mp_id (c : Cell) : c.mp (rn []) = c := by cases c <;> rfl
theorem E.mp_id (x : E) : x.mp (rn []) = x := by
  cases x with
  | c x => exact congrArg E.c (Cell.mp_id x)
  | agg cs => exact congrArg E.agg (by rw [show Cell.mp (rn []) = id from funext Cell.mp_id]; simp)
theorem AV.mp_id (x : AV) : x.mp (rn []) = x := by
  cases x with
  | e x => exact congrArg AV.e (E.mp_id x)
  | pt b i o => rfl
  | fv f b => rfl
  | bo p q => rfl
  | ip r o => rfl
  | tup xs => exact congrArg AV.tup (by rw [show E.mp (rn []) = id from funext E.mp_id]; simp)
  | un => rfl
theorem Blk.mp_id (B : Blk) : B.mp (rn []) = B := by
  cases B with
  | box cs => exact congrArg Blk.box (by rw [show Cell.mp (rn []) = id from funext Cell.mp_id]; simp)
  | row wd e rows f nf => rfl
  | nst wd e co rows op => exact congrArg (Blk.nst wd e co rows) (by rw [show (fun p : Nat × Nat × Nat => (p.1, p.2.1, rn [] p.2.2)) = id from rfl]; simp)
/-- Less is told: the slots and blocks that are named. -/
def lessL (s s1 : St) : List (Option AV) × List (Option Blk) × Bool := (s1.T.map (fun p => (s.tm p.1).map (cvA (frzH s.hp s1.hp) p.2)), s1.H.map (fun p => cvO (frzH s.hp s1.hp) p.2 (frzH s.hp s1.hp p.1)), nodupB (s1.H.map (·.1)) && okB s1 s1.nx)
def lessR (s1 : St) : List (Option AV) × List (Option Blk) × Bool := (s1.T.map (fun p => some p.2), s1.H.map (·.2), true)
theorem Wk.less {s s1 : St} (h : lessL s s1 = lessR s1) : Wk s s1 := by
  simp only [lessL, lessR, Prod.mk.injEq, Bool.and_eq_true] at h
  have eB : ∀ o : Option Blk, o.map (Blk.mp (rn [])) = o := fun o => by cases o with | none => rfl | some B => simp [Blk.mp_id]
  have er : ∀ b, rn [] b = b := fun b => rfl
  have eU : upH [] s1 = s1.hp := by
    unfold upH
    simp only [eB, er]
    rw [show (fun p : Nat × Option Blk => (p.1, p.2)) = id from rfl, List.map_id]
    rfl
  refine Wk.mk' [] ?_ ?_ ?_
  · rw [eU]; simp only [AV.mp_id]; exact h.1
  · rw [eU]; simp only [eB, er]; exact h.2.1
  · simp only [Bool.and_eq_true]
    exact ⟨⟨h.2.2.1, rfl⟩, h.2.2.2⟩
def regB (τ : Ty) (N : Nat) (s : St) (ops : Array Oper) (draw : Bool) : Bool := Nat.ble 64 s.nx && ((run τ N ops ops.size (st0 s ops)).l.isEmpty && (!draw || drOk ops (run τ N ops ops.size (st0 s ops)).rs.reverse))
theorem RelS.less {c : Cn} {s s1 : St} (h : Wk s s1) {a : Act} {w : World} (hr : RelS c s a w) : RelS c s1 a w := (h.rel hr).1
theorem X.after {x : Code} {s1 : St} (h : X P N x (fun e s' => e = .normal ∧ Wk s' s1) s) (k : R .normal s1) : X P N x R s := fun hk => by
  obtain ⟨e, s', hk', ⟨rfl, hwk⟩, hw⟩ := h hk
  refine ⟨.normal, s1, hwk.okB, k, fun κ w0 S hs a w hr => ?_⟩
  refine wp_mono (hw κ w0 S hs a w hr) fun e1 a' w' ⟨s2, q1, ⟨q2, q3⟩, q4⟩ => ?_
  subst q2 q3
  exact ⟨s1, hwk.okB, ⟨rfl, rfl⟩, (hwk.rel q4).1⟩
/-- A region by itself, and what is still wanted of it. -/
theorem X.rk (s1 : St) (hτ : Tys P τ) (hm : P.follows .mixedOrders = true) (e : regB τ N s ops draw = true) (h : lessL (nxt s ops.size (run τ N ops ops.size (st0 s ops))) s1 = lessR s1) {s2 : St} (h2 : s1 = s2) (k : R .normal s2) : X P N (.region id ops draw) R s :=
  X.after (X.reg hτ hm e ⟨rfl, Wk.less h⟩) (h2 ▸ k)
/-- .. one that wants words of ours. -/
theorem X.rs (n : Nat) (hτ : Tys P τ) (hm : P.follows .mixedOrders = true) (e : Nat.ble 64 s.nx = true) (k : CH (c0 P N) ops (fun rs s' => (draw = true → drOk ops rs = true) ∧ ∃ s1, lessL ⟨s'.T, s'.H, s.nx + 16 * ops.size⟩ s1 = lessR s1 ∧ R .normal s1) (run τ N ops n (st0 s ops))) : X P N (.region id ops draw) R s := fun hok => by
  have k2 := CH.run (c := c0 P N) hτ (Nat.le_of_ble_eq_true e) n k
  obtain ⟨rs, s', h1, h2, h3, h4, h5, s1, h6, h7⟩ := k2 (by simpa [Cf.id, st0] using hok)
  simp only [st0, List.reverse_nil, List.nil_append] at h5
  have h8 : okB s' (s.nx + 16 * ops.size) = true := by simpa [st0] using h3
  exact X.after (s1 := s1) (fun _ => ⟨.normal, ⟨s'.T, s'.H, s.nx + 16 * ops.size⟩, h8, ⟨rfl, Wk.less h6⟩, fun κ w0 S => W.region hm e fun _ => ⟨rs, s', h1, h2, h3, h4, h5, rfl, rfl⟩⟩) h7 hok
theorem CH.go {c : Cn} {K : List (Oper × Rec) → St → Prop} {m : Cf} (n : Nat) (hτ : Tys c.P τ) (e : Nat.ble 64 m.s.nx = true) (k : CH c ops K (Av.run τ c.N ops n m)) : CH c ops K m := CH.run hτ (Nat.le_of_ble_eq_true e) n k
theorem CH.endk {c : Cn} {m : Cf} (s1 : St) (e : (m.l.isEmpty && (!draw || drOk ops m.rs.reverse)) = true) (h : lessL (nxt s ops.size m) s1 = lessR s1) {s2 : St} (h2 : s1 = s2) (k : R .normal s2) : CH c ops (fun rs s' => (draw = true → drOk ops rs = true) ∧ ∃ s1, lessL ⟨s'.T, s'.H, s.nx + 16 * ops.size⟩ s1 = lessR s1 ∧ R .normal s1) m := by
  simp only [Bool.and_eq_true] at e
  refine CH.done e.1 ⟨fun hd => ?_, s1, h, h2 ▸ k⟩
  have := e.2
  rw [hd] at this
  simpa using this
theorem X.sub {α : Type} {x : Code} (F : α → St) {a b : α} (h : a = b) (k : X P N x R (F b)) : X P N x R (F a) := h ▸ k
theorem X.ifT {o : Operand} {x y : Code} (hb : (evO s.tm o).bind sc = some (.bool true)) (h : X P N x R s) : X P N (.cond o x y) R s := X.cond hb h
theorem X.ifF {o : Operand} {x y : Code} (hb : (evO s.tm o).bind sc = some (.bool false)) (h : X P N y R s) : X P N (.cond o x y) R s := X.cond hb h
theorem w64 {n : Int} (h1 : -9223372036854775808 ≤ n) (h2 : n ≤ 9223372036854775807) : wrap64 n = n := by unfold wrap64; omega
theorem flat_ok {α : Type} {f : α → List D} {n : Nat} (h : ∀ x, (f x).length = n) {l : List α} : ∀ r, r ∈ l.map f → r.length = n := fun r hr => by
  obtain ⟨x, _, rfl⟩ := List.mem_map.1 hr
  exact h x
def isV : D → Bool
  | .v _ => true
  | .sl _ => false
theorem flat_d {α : Type} (f : α → List D) (h : ∀ x, (f x).all isV = true) {l : List α} : Flat (l.map f) := fun r hr d hd => by
  obtain ⟨x, _, rfl⟩ := List.mem_map.1 hr
  have := List.all_eq_true.1 (h x) d hd
  cases d with
  | v v => exact ⟨v, rfl⟩
  | sl r => cases this
theorem tdiv_le (x n : Int) (hx : 0 ≤ x) (hn : 0 < n) : 0 ≤ Int.tdiv x n ∧ Int.tdiv x n ≤ x := ⟨Int.tdiv_nonneg hx (by omega), Int.tdiv_le_self _ hx⟩
theorem tmod_lt (x n : Int) (hx : 0 ≤ x) (hn : 0 < n) : 0 ≤ Int.tmod x n ∧ Int.tmod x n < n := ⟨Int.tmod_nonneg _ hx, Int.tmod_lt_of_pos _ hn⟩
/-! ### the slice without a block, told as an empty row of one's own -/
theorem own1 {c : Cn} {s : St} {wd : Nat} {e : TypeId} (h64 : 64 ≤ s.nx) (hok : okB s s.nx = true) (hw : 0 < wd) {a : Act} {w : World} (hr : RelS c s a w) : ∃ ι, ι s.nx = none ∧ Rel c.N c.κ c.w0 c.S ι s.tm (lookH ((s.nx, some (.row wd e [] false true)) :: s.H)) a w := by
  obtain ⟨ι, hr⟩ := hr
  have hF := St.fresh hok (Nat.le_refl _) h64
  have hH : ∀ b, b ≠ s.nx → lookH ((s.nx, some (.row wd e [] false true)) :: s.H) b = s.hp b := fun b hb => by simp only [lookH, nbf hb]; rfl
  have hH0 : lookH ((s.nx, some (.row wd e [] false true)) :: s.H) s.nx = some (.row wd e [] false true) := by simp only [lookH, Nat.beq_refl]
  have hι : ∀ b, b ≠ s.nx → (fun b => if b = s.nx then none else ι b) b = ι b := fun b hb => by simp only [if_neg hb]
  refine ⟨fun b => if b = s.nx then none else ι b, by simp, (hr.next (fun _ => False) (Kept.refl _ _) (fun _ h => h.elim) (fun b => ?_) (fun b B k cc h1 h2 => ?_) (fun b b' B B' x x' k h1 h2 h3 h4 o1 o2 => ?_) (fun hk b B h1 => ?_) (fun b hb => ?_)).1⟩
  · by_cases hb : b = s.nx
    · rw [hb]; exact .inr hF
    · exact .inl fun B hB => ⟨B, by rw [hH b hb] at hB; exact hB, rfl, rfl, congrArg key (hι b hb)⟩
  · by_cases hb : b = s.nx
    · simp [hb] at h2
    · rw [hH b hb] at h1; simp only [if_neg hb] at h2; exact .inl ⟨B, cc, h1, id, h2, fun _ => ⟨rfl, rfl⟩⟩
  · by_cases hb : b = s.nx
    · simp [hb] at h3
    · by_cases hb' : b' = s.nx
      · simp [hb'] at h4
      · rw [hH b hb] at h1; rw [hH b' hb'] at h2; simp only [if_neg hb] at h3; simp only [if_neg hb'] at h4
        exact hr.injO b b' B B' x x' k h1 h2 h3 h4 o1 o2
  · by_cases hb : b = s.nx
    · subst hb
      rw [hH0] at h1
      cases h1
      right
      simp only [if_pos]
      exact ⟨hw, (fun i r h => by cases h), rfl⟩
    · left
      rw [hH b hb] at h1
      exact ⟨h1, hι b hb, fun _ _ _ _ h => h⟩
  · exact congrArg key (hι b (by omega))
theorem nil_ref {g : Env} {ι : Nm} {H : Hp} {w : World} {u : Value} {b wd : Nat} {e : TypeId} (hb : H b = some (.row wd e [] false true)) (hi : ι b = none) (h : CR g ι H w .nil u) : CR g ι H w (.ref b) u := fun B hB => by
  rw [hb] at hB
  cases hB
  exact ⟨wd, 0, rfl, by rw [hi]; exact ⟨rfl, h⟩⟩
def ownT (t wd : Nat) (e : TypeId) (s : St) : St := ⟨(t, .e (.c (.ref s.nx))) :: s.T, (s.nx, some (.row wd e [] false true)) :: s.H, s.nx + 16⟩
theorem Wk.ownT (t wd : Nat) (e : TypeId) {s : St} (h : look s.T t = some (.e (.c .nil))) (hc : (Nat.ble 64 s.nx && (Av.okB s s.nx && Nat.blt 0 wd)) = true) (ho : Av.okB (Av.ownT t wd e s) (s.nx + 16) = true) : Wk s (Av.ownT t wd e s) := by
  simp only [Bool.and_eq_true, Nat.blt_eq] at hc
  refine ⟨fun c a w hr => ?_, ho⟩
  obtain ⟨ι, hi, hr⟩ := own1 (e := e) (Nat.le_of_ble_eq_true hc.1) hc.2.1 hc.2.2 hr
  refine ⟨ι, hr.kept, hr.new, hr.blk, hr.injO, hr.ownO, hr.size, hr.dfr, hr.io, fun t' y hy => ?_⟩
  replace hy : look ((t, .e (.c (.ref s.nx))) :: s.T) t' = some y := hy
  simp only [look] at hy
  split at hy
  · rename_i hb
    obtain rfl := Nat.eq_of_beq_eq_true hb
    obtain rfl := Option.some.inj hy
    exact nil_ref (g := ⟨c.κ, c.S.fr⟩) (w := w) (wd := wd) (e := e) (by show lookH ((s.nx, some (.row wd e [] false true)) :: s.H) s.nx = _; simp only [lookH, Nat.beq_refl]) hi (hr.tmp _ _ h)
  · exact hr.tmp t' y hy
/-- What is handed back, told more loosely, if that is wanted. -/
def RetW (τ : Ty) (rv : List ResultVar) (s : St) (x : AV) (h1 : List (Nat × Option Blk)) : Prop := Ret τ rv s x h1 ∨ ∃ s2, Wk s s2 ∧ Ret τ rv s2 x h1
/-- A FUNCTION'S BODY: what it hands back is found on the way. -/
theorem Fn.bodyX {f : FuncId} {fn : Func} {code : Code} (hτ : Tys P τ) {args : List AV} {h0 : List (Nat × Option Blk)} {Rr : AV → List (Nat × Option Blk) → Prop} (hf : P.funcs[f]? = some fn) (hc : fn.body = some code) (hN : fn.ntmps = N) (hna : Nat.ble args.length N = true) (hok : okB ⟨numL 0 args, h0, 64⟩ 64 = true)
    (h : X P N code (fun e s' => fin_ e ∧ ∃ x h1, Rr x h1 ∧ RetW τ fn.results.toList s' x h1) ⟨numL 0 args, h0, 64⟩) : ∃ x h1, Rr x h1 ∧ Fn P f args (lookH h0) x (lookH h1) := by
  obtain ⟨e, s', hk', ⟨hfin, x, h1, hR, hret⟩, hw⟩ := h hok
  refine ⟨x, h1, hR, Fn.body hτ hf hc hN hna hok fun κ w0 S => ?_⟩
  rcases hret with hret | ⟨s2, hwk, hret⟩
  · refine W.mono (hw κ w0 S) fun e1 s1 ⟨q1, q2⟩ => ?_
    subst q1 q2
    exact ⟨hfin, hret⟩
  · intro hs a w hr
    refine wp_mono (hw κ w0 S hs a w hr) fun e1 a' w' ⟨s1, q1, ⟨q2, q3⟩, q4⟩ => ?_
    subst q2 q3
    exact ⟨s2, hwk.okB, ⟨hfin, hret⟩, (hwk.rel q4).1⟩
end
end Go.Proofs.Ytggmeldoecnkaaa.Av
