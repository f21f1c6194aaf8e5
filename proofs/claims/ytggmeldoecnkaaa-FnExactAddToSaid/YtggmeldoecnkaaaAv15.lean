/-
The call as one operation; and what a body comes to, told as a function.
Conditions: none beside those that each theorem names.
-/
import Derived.Test.YtggmeldoecnkaaaAv14
set_option linter.unusedVariables false
set_option linter.unusedSimpArgs false
namespace Go.Proofs.Ytggmeldoecnkaaa.Av
open Go.RowKit Go.Proofs.YtggmeldoecnkaaaW.PrintLast

def boxIds (H : Hp) (m0 : List (Nat × Nat)) : List Nat := m0.flatMap fun p => match H p.1 with
  | some (.box cs) => cs.flatMap Cell.ids
  | _ => []
def rdC (H : Hp) (m0 : List (Nat × Nat)) (T : Tm) (l : List Operand) : List Nat := idL T l ++ (m0.map (·.1) ++ boxIds H m0)
section
variable {P : Program} {N : Nat} {o : Oper} {T : Tm} {H : Hp}
theorem vwC_agree {H' : Hp} {m0 : List (Nat × Nat)} {c : Cell} (h : ∀ b, b ∈ c.ids → H' b = H b) : vwC H' m0 c = vwC H m0 c := by
  have h1 : toD H' c = toD H c := (toD_agree h).1
  cases c with
  | ref b => simp only [vwC, toDN, h b (by simp [Cell.ids])]
  | d x => rfl
  | f x => rfl
  | k i x => rfl
  | nil => rfl
theorem vwCs_agree {H' : Hp} {m0 : List (Nat × Nat)} : ∀ {cs : List Cell}, (∀ b, b ∈ cs.flatMap Cell.ids → H' b = H b) → vwCs H' m0 cs = vwCs H m0 cs
  | [], _ => rfl
  | c :: l, h => by
    have h1 : vwC H' m0 c = vwC H m0 c := vwC_agree fun b hb => h b (by simp [hb])
    have h2 : vwCs H' m0 l = vwCs H m0 l := vwCs_agree fun b hb => h b (by simp only [List.flatMap_cons]; exact List.mem_append_right _ hb)
    simp only [vwCs, h1, h2]
theorem vwE_agree {H' : Hp} {m0 : List (Nat × Nat)} {e : E} (h : ∀ b, b ∈ refsOf e → H' b = H b) : vwE H' m0 e = vwE H m0 e := by
  cases e with
  | agg cs => simp only [vwE, vwCs_agree (cs := cs) h]
  | c c => simp only [vwE, vwC_agree (c := c) fun b hb => h b (by simpa [refsOf, cellsOf] using hb)]
theorem vwL_agree {T' : Tm} {H' : Hp} {m0 : List (Nat × Nat)} : ∀ {l : List Operand}, (∀ x, x ∈ l → evO T' x = evO T x) → (∀ b, b ∈ idL T l → H' b = H b) → vwL H' m0 T' l = vwL H m0 T l ∧ aggOk m0 T' l = aggOk m0 T l
  | [], _, _ => ⟨rfl, rfl⟩
  | x :: l, hT, hH => by
    have h1 := hT x List.mem_cons_self
    obtain ⟨a, b⟩ := vwL_agree (H' := H') (m0 := m0) (l := l) (fun y hy => hT y (List.mem_cons_of_mem _ hy)) fun b hb => hH b (by simp only [idL]; exact List.mem_append_right _ hb)
    have hA : ∀ y, evO T x = some y → vwA H' m0 y = vwA H m0 y := by
      intro y hy
      cases y with
      | e e =>
        have : vwE H' m0 e = vwE H m0 e := vwE_agree fun b hb => hH b (by simp only [idL, hy]; exact List.mem_append_left _ hb)
        simp only [vwA, this]
      | pt b i oo => unfold vwA; cases i <;> cases oo <;> rfl
      | _ => rfl
    constructor
    · simp only [vwL, h1, a]
      cases hx : evO T x with
      | none => rfl
      | some y =>
        cases hv : vwL H m0 T l with
        | none => rfl
        | some r => simp only [hA y hx]
    · rfl
theorem vwB_agree {H' : Hp} {p : Nat × Nat} (h1 : H' p.1 = H p.1) (h2 : ∀ cs, H p.1 = some (.box cs) → ∀ b, b ∈ cs.flatMap Cell.ids → H' b = H b) : vwB H' p = vwB H p := by
  unfold vwB
  rw [h1]
  cases hp : H p.1 with
  | none => rfl
  | some B =>
    cases B with
    | row wd e rows f nf => cases f <;> rfl
    | nst wd e co rows op => cases op <;> rfl
    | box cs => simp only [(toDs_agree (cs := cs) (h2 cs hp)).1]
theorem g_call {f : FuncId} {as : Array Operand} {ts : Array TypeId} {fn : Func} {args : List AV} {h0 h1 : List (Nat × Option Blk)} {x x' : AV} (hN : dstOk N o.dst = true) (ho : o.op = .call { callee := .value (.func f), args := as, argTypes := ts }) (hf : P.funcs[f]? = some fn) (hname : (fn.name == "runtime.NumGoroutine") = false) (hb : fn.body.isSome = true)
    (hfn : Fn P f args (lookH h0) x (lookH h1)) {m0 r1 : List (Nat × Nat)} (hargs : vwL H m0 T as.toList = some args) (hh0 : h0 = m0.map fun p => (p.2, vwB H p)) (hck : (aggOk m0 T as.toList && boxOk H m0) = true) (hrb : BackOk H m0 h1) (hx : impA (sw r1) x = some x')
    (hn : (nodupB (m0.map (·.1)) && (nodupB (m0.map (·.2)) && (nodupB (r1.map (·.1)) && (nodupB (r1.map (·.2)) && ((m0.all fun p => Nat.blt p.2 64) && ((r1.all fun p => Nat.ble 64 p.2) && (r1.all fun p => m0.all fun q => !Nat.beq q.1 p.1))))))) = true) :
    GoodW P N o ⟨x', hsOf H m0 r1 h1, rdC H m0 T as.toList, r1.map (·.1)⟩ T H := by
  intro T' H' hT hH hF κ w0 S ι a w hr Q K hK
  simp only [Bool.and_eq_true] at hn hck
  obtain ⟨n1, n2, n3, n4, n5, n6, n7⟩ := hn
  have hev : ∀ y, y ∈ as.toList → evO T' y = evO T y := fun y hy => evO_agree hT (by rw [ho]; simpa [Op.operands, Call.operands] using Or.inr (by simpa using hy))
  obtain ⟨v1, v2⟩ := vwL_agree (H := H) (H' := H') (m0 := m0) hev fun b hb => hH b (List.mem_append_left _ hb)
  have hm : ∀ p, p ∈ m0 → H' p.1 = H p.1 := fun p hp => hH p.1 (List.mem_append_right _ (List.mem_append_left _ (List.mem_map.2 ⟨p, hp, rfl⟩)))
  have hbx : ∀ p, p ∈ m0 → ∀ cs, H p.1 = some (.box cs) → ∀ b, b ∈ cs.flatMap Cell.ids → H' b = H b := fun p hp cs hcs b hb => hH b (List.mem_append_right _ (List.mem_append_right _ (List.mem_flatMap.2 ⟨p, hp, by simp only [hcs]; exact hb⟩)))
  have v3 : (m0.map fun p => (p.2, vwB H' p)) = m0.map fun p => (p.2, vwB H p) := List.map_congr_left fun p hp => by rw [vwB_agree (hm p hp) (hbx p hp)]
  have v4 : boxOk H' m0 = boxOk H m0 := by
    unfold boxOk
    rw [Bool.eq_iff_iff, List.all_eq_true, List.all_eq_true]
    constructor <;> intro h p hp <;> have := h p hp <;> (try rw [hm p hp] at *) <;> first | exact this | (rw [hm p hp]; exact this)
  have v5 : hsOf H' m0 r1 h1 = hsOf H m0 r1 h1 := by
    unfold hsOf
    congr 1
    exact List.map_congr_left fun p hp => by unfold backB; rw [hm p hp]
  obtain ⟨hal, hag⟩ := vwL_get (v1.trans hargs)
  have hcore := call_core (T := T') (vs := as.map a.eval) hfn (hh0.trans v3.symm) (v4.trans hck.2) hx n1 n2 n3 n4 n5 n6 hr (by simp [hal]) (fun j z hz => by obtain ⟨xo, y, e1, e2, e3⟩ := hag j z hz; exact ⟨a.eval xo, y, by simp at e1; simp [e1], evO_ok hr e2, .inl e3⟩) ⟨fun p hp wd e rows nf wd1 e1 rows1 q1 q2 => hrb.1 p hp wd e rows nf wd1 e1 rows1 ((hm p hp).symm.trans q1) q2, fun p hp wd e co rows wd1 e1 co1 rows1 q1 q2 => hrb.2 p hp wd e co rows wd1 e1 co1 rows1 ((hm p hp).symm.trans q1) q2⟩ fun b hb => by
    refine ⟨hF b hb, fun fb hm' => ?_⟩
    obtain ⟨p, hp, rfl⟩ := List.mem_map.1 hb
    have := List.all_eq_true.1 (List.all_eq_true.1 n7 p hp) _ hm'
    simp at this
  rw [v5] at hcore
  have he := enters_ (P := P) hf hname hb (as.map a.eval) w
  have hrun : (execOp a.eval o).run P w = .ok (.enter f (as.map a.eval)) w := by
    unfold execOp
    simp [ho, resolve, Deferred.ofValue, invoke, Act.eval] at he ⊢
    exact he
  unfold Oper.wp
  rw [hrun, Oper.upon_enter]
  refine hcore.mono fun e w' ⟨v, ι', hv, hrel, hval⟩ => ?_
  subst hv
  exact hK ι' _ w' (hrel.putD hN hval)
end
/-! ### a body -/
section
variable {P : Program} {N : Nat} {T : Tm} {H : Hp}
def rvS (tmps : Array Value) : ResultVar → Sem Value
  | .tmp t => pure (tmps.getD t undef)
  | .cell p t => do loadVar t (← asAddr (tmps.getD p undef))
theorem results_eq (fn : Func) (tmps : Array Value) : results fn tmps = (do
    let vs ← fn.results.mapM (rvS tmps)
    pure (if h : vs.size = 1 then vs[0] else .tuple vs)) := by
  unfold results
  congr 1
theorem retE_ok {τ : Ty} (hτ : Tys P τ) {κ : Nat → Value} {w0 : World} {S : Wr} {ι : Nm} {a : Act} {w : World} (hr : Rel N κ w0 S ι T H a w) {r : ResultVar} {e : E} (h : retE τ T H r = some e) :
    ∃ v, (rvS a.tmps r).run P w = .ok v w ∧ ER ⟨κ, S.fr⟩ ι H w e v := by
  cases r with
  | tmp t =>
    simp only [retE] at h
    split at h
    · rename_i e' he
      cases h
      exact ⟨_, rfl, hr.tmp t _ he⟩
    · cases h
  | cell p ty =>
    simp only [retE] at h
    split at h
    · rename_i b hb
      split at h
      · rename_i cs hcs
        split at h
        · rename_i i hi
          obtain ⟨k, c, e1, e2⟩ := hr.tmp p _ hb _ hcs
          obtain ⟨k', c', e3, vs, ty', e4, e5, e6⟩ := hr.blk b _ hcs
          rw [e1] at e3
          cases e3
          obtain ⟨v, hv, hev⟩ := run_ld (P := P) (k := k) (q := 0) (p := 0) (hτ ty i hi) (fun j c hj => by
            obtain ⟨u, hu, hc⟩ := e6 j c hj
            exact ⟨u, cell_in e4 (by rw [Nat.zero_add]; exact hu), hc⟩) h
          refine ⟨v, ?_, hev⟩
          simp only [Instr.loadAt, Instr.sureAddr, Sem.run_bind, Sem.run_pure, Result.andThen_ok] at hv
          simp only [rvS, e2, Blk.wd, Nat.mul_zero, Nat.zero_add, asAddr, Sem.run_bind, Sem.run_pure, Result.andThen_ok]
          exact hv
        · cases h
      · cases h
    · cases h
theorem retL_ok {τ : Ty} (hτ : Tys P τ) {κ : Nat → Value} {w0 : World} {S : Wr} {ι : Nm} {a : Act} {w : World} (hr : Rel N κ w0 S ι T H a w) : ∀ {l : List ResultVar} {es : List E}, retL τ T H l = some es →
    ∃ vs : List Value, (l.mapM (rvS a.tmps)).run P w = .ok vs w ∧ vs.length = es.length ∧ ∀ (j : Nat) (e : E), es[j]? = some e → ∃ v, vs[j]? = some v ∧ ER ⟨κ, S.fr⟩ ι H w e v
  | [], es, h => by cases h; exact ⟨[], by simp, rfl, fun j e h => by cases h⟩
  | r :: l, es, h => by
    simp only [retL] at h
    split at h
    · rename_i e es' h1 h2
      cases h
      obtain ⟨vs, a1, a2, a3⟩ := retL_ok hτ hr h2
      obtain ⟨v, b1, b2⟩ := retE_ok hτ hr h1
      refine ⟨v :: vs, ?_, by simp [a2], fun j e' hj => ?_⟩
      · rw [List.mapM_cons, Sem.run_bind, b1]
        simp only [Result.andThen_ok, Sem.run_bind, a1, Sem.run_pure]
      · cases j with
        | zero => cases hj; exact ⟨v, rfl, b2⟩
        | succ j => exact a3 j e' hj
    · cases h
theorem run_results {τ : Ty} (hτ : Tys P τ) {κ : Nat → Value} {w0 : World} {S : Wr} {ι : Nm} {a : Act} {w : World} (hr : Rel N κ w0 S ι T H a w) {fn : Func} {es : List E} (h : retL τ T H fn.results.toList = some es) :
    ∃ v, (results fn a.tmps).run P w = .ok v w ∧ VR ⟨κ, S.fr⟩ ι H w (retV es) v := by
  obtain ⟨vs, h1, h2, h3⟩ := retL_ok hτ hr h
  have hm : (fn.results.mapM (rvS a.tmps)).run P w = .ok vs.toArray w := by
    rw [Array.mapM_eq_mapM_toList]
    simp [h1]
  refine ⟨if h : vs.toArray.size = 1 then vs.toArray[0] else .tuple vs.toArray, ?_, ?_⟩
  · rw [results_eq, Sem.run_bind, hm]
    rfl
  · cases es with
    | nil =>
      obtain rfl : vs = [] := List.eq_nil_of_length_eq_zero h2
      exact ⟨#[], rfl, rfl, fun j x h => by cases h⟩
    | cons e es =>
      cases es with
      | nil =>
        obtain ⟨v, hv, hev⟩ := h3 0 e rfl
        obtain ⟨v', rfl⟩ : ∃ v', vs = [v'] := List.length_eq_one_iff.1 h2
        cases hv
        exact hev
      | cons e' es =>
        have hne : ¬ vs.toArray.size = 1 := by simp [h2]
        rw [dif_neg hne]
        exact ⟨vs.toArray, rfl, by simp [h2], fun j x hj => let ⟨v, hv, hev⟩ := h3 j x hj; ⟨v, by simpa using hv, hev⟩⟩
/-- What is handed back: a pointer alone, or values. -/
def retX (τ : Ty) (T : Tm) (H : Hp) (rv : List ResultVar) : Option AV := match rv with
  | [.tmp t] => match T t with
    | some (.pt b i o) => some (.pt b i o)
    | _ => (retL τ T H rv).map retV
  | _ => (retL τ T H rv).map retV
theorem run_resultsX {τ : Ty} (hτ : Tys P τ) {κ : Nat → Value} {w0 : World} {S : Wr} {ι : Nm} {a : Act} {w : World} (hr : Rel N κ w0 S ι T H a w) {fn : Func} {x : AV} (h : retX τ T H fn.results.toList = some x) :
    ∃ v, (results fn a.tmps).run P w = .ok v w ∧ VR ⟨κ, S.fr⟩ ι H w x v := by
  have plain : (retL τ T H fn.results.toList).map retV = some x → ∃ v, (results fn a.tmps).run P w = .ok v w ∧ VR ⟨κ, S.fr⟩ ι H w x v := fun h => by
    obtain ⟨es, h1, rfl⟩ := Option.map_eq_some_iff.1 h
    exact run_results hτ hr h1
  unfold retX at h
  split at h
  · rename_i t ht
    split at h
    · rename_i b i o hT
      cases h
      have hres : fn.results = #[.tmp t] := by rw [← Array.toArray_toList (xs := fn.results), ht]
      refine ⟨a.tmps.getD t undef, ?_, hr.tmp t _ hT⟩
      unfold results
      rw [hres]
      simp
    · exact plain h
  · exact plain h
end
end Go.Proofs.Ytggmeldoecnkaaa.Av
