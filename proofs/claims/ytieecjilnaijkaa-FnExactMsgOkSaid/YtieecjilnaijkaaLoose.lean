/-
A region that draws its order, whose operations read or make: what each yields is told by a property that lasts; whatever order is drawn, in the end each place holds a value of its property.
Conditions: none beside those that each theorem names.
-/
import Derived.Test.YtieecjilnaijkaaBW
import Derived.Test.YtieecjilnaijkaaWInv
import Derived.Laws.Rows
set_option linter.unusedVariables false
namespace Go.Proofs.Ytieecjilnaijkaa.BW
open Go.RowKit Go.Proofs.YtieecjilnaijkaaW.PrintWords Go.Proofs.YtieecjilnaijkaaW.PrintLast

def bitsOf (T : List (List Nat × List Nat)) : List Nat := T.foldl (fun B r => B ++ [upM B B.length r.1]) []
def fillL (L : List (Nat × Tmp)) (vs : Nat → Value) : List (Nat × Tmp × Value) := L.map fun p => (p.1, p.2, vs p.1)
def LI (W0 : World) (a : Act) (L : List (Nat × Tmp)) (V : Nat → World → Value → Prop) : (Nat → Bool) → Act → World → Prop := fun b a' w =>
  ∃ (e : On W0) (vs : Nat → Value), w = e.now ∧ a' = putSel a b (fillL L vs) ∧ ∀ i, b i = true → V i e.now (vs i)
def Lasts (V : Nat → World → Value → Prop) : Prop := ∀ i W W' v, Below W.heap.size W W' → V i W v → V i W' v

/-! what a place may hold -/
def Last1 (p : World → Value → Prop) : Prop := ∀ W W' v, Below W.heap.size W W' → p W v → p W' v
def IsV (v0 : Value) : World → Value → Prop := fun _ v => v = v0
def AggV {α : Type} (d : Kd α) (x : α) : World → Value → Prop := fun W v => ∃ cs : List Value, v = .agg cs.toArray ∧ d.K W x cs
theorem last_is (v0 : Value) : Last1 (IsV v0) := fun _ _ _ _ h => h
theorem last_agg {α : Type} (d : Kd α) (x : α) : Last1 (AggV d x) := fun _ _ _ hb ⟨cs, e, h⟩ => ⟨cs, e, d.K_below hb h⟩
def VL (l : List (World → Value → Prop)) : Nat → World → Value → Prop := fun i => l.getD i (fun _ _ => True)
theorem lasts_nil : Lasts (VL []) := fun i _ _ _ _ _ => by simp [VL]
theorem lasts_cons {p : World → Value → Prop} {l : List (World → Value → Prop)} (hp : Last1 p) (hl : Lasts (VL l)) : Lasts (VL (p :: l))
  | 0, W, W', v, hb, h => hp W W' v hb h
  | i + 1, W, W', v, hb, h => hl i W W' v hb h

section
variable {P : Program} {ops : Array Oper} {Q : Exit → Act → World → Prop} {B O : List Nat} {W0 : World} {a : Act} {L : List (Nat × Tmp)} {V : Nat → World → Value → Prop} {b : Nat → Bool} {vs : Nat → Value}
theorem fillL_set {k i : Nat} {t : Tmp} {v : Value} (hL : L[k]? = some (i, t)) (hd : ((L.take k ++ L.drop (k + 1)).all fun e => !(e.1 == i)) = true) :
    (fillL L vs).set k (i, t, v) = fillL L (fun j => if j = i then v else vs j) := by
  apply List.ext_getElem?
  intro m
  by_cases hm : m = k
  · subst hm
    have := (List.getElem?_eq_some_iff.1 hL).1
    rw [List.getElem?_set_self (by simpa [fillL] using this)]
    simp [fillL, hL]
  · rw [List.getElem?_set_ne (Ne.symm hm)]
    simp only [fillL, List.getElem?_map]
    cases hx : L[m]? with
    | none => rfl
    | some p =>
      have hne : p.1 ≠ i := by
        have hp : p ∈ L.take k ++ L.drop (k + 1) := by
          obtain ⟨h1, h2⟩ := List.getElem?_eq_some_iff.1 hx
          rcases Nat.lt_or_gt_of_ne hm with h | h
          · exact List.mem_append_left _ (List.mem_iff_getElem?.2 ⟨m, by rw [List.getElem?_take, if_pos h]; exact hx⟩)
          · exact List.mem_append_right _ (List.mem_iff_getElem?.2 ⟨m - (k + 1), by rw [List.getElem?_drop, show k + 1 + (m - (k + 1)) = m by omega]; exact hx⟩)
        have := List.all_eq_true.1 hd p hp
        simpa using this
      simp [hne]
theorem eval_on {k j : Nat} {t : Tmp} (hL : L[k]? = some (j, t)) (hd : ((L.drop (k + 1)).all fun e => !(e.2 == t)) = true) (hb : b j = true) (ht : Nat.ble (t + 1) a.tmps.size = true) : (putSel a b (fillL L vs)).eval (.tmp t) = vs j := by
  have h := putSel_on (a := a) (b := b) (e := (j, t, vs j)) (L := fillL L vs) k (by simp [fillL, hL]) (by
    rw [List.all_eq_true]
    intro x hx
    simp only [fillL, ← List.map_drop, List.mem_map] at hx
    obtain ⟨p, hp, rfl⟩ := hx
    exact List.all_eq_true.1 hd p hp) hb ht
  simp only [Act.eval]
  rw [Array.getD_eq_getD_getElem?, h]
  rfl
theorem eval_off {t : Tmp} (hd : (L.all fun e => !(e.2 == t)) = true) : (putSel a b (fillL L vs)).eval (.tmp t) = a.eval (.tmp t) := by
  have h := putSel_off (a := a) (b := b) (t := t) (L := fillL L vs) (by
    rw [List.all_eq_true]
    intro x hx
    simp only [fillL, List.mem_map] at hx
    obtain ⟨p, hp, rfl⟩ := hx
    exact List.all_eq_true.1 hd p hp)
  simp only [Act.eval]
  rw [Array.getD_eq_getD_getElem?, Array.getD_eq_getD_getElem?, h]
/-- One operation, run in whatever has been listed. -/
theorem loose_step (hV : Lasts V) {i k : Nat} {t : Tmp} {oi : Oper} (hL : L[k]? = some (i, t)) (hd : ((L.take k ++ L.drop (k + 1)).all fun e => !(e.1 == i) && !(e.2 == t)) = true) (hi : ops[i]? = some oi) (hdst : oi.dst = some t) (hg : oi.guard = none)
    (h : ∀ (b : Nat → Bool) (e : On W0) (vs : Nat → Value), (∀ j, (O.contains j && (B.getD i 0).testBit j) = true → b j = true) → (∀ j, b j = true → V j e.now (vs j)) → ∀ K : Act → World → Prop,
      (∀ v (e' : On W0), Below e.now.heap.size e.now e'.now → V i e'.now v → K ((putSel a b (fillL L vs)).put (some t) v) e'.now) → Oper.wp P oi (putSel a b (fillL L vs)) e.now K Q) :
    StepAt P ops Q B O (LI W0 a L V) i := by
  rintro b _ _ ⟨e, vs, rfl, rfl, hv⟩ hb hdep _
  refine ⟨oi, hi, fun K hK => ?_⟩
  rw [if_pos (by simp [Region.wanted, hg])]
  refine h b e vs hdep hv K (fun v e' hbel hv' => hK.out _ _ ⟨e', fun j => if j = i then v else vs j, rfl, ?_, fun j hj => ?_⟩)
  · have hd1 : ((L.take k ++ L.drop (k + 1)).all fun e => !(e.1 == i)) = true := List.all_eq_true.2 fun x hx => by
      have := List.all_eq_true.1 hd x hx
      simp only [Bool.and_eq_true] at this
      exact this.1
    refine putSel_upk k hb (v0 := vs i) (by simp [fillL, hL]) (fillL_set hL hd1) ?_
    rw [List.all_eq_true]
    intro x hx
    simp only [fillL, ← List.map_take, ← List.map_drop, ← List.map_append, List.mem_map] at hx
    obtain ⟨p, hp, rfl⟩ := hx
    exact List.all_eq_true.1 hd p hp
  · by_cases hji : j = i
    · subst hji
      simpa using hv'
    · show V j e'.now (if j = i then v else vs j)
      rw [if_neg hji]
      exact hV j _ _ _ hbel (hv j (by rwa [up_ne hji] at hj))
/-- .. an operation that yields a value and leaves the world alone. -/
theorem loose_run (hV : Lasts V) {i k : Nat} {t : Tmp} {oi : Oper} (hL : L[k]? = some (i, t)) (hd : ((L.take k ++ L.drop (k + 1)).all fun e => !(e.1 == i) && !(e.2 == t)) = true) (hi : ops[i]? = some oi) (hdst : oi.dst = some t) (hg : oi.guard = none)
    (h : ∀ (b : Nat → Bool) (e : On W0) (vs : Nat → Value), (∀ j, (O.contains j && (B.getD i 0).testBit j) = true → b j = true) → (∀ j, b j = true → V j e.now (vs j)) →
      ∃ v, (execOp (putSel a b (fillL L vs)).eval oi).run P e.now = .ok (.value v) e.now ∧ V i e.now v) : StepAt P ops Q B O (LI W0 a L V) i :=
  loose_step hV hL hd hi hdst hg fun b e vs hdep hv K hK => by
    obtain ⟨v, hr, hvi⟩ := h b e vs hdep hv
    unfold Oper.wp
    rw [hr, Oper.upon_value, hdst]
    exact hK v e (Below.refl _ _) hvi
/-- .. a load of a whole block. -/
theorem loose_row (hV : Lasts V) {i k : Nat} {t s : Tmp} {oi : Oper} (hL : L[k]? = some (i, t)) (hd : ((L.take k ++ L.drop (k + 1)).all fun e => !(e.1 == i) && !(e.2 == t)) = true) (hi : ops[i]? = some oi) (hdst : oi.dst = some t) (hg : oi.guard = none)
    (ty : TypeId) (ho : oi.op = .load ty (.tmp s)) (hs : (L.all fun e => !(e.2 == s)) = true) {g : Nat} (hx : a.eval (.tmp s) = .pointer (some ⟨g, 0, none⟩)) {u : TypeId} {cs : Array Value} {fr : Nat × Nat} {d : TypeDesc} (hw : W0.heap[g]? = some (.cells cs u fr))
    (hu : P.underlying ty = some d) (hdd : (match d with | .struct _ | .array _ _ => true | _ => false) = true) (hsz : (P.info? ty).map (·.size) = some cs.size) (hv : ∀ e : On W0, V i e.now (.agg cs)) : StepAt P ops Q B O (LI W0 a L V) i :=
  loose_step hV hL hd hi hdst hg fun b e vs hdep _ K hK => by
    have hlt : g < W0.heap.size := (Array.getElem?_eq_some_iff.1 hw).1
    refine wp_load_row ty (.tmp s) ho g ((eval_off hs).trans hx) u cs fr d ((e.ok.block g hlt).trans hw) hu hdd hsz ?_
    rw [hdst]
    exact hK _ e (Below.refl _ _) (hv e)
/-- .. a call of a Go function. -/
theorem loose_call (hV : Lasts V) {i k : Nat} {t : Tmp} {oi : Oper} (hL : L[k]? = some (i, t)) (hd : ((L.take k ++ L.drop (k + 1)).all fun e => !(e.1 == i) && !(e.2 == t)) = true) (hi : ops[i]? = some oi) (hdst : oi.dst = some t) (hg : oi.guard = none)
    {f : FuncId} {fn : Func} {as : Array Operand} {ts : Array TypeId} (hf : P.funcs[f]? = some fn) (hname : (fn.name == "runtime.NumGoroutine") = false) (hb : fn.body.isSome = true) (hop : oi.op = .call { callee := .value (.func f), args := as, argTypes := ts })
    (h : ∀ (b : Nat → Bool) (e : On W0) (vs : Nat → Value), (∀ j, (O.contains j && (B.getD i 0).testBit j) = true → b j = true) → (∀ j, b j = true → V j e.now (vs j)) →
      Calls P f (as.map (putSel a b (fillL L vs)).eval) e.now fun r W => ∃ v, r = .returned v ∧ V i W v ∧ Below e.now.heap.size e.now W) : StepAt P ops Q B O (LI W0 a L V) i :=
  loose_step hV hL hd hi hdst hg fun b e vs hdep hv K hK => by
    have hc := h b e vs hdep hv
    have := goes_ (P := P) (Q := Q) (ops := ops) (oi := oi) (N := some t) (a := putSel a b (fillL L vs)) (w := e.now) (K := K) hf hname hb _ (by simp [Region.wanted, hg]) hdst hop rfl (hc.mono fun r W ⟨v, hr, hvi, hbel⟩ => ⟨v, hr, by
      obtain ⟨e', rfl⟩ := e.next hbel
      exact hK v e' hbel hvi⟩)
    rwa [if_pos (by simp [Region.wanted, hg])] at this
/-- .. the negation of a boolean that an earlier one yields. -/
theorem loose_not (hV : Lasts V) {i k : Nat} {t : Tmp} {oi : Oper} (hL : L[k]? = some (i, t)) (hd : ((L.take k ++ L.drop (k + 1)).all fun e => !(e.1 == i) && !(e.2 == t)) = true) (hi : ops[i]? = some oi) (hdst : oi.dst = some t) (hg : oi.guard = none)
    {ty : TypeId} {s : Tmp} (ho : oi.op = .unOp .not ty (.tmp s)) {j m : Nat} (hLj : L[m]? = some (j, s)) (hdj : ((L.drop (m + 1)).all fun e => !(e.2 == s)) = true) (hdep : (O.contains j && (B.getD i 0).testBit j) = true) (ht : Nat.ble (s + 1) a.tmps.size = true)
    {c : Bool} (hj : ∀ W v, V j W v → v = .bool c) (hvi : ∀ W, V i W (.bool !c)) : StepAt P ops Q B O (LI W0 a L V) i :=
  loose_run hV hL hd hi hdst hg fun b e vs hb hv => ⟨_, by
    have h3 := (eval_on (a := a) (b := b) (vs := vs) hLj hdj (hb j hdep) ht).trans (hj _ _ (hv j (hb j hdep)))
    unfold execOp
    rw [ho]
    simp only [h3]
    rfl, hvi _⟩
theorem putSel_all {b : Nat → Bool} : ∀ {M : List (Nat × Tmp × Value)} {a : Act}, (∀ e ∈ M, b e.1 = true) → putSel a b M = putSel a (fun _ => true) M
  | [], _, _ => rfl
  | e :: r, a, h => by
    unfold putSel
    rw [if_pos (h e List.mem_cons_self), if_pos rfl]
    exact putSel_all fun x hx => h x (List.mem_cons_of_mem _ hx)
/-- THE REGION. -/
theorem loose {id n : Nat} (hm : P.follows .mixedOrders = true) (hn : ops.size = n) (V : Nat → World → Value → Prop) (hV : Lasts V) (L : List (Nat × Tmp))
    (hw : waitsOk (rtab .any ops).2 (bitsOf (rtab .any ops).2) = true) (hk : baseOk (rtab .any ops).2 (List.range n) = true) (hl : (lof (rtab .any ops).2.length (List.range n) (fun _ => false) == List.replicate n false && (List.range n).length == n) = true)
    (hLn : (L.all fun e => decide (e.1 < n)) = true) (hs : ∀ i ∈ List.range n, StepAt P ops Q (bitsOf (rtab .any ops).2) (List.range n) (LI W0 a L V) i)
    (hend : ∀ (e : On W0) (vs : Nat → Value), (∀ i, i < n → V i e.now (vs i)) → Q .normal (putSel a (fun _ => true) (fillL L vs)) e.now) : (Code.region id ops true).wp P Q a W0 := by
  refine start_ (S := fun _ => True) (ds := []) (Array.replicate n false) hm hn rfl trivial (fun _ => ?_)
  obtain ⟨e0, he0⟩ := (On.here W0).drew
  refine inv_ (T := rtab .any ops) (B := bitsOf (rtab .any ops).2) (List.range n) (LI W0 a L V) rfl hw hk (by simpa using hl) ⟨e0, fun _ => undef, he0, ?_, fun i hi => by cases hi⟩ hs ?_
  · have : ∀ M : List (Nat × Tmp × Value), a = putSel a (fun _ => false) M := by
      intro M
      induction M with
      | nil => rfl
      | cons x r ih => unfold putSel; rw [if_neg (by simp)]; exact ih
    exact this _
  · rintro b _ _ hb ⟨e, vs, rfl, rfl, hv⟩
    have hb' : ∀ i, i < n → b i = true := fun i hi => hb i (by simpa using hi)
    rw [putSel_all (fun x hx => by
      simp only [fillL, List.mem_map] at hx
      obtain ⟨p, hp, rfl⟩ := hx
      exact hb' _ (of_decide_eq_true (List.all_eq_true.1 hLn p hp)))]
    exact hend e vs fun i hi => hv i (hb' i hi)
end
end Go.Proofs.Ytieecjilnaijkaa.BW
