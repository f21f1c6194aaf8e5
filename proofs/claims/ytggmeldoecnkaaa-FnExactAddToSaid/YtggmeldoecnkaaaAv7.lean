/-
Stores into boxes and rows of the call's own; rows that are written no more.
Conditions: none beside those that each theorem names.
-/
import Derived.Test.YtggmeldoecnkaaaAv6
set_option linter.unusedVariables false
set_option linter.unusedSimpArgs false
namespace Go.Proofs.Ytggmeldoecnkaaa.Av
open Go.RowKit

theorem heap_setCell_same {w : World} {k p : Nat} {vs : Array Value} {ty : TypeId} {fr : Nat × Nat} (h : w.heap[k]? = some (.cells vs ty fr)) (u : Value) : (w.setCell ⟨k, p, none⟩ u).heap[k]? = some (.cells (vs.setIfInBounds p u) ty fr) := by
  simp only [World.setCell, Array.getElem?_modify]
  simp [h]
theorem heap_setCells_same (k : Nat) : ∀ (us : List Value) (p : Nat) (w : World) (vs : Array Value) (ty : TypeId) (fr : Nat × Nat), w.heap[k]? = some (.cells vs ty fr) →
    ∃ vs', (w.setCells k p us).heap[k]? = some (.cells vs' ty fr) ∧ vs'.size = vs.size ∧ ∀ j, vs'[j]? = if p ≤ j ∧ j < p + us.length ∧ j < vs.size then us[j - p]? else vs[j]?
  | [], p, w, vs, ty, fr, h => ⟨vs, h, rfl, fun j => by rw [if_neg (by simp; omega)]⟩
  | u :: us, p, w, vs, ty, fr, h => by
    obtain ⟨vs', h1, h2, h3⟩ := heap_setCells_same k us (p + 1) (w.setCell ⟨k, p, none⟩ u) _ ty fr (heap_setCell_same h u)
    refine ⟨vs', h1, by rw [h2]; simp, fun j => ?_⟩
    rw [h3 j]
    simp only [Array.size_setIfInBounds, List.length_cons]
    by_cases hj : j = p
    · subst hj
      rw [if_neg (by omega)]
      by_cases hs : j < vs.size
      · rw [if_pos ⟨Nat.le_refl _, by omega, hs⟩]
        simp [hs]
      · rw [if_neg (by omega)]
        simp [hs]
    · by_cases hc : p + 1 ≤ j ∧ j < p + 1 + us.length ∧ j < vs.size
      · rw [if_pos hc, if_pos (by omega)]
        rw [show j - p = (j - (p + 1)) + 1 by omega, List.getElem?_cons_succ]
      · rw [if_neg hc, if_neg (by omega)]
        simp [Ne.symm hj]
theorem kept_setCells (w : World) (k p : Nat) (us : List Value) (M : Nat → Prop) (hM : M k) : Kept M w (w.setCells k p us) := by
  have hsz : ∀ (us : List Value) (p : Nat) (w : World), (w.setCells k p us).heap.size = w.heap.size ∧ (w.setCells k p us).tape = w.tape := by
    intro us
    induction us with
    | nil => exact fun _ _ => ⟨rfl, rfl⟩
    | cons u us ih =>
      intro p w
      obtain ⟨h1, h2⟩ := ih (p + 1) (w.setCell ⟨k, p, none⟩ u)
      exact ⟨h1.trans (by simp [World.setCell]), h2.trans rfl⟩
  exact ⟨World.os_setCells w k p us, (hsz us p w).2, World.output_setCells w k p us, Nat.le_of_eq (hsz us p w).1.symm, fun i hi hn => World.heap_setCells_other w k p us hi fun e => hn (e ▸ hM)⟩
section
variable {P : Program} {N : Nat} {o : Oper} {T : Tm} {H : Hp}
theorem run_st {t : Nat} {i : TI} (ht : TyP P t i) {k p : Nat} {w : World} {vs : Array Value} {ty : TypeId} (hb : w.heap[k]? = some (.cells vs ty (0, 0))) {u : Value} (hu : u.cells.size = i.sz) (hle : p + i.sz ≤ vs.size) (h1 : ∀ v ∈ u.cells.toList, v.oneCell' = true) :
    (Instr.storeAt t (.pointer (some ⟨k, p, none⟩)) u).run P w = .ok () (w.setCells k p u.cells.toList) := by
  have hcell : ∀ j, j < i.sz → ∃ v, vs[p + j]? = some v := fun j hj => ⟨_, Array.getElem?_eq_getElem (by omega)⟩
  have := run_storeCells_cells (P := P) k p u.cells.toList 0 w (fun j hj => by
      obtain ⟨v, hv⟩ := hcell j (by rw [← hu]; simpa using hj)
      rw [Nat.add_zero, cell_in hb hv]
      rfl) (fun j hj => by simp [World.frozen?, hb]) h1
  obtain ⟨d, inf, _, hi, hsz, _⟩ := ht
  simp only [Nat.add_zero] at this
  simp [Instr.storeAt, Instr.sureAddr, storeVar, sizeOf, typeInfo, hi, hsz, hu, this]
def splice {α : Type} (cs : List α) (p : Nat) (new : List α) : List α := cs.take p ++ (new ++ cs.drop (p + new.length))
theorem splice_get {α : Type} {cs new : List α} {p : Nat} (h : p + new.length ≤ cs.length) (j : Nat) : (splice cs p new)[j]? = if p ≤ j ∧ j < p + new.length then new[j - p]? else cs[j]? := by
  unfold splice
  by_cases h1 : j < p
  · rw [if_neg (by omega), List.getElem?_append_left (by rw [List.length_take]; omega), List.getElem?_take, if_pos h1]
  · rw [List.getElem?_append_right (by rw [List.length_take]; omega), List.length_take, Nat.min_eq_left (by omega)]
    by_cases h2 : j < p + new.length
    · rw [if_pos ⟨by omega, h2⟩, List.getElem?_append_left (by omega)]
    · rw [if_neg (by omega), List.getElem?_append_right (by omega), List.getElem?_drop]
      congr 1
      omega
theorem splice_length {α : Type} {cs new : List α} {p : Nat} (h : p + new.length ≤ cs.length) : (splice cs p new).length = cs.length := by
  unfold splice
  simp
  omega
theorem g_store_box {t b p : Nat} {x y : Operand} {i : TI} {cs : List Cell} {e : E} (hN : dstOk N o.dst = true) (ho : o.op = .store t x y) (hx : evO T x = some (.pt b 0 p)) (hb : H b = some (.box cs)) (hy : evO T y = some (.e e)) (ht : TyP P t i) (hl : (cellsOf e).all (liveC H) = true)
    (hsz : Nat.beq (cellsOf e).length i.sz = true) (hle : Nat.ble (p + (cellsOf e).length) cs.length = true) : GoodW P N o ⟨.un, [(b, some (.box (splice cs p (cellsOf e))))], b :: refsOf e, []⟩ T H := by
  intro T' H' hT hH hF κ w0 S ι a w hr Q K hK
  have hb' : H' b = some (.box cs) := (hH b (by simp)).trans hb
  have hu := evO_ok hr ((evO_agree hT (by simp [ho, Op.operands])).trans hy)
  have hsz : (cellsOf e).length = i.sz := Nat.eq_of_beq_eq_true hsz
  have hle : p + (cellsOf e).length ≤ cs.length := Nat.le_of_ble_eq_true hle
  have hl' : (cellsOf e).all (liveC H') = true := by
    rw [List.all_eq_true] at hl ⊢
    exact fun c hc => (liveC_agree fun b hb => hH b (List.mem_cons_of_mem _ (List.mem_flatMap.2 ⟨c, hc, hb⟩))).trans (hl c hc)
  obtain ⟨k, c, h1, h2⟩ := evO_ok hr ((evO_agree hT (by simp [ho, Op.operands])).trans hx) _ hb'
  obtain ⟨k', c', h3, vs, ty, h4, h5, h6⟩ := hr.blk b _ hb'
  rw [h1] at h3
  cases h3
  obtain ⟨c1, c2, c3⟩ := cells_of_live hu hl'
  have hrun := run_st (P := P) (p := p) ht h4 (u := a.eval y) (by rw [c1, hsz]) (by omega) c3
  obtain ⟨vs', e1, e2, e3⟩ := heap_setCells_same k (a.eval y).cells.toList p w vs ty (0, 0) h4
  have hput : ∀ b', b' ≠ b → (H'.put b (some (.box (splice cs p (cellsOf e))))) b' = H' b' := fun b' hn => by simp [Hp.put, hn]
  have hsame : ∀ b', Same ι H' ι (H'.put b (some (.box (splice cs p (cellsOf e))))) b' := fun b' B' hB' => by
    by_cases hn : b' = b
    · subst hn
      have : B' = .box (splice cs p (cellsOf e)) := by simpa [Hp.put] using hB'.symm
      subst this
      exact ⟨_, hb', by simp [Blk.shape, splice_length hle], rfl, rfl⟩
    · rw [hput b' hn] at hB'
      exact ⟨B', hB', rfl, rfl, rfl⟩
  have hn := (hr.next (w' := w.setCells k p (a.eval y).cells.toList) (ι' := ι) (H' := H'.put b (some (.box (splice cs p (cellsOf e))))) (fun q => q = k) (kept_setCells w k p _ _ rfl) (fun q hq _ => ⟨b, _, c, hb', rfl, hq ▸ h1⟩) (fun b' => .inl (hsame b'))
    (fun b' B' q c' hB' hi => by
      by_cases hn : b' = b
      · subst hn
        have : B' = .box (splice cs p (cellsOf e)) := by simpa [Hp.put] using hB'.symm
        subst this
        exact .inl ⟨_, c', hb', fun _ => rfl, hi, fun h => nomatch h⟩
      · rw [hput b' hn] at hB'
        exact .inl ⟨B', c', hB', fun h => h, hi, fun _ => ⟨rfl, rfl⟩⟩)
    (fun b1 b2 B1 B2 x1 x2 q g1 g2 g3 g4 o1 o2 => by
      have f : ∀ b' B', (H'.put b (some (.box (splice cs p (cellsOf e))))) b' = some B' → ∃ B0, H' b' = some B0 ∧ (B'.isN = true → B0.isN = true) := fun b' B' hB' => by
        by_cases hn : b' = b
        · subst hn
          have : B' = .box (splice cs p (cellsOf e)) := by simpa [Hp.put] using hB'.symm
          subst this
          exact ⟨_, hb', fun h => nomatch h⟩
        · exact ⟨B', (hput b' hn) ▸ hB', id⟩
      obtain ⟨B3, g5, n1⟩ := f _ _ g1
      obtain ⟨B4, g6, n2⟩ := f _ _ g2
      exact hr.injO b1 b2 B3 B4 x1 x2 q g5 g6 g3 g4 (o1.up n1) (o2.up n2))
    (fun hok b' B' hB' => by
      by_cases hn : b' = b
      · subst hn
        have : B' = .box (splice cs p (cellsOf e)) := by simpa [Hp.put] using hB'.symm
        subst this
        refine .inr ⟨k, c, h1, vs', ty, e1, by rw [e2, h5, splice_length hle], fun j cc hj => ?_⟩
        rw [splice_get hle] at hj
        simp only [e3 j, Array.length_toList, c1]
        by_cases hin : p ≤ j ∧ j < p + (cellsOf e).length
        · rw [if_pos hin] at hj
          rw [if_pos ⟨hin.1, hin.2, by omega⟩]
          obtain ⟨u, hu1, hu2⟩ := c2 _ cc hj
          exact ⟨u, by simpa using hu1, hu2.move (Moves.of hok) fun b _ => hsame b⟩
        · rw [if_neg hin] at hj
          rw [if_neg (by omega)]
          obtain ⟨u, hu1, hu2⟩ := h6 j cc hj
          exact ⟨u, hu1, hu2.move (Moves.of hok) fun b _ => hsame b⟩
      · rw [hput b' hn] at hB'
        exact .inl ⟨hB', rfl, fun x hx q ho hq => hn (hr.injO b' b B' _ x _ q hB' hb' hx h1 ho (.inl hq))⟩)).1
  rw [← appL_put] at hn
  unfold Oper.wp execOp
  rw [ho]
  simp only [h2, Blk.wd, Nat.mul_zero, Nat.zero_add, Sem.run_bind, hrun, Result.andThen_ok, Sem.run_pure, Oper.upon_skip]
  exact hK _ _ _ (hn.putD hN (x := .un) trivial)
/-! ### written no more -/
def frz1 (H : Hp) (b : Nat) : List (Nat × Option Blk) := match H b with
  | some (.row wd e rows _ nf) => [(b, some (.row wd e rows true nf))]
  | _ => []
def frzL (H : Hp) : List Nat → List (Nat × Option Blk)
  | [] => []
  | b :: l => frz1 H b ++ frzL H l
theorem Rel.frz {κ : Nat → Value} {w0 : World} {S : Wr} {ι : Nm} {a : Act} {w : World} (h : Rel N κ w0 S ι T H a w) (b : Nat) : Rel N κ w0 S ι T (appL H (frz1 H b)) a w := by
  unfold frz1
  split
  · rename_i wd e rows f nf hb
    rw [appL_put]
    have hput : ∀ b', b' ≠ b → (H.put b (some (.row wd e rows true nf))) b' = H b' := fun b' hn => by simp [Hp.put, hn]
    have hself : (H.put b (some (.row wd e rows true nf))) b = some (.row wd e rows true nf) := by simp [Hp.put]
    refine (h.next (fun _ => False) (Kept.refl _ _) (fun _ h => h.elim) (fun b' => .inl fun B' hB' => ?_) (fun b' B' q c' hB' hi => .inl ?_) (fun b1 b2 B1 B2 x1 x2 q g1 g2 g3 g4 o1 o2 => ?_) (fun hok b' B' hB' => ?_)).1
    · by_cases hn : b' = b
      · subst hn
        rw [hself] at hB'
        cases hB'
        exact ⟨_, hb, rfl, rfl, rfl⟩
      · rw [hput b' hn] at hB'
        exact ⟨B', hB', rfl, rfl, rfl⟩
    · by_cases hn : b' = b
      · subst hn
        rw [hself] at hB'
        cases hB'
        exact ⟨_, c', hb, (fun h => by cases h), hi, fun h => nomatch h⟩
      · rw [hput b' hn] at hB'
        exact ⟨B', c', hB', fun h => h, hi, fun _ => ⟨rfl, rfl⟩⟩
    · have f : ∀ b' B', (H.put b (some (.row wd e rows true nf))) b' = some B' → ∃ B0, H b' = some B0 ∧ (B'.isN = true → B0.isN = true) := fun b' B' hB' => by
        by_cases hn : b' = b
        · subst hn
          rw [hself] at hB'
          cases hB'
          exact ⟨_, hb, fun h => nomatch h⟩
        · exact ⟨B', (hput b' hn) ▸ hB', id⟩
      obtain ⟨B3, g5, n1⟩ := f _ _ g1
      obtain ⟨B4, g6, n2⟩ := f _ _ g2
      exact h.injO b1 b2 B3 B4 x1 x2 q g5 g6 g3 g4 (o1.up n1) (o2.up n2)
    · by_cases hn : b' = b
      · subst hn
        rw [hself] at hB'
        cases hB'
        refine .inr (BR.move (B := .row wd e rows true nf) hok (fun b hb => by cases hb) (fun _ _ _ _ => rfl) ?_)
        have := h.blk _ _ hb
        exact this
      · rw [hput b' hn] at hB'
        exact .inl ⟨hB', rfl, fun _ _ _ _ h => h⟩
  · exact h
end
end Go.Proofs.Ytggmeldoecnkaaa.Av
