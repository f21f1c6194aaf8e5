/-
Operations that make blocks or write into those of the call's own: what each comes to.
Conditions: none beside those that each theorem names.
-/
import Derived.Test.YtggmeldoecnkaaaAv5
import Derived.Maps.AppendAt
import Derived.Great.FillDense
import Derived.Deep.Upon
set_option linter.unusedVariables false
set_option linter.unusedSimpArgs false
namespace Go.Proofs.Ytggmeldoecnkaaa.Av
open Go.RowKit

theorem appL_put (H : Hp) (b : Nat) (B : Option Blk) : appL H [(b, B)] = H.put b B := by funext n; rfl
theorem Rel.alloc {N : Nat} {κ : Nat → Value} {w0 : World} {S : Wr} {ι : Nm} {T : Tm} {H : Hp} {a : Act} {w : World} (h : Rel N κ w0 S ι T H a w) {nm : Nat} (hF : Fresh T H nm) (obj : Obj) (B : Blk) (hN : B.isN = false) (c : Cp)
    (hB : (∀ k, Ok ι H w k → Ok (ι.put nm (some (w.heap.size, c))) (H.put nm (some B)) (w.alloc obj) k ∧ (w.alloc obj).heap[k]? = w.heap[k]?) →
      BR ⟨κ, S.fr⟩ (ι.put nm (some (w.heap.size, c))) (H.put nm (some B)) (w.alloc obj) (some (w.heap.size, c)) B) :
    Rel N κ w0 S (ι.put nm (some (w.heap.size, c))) T (H.put nm (some B)) a (w.alloc obj) ∧
      (∀ k, Ok ι H w k → Ok (ι.put nm (some (w.heap.size, c))) (H.put nm (some B)) (w.alloc obj) k ∧ (w.alloc obj).heap[k]? = w.heap[k]?) := by
  have hput : ∀ b, b ≠ nm → (H.put nm (some B)) b = H b ∧ (ι.put nm (some (w.heap.size, c))) b = ι b := fun b hb => by simp [Hp.put, Nm.put, hb]
  have hself : (H.put nm (some B)) nm = some B ∧ (ι.put nm (some (w.heap.size, c))) nm = some (w.heap.size, c) := by simp [Hp.put, Nm.put]
  refine h.next (fun _ => False) (Kept.ofBelow ((Below.refl _ _).alloc (Nat.le_refl _) obj) _) (fun _ h => h.elim) (fun b => ?_) (fun b B' k c' hb hi => ?_) (fun b b' B1 B2 x1 x2 k h1 h2 h3 h4 o1 o2 => ?_) (fun hok b B' hb => ?_) (fun b hb => congrArg key (hput b (fun e => by have := hF.2.2; omega)).2)
  · by_cases hb : b = nm
    · subst hb; exact .inr hF
    · exact .inl fun B' hB' => ⟨B', (hput b hb).1 ▸ hB', rfl, rfl, congrArg key (hput b hb).2⟩
  · by_cases he : b = nm
    · subst he
      rw [hself.2] at hi
      cases hi
      rw [hself.1] at hb
      cases hb
      exact .inr ⟨hN, .inr (Nat.le_refl _), .inl h.kept.size⟩
    · rw [(hput b he).1] at hb
      rw [(hput b he).2] at hi
      exact .inl ⟨B', c', hb, fun h => h, hi, fun _ => ⟨rfl, rfl⟩⟩
  · by_cases e1 : b = nm <;> by_cases e2 : b' = nm
    · exact e1.trans e2.symm
    · subst e1
      rw [hself.1] at h1
      rw [hself.2] at h3
      cases h1
      cases h3
      rw [(hput b' e2).1] at h2
      rw [(hput b' e2).2] at h4
      rw [o1.pair hN] at o2
      exact absurd (h.ownLt h2 h4 o2) (Nat.lt_irrefl _)
    · subst e2
      rw [hself.1] at h2
      rw [hself.2] at h4
      cases h2
      cases h4
      rw [(hput b e1).1] at h1
      rw [(hput b e1).2] at h3
      rw [o2.pair hN] at o1
      exact absurd (h.ownLt h1 h3 o1) (Nat.lt_irrefl _)
    · rw [(hput b e1).1] at h1
      rw [(hput b e1).2] at h3
      rw [(hput b' e2).1] at h2
      rw [(hput b' e2).2] at h4
      exact h.injO b b' B1 B2 x1 x2 k h1 h2 h3 h4 o1 o2
  · by_cases he : b = nm
    · subst he
      rw [hself.1] at hb
      cases hb
      rw [hself.2]
      exact .inr (hB hok)
    · rw [(hput b he).1] at hb
      exact .inl ⟨hb, (hput b he).2, fun _ _ _ _ h => h⟩
section
variable {P : Program} {N : Nat} {o : Oper} {T : Tm} {H : Hp}
def cellsOf : E → List Cell
  | .c c => [c]
  | .agg cs => cs
theorem cellsOf_ok {g : Env} {ι : Nm} {w : World} {e : E} {u : Value} (h : ER g ι H w e u) (hs : ∀ c, e = .c c → ∀ cs, u ≠ .agg cs) : u.cells.size = (cellsOf e).length ∧ CsR g ι H w (cellsOf e) (fun j => u.cells[j]?) := by
  cases e with
  | c c =>
    have hu : u.cells = #[u] := by
      cases u <;> first | rfl | exact absurd rfl (hs c rfl _)
    rw [hu]
    refine ⟨rfl, fun j c' hj => ?_⟩
    cases j with
    | zero => cases hj; exact ⟨u, rfl, h⟩
    | succ j => cases hj
  | agg cs =>
    obtain ⟨vs, rfl, hl, hc⟩ := h
    exact ⟨hl, hc⟩
/-- One cell is one cell. -/
theorem CR.one {g : Env} {ι : Nm} {w : World} {c : Cell} {u : Value} (h : CR g ι H w c u) (hl : ∀ b, c = .ref b → ∃ B, H b = some B) : u.oneCell' = true := by
  have ht : ∀ {ok : Nat → Prop} {d : D}, TR w ok d u → u.oneCell' = true := fun t => by cases t <;> first | assumption | rfl
  cases c with
  | d x => exact ht h
  | f x => exact ht h
  | k j x => exact ht h.2
  | nil => cases h; rfl
  | ref b =>
    obtain ⟨B, hB⟩ := hl b rfl
    obtain ⟨wd, n, _, h2⟩ := h B hB
    cases hi : ι b with
    | none => rw [hi] at h2; rw [h2.2]; rfl
    | some q => rw [hi] at h2; rw [show u = _ from h2]; rfl
def liveC (H : Hp) : Cell → Bool
  | .ref b => match H b with
    | some _ => true
    | none => false
  | _ => true
theorem liveC_ok {c : Cell} (h : liveC H c = true) : ∀ b, c = .ref b → ∃ B, H b = some B := by
  rintro b rfl
  unfold liveC at h
  cases hb : H b with
  | none => simp [hb] at h
  | some B => exact ⟨B, rfl⟩
def refsOf (e : E) : List Nat := (cellsOf e).flatMap Cell.ids
theorem liveC_agree {H H' : Hp} {c : Cell} (h : ∀ b, b ∈ c.ids → H' b = H b) : liveC H' c = liveC H c := by
  cases c with
  | ref b => simp [liveC, h b (by simp [Cell.ids])]
  | _ => rfl
theorem E.one {g : Env} {ι : Nm} {w : World} {e : E} {u : Value} (h : ER g ι H w e u) (hl : (cellsOf e).all (liveC H) = true) : ∀ c, e = .c c → ∀ cs, u ≠ .agg cs := by
  rintro c rfl cs rfl
  have := CR.one h (liveC_ok (by simpa [cellsOf] using hl))
  cases this
theorem cells_of_live {g : Env} {ι : Nm} {w : World} {e : E} {u : Value} (h : ER g ι H w e u) (hl : (cellsOf e).all (liveC H) = true) : u.cells.size = (cellsOf e).length ∧ CsR g ι H w (cellsOf e) (fun j => u.cells[j]?) ∧ ∀ v ∈ u.cells.toList, v.oneCell' = true := by
  obtain ⟨h1, h2⟩ := cellsOf_ok h (E.one h hl)
  refine ⟨h1, h2, fun v hv => ?_⟩
  obtain ⟨j, hj⟩ := List.mem_iff_getElem?.1 hv
  have hj' : u.cells[j]? = some v := by simpa using hj
  have hlt : j < (cellsOf e).length := by rw [← h1]; exact (Array.getElem?_eq_some_iff.1 hj').1
  obtain ⟨v', e1, e2⟩ := h2 j _ (List.getElem?_eq_getElem hlt)
  simp only [hj'] at e1
  cases e1
  exact e2.one (liveC_ok (List.all_eq_true.1 hl _ (List.getElem_mem hlt)))
theorem Same.put {ι : Nm} {H : Hp} {nm : Nat} {g : Option (Nat × Cp)} {B : Option Blk} {b : Nat} (h : b ≠ nm) : Same ι H (ι.put nm g) (H.put nm B) b := fun B' hB' => ⟨B', by simpa [Hp.put, h] using hB', rfl, rfl, by simp [Nm.put, h]⟩
/-- A fresh block that holds a value's cells. -/
theorem new_box {t nm : Nat} {e : E} (hl : (cellsOf e).all (liveC H) = true) {κ : Nat → Value} {w0 : World} {S : Wr} {ι : Nm} {a : Act} {w : World} (hr : Rel N κ w0 S ι T H a w) {u : Value} (hu : ER ⟨κ, S.fr⟩ ι H w e u) (hF : Fresh T H nm) (hid : nm ∉ refsOf e) :
    Rel N κ w0 S (ι.put nm (some (w.heap.size, cp 0))) T (H.put nm (some (.box (cellsOf e)))) a (w.alloc (.cells u.cells t)) := by
  obtain ⟨h1, h2, _⟩ := cells_of_live hu hl
  exact (hr.alloc hF (.cells u.cells t) (.box (cellsOf e)) rfl (cp 0) fun hok => ⟨w.heap.size, cp 0, rfl, u.cells, t, heap_alloc_new w _, h1, CsR.move (Moves.of hok) (fun b hb => Same.put fun e => hid (e ▸ hb)) h2⟩).1
theorem g_box {t nm : Nat} {x : Operand} {e : E} (hN : dstOk N o.dst = true) (ho : o.op = .box t x) (hx : evO T x = some (.e e)) (hl : (cellsOf e).all (liveC H) = true) (hid : (refsOf e).contains nm = false) : GoodW P N o ⟨.pt nm 0 0, [(nm, some (.box (cellsOf e)))], refsOf e, [nm]⟩ T H := by
  intro T' H' hT hH hF κ w0 S ι a w hr Q K hK
  have hu := evO_ok hr ((evO_agree hT (by simp [ho, Op.operands])).trans hx)
  have hl' : (cellsOf e).all (liveC H') = true := by
    rw [List.all_eq_true] at hl ⊢
    exact fun c hc => (liveC_agree fun b hb => hH b (List.mem_flatMap.2 ⟨c, hc, hb⟩)).trans (hl c hc)
  have hn := new_box (t := t) hl' hr hu (hF nm (by simp)) (by simpa using hid)
  unfold Oper.wp execOp
  rw [ho]
  simp only [Instr.box, newVar, newRow, newObj, Sem.run_bind, Sem.run_pure, Result.andThen_ok, Sem.run, Oper.upon_value]
  rw [← appL_put] at hn
  refine hK _ _ _ (hn.putD hN (x := .pt nm 0 0) fun B hB => ?_)
  have : B = .box (cellsOf e) := by simpa [appL_put, Hp.put] using hB.symm
  subst this
  exact ⟨w.heap.size, cp 0, by simp [Nm.put], rfl⟩
/-- The cells of a type's zero. -/
def zc : Value → Cell
  | .slice none 0 0 => .nil
  | v => .d (.v v)
def zok : Value → Bool
  | .slice none 0 0 => true
  | .int _ _ | .bool _ | .string _ => true
  | _ => false
theorem zc_ok {g : Env} {ι : Nm} {w : World} {v : Value} (h : zok v = true) : CR g ι H w (zc v) v := by
  unfold zok at h
  split at h
  · exact rfl
  · exact .v _ rfl
  · exact .v _ rfl
  · exact .v _ rfl
  · cases h
theorem g_alloc {t nm : Nat} {i : TI} (hN : dstOk N o.dst = true) (ho : o.op = .alloc t) (ht : TyP P t i) (hz : i.zero.all zok = true) : GoodW P N o ⟨.pt nm 0 0, [(nm, some (.box (i.zero.map zc)))], [], [nm]⟩ T H := by
  intro T' H' hT hH hF κ w0 S ι a w hr Q K hK
  obtain ⟨d, inf, hd, hi, _, _, hzero, _⟩ := ht
  obtain ⟨z, hz1, hz2⟩ := Option.map_eq_some_iff.1 hzero
  have hn : Rel N κ w0 S (ι.put nm (some (w.heap.size, cp 0))) T' (H'.put nm (some (.box (i.zero.map zc)))) a (w.alloc (.cells z.cells t)) := by
    refine (hr.alloc (hF nm (by simp)) (.cells z.cells t) (.box (i.zero.map zc)) rfl (cp 0) fun hok => ⟨w.heap.size, cp 0, rfl, z.cells, t, heap_alloc_new w _, by rw [List.length_map, ← hz2]; simp, fun j c hj => ?_⟩).1
    rw [List.getElem?_map] at hj
    obtain ⟨v, hv, rfl⟩ := Option.map_eq_some_iff.1 hj
    refine ⟨v, ?_, zc_ok (List.all_eq_true.1 hz v (List.mem_of_getElem? hv))⟩
    rw [← hz2] at hv
    simpa using hv
  unfold Oper.wp execOp
  rw [ho]
  simp only [Instr.alloc, zeroValue, typeInfo, program, hi, hz1, newVar, newRow, newObj, Sem.run_bind, Sem.run_pure, Result.andThen_ok, Sem.run, Oper.upon_value]
  rw [← appL_put] at hn
  refine hK _ _ _ (hn.putD hN (x := .pt nm 0 0) fun B hB => ?_)
  have : B = .box (i.zero.map zc) := by simpa [appL_put, Hp.put] using hB.symm
  subst this
  exact ⟨w.heap.size, cp 0, by simp [Nm.put], rfl⟩
end
end Go.Proofs.Ytggmeldoecnkaaa.Av
