/-
Rows whose inner slices are their own: loads and stores as operations.
Conditions: none beside those that each theorem names.
-/
import Derived.Test.YtggmeldoecnkaaaAv30
set_option linter.unusedVariables false
set_option linter.unusedSimpArgs false
namespace Go.Proofs.Ytggmeldoecnkaaa.Av
open Go.RowKit

def AllAt (n : Nat) : List (Nat × Nat × Nat) → Prop
  | [] => True
  | p :: l => p.1 = n ∧ AllAt n l
/-- The hole in a column, where all holes lie in one element. -/
def holeJ : List (Nat × Nat × Nat) → Nat → Option Nat
  | [], _ => none
  | (_, j', b) :: l, j => match Nat.beq j' j with
    | true => some b
    | false => holeJ l j
theorem holeJ_eq {n j : Nat} : ∀ {op : List (Nat × Nat × Nat)}, AllAt n op → hole op n j = holeJ op j
  | [], _ => rfl
  | (i', j', b) :: l, h => by
    rw [hole_cons]
    simp only [holeJ]
    by_cases hj : j' = j
    · subst hj
      rw [if_pos ⟨h.1, rfl⟩, Nat.beq_refl]
    · rw [if_neg (fun e => hj e.2), nbf0 hj]
      exact holeJ_eq h.2
section
variable {P : Program} {N : Nat} {o : Oper} {T : Tm} {H : Hp}
theorem ld1 {w : World} {t k q : Nat} {i : TI} {u : Value} (ht : TyP P t i) (hag : aggB i = false) (hu : w.cell? ⟨k, q, none⟩ = some u) : (Instr.loadAt t (.pointer (some ⟨k, q, none⟩))).run P w = .ok u w := by
  obtain ⟨d, hd, hr⟩ := ht.row
  rw [hag] at hr
  simp [Instr.loadAt, Instr.sureAddr, loadVar, Sem.run_bind, run_isAgg hd, hr, run_load, hu]
/-- A load of what a hole, or a plain cell, of a nest holds. -/
theorem g_ld_n {t b n p wd : Nat} {e : TypeId} {co : List (Nat × Nat × TypeId)} {rows : List (List D)} {op : List (Nat × Nat × Nat)} {i : TI} {row : List D} {d : D} {c : Cell} {x : Operand} (hN : dstOk N o.dst = true) (ho : o.op = .load t x) (hx : evO T x = some (.pt b n p)) (hb : H b = some (.nst wd e co rows op)) (ht : TyP P t i) (hag : aggB i = false)
    (hrow : rows[n]? = some row) (hd : row[p]? = some d) (hc : (∃ r, hole op n p = some r ∧ c = .ref r) ∨ hole op n p = none ∧ ∃ v, d = .v v ∧ c = .d (.v v)) : GoodW P N o ⟨.e (.c c), [], [b], []⟩ T H :=
  GoodW.val hN fun T' H' hT hH κ w0 S ι a w hr => by
    have hb' : H' b = some (.nst wd e co rows op) := (hH b (by simp)).trans hb
    obtain ⟨k, cc, h1, h2⟩ := evO_ok hr ((evO_agree hT (by simp [ho, Op.operands])).trans hx) _ hb'
    have h3 := hr.blk b _ hb'
    rw [h1] at h3
    obtain ⟨_, _, cs, h4, _, _, _, _, _, h5, _⟩ := h3
    obtain ⟨u, hu, hnc⟩ := h5 n row p d hrow hd
    refine ⟨u, ?_, ?_⟩
    · unfold execOp
      rw [ho]
      simp only [h2, Blk.wd, Sem.run_bind, ld1 (P := P) ht hag (cell_in h4 hu)]
      rfl
    · rcases hc with ⟨r, q1, rfl⟩ | ⟨q1, v, rfl, rfl⟩
      · rw [q1] at hnc
        exact hnc
      · rw [q1] at hnc
        rw [show u = v from hnc.1]
        exact .v _ hnc.2
/-- A load that takes an inner slice out. -/
theorem g_ld_foc {t b n p wd wd' id : Nat} {e ty : TypeId} {co : List (Nat × Nat × TypeId)} {rows : List (List D)} {op : List (Nat × Nat × Nat)} {i : TI} {row : List D} {q : List (List D)} {x : Operand} (hN : dstOk N o.dst = true) (ho : o.op = .load t x) (hx : evO T x = some (.pt b n p)) (hb : H b = some (.nst wd e co rows op)) (ht : TyP P t i) (hag : aggB i = false)
    (hrow : rows[n]? = some row) (hd : row[p]? = some (.sl q)) (hh : hole op n p = none) (hlk : lk co p = some (wd', ty)) (hw' : 0 < wd') (hid : b ≠ id) :
    GoodW P N o ⟨.e (.c (.ref id)), [(b, some (.nst wd e co rows ((n, p, id) :: op))), (id, some (.row wd' ty q false true))], [b], [id]⟩ T H := by
  intro T' H' hT hH hF κ w0 S ι a w hr0 Q K hK
  have hb0 : H' b = some (.nst wd e co rows op) := (hH b (by simp)).trans hb
  obtain ⟨ι', hr⟩ := hr0.focN hb0 hh (hF id (by simp)) hid hlk hw' hrow hd
  have hb' : ((H'.put id (some (.row wd' ty q false true))).put b (some (.nst wd e co rows ((n, p, id) :: op)))) b = some (.nst wd e co rows ((n, p, id) :: op)) := by simp [Hp.put]
  obtain ⟨k, cc, h1, h2⟩ := evO_ok hr ((evO_agree hT (by simp [ho, Op.operands])).trans hx) _ hb'
  have h3 := hr.blk b _ hb'
  rw [h1] at h3
  obtain ⟨_, _, cs, h4, _, _, _, _, _, h5, _⟩ := h3
  obtain ⟨u, hu, hnc⟩ := h5 n row p _ hrow hd
  rw [hole_cons, if_pos ⟨rfl, rfl⟩] at hnc
  unfold Oper.wp execOp
  rw [ho]
  simp only [h2, Blk.wd, Sem.run_bind, ld1 (P := P) ht hag (cell_in h4 hu), Result.andThen_ok, Sem.run_pure, Oper.upon_value]
  have e1 : appL H' [(b, some (.nst wd e co rows ((n, p, id) :: op))), (id, some (.row wd' ty q false true))] = (H'.put id (some (.row wd' ty q false true))).put b (some (.nst wd e co rows ((n, p, id) :: op))) := by
    rw [appL_cons_put, appL_put]
  refine hK ι' _ _ ?_
  rw [e1]
  exact hr.putD hN (x := .e (.c (.ref id))) hnc
/-! ### stores -/
/-- What a cell is told as in a nest; the slice that the nest takes in. -/
def nC (H : Hp) (co : List (Nat × Nat × TypeId)) (j : Nat) : Cell → Option (D × Option (Nat × List (List D)))
  | .d (.v x) => some (.v x, none)
  | .f (.v x) => some (.v x, none)
  | .k _ (.v x) => some (.v x, none)
  | .nil => some (.sl [], none)
  | .ref b => match H b with
    | some (.row wd ty q false true) => match lk co j with
      | some (wd', ty') => match Nat.beq wd wd' && Nat.beq ty ty' with
        | true => some (.sl q, some (b, q))
        | false => none
      | none => none
    | _ => none
  | _ => none
def nCs (H : Hp) (co : List (Nat × Nat × TypeId)) : Nat → List Cell → Option (List D × List (Nat × Nat × List (List D)))
  | _, [] => some ([], [])
  | j, c :: l => match nC H co j c, nCs H co (j + 1) l with
    | some (d, none), some (ds, L) => some (d :: ds, L)
    | some (d, some (b, q)), some (ds, L) => some (d :: ds, (j, b, q) :: L)
    | _, _ => none
/-- What a cell holds, as its nest's. -/
theorem nC_ok {g : Env} {ι : Nm} {w : World} {k : Nat} {cp : Cp} {co : List (Nat × Nat × TypeId)} {j : Nat} {c : Cell} {d : D} {u : Value} {H2 : Hp} (h : nC H co j c = some (d, none)) (hc : CR g ι H2 w c u) : ND g w k cp co j d u ∧ ∀ q, d = .sl q → u = .slice none 0 0 := by
  unfold nC at h
  split at h
  · cases h
    obtain ⟨e1, e2⟩ := TR.flatv hc rfl
    exact ⟨⟨e1, e2⟩, fun q e => by cases e⟩
  · cases h
    obtain ⟨e1, e2⟩ := TR.flatv hc rfl
    exact ⟨⟨e1, e2⟩, fun q e => by cases e⟩
  · cases h
    obtain ⟨e1, e2⟩ := TR.flatv hc.2 rfl
    exact ⟨⟨e1, e2⟩, fun q e => by cases e⟩
  · cases h
    exact ⟨.inl ⟨hc, rfl⟩, fun _ _ => hc⟩
  · split at h
    · split at h
      · split at h <;> cases h
      · cases h
    · cases h
  · cases h
theorem nC_ref {co : List (Nat × Nat × TypeId)} {j : Nat} {c : Cell} {d : D} {b : Nat} {q : List (List D)} (h : nC H co j c = some (d, some (b, q))) : c = .ref b ∧ d = .sl q ∧ ∃ wd ty, H b = some (.row wd ty q false true) ∧ lk co j = some (wd, ty) := by
  unfold nC at h
  split at h
  · cases h
  · cases h
  · cases h
  · cases h
  · split at h
    · rename_i wd ty q' hb
      split at h
      · rename_i wd' ty' hl
        split at h
        · rename_i he
          cases h
          simp only [Bool.and_eq_true] at he
          obtain rfl := Nat.eq_of_beq_eq_true he.1
          obtain rfl := Nat.eq_of_beq_eq_true he.2
          exact ⟨rfl, rfl, _, _, hb, hl⟩
        · cases h
      · cases h
    · cases h
  · cases h
theorem nCs_get {co : List (Nat × Nat × TypeId)} : ∀ {cs : List Cell} {j : Nat} {ds : List D} {L : List (Nat × Nat × List (List D))}, nCs H co j cs = some (ds, L) → ds.length = cs.length ∧ (L.map (·.1)).Nodup ∧ (∀ p, p ∈ L → j ≤ p.1 ∧ p.1 < j + cs.length ∧ cs[p.1 - j]? = some (.ref p.2.1) ∧ ds[p.1 - j]? = some (.sl p.2.2) ∧ ∃ wd ty, H p.2.1 = some (.row wd ty p.2.2 false true) ∧ lk co p.1 = some (wd, ty)) ∧
    ∀ (m : Nat) (d : D), ds[m]? = some d → ∃ c, cs[m]? = some c ∧ ((∃ b q, (j + m, b, q) ∈ L ∧ c = .ref b ∧ d = .sl q) ∨ j + m ∉ L.map (·.1) ∧ nC H co (j + m) c = some (d, none))
  | [], j, ds, L, h => by
    cases h
    exact ⟨rfl, List.nodup_nil, (fun p hp => by cases hp), fun m d hm => by cases hm⟩
  | c :: l, j, ds, L, h => by
    simp only [nCs] at h
    split at h
    · rename_i d ds' L' h1 h2
      cases h
      obtain ⟨a1, a2, a3, a4⟩ := nCs_get h2
      refine ⟨by simp [a1], a2, fun p hp => ?_, fun m d' hm => ?_⟩
      · obtain ⟨b1, b2, b3, b4, b5⟩ := a3 p hp
        rw [show p.1 - j = (p.1 - (j + 1)) + 1 by omega]
        exact ⟨by omega, by simp only [List.length_cons]; omega, b3, b4, b5⟩
      · cases m with
        | zero =>
          cases hm
          refine ⟨c, rfl, .inr ⟨fun hmem => ?_, h1⟩⟩
          obtain ⟨p, hp, e⟩ := List.mem_map.1 hmem
          have := (a3 p hp).1
          omega
        | succ m =>
          rw [show j + (m + 1) = j + 1 + m by omega]
          exact a4 m d' hm
    · rename_i d b q ds' L' h1 h2
      cases h
      obtain ⟨a1, a2, a3, a4⟩ := nCs_get h2
      obtain ⟨r1, r2, wd, ty, r3, r4⟩ := nC_ref h1
      subst r1
      subst r2
      have hnj : j ∉ L'.map (·.1) := fun hmem => by
        obtain ⟨p, hp, e⟩ := List.mem_map.1 hmem
        have := (a3 p hp).1
        omega
      refine ⟨by simp [a1], List.nodup_cons.2 ⟨hnj, a2⟩, fun p hp => ?_, fun m d' hm => ?_⟩
      · rcases List.mem_cons.1 hp with e | hp
        · subst e
          exact ⟨Nat.le_refl _, by simp only [List.length_cons]; omega, by simp, by simp, wd, ty, r3, r4⟩
        · obtain ⟨b1, b2, b3, b4, b5⟩ := a3 p hp
          rw [show p.1 - j = (p.1 - (j + 1)) + 1 by omega]
          exact ⟨by omega, by simp only [List.length_cons]; omega, b3, b4, b5⟩
      · cases m with
        | zero =>
          cases hm
          exact ⟨_, rfl, .inl ⟨b, q, List.mem_cons_self, rfl, rfl⟩⟩
        | succ m =>
          rw [show j + (m + 1) = j + 1 + m by omega]
          obtain ⟨c', e1, e2⟩ := a4 m d' hm
          refine ⟨c', e1, e2.imp (fun ⟨b', q', f1, f2⟩ => ⟨b', q', List.mem_cons_of_mem _ f1, f2⟩) fun ⟨f1, f2⟩ => ⟨fun hmem => ?_, f2⟩⟩
          rcases List.mem_cons.1 hmem with e | hmem
          · simp only at e; omega
          · exact f1 hmem
    · cases h
theorem hole_L {n j b : Nat} {q : List (List D)} : ∀ {L : List (Nat × Nat × List (List D))}, (L.map (·.1)).Nodup → (j, b, q) ∈ L → hole (L.map fun p => (n, p.1, p.2.1)) n j = some b
  | p :: L, hn, h => by
    simp only [List.map_cons, List.nodup_cons] at hn ⊢
    rw [hole_cons]
    rcases List.mem_cons.1 h with e | h
    · subst e
      rw [if_pos ⟨rfl, rfl⟩]
    · rw [if_neg (fun e => hn.1 (List.mem_map.2 ⟨_, h, e.2.symm⟩))]
      exact hole_L hn.2 h
theorem hole_ne {n i j : Nat} (h : i ≠ n) : ∀ {L : List (Nat × Nat × List (List D))}, hole (L.map fun p => (n, p.1, p.2.1)) i j = none
  | [] => rfl
  | p :: L => by
    simp only [List.map_cons]
    rw [hole_cons, if_neg (fun e => h e.1.symm)]
    exact hole_ne h
/-- All holes lie where is stored. -/
def AllIn (n p len : Nat) : List (Nat × Nat × Nat) → Prop
  | [] => True
  | h :: l => (h.1 = n ∧ p ≤ h.2.1 ∧ h.2.1 < p + len) ∧ AllIn n p len l
theorem AllIn.hole {n p len i j : Nat} : ∀ {op : List (Nat × Nat × Nat)}, AllIn n p len op → ¬ (i = n ∧ p ≤ j ∧ j < p + len) → Av.hole op i j = none
  | [], _, _ => rfl
  | (i', j', b) :: l, h, hn => by
    rw [hole_cons, if_neg (fun e => hn (by obtain ⟨⟨h1, h2, h3⟩, _⟩ := h; simp only at h1 h2 h3; exact ⟨by omega, by omega, by omega⟩))]
    exact AllIn.hole h.2 hn
theorem nCs_agree {H' : Hp} {co : List (Nat × Nat × TypeId)} : ∀ {cs : List Cell} {j : Nat}, (∀ b, b ∈ cs.flatMap Cell.ids → H' b = H b) → nCs H' co j cs = nCs H co j cs
  | [], _, _ => rfl
  | c :: l, j, h => by
    have h1 : nC H' co j c = nC H co j c := by
      cases c with
      | ref b => simp only [nC]; rw [h b (by simp [Cell.ids])]
      | d x => cases x <;> rfl
      | f x => cases x <;> rfl
      | k i x => cases x <;> rfl
      | nil => rfl
    unfold nCs
    rw [h1, nCs_agree (cs := l) fun b hb => h b (by simp only [List.flatMap_cons]; exact List.mem_append_right _ hb)]
theorem appL_over {l : List (Nat × Option Blk)} {M M' : Hp} {x : Nat} (h : M x = M' x) : appL M l x = appL M' l x := by
  induction l with
  | nil => exact h
  | cons p l ih =>
    obtain ⟨y, C⟩ := p
    simp only [appL]
    split
    · rfl
    · exact ih
/-- A STORE INTO A NEST: what has a name becomes the nest's own. -/
theorem g_st_n {t b n p wd : Nat} {e : TypeId} {co : List (Nat × Nat × TypeId)} {rows : List (List D)} {op : List (Nat × Nat × Nat)} {i : TI} {r ds : List D} {L : List (Nat × Nat × List (List D))} {x y : Operand} {ex : E} (hN : dstOk N o.dst = true) (ho : o.op = .store t x y) (hx : evO T x = some (.pt b n p)) (hb : H b = some (.nst wd e co rows op)) (hrow : rows[n]? = some r) (hy : evO T y = some (.e ex)) (ht : TyP P t i)
    (hl : (cellsOf ex).all (liveC H) = true) (hd : nCs H co p (cellsOf ex) = some (ds, L)) (hsz : Nat.beq ds.length i.sz = true) (hle : Nat.ble (p + ds.length) wd = true) (hop : AllIn n p ds.length op) (hfl : FlatL L) (hnd : nodupB (L.map (·.2.1)) = true) :
    GoodW P N o ⟨.un, (b, some (.nst wd e co (rows.set n (splice r p ds)) [])) :: noneL L, b :: refsOf ex, []⟩ T H := by
  intro T' H' hT hH hF κ w0 S ι a w hr Q K hK
  have hHr : ∀ c, c ∈ refsOf ex → H' c = H c := fun c hc => hH c (List.mem_cons_of_mem _ hc)
  rw [← nCs_agree (H' := H') hHr] at hd
  have hl' : (cellsOf ex).all (liveC H') = true := by
    rw [List.all_eq_true] at hl ⊢
    exact fun c hc => (liveC_agree fun b hb => hHr b (List.mem_flatMap.2 ⟨c, hc, hb⟩)).trans (hl c hc)
  have hb' : H' b = some (.nst wd e co rows op) := (hH b (by simp)).trans hb
  have hu := evO_ok hr ((evO_agree hT (by simp [ho, Op.operands])).trans hy)
  obtain ⟨c1, c2, c3⟩ := cells_of_live hu hl'
  obtain ⟨k, c, h1, h2⟩ := evO_ok hr ((evO_agree hT (by simp [ho, Op.operands])).trans hx) _ hb'
  have h3 := hr.blk b _ hb'
  rw [h1] at h3
  obtain ⟨hw0, hw, cs, h4, hlc, hmx, hcs, hfr, hml, h5, hdis⟩ := h3
  obtain ⟨g1, g2, g3, g4⟩ := nCs_get hd
  have hsz : ds.length = i.sz := Nat.eq_of_beq_eq_true hsz
  have hle : p + ds.length ≤ wd := Nat.le_of_ble_eq_true hle
  have hrl := hw n r hrow
  have hnl : n < rows.length := (List.getElem?_eq_some_iff.1 hrow).1
  have hin : n * wd + p + ds.length ≤ cs.size := by
    have : (n + 1) * wd ≤ c * wd := Nat.mul_le_mul_right _ (by omega)
    rw [Nat.add_mul, Nat.one_mul] at this
    omega
  have hlen : (a.eval y).cells.size = ds.length := by rw [c1, g1]
  have hrun := run_st (P := P) (p := n * wd + p) ht h4 (u := a.eval y) (by rw [hlen, hsz]) (by omega) c3
  obtain ⟨cs', e1, e2, e3⟩ := heap_setCells_same k (a.eval y).cells.toList (n * wd + p) w cs e (0, 0) h4
  have hrb : ∀ q, q ∈ L → q.2.1 ≠ b := fun q hq he => by
    obtain ⟨_, _, _, _, wd2, ty2, f1, _⟩ := g3 q hq
    rw [he, hb'] at f1
    cases f1
  generalize hB1 : Blk.nst wd e co (rows.set n (splice r p ds)) (L.map fun q => (n, q.1, q.2.1)) = B1
  have hself : (H'.put b (some B1)) b = some B1 := by simp [Hp.put]
  have hput : ∀ b', b' ≠ b → (H'.put b (some B1)) b' = H' b' := fun b' hn => by simp [Hp.put, hn]
  have hsame : ∀ b', Same ι H' ι (H'.put b (some B1)) b' := fun b' B' hB' => by
    by_cases hn : b' = b
    · subst hn
      rw [hself] at hB'
      cases hB'
      exact ⟨_, hb', by rw [← hB1]; simp [Blk.shape], by rw [← hB1]; rfl, rfl⟩
    · rw [hput b' hn] at hB'
      exact ⟨B', hB', rfl, rfl, rfl⟩
  have f : ∀ b' B', (H'.put b (some B1)) b' = some B' → ∃ B0, H' b' = some B0 ∧ (B'.wr = true → B0.wr = true) ∧ (B'.isN = true → B0.isN = true) := fun b' B' hB' => by
    by_cases hn : b' = b
    · subst hn
      exact ⟨_, hb', fun _ => rfl, fun _ => rfl⟩
    · exact ⟨B', (hput b' hn) ▸ hB', id, id⟩
  have hother : ∀ k', k' < w.heap.size → k' ≠ k → (w.setCells k (n * wd + p) (a.eval y).cells.toList).heap[k']? = w.heap[k']? := fun k' hl hk' => (kept_setCells w k (n * wd + p) (a.eval y).cells.toList (fun q => q = k) rfl).block k' hl hk'
  have hnx := (hr.nextO (w' := w.setCells k (n * wd + p) (a.eval y).cells.toList) (ι' := ι) (H' := H'.put b (some B1)) (fun q => q = k) (kept_setCells w k _ _ _ rfl) (fun q hq _ => ⟨b, _, _, hb', rfl, h1, .inl hq⟩) (fun b' => .inl (hsame b'))
    (fun b' B' x q hB' hi ho => by
      obtain ⟨B0, f1, f2, f3⟩ := f b' B' hB'
      exact .inl ⟨b', B0, x, f1, f2, hi, ho.up f3⟩)
    (fun b1 b2 B1 B2 x1 x2 q d1 d2 d3 d4 o1 o2 => by
      obtain ⟨B3, g5, _, n1⟩ := f _ _ d1
      obtain ⟨B4, g6, _, n2⟩ := f _ _ d2
      exact hr.injO b1 b2 B3 B4 x1 x2 q g5 g6 d3 d4 (o1.up n1) (o2.up n2))
    (fun hok b' B' hB' => by
      by_cases hn : b' = b
      · subst hn
        rw [hself] at hB'
        cases hB'
        refine .inr ?_
        rw [h1, ← hB1]
        have hmw : ∀ m' j', m' < n → j' < wd → m' * wd + j' < n * wd := fun m' j' h1 h2 => by
          have : (m' + 1) * wd ≤ n * wd := Nat.mul_le_mul_right _ h1
          rw [Nat.add_mul, Nat.one_mul] at this
          omega
        have hmw2 : ∀ m', n < m' → n * wd + wd ≤ m' * wd := fun m' h1 => by
          have : (n + 1) * wd ≤ m' * wd := Nat.mul_le_mul_right _ h1
          rwa [Nat.add_mul, Nat.one_mul] at this
        -- where nothing was stored
        have old : ∀ m rr j d, (rows.set n (splice r p ds))[m]? = some rr → rr[j]? = some d → ¬ (m = n ∧ p ≤ j ∧ j < p + ds.length) → ∃ rr0, rows[m]? = some rr0 ∧ rr0[j]? = some d ∧ cs'[m * wd + j]? = cs[m * wd + j]? ∧ hole op m j = none ∧ hole (L.map fun q => (n, q.1, q.2.1)) m j = none := by
          intro m rr j d hm hj hnot
          rw [List.getElem?_set] at hm
          refine Exists.imp (fun rr0 h => ⟨h.1, h.2.1, h.2.2, AllIn.hole hop hnot, ?_⟩) (show ∃ rr0, rows[m]? = some rr0 ∧ rr0[j]? = some d ∧ cs'[m * wd + j]? = cs[m * wd + j]? from ?_)
          · by_cases hmn : m = n
            · subst hmn
              refine hole_none fun hmem => ?_
              obtain ⟨q, hq, e⟩ := List.mem_map.1 hmem
              obtain ⟨b1, b2, _⟩ := g3 q hq
              exact hnot ⟨rfl, by omega, by omega⟩
            · exact hole_ne hmn
          · by_cases hmn : n = m
            · subst hmn
              rw [if_pos rfl, if_pos hnl] at hm
              cases hm
              rw [splice_get (by omega), if_neg (fun h => hnot ⟨rfl, h⟩)] at hj
              have hjl : j < wd := by have := (List.getElem?_eq_some_iff.1 hj).1; omega
              exact ⟨r, hrow, hj, by rw [e3, if_neg (by simp only [Array.length_toList]; omega)]⟩
            · rw [if_neg hmn] at hm
              have hjl : j < wd := by have := (List.getElem?_eq_some_iff.1 hj).1; have := hw m rr hm; omega
              refine ⟨rr, hm, hj, ?_⟩
              rw [e3, if_neg ?_]
              simp only [Array.length_toList]
              rcases Nat.lt_or_gt_of_ne hmn with hlt | hlt
              · have := hmw2 m hlt; omega
              · have := hmw m j hlt hjl; omega
        have new : ∀ rr j d, (rows.set n (splice r p ds))[n]? = some rr → rr[j]? = some d → p ≤ j ∧ j < p + ds.length → ∃ u, cs'[n * wd + j]? = some u ∧ ((∃ b2 q2, hole (L.map fun q => (n, q.1, q.2.1)) n j = some b2 ∧ CR ⟨κ, S.fr⟩ ι (H'.put b' (some B1)) (w.setCells k (n * wd + p) (a.eval y).cells.toList) (.ref b2) u ∧ d = .sl q2) ∨ hole (L.map fun q => (n, q.1, q.2.1)) n j = none ∧ ND ⟨κ, S.fr⟩ (w.setCells k (n * wd + p) (a.eval y).cells.toList) k c co j d u ∧ ∀ q, d = .sl q → u = .slice none 0 0) := by
          intro rr j d hm hj hp
          rw [List.getElem?_set, if_pos rfl, if_pos hnl] at hm
          cases hm
          rw [splice_get (by omega), if_pos hp] at hj
          obtain ⟨cc, k1, k2⟩ := g4 (j - p) d hj
          obtain ⟨u, u1, u2⟩ := c2 _ cc k1
          have u3 : CR ⟨κ, S.fr⟩ ι (H'.put b' (some B1)) (w.setCells k (n * wd + p) (a.eval y).cells.toList) cc u := u2.move (Moves.of hok) fun b _ => hsame b
          refine ⟨u, ?_, ?_⟩
          · rw [e3, if_pos ⟨by omega, by simp only [Array.length_toList]; omega, by omega⟩, show n * wd + j - (n * wd + p) = j - p by omega]
            simpa using u1
          · rw [show p + (j - p) = j by omega] at k2
            rcases k2 with ⟨b2, q2, m1, rfl, rfl⟩ | ⟨m1, m2⟩
            · exact .inl ⟨b2, q2, hole_L g2 m1, u3, rfl⟩
            · obtain ⟨n1, n2⟩ := nC_ok (k := k) (cp := c) m2 u3
              exact .inr ⟨hole_none m1, n1, n2⟩
        refine ⟨hw0, fun m rr hm => ?_, cs', e1, by rw [List.length_set]; exact hlc, hmx, by rw [e2, hcs], hfr, fun k' hk' => Nat.lt_of_lt_of_le (hml k' hk') (kept_setCells w k (n * wd + p) _ (fun q => q = k) rfl).size, fun m rr j d hm hj => ?_, fun i1 j1 i2 j2 r1 r2 q1 q2 k' n1 n2 z z' a1 a2 a3 b1 b2 b3 v1 v2 => ?_⟩
        · rw [List.getElem?_set] at hm
          by_cases hmn : n = m
          · subst hmn
            rw [if_pos rfl, if_pos hnl] at hm
            cases hm
            rw [splice_length (by omega)]
            exact hrl
          · rw [if_neg hmn] at hm
            exact hw m rr hm
        · by_cases hp : m = n ∧ p ≤ j ∧ j < p + ds.length
          · obtain ⟨rfl, hp⟩ := hp
            obtain ⟨u, u1, u2⟩ := new rr j d hm hj hp
            refine ⟨u, u1, ?_⟩
            rcases u2 with ⟨b2, q2, m1, m2, _⟩ | ⟨m1, m2, _⟩
            · rw [m1, hB1]; exact m2
            · rw [m1]; exact m2
          · obtain ⟨rr0, m1, m2, m3, m4, m5⟩ := old m rr j d hm hj hp
            obtain ⟨u, u1, u2⟩ := h5 m rr0 j d m1 m2
            rw [m4] at u2
            refine ⟨u, m3.trans u1, ?_⟩
            rw [m5]
            exact ND.up u2 fun _ _ _ k' _ _ _ hin => ⟨hin.own, hother k' (hml k' hin.own) hin.ne⟩
        · by_cases hp1 : i1 = n ∧ p ≤ j1 ∧ j1 < p + ds.length
          · obtain ⟨rfl, hp1⟩ := hp1
            obtain ⟨u, u1, u2⟩ := new r1 j1 _ a1 a2 hp1
            rcases u2 with ⟨b2, q2, m1, _⟩ | ⟨_, _, m2⟩
            · rw [a3] at m1; cases m1
            · rw [v1] at u1; cases u1; cases m2 _ rfl
          · by_cases hp2 : i2 = n ∧ p ≤ j2 ∧ j2 < p + ds.length
            · obtain ⟨rfl, hp2⟩ := hp2
              obtain ⟨u, u1, u2⟩ := new r2 j2 _ b1 b2 hp2
              rcases u2 with ⟨b2, q2, m1, _⟩ | ⟨_, _, m2⟩
              · rw [b3] at m1; cases m1
              · rw [v2] at u1; cases u1; cases m2 _ rfl
            · obtain ⟨rr0, m1, m2, m3, m4, _⟩ := old i1 r1 j1 _ a1 a2 hp1
              obtain ⟨rr1, s1, s2, s3, s4, _⟩ := old i2 r2 j2 _ b1 b2 hp2
              exact hdis i1 j1 i2 j2 rr0 rr1 q1 q2 k' n1 n2 z z' m1 m2 m4 s1 s2 s4 (m3.symm.trans v1) (s3.symm.trans v2)
      · rw [hput b' hn] at hB'
        refine .inl ⟨hB', rfl, fun x hx q ho => hother q (hr.ownLt hB' hx ho) fun hq => hn (hr.injO b' b B' _ x _ q hB' hb' hx h1 ho (.inl hq))⟩)).1
  obtain ⟨ι', hn2⟩ := Rel.closeL (b := b) (n := n) (wd := wd) (e := e) (co := co) (rows := rows.set n (splice r p ds)) (row := splice r p ds) (by rw [List.getElem?_set, if_pos rfl, if_pos hnl]) L _ ι hnx (by rw [hself, ← hB1]) (fun q hq => by
    obtain ⟨b1, b2, b3, b4, wd2, ty2, b5, b6⟩ := g3 q hq
    exact ⟨wd2, ty2, by rw [hput _ (hrb q hq)]; exact b5, b6, hfl.mem q hq, by rw [splice_get (by omega), if_pos ⟨b1, by omega⟩]; exact b4⟩) g2 (nodupB_ok hnd)
  unfold Oper.wp execOp
  rw [ho]
  simp only [h2, Blk.wd, Sem.run_bind, hrun, Result.andThen_ok, Sem.run_pure, Oper.upon_skip]
  refine hK ι' _ _ ?_
  refine Rel.putD (x := .un) (Rel.less hn2 (fun _ _ => id) fun x B hx => ?_) hN trivial
  by_cases hxb : x = b
  · simp only [appL, if_pos hxb] at hx ⊢
    exact hx
  · simp only [appL, if_neg hxb] at hx ⊢
    rw [appL_over (hput x hxb)]
    exact hx
end
end Go.Proofs.Ytggmeldoecnkaaa.Av
