/-
Literals of slices and structs, and append: what each comes to.
Conditions: none beside those that each theorem names.
-/
import Derived.Test.YtggmeldoecnkaaaAv8
set_option linter.unusedVariables false
set_option linter.unusedSimpArgs false
namespace Go.Proofs.Ytggmeldoecnkaaa.Av
open Go.RowKit

section
variable {P : Program} {N : Nat} {o : Oper} {T : Tm} {H : Hp}
/-- The parts of a literal, in order. -/
def evL (T : Tm) : List (Nat × Operand) → Option (List (Nat × E))
  | [] => some []
  | (i, x) :: l => match evO T x, evL T l with
    | some (.e e), some r => some ((i, e) :: r)
    | _, _ => none
theorem evL_get : ∀ {l : List (Nat × Operand)} {es : List (Nat × E)}, evL T l = some es → es.length = l.length ∧ ∀ (j : Nat) (p : Nat × E), es[j]? = some p → ∃ x, l[j]? = some (p.1, x) ∧ evO T x = some (.e p.2)
  | [], es, h => by
    cases h
    exact ⟨rfl, fun j p hj => by cases hj⟩
  | (i, x) :: l, es, h => by
    unfold evL at h
    split at h
    · rename_i e r h1 h2
      cases h
      obtain ⟨a, b⟩ := evL_get h2
      refine ⟨by simp [a], fun j p hj => ?_⟩
      cases j with
      | zero => cases hj; exact ⟨x, rfl, h1⟩
      | succ j => exact b j p hj
    · cases h
theorem evL_agree {T T' : Tm} : ∀ {l : List (Nat × Operand)}, (∀ t, t ∈ l.flatMap (fun p => Operand.tmps p.2) → T' t = T t) → evL T' l = evL T l
  | [], _ => rfl
  | (i, x) :: l, h => by
    have h1 : evO T' x = evO T x := by
      cases x with
      | tmp t => exact h t (by simp [Operand.tmps])
      | _ => rfl
    have h2 := evL_agree (T := T) (T' := T') (l := l) fun t ht => h t (by simp only [List.flatMap_cons]; exact List.mem_append_right _ ht)
    unfold evL
    rw [h1, h2]
/-- A struct's zero with parts laid in. -/
def lay (i : TI) : List Cell → List (Nat × E) → Option (List Cell)
  | cs, [] => some cs
  | cs, (f, e) :: l => match i.fl[f]? with
    | some (off, ft) => match Nat.ble (off + (cellsOf e).length) cs.length with
      | true => lay i (splice cs off (cellsOf e)) l
      | false => none
    | none => none
/-- .. and has each part its field's size? -/
def layOk (τ : Ty) (i : TI) : List (Nat × E) → Bool
  | [] => true
  | (f, e) :: l => (match i.fl[f]? with
    | some (_, ft) => match τ ft with
      | some j => Nat.beq j.sz (cellsOf e).length
      | none => false
    | none => false) && layOk τ i l
theorem run_fill {g : Env} {ι : Nm} {w : World} {places : List (Nat × Nat)} {i : TI} (hp : ∀ (f off ft : Nat), i.fl[f]? = some (off, ft) → ∃ s, places[f]? = some (off, s)) : ∀ {es : List (Nat × E)} {vs : List (Nat × Value)} {cs cs' : List Cell} {arr : Array Value},
    lay i cs es = some cs' → vs.length = es.length → (∀ (j f : Nat) (e : E), es[j]? = some (f, e) → ∃ v s off, vs[j]? = some (f, v) ∧ places[f]? = some (off, s) ∧ v.cells.size = s ∧ v.cells.size = (cellsOf e).length ∧ CsR g ι H w (cellsOf e) (fun m => v.cells[m]?)) →
    arr.size = cs.length → CsR g ι H w cs (fun j => arr[j]?) → ∃ arr', Instr.fill (places.toArray[·]?) arr vs = some arr' ∧ arr'.size = cs'.length ∧ CsR g ι H w cs' (fun j => arr'[j]?)
  | [], vs, cs, cs', arr, hl, hlen, _, hsz, hcs => by
    cases hl
    obtain rfl : vs = [] := List.eq_nil_of_length_eq_zero hlen
    exact ⟨arr, rfl, hsz, hcs⟩
  | (f, e) :: es, vs, cs, cs', arr, hl, hlen, hv, hsz, hcs => by
    obtain ⟨v, s, off, h1, h2, h3, h4, h5⟩ := hv 0 f e rfl
    cases vs with
    | nil => cases h1
    | cons p vs =>
      cases h1
      unfold lay at hl
      split at hl
      · rename_i off' ft hfl
        split at hl
        · rename_i hle
          have hle := Nat.le_of_ble_eq_true hle
          obtain ⟨s', hps⟩ := hp f off' ft hfl
          rw [h2] at hps
          cases hps
          obtain ⟨g1, g2⟩ := Great.foldl_set off v.cells.toList 0 arr
          obtain ⟨arr', r1, r2, r3⟩ := run_fill hp (es := es) (vs := vs) (arr := (v.cells.toList.zipIdx 0).foldl (fun cs (x : Value × Nat) => cs.setIfInBounds (off + x.2) x.1) arr) hl (by simpa using hlen) (fun j f' e' hj => hv (j + 1) f' e' hj) (by rw [g1, hsz, splice_length hle]) (fun j c hj => by
            rw [splice_get hle] at hj
            simp only [g2 j, Nat.add_zero, Array.length_toList, h4]
            by_cases hc : off ≤ j ∧ j < off + (cellsOf e).length
            · rw [if_pos hc] at hj
              rw [if_pos ⟨hc.1, hc.2, by omega⟩]
              obtain ⟨u, hu, hcr⟩ := h5 _ c hj
              exact ⟨u, by simpa using hu, hcr⟩
            · rw [if_neg hc] at hj
              rw [if_neg (by omega)]
              exact hcs j c hj)
          refine ⟨arr', ?_, r2, r3⟩
          unfold Instr.fill
          have hpl : places.toArray[f]? = some (off, s) := by simpa using h2
          simp only [hpl]
          rw [if_neg (by simp; omega)]
          rw [← r1]
          congr 1
          rw [← Array.foldl_toList, Array.toList_zipIdx]
        · cases hl
      · cases hl
theorem g_build {τ : Ty} (hτ : Tys P τ) {t : Nat} {parts : Array (Nat × Operand)} {i : TI} {es : List (Nat × E)} {cs : List Cell} (hN : dstOk N o.dst = true) (ho : o.op = .build t parts) (ht : TyP P t i) (h2 : Nat.beq i.kd 2 = true) (hfl : i.fl.all (fun p => (τ p.2).isSome) = true) (hz : i.zero.all zok = true)
    (hes : evL T parts.toList = some es) (hlay : lay i (i.zero.map zc) es = some cs) (hok : layOk τ i es = true) (hl : es.all (fun p => (cellsOf p.2).all (liveC H)) = true) : GoodW P N o ⟨.e (.agg cs), [], es.flatMap (fun p => refsOf p.2), []⟩ T H :=
  GoodW.val hN fun T' H' hT hH κ w0 S ι a w hr => by
    have hes' : evL T' parts.toList = some es := (evL_agree fun t ht => hT t (by
      rw [ho]
      simp only [Op.operands, List.mem_flatMap] at ht ⊢
      obtain ⟨p, hp1, hp2⟩ := ht
      exact ⟨p.2, by simp; exact ⟨p.1, by simpa using hp1⟩, hp2⟩)).trans hes
    obtain ⟨hlen, hget⟩ := evL_get hes'
    obtain ⟨d, inf, hd, hi, _, _, hzero, hk, _⟩ := ht
    obtain ⟨z, hz1, hz2⟩ := Option.map_eq_some_iff.1 hzero
    have h2 : i.kd = 2 := Nat.eq_of_beq_eq_true h2
    cases d <;> simp [KdOk, h2] at hk
    rename_i fs
    -- the fields' places
    have hplaces : ∀ l : List Field, (l.map (fun f => (f.offset, f.type))).all (fun p => (τ p.2).isSome) = true → ∃ places, l.mapM (fun f => (P.info? f.type).map fun i => (f.offset, i.size)) = some places ∧ places.length = l.length ∧
        ∀ (f : Nat) (fd : Field), l[f]? = some fd → ∃ j, τ fd.type = some j ∧ places[f]? = some (fd.offset, j.sz) := by
      intro l
      induction l with
      | nil => exact fun _ => ⟨[], rfl, rfl, fun f fd h => by cases h⟩
      | cons fd l ih =>
        intro h
        simp only [List.map_cons, List.all_cons, Bool.and_eq_true] at h
        obtain ⟨pl, q1, q2, q3⟩ := ih h.2
        obtain ⟨j, hj⟩ := Option.isSome_iff_exists.1 h.1
        obtain ⟨_, fi, _, hfi, hsz, _⟩ := hτ _ j hj
        refine ⟨(fd.offset, j.sz) :: pl, by simp [List.mapM_cons, hfi, hsz, q1], by simp [q2], fun f fd' hf => ?_⟩
        cases f with
        | zero => cases hf; exact ⟨j, hj, rfl⟩
        | succ f => exact q3 f fd' hf
    obtain ⟨places, p1, p2, p3⟩ := hplaces fs.toList (by rw [hk]; exact hfl)
    have hfd : ∀ (f off ft : Nat), i.fl[f]? = some (off, ft) → ∃ j, τ ft = some j ∧ places[f]? = some (off, j.sz) := by
      intro f off ft h
      rw [← hk, List.getElem?_map] at h
      obtain ⟨fd, hfd, e⟩ := Option.map_eq_some_iff.1 h
      cases e
      exact p3 f fd hfd
    have hokj : ∀ (es : List (Nat × E)), layOk τ i es = true → ∀ (j f : Nat) (e : E), es[j]? = some (f, e) → ∃ off ft q, i.fl[f]? = some (off, ft) ∧ τ ft = some q ∧ q.sz = (cellsOf e).length := by
      intro es
      induction es with
      | nil => exact fun _ j f e h => by cases h
      | cons p es ih =>
        obtain ⟨f0, e0⟩ := p
        intro h j f e hj
        unfold layOk at h
        simp only [Bool.and_eq_true] at h
        cases j with
        | zero =>
          cases hj
          obtain ⟨h, _⟩ := h
          split at h
          · rename_i off ft hfl
            split at h
            · rename_i q hq
              exact ⟨off, ft, q, hfl, hq, Nat.eq_of_beq_eq_true h⟩
            · cases h
          · cases h
        | succ j => exact ih h.2 j f e hj
    obtain ⟨arr', f1, f2, f3⟩ := run_fill (g := ⟨κ, S.fr⟩) (ι := ι) (w := w) (H := H') (places := places) (i := i) (fun f off ft h => let ⟨j, _, h⟩ := hfd f off ft h; ⟨_, h⟩) (es := es) (vs := (parts.map fun (i, x) => (i, a.eval x)).toList) (arr := z.cells) hlay (by simp [hlen]) (fun j f e hj => by
      obtain ⟨x, hx1, hx2⟩ := hget j (f, e) hj
      obtain ⟨off, ft, q, q1, q2, q3⟩ := hokj es hok j f e hj
      obtain ⟨q', q4, q5⟩ := hfd f off ft q1
      rw [q2] at q4
      cases q4
      have hlv : (cellsOf e).all (liveC H') = true := by
        have h0 := List.all_eq_true.1 hl (f, e) (List.mem_of_getElem? hj)
        rw [List.all_eq_true] at h0 ⊢
        exact fun c hc => (liveC_agree fun b hb => hH b (List.mem_flatMap.2 ⟨(f, e), List.mem_of_getElem? hj, List.mem_flatMap.2 ⟨c, hc, hb⟩⟩)).trans (h0 c hc)
      obtain ⟨c1, c2, _⟩ := cells_of_live (evO_ok hr hx2) hlv
      exact ⟨a.eval x, q.sz, off, by simp at hx1 ⊢; simp [hx1]; exact ⟨f, x, ⟨rfl, rfl⟩, rfl, rfl⟩, q5, by rw [c1, q3], c1, c2⟩) (by rw [List.length_map, ← hz2]; simp) (fun j c hj => by
      rw [List.getElem?_map] at hj
      obtain ⟨v, hv, rfl⟩ := Option.map_eq_some_iff.1 hj
      refine ⟨v, ?_, zc_ok (List.all_eq_true.1 hz v (List.mem_of_getElem? hv))⟩
      rw [← hz2] at hv
      simpa using hv)
    refine ⟨.agg arr', ?_, arr', rfl, f2, f3⟩
    unfold execOp
    rw [ho]
    have hb : P.built t (parts.map fun (i, x) => (i, a.eval x)).toList = some arr' := by
      unfold Program.built
      simp only [hi, hd, hz1, p1, f1]
    simp only [Sem.run_bind, run_build w t _ arr' hb, Result.andThen_ok, Sem.run_pure]
/-! ### a slice literal: rows, dense -/
def nums : Nat → List (Nat × E) → Bool
  | _, [] => true
  | k, (i, _) :: l => Nat.beq i k && nums (k + 1) l
def rowsL (H : Hp) (wd : Nat) : List (Nat × E) → Option (List (List D))
  | [] => some []
  | (_, e) :: l => match toDs H (cellsOf e), rowsL H wd l with
    | some ds, some r => match Nat.beq ds.length wd with
      | true => some (ds :: r)
      | false => none
    | _, _ => none
theorem rowsL_get {wd : Nat} : ∀ {es : List (Nat × E)} {rows : List (List D)}, rowsL H wd es = some rows → rows.length = es.length ∧ ∀ (j : Nat) (r : List D), rows[j]? = some r → r.length = wd ∧ ∃ p, es[j]? = some p ∧ toDs H (cellsOf p.2) = some r
  | [], rows, h => by
    cases h
    exact ⟨rfl, fun j r hj => by cases hj⟩
  | (i, e) :: es, rows, h => by
    unfold rowsL at h
    split at h
    · rename_i ds r h1 h2
      split at h
      · rename_i hw
        cases h
        obtain ⟨a, b⟩ := rowsL_get h2
        refine ⟨by simp [a], fun j rr hj => ?_⟩
        cases j with
        | zero => cases hj; exact ⟨Nat.eq_of_beq_eq_true hw, (i, e), rfl, h1⟩
        | succ j => exact b j rr hj
      · cases h
    · cases h
theorem nums_get : ∀ {es : List (Nat × E)} {k : Nat}, nums k es = true → es = ((es.map (·.2)).zipIdx k).map fun x => (x.2, x.1)
  | [], k, _ => rfl
  | (i, e) :: es, k, h => by
    unfold nums at h
    simp only [Bool.and_eq_true] at h
    obtain rfl := Nat.eq_of_beq_eq_true h.1
    simp only [List.map_cons, List.zipIdx_cons, List.map_cons]
    rw [← nums_get h.2]
theorem rowsL_agree {H H' : Hp} {wd : Nat} : ∀ {es : List (Nat × E)}, (∀ b, b ∈ es.flatMap (fun p => refsOf p.2) → H' b = H b) → rowsL H' wd es = rowsL H wd es ∧ es.all (fun p => (cellsOf p.2).all (frC H')) = es.all (fun p => (cellsOf p.2).all (frC H)) ∧ es.all (fun p => (cellsOf p.2).all (liveC H')) = es.all (fun p => (cellsOf p.2).all (liveC H))
  | [], _ => ⟨rfl, rfl, rfl⟩
  | (i, e) :: es, h => by
    have h0 : ∀ b, b ∈ (cellsOf e).flatMap Cell.ids → H' b = H b := fun b hb => h b (by simp only [List.flatMap_cons]; exact List.mem_append_left _ hb)
    obtain ⟨a1, a2⟩ := toDs_agree (cs := cellsOf e) h0
    have a3 : (cellsOf e).all (liveC H') = (cellsOf e).all (liveC H) := by
      rw [Bool.eq_iff_iff, List.all_eq_true, List.all_eq_true]
      exact ⟨fun hh c hc => (liveC_agree fun b hb => h0 b (List.mem_flatMap.2 ⟨c, hc, hb⟩)) ▸ hh c hc, fun hh c hc => (liveC_agree fun b hb => h0 b (List.mem_flatMap.2 ⟨c, hc, hb⟩)).trans (hh c hc)⟩
    obtain ⟨b1, b2, b3⟩ := rowsL_agree (H := H) (H' := H') (wd := wd) (es := es) fun b hb => h b (by simp only [List.flatMap_cons]; exact List.mem_append_right _ hb)
    exact ⟨by unfold rowsL; rw [a1, b1], by simp [List.all_cons, a2, b2], by simp [List.all_cons, a3, b3]⟩
theorem frzL_agree {H H' : Hp} : ∀ {l : List Nat}, (∀ c ∈ l, H' c = H c) → frzL H' l = frzL H l
  | [], _ => rfl
  | c :: l, h => by
    unfold frzL frz1
    rw [h c List.mem_cons_self, frzL_agree fun c hc => h c (List.mem_cons_of_mem _ hc)]
theorem CsR.frz {g : Env} {ι : Nm} {w : World} {cs : List Cell} {vs : Nat → Option Value} (h : CsR g ι H w cs vs) (l : List Nat) : CsR g ι (appL H (frzL H l)) w cs vs := by
  refine CsR.move (Moves.of fun k hk => ⟨⟨hk.1, fun b B c hB hw => ?_⟩, rfl⟩) (fun c hc B hB => ?_) h
  · rcases frzL_at (H := H) l b with h | ⟨wd, e', rows, f, nf, h1, h2⟩
    · exact hk.2 b B c (h ▸ hB) hw
    · rw [h2] at hB; cases hB; cases hw
  · rcases frzL_at (H := H) l c with h | ⟨wd, e', rows, f, nf, h1, h2⟩
    · exact ⟨B, h ▸ hB, rfl, rfl, rfl⟩
    · rw [h2] at hB; cases hB; exact ⟨_, h1, rfl, rfl, rfl⟩
theorem Fresh.frz {id : Nat} (h : Fresh T H id) (l : List Nat) : Fresh T (appL H (frzL H l)) id :=
  ⟨h.1, fun b B hB => by
    rcases frzL_at (H := H) l b with h' | ⟨wd, e', rows, f, nf, h1, h2⟩
    · exact h.2.1 b B (h' ▸ hB)
    · rw [h2] at hB; cases hB; simp [Blk.ids], h.2.2⟩
theorem g_lit {t len id : Nat} {parts : Array (Nat × Operand)} {i j : TI} {es : List (Nat × E)} {rows : List (List D)} (hN : dstOk N o.dst = true) (ho : o.op = .buildSlice t len parts) (ht : TyP P t i) (h1 : Nat.beq i.kd 1 = true) (hj : TyP P i.el j) (hes : evL T parts.toList = some es) (hnum : nums 0 es = true) (hlen : Nat.beq es.length len = true)
    (hrows : rowsL H j.sz es = some rows) (hl : es.all (fun p => (cellsOf p.2).all (liveC H)) = true) (hsm : Nat.ble (len * j.sz) 16777216 = true) (hid : (es.flatMap (fun p => refsOf p.2)).contains id = false) :
    GoodW P N o ⟨.e (.c (.ref id)), (id, some (.row j.sz i.el rows false (es.all fun p => (cellsOf p.2).all (frC H)))) :: frzL H (es.flatMap fun p => refsOf p.2), es.flatMap (fun p => refsOf p.2), [id]⟩ T H := by
  intro T' H' hT hH hF κ w0 S ι a w hr0 Q K hK
  have hes' : evL T' parts.toList = some es := (evL_agree fun t ht => hT t (by
    rw [ho]
    simp only [Op.operands, List.mem_flatMap] at ht ⊢
    obtain ⟨p, hp1, hp2⟩ := ht
    exact ⟨p.2, by simp; exact ⟨p.1, by simpa using hp1⟩, hp2⟩)).trans hes
  obtain ⟨hl0, hget⟩ := evL_get hes'
  obtain ⟨a1, a2, a3⟩ := rowsL_agree (wd := j.sz) hH
  have a4 : frzL H' (es.flatMap fun p => refsOf p.2) = frzL H (es.flatMap fun p => refsOf p.2) := frzL_agree hH
  rw [← a1] at hrows
  rw [← a3] at hl
  rw [← a2, ← a4] at hK
  simp only [appL_cons_put] at hK
  obtain ⟨hrl, hrg⟩ := rowsL_get hrows
  have hlen : es.length = len := Nat.eq_of_beq_eq_true hlen
  have hsm : len * j.sz ≤ 16777216 := Nat.le_of_ble_eq_true hsm
  have h1 : i.kd = 1 := Nat.eq_of_beq_eq_true h1
  obtain ⟨d, inf, hd, _, _, _, _, hk, _⟩ := ht
  cases d <;> simp [KdOk, h1] at hk
  rename_i el
  subst hk
  obtain ⟨dj, fj, hdj, hij, hsj, hbj, hzj, hkj, hpos⟩ := hj
  obtain ⟨z, hz1, hz2⟩ := Option.map_eq_some_iff.1 hzj
  have hr := hr0.frzL (es.flatMap fun p => refsOf p.2)
  have hF2 := (hF id (by simp)).frz (es.flatMap fun p => refsOf p.2)
  -- the parts' values
  have hval : ∀ (m : Nat) (p : Nat × E), es[m]? = some p → ∃ v, (es.map fun q => q.2)[m]? = some p.2 ∧ ((parts.map fun (i, x) => (i, a.eval x)).toList)[m]? = some (p.1, v) ∧ v.cells.size = (cellsOf p.2).length ∧ CsR ⟨κ, S.fr⟩ ι (appL H' (frzL H' (es.flatMap fun p => refsOf p.2))) w (cellsOf p.2) (fun j => v.cells[j]?) := by
    intro m p hm
    obtain ⟨x, hx1, hx2⟩ := hget m p hm
    obtain ⟨c1, c2, _⟩ := cells_of_live (evO_ok hr0 hx2) (List.all_eq_true.1 hl p (List.mem_of_getElem? hm))
    refine ⟨a.eval x, by rw [List.getElem?_map, hm]; rfl, ?_, c1, c2.frz _⟩
    rw [Array.toList_map, List.getElem?_map, hx1]
    rfl
  have hpl : (parts.map fun (i, x) => (i, a.eval x)).toList.length = es.length := by simp [hl0]
  generalize hvs : (parts.map fun (i, x) => (i, a.eval x)).toList = vs at *
  have hvz : vs = ((vs.map (·.2)).zipIdx 0).map fun x => (x.2, x.1) := by
    apply List.ext_getElem?
    intro m
    rw [List.getElem?_map, List.getElem?_zipIdx, List.getElem?_map]
    rcases Nat.lt_or_ge m es.length with h | h
    · obtain ⟨v, _, e2, _⟩ := hval m _ (List.getElem?_eq_getElem h)
      have e3 := congrArg (·[m]?) (nums_get hnum)
      simp only [List.getElem?_map, List.getElem?_zipIdx, List.getElem?_eq_getElem h, Option.map_some] at e3
      rw [e2]
      simp only [Option.map_some]
      simp at e3
      rw [e3]
      simp
    · rw [List.getElem?_eq_none (by omega)]
      rfl
  have hrows2 : ∀ (m : Nat) (r : List D), rows[m]? = some r → ∃ v, (vs.map (·.2))[m]? = some v ∧ v.cells.size = j.sz ∧ r.length = j.sz ∧ ∀ (q : Nat) (d : D), r[q]? = some d → ∃ u, v.cells[q]? = some u ∧ ∃ c, CR ⟨κ, S.fr⟩ ι (appL H' (frzL H' (es.flatMap fun p => refsOf p.2))) w c u ∧ toD H' c = some d ∧ (∀ b, c = .ref b → b ∈ es.flatMap fun p => refsOf p.2) ∧ ∃ p ∈ es, c ∈ cellsOf p.2 := by
    intro m r hm
    obtain ⟨hrw, p, hp, hds⟩ := hrg m r hm
    obtain ⟨hdl, hdg⟩ := toDs_get hds
    obtain ⟨v, _, e2, e3, e4⟩ := hval m p hp
    refine ⟨v, by rw [List.getElem?_map, e2]; rfl, by omega, hrw, fun q d hq => ?_⟩
    obtain ⟨c, hc, hcd⟩ := hdg q d hq
    obtain ⟨u, hu, hcr⟩ := e4 q c hc
    exact ⟨u, hu, c, hcr, hcd, fun b hb => List.mem_flatMap.2 ⟨p, List.mem_of_getElem? hp, List.mem_flatMap.2 ⟨c, List.mem_of_getElem? hc, by rw [hb]; simp [Cell.ids]⟩⟩, p, List.mem_of_getElem? hp, List.mem_of_getElem? hc⟩
  have hvl : vs.length = len := by rw [hpl, hlen]
  have hvsz : ∀ v ∈ vs.map (·.2), v.cells.size = j.sz := by
    intro v hv
    obtain ⟨m, hm⟩ := List.mem_iff_getElem?.1 hv
    have hml : m < rows.length := by have := (List.getElem?_eq_some_iff.1 hm).1; simp at this; omega
    obtain ⟨v', e1, e2, _⟩ := hrows2 m _ (List.getElem?_eq_getElem hml)
    rw [hm] at e1
    cases e1
    exact e2
  -- the block
  obtain ⟨cells, hrun, hcsz, hcget⟩ : ∃ cells : Array Value, (Instr.buildSlice t len (parts.map fun (i, x) => (i, a.eval x))).run P w = .ok (.slice (some ⟨w.heap.size, 0, none⟩) len len) (w.alloc (.cells cells i.el)) ∧ cells.size = len * j.sz ∧
      ∀ m q, m < len → q < j.sz → cells[m * j.sz + q]? = ((vs.map (·.2))[m]?).bind fun v => v.cells[q]? := by
    by_cases h0 : len = 0
    · subst h0
      have hv0 : vs = [] := List.eq_nil_of_length_eq_zero hvl
      refine ⟨#[], ?_, by simp, fun m q hm => absurd hm (Nat.not_lt_zero _)⟩
      have hp0 : parts.toList = [] := List.eq_nil_of_length_eq_zero (by omega)
      simp [Instr.buildSlice, run_underlying hd, sizeOf, typeInfo, hij, hp0, Instr.fill, newRow, newObj, Sem.run]
      rw [show Array.range 0 = #[] from rfl, Array.map_empty]
    · obtain ⟨r, f1, f2, f3⟩ := Great.fill_dense (s := j.sz) hpos (vs.map (·.2)) 0 ((Array.range (len * j.sz)).map (z.cells[· % z.cells.size]!)) hvsz (by simp [hvl])
      rw [← hvz] at f1
      refine ⟨r, run_buildSlice w t i.el len _ r fj z hd hij hz1 (by rw [hsj]; omega) (by rw [hsj]; exact Nat.mul_ne_zero h0 (by omega)) (by rw [hsj, hvs]; exact f1), by rw [f2]; simp, fun m q hm hq => ?_⟩
      rw [f3, if_pos ⟨by omega, by
        simp only [Nat.zero_add, List.length_map, hvl]
        have : (m + 1) * j.sz ≤ len * j.sz := Nat.mul_le_mul_right _ hm
        rw [Nat.add_mul, Nat.one_mul] at this
        omega⟩]
      rw [show (m * j.sz + q) / j.sz - 0 = m by rw [Nat.mul_comm, Nat.mul_add_div hpos, Nat.div_eq_of_lt hq]; simp, show (m * j.sz + q) % j.sz = q by rw [Nat.mul_comm, Nat.mul_add_mod, Nat.mod_eq_of_lt hq]]
  have hrf : ∀ b, b ∈ (es.flatMap fun p => refsOf p.2) → ∀ wd e' rows f nf, H' b = some (.row wd e' rows f nf) → appL H' (frzL H' (es.flatMap fun p => refsOf p.2)) b = some (.row wd e' rows true nf) := fun b hb wd e' rows f nf h => frzL_in _ b hb wd e' rows f nf h
  generalize hH2 : appL H' (frzL H' (es.flatMap fun p => refsOf p.2)) = H2 at *
  have hn := (hr.alloc hF2 (.cells cells i.el) (.row j.sz i.el rows false (es.all fun p => (cellsOf p.2).all (frC H'))) rfl (cp len) fun hok => by
    refine ⟨hpos, fun m r hm => (hrg m r hm).1, cells, heap_alloc_new w _, by rw [hrl, hlen]; exact Nat.le_refl _, by
      show len ≤ maxLen
      have : len ≤ len * j.sz := Nat.le_mul_of_pos_right _ hpos
      simp only [maxLen]; omega, hcsz, fun _ => hr.new _ hr.kept.size, fun m r q d hm hq => ?_⟩
    obtain ⟨v, e1, e2, e3, e4⟩ := hrows2 m r hm
    obtain ⟨u, hu, c, hcr, hcd, hcb, p, hp, hcp⟩ := e4 q d hq
    have hml : m < len := by have := (List.getElem?_eq_some_iff.1 hm).1; omega
    have hql : q < j.sz := by have := (List.getElem?_eq_some_iff.1 hq).1; omega
    refine ⟨u, by rw [hcget m q hml hql, e1]; exact hu, ?_⟩
    have := cell_tr hr hcr hcd (fun b hb wd e' rows f nf h => hrf b (hcb b hb) wd e' rows f nf h) (es.all fun p => (cellsOf p.2).all (frC H')) fun h => List.all_eq_true.1 (List.all_eq_true.1 h p hp) c hcp
    exact this.move fun k hk => ⟨⟨(hok k hk.1).1, hk.2⟩, (hok k hk.1).2⟩).1
  unfold Oper.wp execOp
  rw [ho]
  simp only [Sem.run_bind, hrun, Result.andThen_ok, Sem.run_pure, Oper.upon_value]
  refine hK _ _ _ (hn.putD hN (x := .e (.c (.ref id))) fun B hB => ?_)
  have : B = .row j.sz i.el rows false (es.all fun p => (cellsOf p.2).all (frC H')) := by simpa [Hp.put] using hB.symm
  subst this
  refine ⟨j.sz, len, by simp [Blk.shape, hrl, hlen], ?_⟩
  simp [Nm.put, RefV, key, cp]
end
end Go.Proofs.Ytggmeldoecnkaaa.Av
