/-
Rows whose inner slices are their own: append, a literal of one, make, as operations.
Conditions: none beside those that each theorem names.
-/
import Derived.Test.YtggmeldoecnkaaaAv32
import Derived.Test.YtggmeldoecnkaaaAv26
set_option linter.unusedVariables false
set_option linter.unusedSimpArgs false
namespace Go.Proofs.Ytggmeldoecnkaaa.Av
open Go.RowKit

section
variable {P : Program} {N : Nat} {o : Oper} {T : Tm} {H : Hp}
theorem g_app_n {t id : Nat} {s x : Operand} {i j : TI} {c c2 : Cell} {bo bs : Option Nat} {co : List (Nat × Nat × TypeId)} {rows rows2 : List (List D)} (hN : dstOk N o.dst = true) (ho : o.op = .call { callee := .builtin .append, args := #[s, x], argTypes := #[t, t] }) (ht : TyP P t i) (h1 : Nat.beq i.kd 1 = true) (hj : TyP P i.el j)
    (hs : evO T s = some (.e (.c c))) (hb : BaseN H j.sz i.el co c bo rows) (hx : evO T x = some (.e (.c c2))) (hb2 : BaseN H j.sz i.el co c2 bs rows2) (hid : ((idO bo).contains id || (idO bs).contains id) = false) (hne : inter (idO bo) (idO bs) = false)
    (hbound : (rows.length + rows2.length) * j.bys ≤ 140737488355328) (hby : Nat.ble 1 j.bys = true) (hzl : Nat.beq j.zero.length j.sz = true) :
    GoodW P N o ⟨.e (.c (.ref id)), (id, some (.nst j.sz i.el co (rows ++ rows2) [])) :: (gone bo ++ gone bs), idO bo ++ idO bs, [id]⟩ T H := by
  intro T' H' hT hH hF κ w0 S ι a w hr Q K hK
  have h1 : i.kd = 1 := Nat.eq_of_beq_eq_true h1
  have hs' := evO_ok hr ((evO_agree hT (by simp [ho, Op.operands, Call.operands])).trans hs)
  have hx' := evO_ok hr ((evO_agree hT (by simp [ho, Op.operands, Call.operands])).trans hx)
  have hb' := hb.agree (H' := H') fun b hb => hH b (List.mem_append_left _ hb)
  have hb2' := hb2.agree (H' := H') fun b hb => hH b (List.mem_append_right _ hb)
  obtain ⟨d, inf, hdt, _, _, _, _, hk, _⟩ := ht
  cases d <;> simp [KdOk, h1] at hk
  rename_i el
  obtain ⟨dj, fj, hdj, hij, hsj, hbj, hzj, _, hpos⟩ := hj
  obtain ⟨z, hz1, hz2⟩ := Option.map_eq_some_iff.1 hzj
  subst hk
  simp only [Bool.or_eq_false_iff] at hid
  obtain ⟨xs, k0, c0, o1, o2, o3, o4, o5, o6⟩ := own_n hr hb' hpos hs'
  obtain ⟨ys, k2, cc2, p1, p2, p3, p4, p5, p6⟩ := own_n hr hb2' hpos hx'
  have hone : ∀ u ∈ ys, u.oneCell' = true := fun u hu => by
    obtain ⟨m, hm⟩ := List.mem_iff_getElem?.1 hu
    have hml : m < rows2.length * j.sz := by have := (List.getElem?_eq_some_iff.1 hm).1; rw [p1.1] at this; exact this
    have hq : m / j.sz < rows2.length := (Nat.div_lt_iff_lt_mul hpos).2 hml
    have e1 := List.getElem?_eq_getElem hq
    have e2 : m % j.sz < (rows2[m / j.sz]).length := by rw [p4 _ (List.mem_of_getElem? e1)]; exact Nat.mod_lt _ hpos
    obtain ⟨u', f1, f2⟩ := p5 _ _ _ _ e1 (List.getElem?_eq_getElem e2)
    rw [show m / j.sz * j.sz + m % j.sz = m by rw [Nat.mul_comm]; exact Nat.div_add_mod m j.sz, hm] at f1
    cases f1
    exact f2.one
  -- the run
  obtain ⟨v', w', hrun, r1, r2, r3⟩ : ∃ v' w', (Builtin.append_ #[t, t] o.type #[a.eval s, a.eval x]).run P w = .ok v' w' ∧ w'.ownsRow 0 i.el j.sz v' (rows.length + rows2.length) (xs ++ ys) ∧ w.grownBy w' (a.eval s).ownBlock ∧ (v'.ownBlock = (a.eval s).ownBlock ∨ v'.ownBlock = some w.heap.size) := by
    rcases p1.2 with ⟨e1, e2⟩ | ⟨k, cc, cs, e1, _, e2, e3, e4, e5, e6⟩
    · have hr2 : ys = [] := List.eq_nil_of_length_eq_zero (by rw [p1.1, e2]; simp)
      refine ⟨a.eval s, w, ?_, by rw [hr2, List.append_nil, e2]; exact o1, World.grownBy.refl w _, .inl rfl⟩
      rw [e1]
      rcases o1.2 with ⟨e, _⟩ | ⟨g, cap, cur, e, _, _, hnc, _⟩
      · rw [e]; simp [Builtin.append_, run_underlying hdt, sizeOf, typeInfo, hij, Builtin.lenOf, Builtin.firstCells]
      · rw [e]; simp [Builtin.append_, run_underlying hdt, sizeOf, typeInfo, hij, Builtin.lenOf, Builtin.firstCells, hnc, storeCells]
    · have hb1 : 1 ≤ j.bys := Nat.le_of_ble_eq_true hby
      have hlen : rows.length + rows2.length ≤ 140737488355328 := Nat.le_trans (Nat.le_mul_of_pos_right _ hb1) hbound
      obtain ⟨v1, w1, q1, q2, q3, _, q5⟩ := run_append_own_at (P := P) w 0 t o.type i.el fj z j.sz j.bys hdt hij hz1 hsj hbj (by
          have hz3 := congrArg List.length hz2
          rw [Array.length_toList] at hz3
          rw [hz3]
          exact Nat.eq_of_beq_eq_true hzl) hpos (a.eval s) rows.length xs o1 ⟨k, 0, none⟩ rows2.length cc ys p1.1 (fun m u hm => by
          rw [← e6, List.getElem?_take] at hm
          split at hm
          · have hm : cs[m]? = some u := by simpa using hm
            rw [Addr.add_lit, Nat.zero_add]
            exact cell_in e2 hm
          · cases hm) hone (by simp only [maxLen]; omega) hbound (Nat.zero_le _)
      exact ⟨v1, w1, by rw [e1]; exact q1, q2, q3, q5⟩
  obtain ⟨g, hn, hgv⟩ := after_appN hr hb' hb2' hpos (hF id (by simp)) (by simpa using hid.1) (by simpa using hid.2) (fun b e1 e2 => by subst e1; subst e2; exact inter_false hne (x := b) (by simp [idO]) (by simp [idO])) o1 o2 o3 o4 o5 o6 p3 p4 p5 p6 r1 r2 r3
  unfold Oper.wp execOp
  rw [ho]
  simp only [resolve, invoke, builtin, Sem.run_bind, Sem.run_pure, Result.andThen_ok, List.map_toArray, List.map_cons, List.map_nil, hrun]
  refine hK _ _ _ (hn.putD hN (x := .e (.c (.ref id))) fun B hB => ?_)
  have : B = .nst j.sz i.el co (rows ++ rows2) [] := by simpa [appL] using hB.symm
  subst this
  exact ⟨j.sz, _, rfl, by simp only [Nm.put, if_true]; exact hgv⟩
/-- A fresh block that owns itself alone. -/
theorem Rel.allocO {κ : Nat → Value} {w0 : World} {S : Wr} {ι : Nm} {a : Act} {w : World} (h : Rel N κ w0 S ι T H a w) {nm : Nat} (hF : Fresh T H nm) (obj : Obj) (B : Blk) (c : Cp) (hN : ∀ k, Owns B (w.heap.size, c) k → k = w.heap.size)
    (hB : (∀ k, Ok ι H w k → Ok (ι.put nm (some (w.heap.size, c))) (H.put nm (some B)) (w.alloc obj) k ∧ (w.alloc obj).heap[k]? = w.heap[k]?) → (∀ b, b ≠ nm → Same ι H (ι.put nm (some (w.heap.size, c))) (H.put nm (some B)) b) →
      BR ⟨κ, S.fr⟩ (ι.put nm (some (w.heap.size, c))) (H.put nm (some B)) (w.alloc obj) (some (w.heap.size, c)) B) :
    Rel N κ w0 S (ι.put nm (some (w.heap.size, c))) T (H.put nm (some B)) a (w.alloc obj) := by
  have hput : ∀ b, b ≠ nm → (H.put nm (some B)) b = H b ∧ (ι.put nm (some (w.heap.size, c))) b = ι b := fun b hb => by simp [Hp.put, Nm.put, hb]
  have hself : (H.put nm (some B)) nm = some B ∧ (ι.put nm (some (w.heap.size, c))) nm = some (w.heap.size, c) := by simp [Hp.put, Nm.put]
  have hS : ∀ b, b ≠ nm → Same ι H (ι.put nm (some (w.heap.size, c))) (H.put nm (some B)) b := fun b hb B' hB' => ⟨B', (hput b hb).1 ▸ hB', rfl, rfl, congrArg key (hput b hb).2⟩
  refine (h.nextO (fun _ => False) (Kept.ofBelow ((Below.refl _ _).alloc (Nat.le_refl _) obj) _) (fun _ h => h.elim) (fun b => ?_) (fun b B' x k hb hi ho => ?_) (fun b b' B1 B2 x1 x2 k h1 h2 h3 h4 o1 o2 => ?_) (fun hok b B' hb => ?_) (fun b hb => congrArg key (hput b (fun e => by have := hF.2.2; omega)).2)).1
  · by_cases hb : b = nm
    · subst hb; exact .inr hF
    · exact .inl (hS b hb)
  · by_cases he : b = nm
    · subst he
      rw [hself.2] at hi
      rw [hself.1] at hb
      cases hi
      cases hb
      have := hN k ho
      exact .inr ⟨.inr (by omega), .inl (by have := h.kept.size; omega)⟩
    · rw [(hput b he).1] at hb
      rw [(hput b he).2] at hi
      exact .inl ⟨b, B', x, hb, fun h => h, hi, ho⟩
  · by_cases e1 : b = nm <;> by_cases e2 : b' = nm
    · exact e1.trans e2.symm
    · subst e1
      rw [hself.1] at h1
      rw [hself.2] at h3
      cases h1
      cases h3
      rw [(hput b' e2).1] at h2
      rw [(hput b' e2).2] at h4
      rw [hN k o1] at o2
      exact absurd (h.ownLt h2 h4 o2) (Nat.lt_irrefl _)
    · subst e2
      rw [hself.1] at h2
      rw [hself.2] at h4
      cases h2
      cases h4
      rw [(hput b e1).1] at h1
      rw [(hput b e1).2] at h3
      rw [hN k o2] at o1
      exact absurd (h.ownLt h1 h3 o1) (Nat.lt_irrefl _)
    · rw [(hput b e1).1] at h1
      rw [(hput b e1).2] at h3
      rw [(hput b' e2).1] at h2
      rw [(hput b' e2).2] at h4
      exact h.injO b b' B1 B2 x1 x2 k h1 h2 h3 h4 o1 o2
  · by_cases he : b = nm
    · subst he
      rw [hself.1] at hb
      cases hb
      rw [hself.2]
      exact .inr (hB hok hS)
    · rw [(hput b he).1] at hb
      exact .inl ⟨hb, (hput b he).2, h.keeps (Kept.ofBelow ((Below.refl _ _).alloc (Nat.le_refl _) obj) (fun _ => False)) hb fun _ _ _ _ h => h⟩
theorem owns_cp {wd : Nat} {e : TypeId} {co : List (Nat × Nat × TypeId)} {rows : List (List D)} {op : List (Nat × Nat × Nat)} {k n k' : Nat} (h : Owns (.nst wd e co rows op) (k, cp n) k') : k' = k := h.elim (fun h => h) fun h => h.2.elim
/-- []T{x}, the slices in x being its own. -/
theorem g_lit_n {t id : Nat} {parts : Array (Nat × Operand)} {x : Operand} {i j : TI} {ex : E} {co : List (Nat × Nat × TypeId)} {ds : List D} {L : List (Nat × Nat × List (List D))} (hN : dstOk N o.dst = true) (ho : o.op = .buildSlice t 1 parts) (hp : parts.toList = [(0, x)]) (ht : TyP P t i) (h1 : Nat.beq i.kd 1 = true) (hj : TyP P i.el j) (hx : evO T x = some (.e ex))
    (hl : (cellsOf ex).all (liveC H) = true) (hd : nCs H co 0 (cellsOf ex) = some (ds, L)) (hsz : Nat.beq ds.length j.sz = true) (hsm : Nat.ble j.sz 16777216 = true) (hfl : FlatL L) (hnd : nodupB (L.map (·.2.1)) = true) (hid : (refsOf ex).contains id = false) :
    GoodW P N o ⟨.e (.c (.ref id)), (id, some (.nst j.sz i.el co [ds] [])) :: noneL L, refsOf ex, [id]⟩ T H := by
  intro T' H' hT hH hF κ w0 S ι a w hr Q K hK
  rw [← nCs_agree (H' := H') hH] at hd
  have hl' : (cellsOf ex).all (liveC H') = true := by
    rw [List.all_eq_true] at hl ⊢
    exact fun c hc => (liveC_agree fun b hb => hH b (List.mem_flatMap.2 ⟨c, hc, hb⟩)).trans (hl c hc)
  have hu := evO_ok hr ((evO_agree hT (by
    rw [ho]
    simp only [Op.operands]
    have : (0, x) ∈ parts.toList := by rw [hp]; simp
    simp
    exact ⟨0, by simpa using this⟩)).trans hx)
  obtain ⟨c1, c2, c3⟩ := cells_of_live hu hl'
  obtain ⟨g1, g2, g3, g4⟩ := nCs_get hd
  have hsz : ds.length = j.sz := Nat.eq_of_beq_eq_true hsz
  have hsm : j.sz ≤ 16777216 := Nat.le_of_ble_eq_true hsm
  have h1 : i.kd = 1 := Nat.eq_of_beq_eq_true h1
  obtain ⟨d, inf, hdt, _, _, _, _, hk, _⟩ := ht
  cases d <;> simp [KdOk, h1] at hk
  rename_i el
  subst hk
  obtain ⟨dj, fj, hdj, hij, hsj, hbj, hzj, hkj, hpos⟩ := hj
  obtain ⟨z, hz1, hz2⟩ := Option.map_eq_some_iff.1 hzj
  have hvl : (a.eval x).cells.size = j.sz := by rw [c1, ← g1, hsz]
  obtain ⟨cells, hrun, hcsz, hcget⟩ : ∃ cells : Array Value, (Instr.buildSlice t 1 (parts.map fun (i, x) => (i, a.eval x))).run P w = .ok (.slice (some ⟨w.heap.size, 0, none⟩) 1 1) (w.alloc (.cells cells i.el)) ∧ cells.size = j.sz ∧ ∀ q, q < j.sz → cells[q]? = (a.eval x).cells[q]? := by
    have hvs : (parts.map fun (i, x) => (i, a.eval x)).toList = [(0, a.eval x)] := by simp [hp]
    obtain ⟨r, f1, f2, f3⟩ := Great.fill_dense (s := j.sz) hpos [a.eval x] 0 ((Array.range (1 * j.sz)).map (z.cells[· % z.cells.size]!)) (fun v hv => by simp at hv; rw [hv]; exact hvl) (by simp)
    refine ⟨r, run_buildSlice w t i.el 1 _ r fj z hdt hij hz1 (by rw [hsj]; omega) (by rw [hsj]; exact Nat.mul_ne_zero (by omega) (by omega)) (by rw [hsj, hvs]; exact f1), by rw [f2]; simp, fun q hq => ?_⟩
    rw [f3, if_pos ⟨by omega, by simp; omega⟩]
    rw [show q / j.sz - 0 = 0 by rw [Nat.div_eq_of_lt hq], Nat.mod_eq_of_lt hq]
    rfl
  have hne : ∀ q, q ∈ L → q.2.1 ≠ id := fun q hq he => by
    obtain ⟨b1, b2, b3, _⟩ := g3 q hq
    have : id ∈ refsOf ex := List.mem_flatMap.2 ⟨_, List.mem_of_getElem? b3, by simp [Cell.ids, he]⟩
    simp at hid
    exact hid this
  generalize hB1 : Blk.nst j.sz i.el co [ds] (L.map fun q => (0, q.1, q.2.1)) = B1
  have hn := hr.allocO (hF id (by simp)) (.cells cells i.el) B1 (cp 1) (fun k hk => by rw [← hB1] at hk; exact owns_cp hk) fun hok hS => by
    rw [← hB1]
    have row0 : ∀ (m : Nat) (r : List D), [ds][m]? = some r → m = 0 ∧ r = ds := fun m r hm => by
      cases m with
      | zero => cases hm; exact ⟨rfl, rfl⟩
      | succ m => cases hm
    have cell : ∀ jj d, ds[jj]? = some d → ∃ u, cells[0 * j.sz + jj]? = some u ∧ ((∃ b2 q2, hole (L.map fun q => (0, q.1, q.2.1)) 0 jj = some b2 ∧ CR ⟨κ, S.fr⟩ (ι.put id (some (w.heap.size, cp 1))) (H'.put id (some B1)) (w.alloc (.cells cells i.el)) (.ref b2) u ∧ d = .sl q2) ∨ hole (L.map fun q => (0, q.1, q.2.1)) 0 jj = none ∧ ND ⟨κ, S.fr⟩ (w.alloc (.cells cells i.el)) w.heap.size (cp 1) co jj d u ∧ ∀ q, d = .sl q → u = .slice none 0 0) := fun jj d hj => by
      obtain ⟨cc, k1, k2⟩ := g4 jj d hj
      obtain ⟨u, u1, u2⟩ := c2 _ cc k1
      have hjl : jj < j.sz := by have := (List.getElem?_eq_some_iff.1 hj).1; omega
      have u3 : CR ⟨κ, S.fr⟩ (ι.put id (some (w.heap.size, cp 1))) (H'.put id (some B1)) (w.alloc (.cells cells i.el)) cc u := u2.move (Moves.of hok) fun b hb => hS b fun e => by
        have : id ∈ refsOf ex := List.mem_flatMap.2 ⟨_, List.mem_of_getElem? k1, e ▸ hb⟩
        simp at hid
        exact hid this
      refine ⟨u, by rw [Nat.zero_mul, Nat.zero_add, hcget jj hjl]; exact u1, ?_⟩
      rw [Nat.zero_add] at k2
      rcases k2 with ⟨b2, q2, m1, rfl, rfl⟩ | ⟨m1, m2⟩
      · exact .inl ⟨b2, q2, hole_L g2 m1, u3, rfl⟩
      · obtain ⟨n1, n2⟩ := nC_ok (k := w.heap.size) (cp := cp 1) m2 u3
        exact .inr ⟨hole_none m1, n1, n2⟩
    refine ⟨hpos, fun m r hm => by rw [(row0 m r hm).2]; exact hsz, cells, heap_alloc_new w _, Nat.le_refl _, by (show 1 ≤ maxLen); decide, by rw [hcsz]; simp [cp], hr.new _ hr.kept.size, fun k hk => hk.elim, fun m r jj d hm hj => ?_, fun i1 j1 i2 j2 r1 r2 q1 q2 k' n1 n2 z z' a1 a2 a3 b1 b2 b3 v1 v2 => ?_⟩
    · obtain ⟨rfl, rfl⟩ := row0 m r hm
      obtain ⟨u, u1, u2⟩ := cell jj d hj
      refine ⟨u, u1, ?_⟩
      rcases u2 with ⟨b2, q2, m1, m2, _⟩ | ⟨m1, m2, _⟩
      · rw [m1, hB1]; exact m2
      · rw [m1]; exact m2
    · obtain ⟨rfl, rfl⟩ := row0 i1 r1 a1
      obtain ⟨u, u1, u2⟩ := cell j1 _ a2
      rcases u2 with ⟨b2, q2, m1, _⟩ | ⟨_, _, m2⟩
      · rw [a3] at m1; cases m1
      · rw [v1] at u1; cases u1; cases m2 _ rfl
  have hself : (H'.put id (some B1)) id = some B1 := by simp [Hp.put]
  have hn' := hn.putD (dst := o.dst) hN (x := .e (.c (.ref id))) (v := .slice (some ⟨w.heap.size, 0, none⟩) 1 1) fun B hB => by
    rw [hself, ← hB1] at hB
    cases hB
    exact ⟨j.sz, 1, rfl, by simp [Nm.put, RefV, key, cp]⟩
  obtain ⟨ι', hn2⟩ := Rel.closeL (b := id) (n := 0) (wd := j.sz) (e := i.el) (co := co) (rows := [ds]) (row := ds) rfl L _ _ hn' (by rw [hself, ← hB1]) (fun q hq => by
    obtain ⟨b1, b2, b3, b4, wd2, ty2, b5, b6⟩ := g3 q hq
    exact ⟨wd2, ty2, by simp only [Hp.put, if_neg (hne q hq)]; exact b5, b6, hfl.mem q hq, b4⟩) g2 (nodupB_ok hnd)
  unfold Oper.wp execOp
  rw [ho]
  simp only [Sem.run_bind, hrun, Result.andThen_ok, Sem.run_pure, Oper.upon_value]
  refine hK ι' _ _ (Rel.less hn2 (fun _ _ h => h) fun y B hy => ?_)
  by_cases hyi : y = id
  · simp only [appL, if_pos hyi] at hy ⊢
    exact hy
  · simp only [appL, if_neg hyi] at hy ⊢
    rw [appL_over (M' := H') (by simp [Hp.put, hyi])]
    exact hy
/-- make([]T, n) of a type with slices within. -/
theorem g_mks_n {t id n : Nat} {l c : Operand} {i j : TI} {co : List (Nat × Nat × TypeId)} (hN : dstOk N o.dst = true) (ho : o.op = .makeSlice t l c) (ht : TyP P t i) (h1 : Nat.beq i.kd 1 = true) (hj : TyP P i.el j) (hl : (evO T l).bind sc = some (.int .i64 (n : Int))) (hc : (evO T c).bind sc = some (.int .i64 (n : Int)))
    (hb : j.bys * n ≤ 281474976710656) (h63 : n ≤ 9223372036854775807) (hz : (j.zero.all fun v => v.oneCell') = true) (hzl : Nat.beq j.zero.length j.sz = true) :
    GoodW P N o ⟨.e (.c (.ref id)), [(id, some (.nst j.sz i.el co (List.replicate n (j.zero.map zD)) []))], [], [id]⟩ T H := by
  intro T' H' hT hH hF κ w0 S ι a w hr Q K hK
  have h1 : i.kd = 1 := Nat.eq_of_beq_eq_true h1
  have hzl : j.zero.length = j.sz := Nat.eq_of_beq_eq_true hzl
  obtain ⟨xl, e1, e2⟩ := Option.bind_eq_some_iff.1 hl
  obtain ⟨xc, f1, f2⟩ := Option.bind_eq_some_iff.1 hc
  have hlv := (sc_ok (evO_ok hr ((evO_agree hT (by simp [ho, Op.operands])).trans e1)) e2).1
  have hcv := (sc_ok (evO_ok hr ((evO_agree hT (by simp [ho, Op.operands])).trans f1)) f2).1
  obtain ⟨d, inf, hd, _, _, _, _, hk, _⟩ := ht
  cases d <;> simp [KdOk, h1] at hk
  rename_i el
  subst hk
  obtain ⟨dj, fj, hdj, hij, hsj, hbj, hzj, hkj, hpos⟩ := hj
  obtain ⟨z, hz1, hz2⟩ := Option.map_eq_some_iff.1 hzj
  have hzs : z.cells.size = j.sz := by rw [← hzl, ← hz2, Array.length_toList]
  have hrun : (Instr.makeSlice t (a.eval l) (a.eval c)).run P w = .ok (.slice (some ⟨w.heap.size, 0, none⟩) n n) (w.alloc (.cells (madeCells z.cells (n * j.sz)) i.el)) := by
    rw [hlv, hcv]
    have hb' : (fj.bytes : Int) * (n : Int) ≤ 281474976710656 := by
      have h : ((fj.bytes * n : Nat) : Int) ≤ 281474976710656 := by rw [hbj]; omega
      rwa [Int.natCast_mul] at h
    have h := run_make (P := P) w t i.el fj z hd hij hz1 .i64 .i64 n n (by omega) (Int.le_refl _) hb' (by omega)
    simp only [Int.toNat_natCast, hsj] at h
    exact h
  have cell : ∀ m r q d, (List.replicate n (j.zero.map zD))[m]? = some r → r[q]? = some d → ∃ u, (madeCells z.cells (n * j.sz))[m * j.sz + q]? = some u ∧ d = zD u ∧ u.oneCell' = true := fun m r q d hm hq => by
    have hml : m < n := by have := (List.getElem?_eq_some_iff.1 hm).1; simpa using this
    obtain rfl := (List.mem_replicate.1 (List.mem_of_getElem? hm)).2
    rw [List.getElem?_map] at hq
    obtain ⟨u, hu, rfl⟩ := Option.map_eq_some_iff.1 hq
    have hql : q < j.sz := by have := (List.getElem?_eq_some_iff.1 hu).1; omega
    have hlt : m * j.sz + q < n * j.sz := by
      have : (m + 1) * j.sz ≤ n * j.sz := Nat.mul_le_mul_right _ hml
      rw [Nat.add_mul, Nat.one_mul] at this
      omega
    refine ⟨u, ?_, rfl, List.all_eq_true.1 hz u (List.mem_of_getElem? hu)⟩
    rw [← hz2] at hu
    have hmod : (m * j.sz + q) % j.sz = q := by rw [Nat.mul_comm, Nat.mul_add_mod, Nat.mod_eq_of_lt hql]
    have hu : z.cells[q]? = some u := by simpa using hu
    simp only [madeCells, Array.getElem?_map, Array.getElem?_range, if_pos hlt, Option.map_some, hzs, hmod]
    rw [getElem!_def, hu]
  have zsl : ∀ {u : Value} {q : List (List D)}, D.sl q = zD u → u = .slice none 0 0 ∧ q = [] := fun {u q} h => by
    unfold zD at h
    split at h
    · cases h; exact ⟨rfl, rfl⟩
    · cases h
  have hn := hr.allocO (hF id (by simp)) (.cells (madeCells z.cells (n * j.sz)) i.el) (.nst j.sz i.el co (List.replicate n (j.zero.map zD)) []) (cp n) (fun k hk => owns_cp hk) fun hok hS => by
    refine ⟨hpos, fun m r hm => ?_, madeCells z.cells (n * j.sz), heap_alloc_new w _, by rw [List.length_replicate]; exact Nat.le_refl _, by (show n ≤ maxLen); simp only [maxLen]; omega, by simp [madeCells, cp], hr.new _ hr.kept.size, fun k hk => hk.elim, fun m r q d hm hq => ?_, fun i1 j1 i2 j2 r1 r2 q1 q2 k' n1 n2 z1 z2 a1 a2 a3 b1 b2 b3 v1 v2 => ?_⟩
    · obtain rfl := (List.mem_replicate.1 (List.mem_of_getElem? hm)).2
      rw [List.length_map, hzl]
    · obtain ⟨u, hu, hd, ho⟩ := cell m r q d hm hq
      refine ⟨u, hu, ?_⟩
      show ND _ _ _ _ _ _ _ _
      cases d with
      | v x =>
        unfold zD at hd
        split at hd
        · cases hd
        · cases hd; exact ⟨rfl, ho⟩
      | sl r => exact .inl (zsl hd)
    · obtain ⟨u, hu, hd, _⟩ := cell i1 r1 j1 _ a1 a2
      rw [v1] at hu
      cases hu
      cases (zsl hd).1
  unfold Oper.wp execOp
  rw [ho]
  simp only [Sem.run_bind, hrun, Result.andThen_ok, Sem.run_pure, Oper.upon_value]
  rw [← appL_put] at hn
  refine hK _ _ _ (hn.putD hN (x := .e (.c (.ref id))) fun B hB => ?_)
  have : B = .nst j.sz i.el co (List.replicate n (j.zero.map zD)) [] := by simpa [Hp.put, appL] using hB.symm
  subst this
  refine ⟨j.sz, n, by simp [Blk.shape], ?_⟩
  simp [Nm.put, RefV, key, cp]
end
end Go.Proofs.Ytggmeldoecnkaaa.Av
