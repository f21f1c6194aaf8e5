/-
Operations that read memory, or tell a place in it: what each comes to.
Conditions: none beside those that each theorem names.
-/
import Derived.Test.YtggmeldoecnkaaaAv4
set_option linter.unusedVariables false
set_option linter.unusedSimpArgs false
namespace Go.Proofs.Ytggmeldoecnkaaa.Av
open Go.RowKit

def aggB (i : TI) : Bool := Nat.beq i.kd 2 || Nat.beq i.kd 3
/-- A part of cells, by its type. -/
def ldE (i : TI) (cs : List Cell) (p : Nat) : Option E := match aggB i with
  | true => match Nat.ble (p + i.sz) cs.length with
    | true => some (.agg ((cs.drop p).take i.sz))
    | false => none
  | false => match cs[p]? with
    | some c => some (.c c)
    | none => none
section
variable {P : Program} {N : Nat} {o : Oper} {T : Tm} {H : Hp}
theorem TyP.row {t : Nat} {i : TI} (h : TyP P t i) : ∃ d, P.underlying t = some d ∧ d.isRow = aggB i := by
  obtain ⟨d, f, h1, _, _, _, _, h2, _⟩ := h
  refine ⟨d, h1, ?_⟩
  have e : ∀ n, i.kd = n → aggB i = (Nat.beq n 2 || Nat.beq n 3) := fun n hn => by unfold aggB; rw [hn]
  cases d <;> first
    | exact h2.elim
    | (rw [e _ h2]; rfl)
    | (rw [e _ h2.1]; rfl)
theorem TyP.size {t : Nat} {i : TI} (h : TyP P t i) : (P.info? t).map (·.size) = some i.sz := by
  obtain ⟨d, f, _, h1, h2, _⟩ := h
  rw [h1]
  simp [h2]
theorem cell_in {w : World} {k o : Nat} {cs : Array Value} {ty : TypeId} {fr : Nat × Nat} {u : Value} (h : w.heap[k]? = some (.cells cs ty fr)) (hu : cs[o]? = some u) : w.cell? ⟨k, o, none⟩ = some u := by
  unfold World.cell?
  simp only [h]
  simpa using hu
theorem run_isAgg {t : Nat} {d : TypeDesc} (h : P.underlying t = some d) (w : World) : (isAgg t).run P w = .ok d.isRow w := by
  unfold isAgg
  rw [Sem.run_bind, run_underlying h w]
  cases d <;> simp [TypeDesc.isRow]
theorem run_ld {g : Env} {ι : Nm} {w : World} {t : Nat} {i : TI} (ht : TyP P t i) {k q p : Nat} {cs : List Cell} (hc : ∀ (j : Nat) (c : Cell), cs[j]? = some c → ∃ u, w.cell? ⟨k, q + j, none⟩ = some u ∧ CR g ι H w c u) {e : E} (he : ldE i cs p = some e) :
    ∃ v, (Instr.loadAt t (.pointer (some ⟨k, q + p, none⟩))).run P w = .ok v w ∧ ER g ι H w e v := by
  obtain ⟨d, hd, hr⟩ := ht.row
  unfold ldE at he
  cases ha : aggB i with
  | true =>
    rw [ha] at he hr
    simp only at he
    split at he
    · rename_i hle
      cases he
      have hle : p + i.sz ≤ cs.length := Nat.le_of_ble_eq_true hle
      let us : List Value := (List.range i.sz).map fun j => (w.cell? ⟨k, q + p + j, none⟩).getD undef
      have hget : ∀ j, j < i.sz → us[j]? = w.cell? ⟨k, q + p + j, none⟩ ∧ ∃ c, cs[p + j]? = some c ∧ ∃ u, w.cell? ⟨k, q + p + j, none⟩ = some u ∧ CR g ι H w c u := by
        intro j hj
        have hlt : p + j < cs.length := by omega
        obtain ⟨u, hu, hcr⟩ := hc (p + j) _ (List.getElem?_eq_getElem hlt)
        rw [← Nat.add_assoc] at hu
        refine ⟨?_, _, List.getElem?_eq_getElem hlt, u, hu, hcr⟩
        simp [us, hj, hu]
      have hlen : us.length = i.sz := by simp [us]
      refine ⟨.agg us.toArray, run_loadAt_mid w k (q + p) t us d (fun j v hv => ?_) hd hr (by rw [hlen]; exact ht.size), us.toArray, rfl, by simp [hlen]; omega, fun j c hj => ?_⟩
      · have hj : j < i.sz := by have := (List.getElem?_eq_some_iff.1 hv).1; omega
        rw [← (hget j hj).1]
        exact hv
      · have hj' : j < i.sz ∧ cs[p + j]? = some c := by
          rw [List.getElem?_take] at hj
          split at hj
          · rename_i h; exact ⟨h, by simpa using hj⟩
          · cases hj
        obtain ⟨h1, c', h2, u, h3, h4⟩ := hget j hj'.1
        rw [hj'.2] at h2
        cases h2
        exact ⟨u, by simpa using h1.trans h3, h4⟩
    · cases he
  | false =>
    rw [ha] at he hr
    simp only at he
    split at he
    · rename_i c hcp
      cases he
      obtain ⟨u, hu, hcr⟩ := hc p c hcp
      refine ⟨u, ?_, hcr⟩
      simp [Instr.loadAt, Instr.sureAddr, loadVar, Sem.run_bind, run_isAgg hd, hr, run_load, hu]
    · cases he
theorem g_load_box {t b p : Nat} {x : Operand} {i : TI} {cs : List Cell} {e : E} (hN : dstOk N o.dst = true) (ho : o.op = .load t x) (hx : evO T x = some (.pt b 0 p)) (hb : H b = some (.box cs)) (ht : TyP P t i) (he : ldE i cs p = some e) : GoodW P N o ⟨.e e, [], [b], []⟩ T H :=
  GoodW.val hN fun T' H' hT hH κ w0 S ι a w hr => by
    have hb' : H' b = some (.box cs) := (hH b (by simp)).trans hb
    obtain ⟨k, c, h1, h2⟩ := evO_ok hr ((evO_agree hT (by simp [ho, Op.operands])).trans hx) _ hb'
    obtain ⟨k', c', h3, vs, ty, h4, h5, h6⟩ := hr.blk b _ hb'
    rw [h1] at h3
    cases h3
    obtain ⟨v, hv, hev⟩ := run_ld (P := P) (k := k) (q := 0) (p := p) ht (fun j c hj => by
      obtain ⟨u, hu, hc⟩ := h6 j c hj
      exact ⟨u, cell_in h4 (by rw [Nat.zero_add]; exact hu), hc⟩) he
    refine ⟨v, ?_, hev⟩
    unfold execOp
    rw [ho]
    simp only [h2, Blk.wd, Nat.mul_zero, Sem.run_bind] at hv ⊢
    rw [hv]
    rfl
theorem g_load_ip {t p : Nat} {x : Operand} {i : TI} {r : List D} {e : E} (hN : dstOk N o.dst = true) (ho : o.op = .load t x) (hx : evO T x = some (.ip r p)) (ht : TyP P t i) (he : ldE i (r.map .d) p = some e) : GoodW P N o ⟨.e e, [], [], []⟩ T H :=
  GoodW.val hN fun T' H' hT hH κ w0 S ι a w hr => by
    obtain ⟨k, q, ⟨_, cs, ty, fr, h1, h2⟩, h3⟩ := evO_ok hr ((evO_agree hT (by simp [ho, Op.operands])).trans hx)
    obtain ⟨v, hv, hev⟩ := run_ld (P := P) (k := k) (q := q) (p := p) ht (fun j c hj => by
      rw [List.getElem?_map] at hj
      obtain ⟨d, hd, rfl⟩ := Option.map_eq_some_iff.1 hj
      obtain ⟨u, hu, hc⟩ := h2 j d hd
      exact ⟨u, cell_in h1 hu, hc⟩) he
    refine ⟨v, ?_, hev⟩
    unfold execOp
    rw [ho]
    simp only [h3, Sem.run_bind] at hv ⊢
    rw [hv]
    rfl
def nfc (nf : Bool) (x : D) : Cell := match nf with
  | true => .f x
  | false => .d x
theorem nfc_ok {g : Env} {ι : Nm} {w : World} {nf : Bool} {x : D} {u : Value} (h : TR w (OkF g nf ι H w) x u) : CR g ι H w (nfc nf x) u := by cases nf <;> exact h
/-- A load out of a row of the call's own: r is that row. -/
theorem g_load_row {t b n p wd ty : Nat} {x : Operand} {i : TI} {rows : List (List D)} {f nf : Bool} {r : List D} {e : E} (hN : dstOk N o.dst = true) (ho : o.op = .load t x) (hx : evO T x = some (.pt b n p)) (hb : H b = some (.row wd ty rows f nf)) (hrow : rows[n]? = some r) (ht : TyP P t i)
    (he : ldE i (r.map (nfc nf)) p = some e) : GoodW P N o ⟨.e e, [], [b], []⟩ T H :=
  GoodW.val hN fun T' H' hT hH κ w0 S ι a w hr => by
    have hb' : H' b = some (.row wd ty rows f nf) := (hH b (by simp)).trans hb
    obtain ⟨k, c, h1, h2⟩ := evO_ok hr ((evO_agree hT (by simp [ho, Op.operands])).trans hx) _ hb'
    have h3 := hr.blk b _ hb'
    rw [h1] at h3
    obtain ⟨_, _, cs, h4, _, _, _, _, h5⟩ := h3
    obtain ⟨v, hv, hev⟩ := run_ld (P := P) (k := k) (q := n * wd) (p := p) ht (fun j c hj => by
      rw [List.getElem?_map] at hj
      obtain ⟨d, hd, rfl⟩ := Option.map_eq_some_iff.1 hj
      obtain ⟨u, hu, hc⟩ := h5 n r j d hrow hd
      exact ⟨u, cell_in h4 hu, nfc_ok hc⟩) he
    refine ⟨v, ?_, hev⟩
    unfold execOp
    rw [ho]
    simp only [h2, Blk.wd, Sem.run_bind] at hv ⊢
    rw [hv]
    rfl
/-- A field's place. -/
def fldOf (τ : Ty) (i : TI) (f : Nat) : Option Nat := match Nat.beq i.kd 2 with
  | false => none
  | true => match i.fl[f]? with
    | some (off, ft) => match τ ft with
      | some _ => some off
      | none => none
    | none => none
theorem run_field {τ : Ty} (hτ : Tys P τ) {s f off : Nat} {i : TI} (ht : TyP P s i) (hf : fldOf τ i f = some off) (a : Addr) (w : World) : (Instr.fieldAt s (.pointer (some a)) f).run P w = .ok (.pointer (some (a.add off))) w := by
  obtain ⟨d, inf, hd, _, _, _, _, hk, _⟩ := ht
  unfold fldOf at hf
  split at hf
  · cases hf
  rename_i h2
  have h2 : i.kd = 2 := Nat.eq_of_beq_eq_true h2
  split at hf
  · rename_i off' ft hfl
    split at hf
    · rename_i j hj
      cases hf
      obtain ⟨_, fi, _, hfi, hsz, _, _, _, hpos⟩ := hτ ft j hj
      cases d <;> simp [KdOk, h2] at hk
      rename_i fs
      have hget : (fs.toList.map fun f => (f.offset, f.type))[f]? = some (off, ft) := by rw [hk]; exact hfl
      rw [List.getElem?_map] at hget
      obtain ⟨fd, hfd, e⟩ := Option.map_eq_some_iff.1 hget
      cases e
      have hfd' : fs[f]? = some fd := by simpa using hfd
      have hne : ¬ fi.size = 0 := by omega
      simp [Instr.fieldAt, Instr.sureAddr, Sem.run_bind, run_underlying hd, hfd', fieldPlace, sizeOf, typeInfo, hfi, hne]
    · cases hf
  · cases hf
theorem g_field {τ : Ty} (hτ : Tys P τ) {s f off b n p : Nat} {x : Operand} {i : TI} {B : Blk} (hN : dstOk N o.dst = true) (ho : o.op = .fieldAddr s x f) (hx : evO T x = some (.pt b n p)) (hb : H b = some B) (ht : TyP P s i) (hf : fldOf τ i f = some off) : GoodW P N o ⟨.pt b n (p + off), [], [b], []⟩ T H :=
  GoodW.val hN fun T' H' hT hH κ w0 S ι a w hr => by
    have hB : H' b = some B := (hH b (by simp)).trans hb
    obtain ⟨k, c, h1, h2⟩ := evO_ok hr ((evO_agree hT (by simp [ho, Op.operands])).trans hx) B hB
    refine ⟨.pointer (some ⟨k, n * B.wd + (p + off), none⟩), ?_, fun B' hB' => ?_⟩
    · unfold execOp
      rw [ho]
      simp only [h2, Sem.run_bind, run_field hτ ht hf]
      rw [Addr.add_mid, Nat.add_assoc]
      rfl
    · rw [hB] at hB'
      cases hB'
      exact ⟨k, c, h1, rfl⟩
theorem g_field_ip {τ : Ty} (hτ : Tys P τ) {s f off p : Nat} {x : Operand} {i : TI} {r : List D} (hN : dstOk N o.dst = true) (ho : o.op = .fieldAddr s x f) (hx : evO T x = some (.ip r p)) (ht : TyP P s i) (hf : fldOf τ i f = some off) : GoodW P N o ⟨.ip r (p + off), [], [], []⟩ T H :=
  GoodW.val hN fun T' H' hT hH κ w0 S ι a w hr => by
    obtain ⟨k, q, h1, h2⟩ := evO_ok hr ((evO_agree hT (by simp [ho, Op.operands])).trans hx)
    refine ⟨.pointer (some ⟨k, q + (p + off), none⟩), ?_, k, q, h1, rfl⟩
    unfold execOp
    rw [ho]
    simp only [h2, Sem.run_bind, run_field hτ ht hf]
    rw [Addr.add_mid, Nat.add_assoc]
    rfl
/-- A field of a struct that is held by value. -/
theorem g_part {τ : Ty} (hτ : Tys P τ) {s f off ft : Nat} {x : Operand} {i j : TI} {cs : List Cell} {e : E} (hN : dstOk N o.dst = true) (ho : o.op = .field s x f) (hx : evO T x = some (.e (.agg cs))) (ht : TyP P s i) (h2 : Nat.beq i.kd 2 = true) (hf : i.fl[f]? = some (off, ft)) (hj : TyP P ft j) (he : ldE j cs off = some e) : GoodW P N o ⟨.e e, [], [], []⟩ T H :=
  GoodW.val hN fun T' H' hT hH κ w0 S ι a w hr => by
    obtain ⟨vs, h1, hl, hc⟩ := evO_ok hr ((evO_agree hT (by simp [ho, Op.operands])).trans hx)
    obtain ⟨d, inf, hd, _, _, _, _, hk, _⟩ := ht
    have h2 : i.kd = 2 := Nat.eq_of_beq_eq_true h2
    cases d <;> simp [KdOk, h2] at hk
    rename_i fs
    have hget : (fs.toList.map fun f => (f.offset, f.type))[f]? = some (off, ft) := by rw [hk]; exact hf
    rw [List.getElem?_map] at hget
    obtain ⟨fd, hfd, ef⟩ := Option.map_eq_some_iff.1 hget
    cases ef
    have hfd' : fs[f]? = some fd := by simpa using hfd
    obtain ⟨d, hd', hr'⟩ := hj.row
    have hsz : (sizeOf fd.type).run P w = .ok j.sz w := by
      obtain ⟨_, fi, _, hfi, hsz, _⟩ := hj
      simp [sizeOf, typeInfo, hfi, hsz]
    have key : ∃ v, (part fd.type vs fd.offset).run P w = .ok v w ∧ ER ⟨κ, S.fr⟩ ι H' w e v := by
      unfold ldE at he
      cases ha : aggB j with
      | true =>
        rw [ha] at he hr'
        simp only at he
        split at he
        · rename_i hle
          cases he
          have hle : fd.offset + j.sz ≤ cs.length := Nat.le_of_ble_eq_true hle
          refine ⟨.agg (vs.extract fd.offset (fd.offset + j.sz)), ?_, _, rfl, by simp; omega, fun m c hm => ?_⟩
          · simp [part, Sem.run_bind, run_isAgg hd', hr', hsz]
          · rw [List.getElem?_take] at hm
            split at hm
            · rename_i hlt
              rw [List.getElem?_drop] at hm
              obtain ⟨u, hu, hcr⟩ := hc _ c hm
              refine ⟨u, ?_, hcr⟩
              simp only at hu ⊢
              rw [Array.getElem?_extract, if_pos (by omega)]
              exact hu
            · cases hm
        · cases he
      | false =>
        rw [ha] at he hr'
        simp only at he
        split at he
        · rename_i c hcp
          cases he
          obtain ⟨u, hu, hcr⟩ := hc _ c hcp
          simp only at hu
          exact ⟨u, by simp [part, Sem.run_bind, run_isAgg hd', hr', hu], hcr⟩
        · cases he
    obtain ⟨v, hv, hev⟩ := key
    refine ⟨v, ?_, hev⟩
    unfold execOp
    rw [ho]
    simp only [h1, Instr.field, Sem.run_bind, run_underlying hd, hfd', asAgg, Result.andThen_ok, Sem.run_pure, hv]
/-! ### slices -/
def rowsOf : Cell → Option (List (List D))
  | .d (.sl r) => some r
  | .f (.sl r) => some r
  | .k _ (.sl r) => some r
  | .nil => some []
  | _ => none
theorem rowsOf_ok {g : Env} {ι : Nm} {w : World} {c : Cell} {u : Value} {r : List (List D)} (h : CR g ι H w c u) (hr : rowsOf c = some r) : TR w (OkF g false ι H w) (.sl r) u := by
  unfold rowsOf at hr
  split at hr
  · cases hr; exact h
  · cases hr; exact TR.move (fun k hk => ⟨⟨hk.1, fun h => by cases h⟩, rfl⟩) h
  · cases hr; exact h.2
  · cases hr; cases h; exact .nil _ _
  · cases hr
theorem run_index {t : Nat} {i : TI} {j : TI} (ht : TyP P t i) (h1 : Nat.beq i.kd 1 = true) (hj : TyP P i.el j) {k : IntKind} {n m : Nat} {A : Addr} {l c : Nat} (hn : n < l) (w : World) :
    (Instr.indexAt t (.slice (some A) l c) (.int k (n : Int))).run P w = .ok (.pointer (some (A.add (n * j.sz)))) w := by
  obtain ⟨d, inf, hd, _, _, _, _, hk, _⟩ := ht
  have h1 : i.kd = 1 := Nat.eq_of_beq_eq_true h1
  cases d <;> simp [KdOk, h1] at hk
  rename_i e
  subst hk
  obtain ⟨_, fi, _, hfi, hsz, _⟩ := hj
  simp [Instr.indexAt, Sem.run_bind, asIntOf, run_underlying hd, sizeOf, typeInfo, hfi, hsz, hn]
theorem g_idx {t : Nat} {x y : Operand} {i j : TI} {c : Cell} {k : IntKind} {n : Int} {rows : List (List D)} {r : List D} (hN : dstOk N o.dst = true) (ho : o.op = .indexAddr t x y) (hx : evO T x = some (.e (.c c))) (hc : rowsOf c = some rows) (hy : (evO T y).bind sc = some (.int k n)) (ht : TyP P t i) (h1 : Nat.beq i.kd 1 = true) (hj : TyP P i.el j)
    (h0 : 0 ≤ n) (hrow : rows[n.toNat]? = some r) (hl : r.length = j.sz) : GoodW P N o ⟨.ip r 0, [], [], []⟩ T H :=
  GoodW.val hN fun T' H' hT hH κ w0 S ι a w hr => by
    obtain ⟨yv, e1, e2⟩ := Option.bind_eq_some_iff.1 hy
    have hyv := (sc_ok (evO_ok hr ((evO_agree hT (by simp [ho, Op.operands])).trans e1)) e2).1
    have htr := rowsOf_ok (evO_ok hr ((evO_agree hT (by simp [ho, Op.operands])).trans hx)) hc
    obtain ⟨A, cc, hxv, hcc⟩ := htr.slice
    rw [hxv] at htr
    obtain ⟨q, p, rfl, hrun⟩ := htr.at_ hrow
    obtain ⟨m, rfl⟩ : ∃ m : Nat, n = m := ⟨n.toNat, by omega⟩
    have hm : m < rows.length := (List.getElem?_eq_some_iff.1 hrow).1
    refine ⟨.pointer (some ⟨q, p + m * r.length, none⟩), ?_, q, p + m * r.length, hrun, rfl⟩
    unfold execOp
    rw [ho]
    simp only [hxv, hyv, Sem.run_bind, run_index (m := 0) ht h1 hj hm]
    rw [Addr.add_mid, hl]
    rfl
theorem g_idx_B {t : Nat} {x y : Operand} {i j : TI} {b wd : Nat} {B : Blk} {k : IntKind} {n : Int} {rows : List (List D)} (hN : dstOk N o.dst = true) (ho : o.op = .indexAddr t x y) (hx : evO T x = some (.e (.c (.ref b)))) (hb : H b = some B) (hsB : B.shape = (false, wd, rows.length)) (hwB : B.wd = wd) (hy : (evO T y).bind sc = some (.int k n)) (ht : TyP P t i) (h1 : Nat.beq i.kd 1 = true) (hj : TyP P i.el j) (hwd : Nat.beq wd j.sz = true)
    (h0 : 0 ≤ n) (hlt : n < rows.length) : GoodW P N o ⟨.pt b n.toNat 0, [], [b], []⟩ T H :=
  GoodW.val hN fun T' H' hT hH κ w0 S ι a w hr => by
    have hb' : H' b = some B := (hH b (by simp)).trans hb
    obtain ⟨yv, e1, e2⟩ := Option.bind_eq_some_iff.1 hy
    have hyv := (sc_ok (evO_ok hr ((evO_agree hT (by simp [ho, Op.operands])).trans e1)) e2).1
    obtain ⟨wd', l, hsh, href⟩ := evO_ok hr ((evO_agree hT (by simp [ho, Op.operands])).trans hx) _ hb'
    rw [hsB] at hsh
    simp only [Prod.mk.injEq, true_and] at hsh
    obtain ⟨rfl, rfl⟩ := hsh
    obtain ⟨m, rfl⟩ : ∃ m : Nat, n = m := ⟨n.toNat, by omega⟩
    have hm : m < rows.length := by omega
    have hwd' : wd = j.sz := Nat.eq_of_beq_eq_true hwd
    cases hi : ι b with
    | none =>
      rw [hi] at href
      exact absurd href.1 (by omega)
    | some q =>
      obtain ⟨q, cc⟩ := q
      rw [hi] at href
      refine ⟨.pointer (some ⟨q, m * wd, none⟩), ?_, fun B' hB' => ?_⟩
      · unfold execOp
        rw [ho]
        have href : a.eval x = .slice (some ⟨q, 0, none⟩) rows.length cc := href
        simp only [href, hyv, Sem.run_bind, run_index (m := 0) ht h1 hj hm]
        rw [Addr.add_mid, hwd', Nat.zero_add]
        rfl
      · rw [hb'] at hB'
        cases hB'
        exact ⟨q, cc, hi, by rw [hwB]; simp⟩
theorem g_idx_ref {t : Nat} {x y : Operand} {i j : TI} {b wd ty : Nat} {f nf : Bool} {k : IntKind} {n : Int} {rows : List (List D)} (hN : dstOk N o.dst = true) (ho : o.op = .indexAddr t x y) (hx : evO T x = some (.e (.c (.ref b)))) (hb : H b = some (.row wd ty rows f nf)) (hy : (evO T y).bind sc = some (.int k n)) (ht : TyP P t i) (h1 : Nat.beq i.kd 1 = true) (hj : TyP P i.el j) (hwd : Nat.beq wd j.sz = true)
    (h0 : 0 ≤ n) (hlt : n < rows.length) : GoodW P N o ⟨.pt b n.toNat 0, [], [b], []⟩ T H := g_idx_B hN ho hx hb rfl rfl hy ht h1 hj hwd h0 hlt
theorem g_len {t : Nat} {x : Operand} {i : TI} {c : Cell} {rows : List (List D)} (hN : dstOk N o.dst = true) (ho : o.op = .call { callee := .builtin .len, args := #[x], argTypes := #[t] }) (hx : evO T x = some (.e (.c c))) (hc : rowsOf c = some rows) (ht : TyP P t i) (h1 : Nat.beq i.kd 1 = true) : GoodW P N o ⟨sV (.int .i64 rows.length), [], [], []⟩ T H :=
  GoodW.val hN fun T' H' hT hH κ w0 S ι a w hr => by
    have htr := rowsOf_ok (evO_ok hr ((evO_agree hT (by simp [ho, Op.operands, Call.operands])).trans hx)) hc
    obtain ⟨A, cc, hxv, hcc⟩ := htr.slice
    refine ⟨.int .i64 rows.length, ?_, sV_ok _ _ _ _ rfl⟩
    obtain ⟨d, inf, hd, _, _, _, _, hk, _⟩ := ht
    have h1 : i.kd = 1 := Nat.eq_of_beq_eq_true h1
    cases d <;> simp [KdOk, h1] at hk
    unfold execOp
    rw [ho]
    simp [resolve, invoke, builtin, Builtin.len_, hxv, run_underlying hd, goInt]
theorem g_len_B {t b wd : Nat} {B : Blk} {x : Operand} {i : TI} {rows : List (List D)} (hN : dstOk N o.dst = true) (ho : o.op = .call { callee := .builtin .len, args := #[x], argTypes := #[t] }) (hx : evO T x = some (.e (.c (.ref b)))) (hb : H b = some B) (hsB : B.shape = (false, wd, rows.length)) (ht : TyP P t i) (h1 : Nat.beq i.kd 1 = true) : GoodW P N o ⟨sV (.int .i64 rows.length), [], [b], []⟩ T H :=
  GoodW.val hN fun T' H' hT hH κ w0 S ι a w hr => by
    have hb' : H' b = some B := (hH b (by simp)).trans hb
    obtain ⟨wd', l, hsh, href⟩ := evO_ok hr ((evO_agree hT (by simp [ho, Op.operands, Call.operands])).trans hx) _ hb'
    rw [hsB] at hsh
    simp only [Prod.mk.injEq, true_and] at hsh
    obtain ⟨rfl, rfl⟩ := hsh
    refine ⟨.int .i64 rows.length, ?_, sV_ok _ _ _ _ rfl⟩
    obtain ⟨d, inf, hd, _, _, _, _, hk, _⟩ := ht
    have h1 : i.kd = 1 := Nat.eq_of_beq_eq_true h1
    cases d <;> simp [KdOk, h1] at hk
    have hv : ∃ A cc, a.eval x = .slice A rows.length cc := by
      cases hi : ι b with
      | none => rw [hi] at href; exact ⟨none, 0, by rw [href.2, href.1]⟩
      | some q => obtain ⟨q, cc⟩ := q; rw [hi] at href; exact ⟨_, cc, href⟩
    obtain ⟨A, cc, hxv⟩ := hv
    unfold execOp
    rw [ho]
    simp [resolve, invoke, builtin, Builtin.len_, hxv, run_underlying hd, goInt]
theorem g_len_ref {t b wd ty : Nat} {f nf : Bool} {x : Operand} {i : TI} {rows : List (List D)} (hN : dstOk N o.dst = true) (ho : o.op = .call { callee := .builtin .len, args := #[x], argTypes := #[t] }) (hx : evO T x = some (.e (.c (.ref b)))) (hb : H b = some (.row wd ty rows f nf)) (ht : TyP P t i) (h1 : Nat.beq i.kd 1 = true) : GoodW P N o ⟨sV (.int .i64 rows.length), [], [b], []⟩ T H := g_len_B hN ho hx hb rfl ht h1
theorem g_len_str {t : Nat} {x : Operand} {i : TI} {s : ByteArray} (hN : dstOk N o.dst = true) (ho : o.op = .call { callee := .builtin .len, args := #[x], argTypes := #[t] }) (hx : (evO T x).bind sc = some (.string s)) (ht : TyP P t i) (h1 : Nat.beq i.kd 5 = true) : GoodW P N o ⟨sV (.int .i64 s.size), [], [], []⟩ T H :=
  GoodW.val hN fun T' H' hT hH κ w0 S ι a w hr => by
    obtain ⟨xv, e1, e2⟩ := Option.bind_eq_some_iff.1 hx
    have hxv := (sc_ok (evO_ok hr ((evO_agree hT (by simp [ho, Op.operands, Call.operands])).trans e1)) e2).1
    refine ⟨.int .i64 s.size, ?_, sV_ok _ _ _ _ rfl⟩
    obtain ⟨d, inf, hd, _, _, _, _, hk, _⟩ := ht
    have h1 : i.kd = 5 := Nat.eq_of_beq_eq_true h1
    cases d <;> simp [KdOk, h1] at hk
    unfold execOp
    rw [ho]
    simp [resolve, invoke, builtin, Builtin.len_, hxv, run_underlying hd, goInt]
theorem g_extract {x : Operand} {n : Nat} {xs : List E} {e : E} (hN : dstOk N o.dst = true) (ho : o.op = .extract x n) (hx : evO T x = some (.tup xs)) (hn : xs[n]? = some e) : GoodW P N o ⟨.e e, [], [], []⟩ T H :=
  GoodW.val hN fun T' H' hT hH κ w0 S ι a w hr => by
    obtain ⟨vs, h1, hl, hc⟩ := evO_ok hr ((evO_agree hT (by simp [ho, Op.operands])).trans hx)
    obtain ⟨y, hy, hev⟩ := hc n e hn
    refine ⟨y, ?_, hev⟩
    unfold execOp
    rw [ho]
    simp [h1, Instr.extract, hy]
theorem g_int {t u : Nat} {x : Operand} {i j : TI} {k : IntKind} {n : Int} (hN : dstOk N o.dst = true) (ho : o.op = .convert t u x) (hx : (evO T x).bind sc = some (.int k n)) (ht : TyP P t i) (hu : TyP P u j) (h7 : Nat.beq j.kd 7 = true) : GoodW P N o ⟨sV (.int j.ik (wr j.ik n)), [], [], []⟩ T H :=
  GoodW.val hN fun T' H' hT hH κ w0 S ι a w hr => by
    obtain ⟨xv, e1, e2⟩ := Option.bind_eq_some_iff.1 hx
    have hxv := (sc_ok (evO_ok hr ((evO_agree hT (by simp [ho, Op.operands])).trans e1)) e2).1
    refine ⟨.int j.ik (wr j.ik n), ?_, sV_ok _ _ _ _ rfl⟩
    obtain ⟨d, inf, hd, _⟩ := ht
    obtain ⟨d', _, hd', _, _, _, _, hk, _⟩ := hu
    have h7 : j.kd = 7 := Nat.eq_of_beq_eq_true h7
    cases d' <;> simp [KdOk, h7] at hk
    subst hk
    unfold execOp
    rw [ho]
    simp [convert, hxv, run_underlying hd, run_underlying hd', Conv.intToInt, wr_eq]
end
end Go.Proofs.Ytggmeldoecnkaaa.Av
