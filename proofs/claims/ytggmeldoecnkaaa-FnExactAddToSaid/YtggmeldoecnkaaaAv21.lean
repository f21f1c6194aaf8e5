/-
More operations: a byte of a string, cuts, a string of bytes, a sum of strings.
Conditions: none beside those that each theorem names.
-/
import Derived.Test.YtggmeldoecnkaaaAv20
import Derived.Laws.Slices
import Derived.Laws.BytesString
set_option linter.unusedVariables false
set_option linter.unusedSimpArgs false
namespace Go.Proofs.Ytggmeldoecnkaaa.Av
open Go.RowKit Go.Proofs.YtggmeldoecnkaaaW.PrintLast

section
variable {P : Program} {N : Nat} {o : Oper} {T : Tm} {H : Hp}
theorem TyP.str {t : Nat} {i : TI} (h : TyP P t i) (h5 : Nat.beq i.kd 5 = true) : P.underlying t = some .string := by
  obtain ⟨d, f, hd, _, _, _, _, hk, _⟩ := h
  have h5 : i.kd = 5 := Nat.eq_of_beq_eq_true h5
  cases d <;> simp [KdOk, h5] at hk
  exact hd
theorem TyP.sli {t : Nat} {i : TI} (h : TyP P t i) (h1 : Nat.beq i.kd 1 = true) : P.underlying t = some (.slice i.el) := by
  obtain ⟨d, f, hd, _, _, _, _, hk, _⟩ := h
  have h1 : i.kd = 1 := Nat.eq_of_beq_eq_true h1
  cases d <;> simp [KdOk, h1] at hk
  rw [← hk] at hd
  exact hd
theorem g_sidx {t : Nat} {x y : Operand} {i : TI} {s : ByteArray} {k : IntKind} {n : Int} {b : UInt8} (hN : dstOk N o.dst = true) (ho : o.op = .index t x y) (hx : (evO T x).bind sc = some (.string s)) (hy : (evO T y).bind sc = some (.int k n)) (ht : TyP P t i) (h5 : Nat.beq i.kd 5 = true)
    (h0 : 0 ≤ n) (hb : s[n.toNat]? = some b) : GoodW P N o ⟨sV (.int .u8 b.toNat), [], [], []⟩ T H :=
  GoodW.val hN fun T' H' hT hH κ w0 S ι a w hr => by
    obtain ⟨xv, e1, e2⟩ := Option.bind_eq_some_iff.1 hx
    have hxv := (sc_ok (evO_ok hr ((evO_agree hT (by simp [ho, Op.operands])).trans e1)) e2).1
    obtain ⟨yv, e3, e4⟩ := Option.bind_eq_some_iff.1 hy
    have hyv := (sc_ok (evO_ok hr ((evO_agree hT (by simp [ho, Op.operands])).trans e3)) e4).1
    refine ⟨.int .u8 b.toNat, ?_, sV_ok _ _ _ _ rfl⟩
    unfold execOp
    rw [ho]
    simp [Instr.index, hxv, hyv, asIntOf, run_underlying (ht.str h5), h0, hb]
/-- The bounds of a cut. -/
def bnd (T : Tm) (d : Int) : Option Operand → Option Int
  | none => some d
  | some x => match (evO T x).bind sc with
    | some (.int _ n) => some n
    | _ => none
theorem TR.cut {w : World} {ok : Nat → Prop} {rows : List (List D)} {A : Option Addr} {n c l h s : Nat} (t : TR w ok (.sl rows) (.slice A n c)) (h1 : l ≤ h) (h2 : h ≤ rows.length) (hw : ∀ r, r ∈ rows → r.length = s) : TR w ok (.sl ((rows.drop l).take (h - l))) (sliced A l h c s) := by
  unfold sliced
  cases t with
  | nil A c =>
    have : h - l = 0 := by simp only [List.length_nil] at h2; omega
    rw [this, List.take_zero]
    exact .nil _ _
  | row _ wd k o c cs ty fr u hc hk hb hu hw' hv =>
    by_cases he : h - l = 0
    · rw [he, List.take_zero]; exact .nil _ _
    · have hlt : l < rows.length := by omega
      have e : wd = s := by rw [← hw' l _ (List.getElem?_eq_getElem hlt), hw _ (List.getElem_mem hlt)]
      subst e
      have hn : ((rows.drop l).take (h - l)).length = h - l := by rw [List.length_take, List.length_drop]; omega
      have hne : c ≠ l := by omega
      rw [if_neg hne]
      have hg : ∀ (i : Nat) (r : List D), ((rows.drop l).take (h - l))[i]? = some r → rows[l + i]? = some r := fun i r hi => by
        rw [List.getElem?_take] at hi
        split at hi
        · rw [List.getElem?_drop] at hi; exact hi
        · cases hi
      have key : TR w ok (.sl ((rows.drop l).take (h - l))) (.slice (some ⟨k, o + l * wd, none⟩) ((rows.drop l).take (h - l)).length (c - l)) := by
        refine .row _ wd k (o + l * wd) (c - l) cs ty fr (fun i j => u (l + i) j) (by omega) hk hb (fun i j hi hj => ?_) (fun i r hi => hw' (l + i) r (hg i r hi)) (fun i r j d hi hj => hv (l + i) r j d (hg i r hi) hj)
        rw [hn] at hi
        have := hu (l + i) j (by omega) hj
        rw [← this]
        congr 1
        rw [Nat.add_mul]; omega
      rw [hn] at key
      have ea : (some (⟨k, o, none⟩ : Addr)).map (·.add (l * wd)) = some ⟨k, o + l * wd, none⟩ := by simp only [Option.map_some, Addr.add_mid]
      rw [ea]
      exact key
theorem run_cut {w : World} {t el : TypeId} {A : Option Addr} {n c s : Nat} {lo hi : Option Value} {l h : Int} (ht : P.underlying t = some (.slice el)) (hs : (sizeOf el).run P w = .ok s w) (hlo : lo = none ∧ l = 0 ∨ ∃ k, lo = some (.int k l)) (hhi : hi = none ∧ h = n ∨ ∃ k, hi = some (.int k h))
    (h0 : 0 ≤ l) (h1 : l ≤ h) (h2 : h ≤ c) : (Instr.sliceAt t (.slice A n c) lo hi none).run P w = .ok (sliced A l.toNat h.toNat c s) w := by
  have he : P.elem t = el := by simp [Program.elem, ht]
  have ht' : P.underlying t = some (.slice (P.elem t)) := by rw [he]; exact ht
  rw [run_sliceAt_slice w t _ _ _ _ ht']
  rcases hlo with ⟨rfl, rfl⟩ | ⟨k, rfl⟩ <;> rcases hhi with ⟨rfl, rfl⟩ | ⟨k', rfl⟩
  · rw [run_slice_all w t A n c ht', he, hs]; rfl
  · rw [run_slice_h w t A n c ht' k' h (by omega) h2, he, hs]; rfl
  · rw [run_slice_l w t A n c ht' k l h0 h1, he, hs]; rfl
  · rw [run_slice_lh w t A n c ht' k k' l h h0 h1 h2, he, hs]; rfl
def cutC (l h : Nat) : Cell → Cell
  | .d (.sl r) => .d (.sl ((r.drop l).take (h - l)))
  | .f (.sl r) => .f (.sl ((r.drop l).take (h - l)))
  | .k _ (.sl r) => .d (.sl ((r.drop l).take (h - l)))
  | .nil => .d (.sl [])
  | c => c
theorem bnd_ok {N : Nat} {κ : Nat → Value} {w0 : World} {S : Wr} {ι : Nm} {a : Act} {w : World} {T' : Tm} {H' : Hp} (hr : Rel N κ w0 S ι T' H' a w) {d l : Int} {x : Option Operand} (h : bnd T d x = some l) (hT : ∀ y, x = some y → evO T' y = evO T y) : x.map a.eval = none ∧ l = d ∨ ∃ k, x.map a.eval = some (.int k l) := by
  cases x with
  | none => simp only [bnd] at h; cases h; exact .inl ⟨rfl, rfl⟩
  | some y =>
    simp only [bnd] at h
    split at h
    · rename_i k n hq
      cases h
      obtain ⟨v, e1, e2⟩ := Option.bind_eq_some_iff.1 hq
      exact .inr ⟨k, by simp only [Option.map_some]; rw [(sc_ok (evO_ok hr ((hT y rfl).trans e1)) e2).1]⟩
    · cases h
theorem g_cut {t : Nat} {x : Operand} {lo hi : Option Operand} {i j : TI} {c : Cell} {rows : List (List D)} {l h : Int} (hN : dstOk N o.dst = true) (ho : o.op = .slice t x lo hi none) (hx : evO T x = some (.e (.c c))) (hc : rowsOf c = some rows) (ht : TyP P t i) (h1 : Nat.beq i.kd 1 = true) (hj : TyP P i.el j)
    (hl : bnd T 0 lo = some l) (hh : bnd T rows.length hi = some h) (b0 : 0 ≤ l) (b1 : l ≤ h) (b2 : h ≤ rows.length) (hw : ∀ r, r ∈ rows → r.length = j.sz) : GoodW P N o ⟨.e (.c (cutC l.toNat h.toNat c)), [], [], []⟩ T H :=
  GoodW.val hN fun T' H' hT hH κ w0 S ι a w hr => by
    have hv := evO_ok hr ((evO_agree hT (by simp [ho, Op.operands])).trans hx)
    have htr := rowsOf_ok hv hc
    obtain ⟨A, cc, hxv, hcc⟩ := htr.slice
    have hlo := bnd_ok hr hl fun y hy => evO_agree hT (by subst hy; simp [ho, Op.operands])
    have hhi := bnd_ok hr hh fun y hy => evO_agree hT (by subst hy; simp [ho, Op.operands])
    have hs : (sizeOf i.el).run P w = .ok j.sz w := by
      obtain ⟨d, f, hd, hf, hsz, _⟩ := hj
      rw [run_sizeOf w hf]
      simp [Program.cellsOf, hf, hsz]
    refine ⟨sliced A l.toNat h.toNat cc j.sz, ?_, ?_⟩
    · unfold execOp
      rw [ho]
      have hrun := run_cut (P := P) (w := w) (A := A) (n := rows.length) (c := cc) (ht.sli h1) hs hlo hhi b0 b1 (by omega)
      simp only [hxv, Sem.run_bind, Option.map_none]
      rw [hrun]
      rfl
    · have cut : ∀ {ok : Nat → Prop}, TR w ok (.sl rows) (a.eval x) → TR w ok (.sl ((rows.drop l.toNat).take (h.toNat - l.toNat))) (sliced A l.toNat h.toNat cc j.sz) := fun t => by
        rw [hxv] at t
        exact t.cut (by omega) (by omega) hw
      unfold rowsOf at hc
      split at hc
      · cases hc; exact cut hv
      · cases hc; exact cut hv
      · cases hc; exact cut hv.2
      · cases hc
        have h3 : a.eval x = .slice none 0 0 := hv
        have h4 : TR w (OkF ⟨κ, S.fr⟩ false ι H' w) (.sl []) (a.eval x) := by rw [h3]; exact .nil _ _
        have h5 := cut h4
        simp only [List.drop_nil, List.take_nil] at h5
        exact h5
      · cases hc
/-! ### strings -/
def strOf (ns : List Int) : ByteArray := ns.foldl (fun r n => r.push (UInt8.ofNat n.toNat)) ByteArray.empty
theorem g_b2s {t u : Nat} {x : Operand} {i j : TI} {c : Cell} {ns : List Int} (hN : dstOk N o.dst = true) (ho : o.op = .convert t u x) (hx : evO T x = some (.e (.c c))) (hc : toD H c = some (.sl (ns.map dB))) (ht : TyP P t i) (h1 : Nat.beq i.kd 1 = true) (hu : TyP P u j) (h5 : Nat.beq j.kd 5 = true) (he : P.underlying i.el = some (.int .u8)) :
    GoodW P N o ⟨sV (.string (strOf ns)), [], c.ids, []⟩ T H :=
  GoodW.val hN fun T' H' hT hH κ w0 S ι a w hr => by
    have hv := evO_ok hr ((evO_agree hT (by simp [ho, Op.operands])).trans hx)
    have hc' : toD H' c = some (.sl (ns.map dB)) := by
      cases c with
      | ref b => simp only [toD, hH b (by simp [Cell.ids])]; exact hc
      | _ => exact hc
    have hsrc := src_of hr hv hc' (wd := 1) (fun r hr => by obtain ⟨n, _, rfl⟩ := List.mem_map.1 hr; rfl) (nf := false) (fun h => by cases h)
    refine ⟨.string (strOf ns), ?_, sV_ok _ _ _ _ rfl⟩
    unfold execOp
    rw [ho]
    obtain ⟨A, cc, e, hA, hs⟩ := hsrc
    simp only [e, Sem.run_bind, run_convert_bytes_string w t u i.el A _ _ (ht.sli h1) he (hu.str h5)]
    cases A with
    | none =>
      have : ns = [] := by simpa using hA rfl
      subst this
      simp [Conv.bytesToString, strOf]
    | some A =>
      have hl : (loadCells A (ns.map dB).length).run P w = .ok (ns.map (Value.int .u8)).toArray w := by
        have := run_loadCells_list (P := P) (w := w) A (ns.map (Value.int .u8)) (fun j v hj => by
          rw [List.getElem?_map] at hj
          obtain ⟨n, hn, rfl⟩ := Option.map_eq_some_iff.1 hj
          obtain ⟨u, hu, htr⟩ := hs A rfl j (dB n) 0 (.v (.int .u8 n)) (by rw [List.getElem?_map, hn]; rfl) rfl
          cases htr
          simpa using hu)
        simpa using this
      rw [run_bytesToString w A _ cc ns hl]
      simp only [Result.andThen_ok, Sem.run_pure, strOf]
theorem g_cat {t u : TypeId} {x y : Operand} {a b : ByteArray} (hN : dstOk N o.dst = true) (ho : o.op = .binOp .add t x y u) (hx : (evO T x).bind sc = some (.string a)) (hy : (evO T y).bind sc = some (.string b)) (hl : a.size + b.size ≤ 9223372036854775807) : GoodW P N o ⟨sV (.string (a ++ b)), [], [], []⟩ T H :=
  GoodW.val hN fun T' H' hT _ κ w0 S ι ac w hr => by
    obtain ⟨xv, h1, h2⟩ := Option.bind_eq_some_iff.1 hx
    obtain ⟨yv, h3, h4⟩ := Option.bind_eq_some_iff.1 hy
    have e1 := (sc_ok (evO_ok hr ((evO_agree hT (by simp [ho, Op.operands])).trans h1)) h2).1
    have e2 := (sc_ok (evO_ok hr ((evO_agree hT (by simp [ho, Op.operands])).trans h3)) h4).1
    refine ⟨.string (a ++ b), ?_, sV_ok _ _ _ _ rfl⟩
    unfold execOp
    rw [ho]
    have hn : ¬ ((a.size + b.size : Nat) : Int) > IntKind.i64.max := by
      have : IntKind.i64.max = 9223372036854775807 := by decide
      omega
    simp only [e1, e2, Sem.run_bind, eqGuard, binOp, Op.stringOp, if_neg hn]
    rfl
end
/-! ### a function that lays its argument into a box of its own and hands back where -/
section
variable {P : Program} {N : Nat} {o : Oper} {T : Tm} {H : Hp}
end
/-! ### the same as steps -/
section
variable {c : Cn} {ops : Array Oper} {K : List (Oper × Rec) → St → Prop} {m : Cf} {τ : Ty}
def sidxA (τ : Ty) (T : Tm) (o : Op) : Option (ByteArray × Int) := match o with
  | .index t x y => match τ t with
    | some i => match Nat.beq i.kd 5, (evO T x).bind sc, (evO T y).bind sc with
      | true, some (.string s), some (.int _ n) => some (s, n)
      | _, _, _ => none
    | none => none
  | _ => none
theorem CH.sidx (hτ : Tys c.P τ) {s : ByteArray} {n : Int} (b : UInt8) (h64 : Nat.ble 64 m.s.nx = true) (e : ((hdO c.N ops m).bind fun o => sidxA τ m.s.tm o.op) = some (s, n)) (h0 : 0 ≤ n) (hb : s[n.toNat]? = some b) (k : CH c ops K (advO (some ⟨sV (.int .u8 b.toNat), [], [], []⟩) m)) : CH c ops K m := by
  obtain ⟨o, ho, e⟩ := Option.bind_eq_some_iff.1 e
  refine CH.use h64 ho rfl (fun hN => ?_) (by simp [okR, bndB, ltAll, AV.ids, hsIds, idsL, sV, E.ids, Cell.ids]) k
  unfold sidxA at e
  split at e
  · rename_i t x y hop
    split at e
    · rename_i i hi
      split at e
      · rename_i q1 q2 q3; cases e; exact g_sidx hN hop q2 q3 (hτ t i hi) q1 h0 hb
      · cases e
    · cases e
  · cases e
def cutA (τ : Ty) (T : Tm) (o : Op) : Option (Cell × List (List D) × Nat × Int × Int) := match o with
  | .slice t x lo hi none => match τ t with
    | some i => match Nat.beq i.kd 1, τ i.el, evO T x with
      | true, some j, some (.e (.c cc)) => match rowsOf cc with
        | some rows => match bnd T 0 lo, bnd T rows.length hi with
          | some l, some h => some (cc, rows, j.sz, l, h)
          | _, _ => none
        | none => none
      | _, _, _ => none
    | none => none
  | _ => none
theorem CH.cut (hτ : Tys c.P τ) {cc : Cell} {rows : List (List D)} {sz : Nat} {l h : Int} (h64 : Nat.ble 64 m.s.nx = true) (e : ((hdO c.N ops m).bind fun o => cutA τ m.s.tm o.op) = some (cc, rows, sz, l, h)) (b0 : 0 ≤ l) (b1 : l ≤ h) (b2 : h ≤ rows.length) (hw : ∀ r, r ∈ rows → r.length = sz)
    (k : CH c ops K (advO (some ⟨.e (.c (cutC l.toNat h.toNat cc)), [], [], []⟩) m)) : CH c ops K m := by
  obtain ⟨o, ho, e⟩ := Option.bind_eq_some_iff.1 e
  unfold cutA at e
  split at e
  · rename_i t x lo hi hop
    split at e
    · rename_i i hi
      split at e
      · rename_i j c1 q1 q2 q3
        split at e
        · rename_i rows1 hrows
          split at e
          · rename_i l1 h1 q4 q5
            cases e
            refine CH.use h64 ho rfl (fun hN => g_cut hN hop q3 hrows (hτ t i hi) q1 (hτ _ j q2) q4 q5 b0 b1 b2 hw) ?_ k
            have : (cutC l.toNat h.toNat cc).ids = [] := by
              unfold rowsOf at hrows
              split at hrows <;> first | rfl | cases hrows
            simp [okR, bndB, ltAll, AV.ids, hsIds, idsL, E.ids, this]
          · cases e
        · cases e
      · cases e
    · cases e
  · cases e
def b2sA (τ : Ty) (T : Tm) (H : Hp) (o : Op) : Option (Cell × List (List D) × Nat) := match o with
  | .convert t u x => match τ t, τ u with
    | some i, some j => match Nat.beq i.kd 1, Nat.beq j.kd 5, evO T x with
      | true, true, some (.e (.c cc)) => match toD H cc with
        | some (.sl rows) => some (cc, rows, i.el)
        | _ => none
      | _, _, _ => none
    | _, _ => none
  | _ => none
theorem CH.b2s (hτ : Tys c.P τ) {cc : Cell} {ns : List Int} {el : Nat} (h64 : Nat.ble 64 m.s.nx = true) (e : ((hdO c.N ops m).bind fun o => b2sA τ m.s.tm m.s.hp o.op) = some (cc, ns.map dB, el)) (he : c.P.underlying el = some (.int .u8)) (k : CH c ops K (advO (some ⟨sV (.string (strOf ns)), [], cc.ids, []⟩) m)) : CH c ops K m := by
  obtain ⟨o, ho, e⟩ := Option.bind_eq_some_iff.1 e
  refine CH.use h64 ho rfl (fun hN => ?_) (by simp [okR, bndB, ltAll, AV.ids, hsIds, idsL, sV, E.ids, Cell.ids]) k
  unfold b2sA at e
  split at e
  · rename_i t u x hop
    split at e
    · rename_i i j hi hj
      split at e
      · rename_i c1 q1 q2 q3
        split at e
        · rename_i rows hrows
          simp only [Option.some.injEq, Prod.mk.injEq] at e
          obtain ⟨rfl, rfl, rfl⟩ := e
          exact g_b2s hN hop q3 hrows (hτ t i hi) q1 (hτ u j hj) q2 he
        · cases e
      · cases e
    · cases e
  · cases e
def catA (T : Tm) (o : Op) : Option (ByteArray × ByteArray) := match o with
  | .binOp .add _ x y _ => match (evO T x).bind sc, (evO T y).bind sc with
    | some (.string a), some (.string b) => some (a, b)
    | _, _ => none
  | _ => none
theorem CH.cat {a b : ByteArray} (h64 : Nat.ble 64 m.s.nx = true) (e : ((hdO c.N ops m).bind fun o => catA m.s.tm o.op) = some (a, b)) (hl : a.size + b.size ≤ 9223372036854775807) (k : CH c ops K (advO (some ⟨sV (.string (a ++ b)), [], [], []⟩) m)) : CH c ops K m := by
  obtain ⟨o, ho, e⟩ := Option.bind_eq_some_iff.1 e
  refine CH.use h64 ho rfl (fun hN => ?_) (by simp [okR, bndB, ltAll, AV.ids, hsIds, idsL, sV, E.ids, Cell.ids]) k
  unfold catA at e
  split at e
  · rename_i t x y u hop
    split at e
    · rename_i q1 q2; cases e; exact g_cat hN hop q1 q2 hl
    · cases e
  · cases e
end
end Go.Proofs.Ytggmeldoecnkaaa.Av
