/-
More operations: a byte of a string, cuts, a string of bytes, a sum of strings.
Conditions: none beside those that each theorem names.
-/
import Derived.Test.YtggmeldoecnkaaaAv20
import Derived.Laws.Slices
import Derived.Laws.BytesString
set_option linter.unusedVariables false
set_option linter.unusedSimpArgs false
namespace Go.Proofs.Ytggmeldoecnkaaa.Av
open Go.RowKit Go.Proofs.YtggmeldoecnkaaaW.PrintLast

section
variable {P : Program} {N : Nat} {o : Oper} {T : Tm} {H : Hp}
theorem TyP.str {t : Nat} {i : TI} (h : TyP P t i) (h5 : Nat.beq i.kd 5 = true) : P.underlying t = some .string := by
  obtain ⟨d, f, hd, _, _, _, _, hk, _⟩ := h
  have h5 : i.kd = 5 := Nat.eq_of_beq_eq_true h5
  cases d <;> simp [KdOk, h5] at hk
  exact hd
theorem TyP.sli {t : Nat} {i : TI} (h : TyP P t i) (h1 : Nat.beq i.kd 1 = true) : P.underlying t = some (.slice i.el) := by
  obtain ⟨d, f, hd, _, _, _, _, hk, _⟩ := h
  have h1 : i.kd = 1 := Nat.eq_of_beq_eq_true h1
  cases d <;> simp [KdOk, h1] at hk
  rw [← hk] at hd
  exact hd
theorem g_sidx {t : Nat} {x y : Operand} {i : TI} {s : ByteArray} {k : IntKind} {n : Int} {b : UInt8} (hN : dstOk N o.dst = true) (ho : o.op = .index t x y) (hx : (evO T x).bind sc = some (.string s)) (hy : (evO T y).bind sc = some (.int k n)) (ht : TyP P t i) (h5 : Nat.beq i.kd 5 = true)
    (h0 : 0 ≤ n) (hb : s[n.toNat]? = some b) : GoodW P N o ⟨sV (.int .u8 b.toNat), [], [], []⟩ T H :=
  GoodW.val hN fun T' H' hT hH κ w0 S ι a w hr => by
    obtain ⟨xv, e1, e2⟩ := Option.bind_eq_some_iff.1 hx
    have hxv := (sc_ok (evO_ok hr ((evO_agree hT (by simp [ho, Op.operands])).trans e1)) e2).1
    obtain ⟨yv, e3, e4⟩ := Option.bind_eq_some_iff.1 hy
    have hyv := (sc_ok (evO_ok hr ((evO_agree hT (by simp [ho, Op.operands])).trans e3)) e4).1
    refine ⟨.int .u8 b.toNat, ?_, sV_ok _ _ _ _ rfl⟩
    unfold execOp
    rw [ho]
    simp [Instr.index, hxv, hyv, asIntOf, run_underlying (ht.str h5), h0, hb]
/-! ### strings -/
def strOf (ns : List Int) : ByteArray := ns.foldl (fun r n => r.push (UInt8.ofNat n.toNat)) ByteArray.empty
theorem g_b2s {t u : Nat} {x : Operand} {i j : TI} {c : Cell} {ns : List Int} (hN : dstOk N o.dst = true) (ho : o.op = .convert t u x) (hx : evO T x = some (.e (.c c))) (hc : toD H c = some (.sl (ns.map dB))) (ht : TyP P t i) (h1 : Nat.beq i.kd 1 = true) (hu : TyP P u j) (h5 : Nat.beq j.kd 5 = true) (he : P.underlying i.el = some (.int .u8)) :
    GoodW P N o ⟨sV (.string (strOf ns)), [], c.ids, []⟩ T H :=
  GoodW.val hN fun T' H' hT hH κ w0 S ι a w hr => by
    have hv := evO_ok hr ((evO_agree hT (by simp [ho, Op.operands])).trans hx)
    have hc' : toD H' c = some (.sl (ns.map dB)) := by
      cases c with
      | ref b => simp only [toD, hH b (by simp [Cell.ids])]; exact hc
      | _ => exact hc
    have hsrc := src_of hr hv hc' (wd := 1) (fun r hr => by obtain ⟨n, _, rfl⟩ := List.mem_map.1 hr; rfl) (nf := false) (fun h => by cases h)
    refine ⟨.string (strOf ns), ?_, sV_ok _ _ _ _ rfl⟩
    unfold execOp
    rw [ho]
    obtain ⟨A, cc, e, hA, hs⟩ := hsrc
    simp only [e, Sem.run_bind, run_convert_bytes_string w t u i.el A _ _ (ht.sli h1) he (hu.str h5)]
    cases A with
    | none =>
      have : ns = [] := by simpa using hA rfl
      subst this
      simp [Conv.bytesToString, strOf]
    | some A =>
      have hl : (loadCells A (ns.map dB).length).run P w = .ok (ns.map (Value.int .u8)).toArray w := by
        have := run_loadCells_list (P := P) (w := w) A (ns.map (Value.int .u8)) (fun j v hj => by
          rw [List.getElem?_map] at hj
          obtain ⟨n, hn, rfl⟩ := Option.map_eq_some_iff.1 hj
          obtain ⟨u, hu, htr⟩ := hs A rfl j (dB n) 0 (.v (.int .u8 n)) (by rw [List.getElem?_map, hn]; rfl) rfl
          cases htr
          simpa using hu)
        simpa using this
      rw [run_bytesToString w A _ cc ns hl]
      simp only [Result.andThen_ok, Sem.run_pure, strOf]
theorem g_cat {t u : TypeId} {x y : Operand} {a b : ByteArray} (hN : dstOk N o.dst = true) (ho : o.op = .binOp .add t x y u) (hx : (evO T x).bind sc = some (.string a)) (hy : (evO T y).bind sc = some (.string b)) (hl : a.size + b.size ≤ 9223372036854775807) : GoodW P N o ⟨sV (.string (a ++ b)), [], [], []⟩ T H :=
  GoodW.val hN fun T' H' hT _ κ w0 S ι ac w hr => by
    obtain ⟨xv, h1, h2⟩ := Option.bind_eq_some_iff.1 hx
    obtain ⟨yv, h3, h4⟩ := Option.bind_eq_some_iff.1 hy
    have e1 := (sc_ok (evO_ok hr ((evO_agree hT (by simp [ho, Op.operands])).trans h1)) h2).1
    have e2 := (sc_ok (evO_ok hr ((evO_agree hT (by simp [ho, Op.operands])).trans h3)) h4).1
    refine ⟨.string (a ++ b), ?_, sV_ok _ _ _ _ rfl⟩
    unfold execOp
    rw [ho]
    have hn : ¬ ((a.size + b.size : Nat) : Int) > IntKind.i64.max := by
      have : IntKind.i64.max = 9223372036854775807 := by decide
      omega
    simp only [e1, e2, Sem.run_bind, eqGuard, binOp, Op.stringOp, if_neg hn]
    rfl
end
/-! ### a function that lays its argument into a box of its own and hands back where -/
section
variable {P : Program} {N : Nat} {o : Oper} {T : Tm} {H : Hp}
end
/-! ### the same as steps -/
section
variable {c : Cn} {ops : Array Oper} {K : List (Oper × Rec) → St → Prop} {m : Cf} {τ : Ty}
def sidxA (τ : Ty) (T : Tm) (o : Op) : Option (ByteArray × Int) := match o with
  | .index t x y => match τ t with
    | some i => match Nat.beq i.kd 5, (evO T x).bind sc, (evO T y).bind sc with
      | true, some (.string s), some (.int _ n) => some (s, n)
      | _, _, _ => none
    | none => none
  | _ => none
theorem CH.sidx (hτ : Tys c.P τ) {s : ByteArray} {n : Int} (b : UInt8) (h64 : Nat.ble 64 m.s.nx = true) (e : ((hdO c.N ops m).bind fun o => sidxA τ m.s.tm o.op) = some (s, n)) (h0 : 0 ≤ n) (hb : s[n.toNat]? = some b) (k : CH c ops K (advO (some ⟨sV (.int .u8 b.toNat), [], [], []⟩) m)) : CH c ops K m := by
  obtain ⟨o, ho, e⟩ := Option.bind_eq_some_iff.1 e
  refine CH.use h64 ho rfl (fun hN => ?_) (by simp [okR, bndB, ltAll, AV.ids, hsIds, idsL, sV, E.ids, Cell.ids]) k
  unfold sidxA at e
  split at e
  · rename_i t x y hop
    split at e
    · rename_i i hi
      split at e
      · rename_i q1 q2 q3; cases e; exact g_sidx hN hop q2 q3 (hτ t i hi) q1 h0 hb
      · cases e
    · cases e
  · cases e
def b2sA (τ : Ty) (T : Tm) (H : Hp) (o : Op) : Option (Cell × List (List D) × Nat) := match o with
  | .convert t u x => match τ t, τ u with
    | some i, some j => match Nat.beq i.kd 1, Nat.beq j.kd 5, evO T x with
      | true, true, some (.e (.c cc)) => match toD H cc with
        | some (.sl rows) => some (cc, rows, i.el)
        | _ => none
      | _, _, _ => none
    | _, _ => none
  | _ => none
theorem CH.b2s (hτ : Tys c.P τ) {cc : Cell} {ns : List Int} {el : Nat} (h64 : Nat.ble 64 m.s.nx = true) (e : ((hdO c.N ops m).bind fun o => b2sA τ m.s.tm m.s.hp o.op) = some (cc, ns.map dB, el)) (he : c.P.underlying el = some (.int .u8)) (k : CH c ops K (advO (some ⟨sV (.string (strOf ns)), [], cc.ids, []⟩) m)) : CH c ops K m := by
  obtain ⟨o, ho, e⟩ := Option.bind_eq_some_iff.1 e
  refine CH.use h64 ho rfl (fun hN => ?_) (by simp [okR, bndB, ltAll, AV.ids, hsIds, idsL, sV, E.ids, Cell.ids]) k
  unfold b2sA at e
  split at e
  · rename_i t u x hop
    split at e
    · rename_i i j hi hj
      split at e
      · rename_i c1 q1 q2 q3
        split at e
        · rename_i rows hrows
          simp only [Option.some.injEq, Prod.mk.injEq] at e
          obtain ⟨rfl, rfl, rfl⟩ := e
          exact g_b2s hN hop q3 hrows (hτ t i hi) q1 (hτ u j hj) q2 he
        · cases e
      · cases e
    · cases e
  · cases e
def catA (T : Tm) (o : Op) : Option (ByteArray × ByteArray) := match o with
  | .binOp .add _ x y _ => match (evO T x).bind sc, (evO T y).bind sc with
    | some (.string a), some (.string b) => some (a, b)
    | _, _ => none
  | _ => none
theorem CH.cat {a b : ByteArray} (h64 : Nat.ble 64 m.s.nx = true) (e : ((hdO c.N ops m).bind fun o => catA m.s.tm o.op) = some (a, b)) (hl : a.size + b.size ≤ 9223372036854775807) (k : CH c ops K (advO (some ⟨sV (.string (a ++ b)), [], [], []⟩) m)) : CH c ops K m := by
  obtain ⟨o, ho, e⟩ := Option.bind_eq_some_iff.1 e
  refine CH.use h64 ho rfl (fun hN => ?_) (by simp [okR, bndB, ltAll, AV.ids, hsIds, idsL, sV, E.ids, Cell.ids]) k
  unfold catA at e
  split at e
  · rename_i t x y u hop
    split at e
    · rename_i q1 q2; cases e; exact g_cat hN hop q1 q2 hl
    · cases e
  · cases e
end
end Go.Proofs.Ytggmeldoecnkaaa.Av
