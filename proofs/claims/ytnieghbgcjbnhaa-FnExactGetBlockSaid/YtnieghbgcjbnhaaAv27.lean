/-
More operations: a string's bytes appended to a row of one's own; the lesser and the greater of two numbers.
Conditions: none beside those that each theorem names.
-/
import Derived.Test.YtnieghbgcjbnhaaAv23
import Derived.Laws.Small
set_option linter.unusedVariables false
set_option linter.unusedSimpArgs false
namespace Go.Proofs.Ytnieghbgcjbnhaa.Av
open Go.RowKit Go.Proofs.YtnieghbgcjbnhaaW.PrintLast

section
variable {P : Program} {N : Nat} {o : Oper} {T : Tm} {H : Hp}
def mmx (mx : Bool) (a b : Int) : Int := match mx with
  | true => if b > a then b else a
  | false => if b < a then b else a
theorem g_mm (mx : Bool) {t u : Nat} {x y : Operand} {k k' : IntKind} {a b : Int} (hN : dstOk N o.dst = true) (ho : o.op = .call { callee := .builtin (match mx with | true => .max | false => .min), args := #[x, y], argTypes := #[t, u] }) (hx : (evO T x).bind sc = some (.int k a)) (hy : (evO T y).bind sc = some (.int k' b)) :
    GoodW P N o ⟨sV (.int k (mmx mx a b)), [], [], []⟩ T H :=
  GoodW.val hN fun T' H' hT hH κ w0 S ι c w hr => by
    obtain ⟨xv, e1, e2⟩ := Option.bind_eq_some_iff.1 hx
    have hxv := (sc_ok (evO_ok hr ((evO_agree hT (by simp [ho, Op.operands, Call.operands])).trans e1)) e2).1
    obtain ⟨yv, e3, e4⟩ := Option.bind_eq_some_iff.1 hy
    have hyv := (sc_ok (evO_ok hr ((evO_agree hT (by simp [ho, Op.operands, Call.operands])).trans e3)) e4).1
    refine ⟨.int k (mmx mx a b), ?_, sV_ok _ _ _ _ rfl⟩
    unfold execOp
    rw [ho]
    cases mx
    · simp [resolve, invoke, builtin, hxv, hyv, run_min_int2, mmx]
    · simp [resolve, invoke, builtin, hxv, hyv, run_max_int2, mmx]
end
section
variable {c : Cn} {ops : Array Oper} {K : List (Oper × Rec) → St → Prop} {m : Cf} {τ : Ty}
def mmA (T : Tm) (o : Op) : Option (Bool × IntKind × Int × Int) := match o with
  | .call cl => match cl.callee, cl.args.toList with
    | .builtin .max, [x, y] => match (evO T x).bind sc, (evO T y).bind sc with
      | some (.int k a), some (.int _ b) => some (true, k, a, b)
      | _, _ => none
    | .builtin .min, [x, y] => match (evO T x).bind sc, (evO T y).bind sc with
      | some (.int k a), some (.int _ b) => some (false, k, a, b)
      | _, _ => none
    | _, _ => none
  | _ => none
def mmT (o : Op) : Option (Nat × Nat) := match o with
  | .call cl => match cl.argTypes.toList with
    | [t, u] => some (t, u)
    | _ => none
  | _ => none
theorem CH.mm {mx : Bool} {k : IntKind} {a b : Int} {tu : Nat × Nat} (h64 : Nat.ble 64 m.s.nx = true) (e : ((hdO c.N ops m).bind fun o => mmA m.s.tm o.op) = some (mx, k, a, b)) (et : ((hdO c.N ops m).bind fun o => mmT o.op) = some tu) (kk : CH c ops K (advO (some ⟨sV (.int k (mmx mx a b)), [], [], []⟩) m)) : CH c ops K m := by
  obtain ⟨o, ho, e⟩ := Option.bind_eq_some_iff.1 e
  rw [ho] at et
  simp only [Option.bind_some] at et
  refine CH.use h64 ho rfl (fun hN => ?_) (by simp [okR, bndB, ltAll, AV.ids, hsIds, idsL, sV, E.ids, Cell.ids]) kk
  generalize hop : o.op = op at e et
  unfold mmA at e
  split at e
  · rename_i cl
    unfold mmT at et
    simp only at et
    split at et
    · rename_i t u q3
      split at e
      · rename_i x y q1 q2
        have hcl := call_eq q1 q2 q3
        split at e
        · rename_i p1 p2; cases e; rw [hcl] at hop; exact g_mm true hN hop p1 p2
        · cases e
      · rename_i x y q1 q2
        have hcl := call_eq q1 q2 q3
        split at e
        · rename_i p1 p2; cases e; rw [hcl] at hop; exact g_mm false hN hop p1 p2
        · cases e
      · cases e
    · cases et
  · cases e
def apsA (τ : Ty) (T : Tm) (H : Hp) (o : Op) : Option (List (List D) × ByteArray × Nat) := match o with
  | .call c => match c.callee, c.args.toList, c.argTypes.toList with
    | .builtin .append, [s, x], [t, u] => match τ t, τ u, evO T s, (evO T x).bind sc with
      | some i, some k, some (.e (.c c)), some (.string y) => match τ i.el with
        | some j => match baseO H j i.el c with
          | some (_, rows, _) => some (rows, y, i.el)
          | _ => none
        | none => none
      | _, _, _, _ => none
    | _, _, _ => none
  | _ => none
def apsR (τ : Ty) (T : Tm) (H : Hp) (id : Nat) (o : Op) : Option Rec := match o with
  | .call c => match c.callee, c.args.toList, c.argTypes.toList with
    | .builtin .append, [s, x], [t, u] => match τ t, τ u, evO T s, (evO T x).bind sc with
      | some i, some k, some (.e (.c c)), some (.string y) => match τ i.el with
        | some j => match baseO H j i.el c with
          | some (bo, rows, nf) => match Nat.beq i.kd 1 && (Nat.beq k.kd 5 && (!(idO bo).contains id && (Nat.beq j.sz 1 && Nat.beq j.bys 1))) with
            | true => some ⟨.e (.c (.ref id)), (id, some (.row j.sz i.el (rows ++ (bys y).map dB) false (nf && true))) :: gone bo, idO bo, [id]⟩
            | false => none
          | _ => none
        | none => none
      | _, _, _, _ => none
    | _, _, _ => none
  | _ => none
/-- append(b, s...): a string's bytes behind a row of one's own. -/
theorem CH.aps (hτ : Tys c.P τ) {rows : List (List D)} {y : ByteArray} {el : Nat} (h64 : Nat.ble 64 m.s.nx = true) (e : ((hdO c.N ops m).bind fun o => apsA τ m.s.tm m.s.hp o.op) = some (rows, y, el)) (hbd : rows.length + y.size ≤ 140737488355328) (hz : (c.P.info? el).bind (·.zero) = some (.int .u8 0))
    (hb : okR m ((hdO c.N ops m).bind fun o => apsR τ m.s.tm m.s.hp m.id o.op) = true) (k : CH c ops K (advO ((hdO c.N ops m).bind fun o => apsR τ m.s.tm m.s.hp m.id o.op) m)) : CH c ops K m := by
  obtain ⟨o, ho, e⟩ := Option.bind_eq_some_iff.1 e
  rw [ho] at hb k
  simp only [Option.bind_some] at hb k
  cases hR : apsR τ m.s.tm m.s.hp m.id o.op with
  | none => rw [hR] at hb; cases hb
  | some R =>
    refine CH.use h64 ho hR (fun hN => ?_) hb k
    generalize hop : o.op = op at e hR
    unfold apsA at e
    split at e
    · rename_i cl
      split at e
      · rename_i s x t u q1 q2 q3
        split at e
        · rename_i i kk c1 yy p1 p2 p3 p4
          split at e
          · rename_i j hj
            split at e
            · rename_i bo rows' nf b1
              cases e
              have hcl := call_eq q1 q2 q3
              unfold apsR at hR
              simp only [q1, q2, q3, p1, p2, p3, p4, hj, b1] at hR
              split at hR
              · rename_i hc
                simp only [Bool.and_eq_true, Bool.not_eq_true'] at hc
                cases hR
                rw [hcl] at hop
                obtain ⟨c1, c2, c3, c4, c5⟩ := hc
                have b1' := baseO_ok b1
                exact g_app_str hN hop (hτ t i p1) c1 (hτ _ j hj) (hτ u kk p2) c2 p3 b1' (by rw [Nat.eq_of_beq_eq_true c4]; rfl) (by simp) p4 c3 hbd c4 c5 hz
              · cases hR
            · cases e
          · cases e
        · cases e
      · cases e
    · cases e
end
end Go.Proofs.Ytnieghbgcjbnhaa.Av
