/-
Structs of plain cells compared, and truth values.
Conditions: none beside those that each theorem names.
-/
import Derived.Test.YtggmeldoecnkaaaAv22
import Derived.Laws.StructEq
set_option linter.unusedVariables false
set_option linter.unusedSimpArgs false
namespace Go.Proofs.Ytggmeldoecnkaaa.Av
open Go.RowKit Go.Proofs.YtggmeldoecnkaaaW.PrintLast

section
variable {P : Program}
variable {N : Nat} {o : Oper} {T : Tm} {H : Hp}
theorem g_eqB {t u : TypeId} {x y : Operand} {a b ng : Bool} (hN : dstOk N o.dst = true) (ho : o.op = .binOp (if ng then .neq else .eql) t x y u) (hx : (evO T x).bind sc = some (.bool a)) (hy : (evO T y).bind sc = some (.bool b)) (hu : P.underlying t = some .bool) :
    GoodW P N o ⟨sV (.bool (if ng then !(a == b) else a == b)), [], [], []⟩ T H :=
  GoodW.val hN fun T' H' hT _ κ w0 S ι ac w hr => by
    obtain ⟨xv, h1, h2⟩ := Option.bind_eq_some_iff.1 hx
    obtain ⟨yv, h3, h4⟩ := Option.bind_eq_some_iff.1 hy
    have e1 := (sc_ok (evO_ok hr ((evO_agree hT (by simp [ho, Op.operands])).trans h1)) h2).1
    have e2 := (sc_ok (evO_ok hr ((evO_agree hT (by simp [ho, Op.operands])).trans h3)) h4).1
    refine ⟨.bool (if ng then !(a == b) else a == b), ?_, .v _ rfl⟩
    have he := run_equalIn_bool' (P := P) w 9999 t a b hu
    unfold execOp
    rw [ho]
    have hg : (eqGuard (if ng then .neq else .eql) t x y (.bool a) (.bool b)).run P w = .ok () w := by cases ng <;> rfl
    simp only [e1, e2, Sem.run_bind, hg, Result.andThen_ok]
    cases ng
    · simp only [Bool.false_eq_true, if_false, binOp]
      simp [Op.equal, Op.maxDepth, he]
    · simp only [if_true, binOp]
      simp [Op.equal, Op.maxDepth, he]
end
section
variable {c : Cn} {ops : Array Oper} {m : Cf} {K : List (Oper × Rec) → St → Prop} {τ : Ty}
def eqBA (T : Tm) (o : Op) : Option (TypeId × Bool × Bool × Bool) := match o with
  | .binOp op t x y _ => match op, (evO T x).bind sc, (evO T y).bind sc with
    | .eql, some (.bool a), some (.bool b) => some (t, false, a, b)
    | .neq, some (.bool a), some (.bool b) => some (t, true, a, b)
    | _, _, _ => none
  | _ => none
theorem CH.eqB {t : TypeId} {ng a b : Bool} (h64 : Nat.ble 64 m.s.nx = true) (e : ((hdO c.N ops m).bind fun o => eqBA m.s.tm o.op) = some (t, ng, a, b)) (hu : c.P.underlying t = some .bool)
    (k : CH c ops K (advO (some ⟨sV (.bool (if ng then !(a == b) else a == b)), [], [], []⟩) m)) : CH c ops K m := by
  obtain ⟨o, ho, e⟩ := Option.bind_eq_some_iff.1 e
  refine CH.use h64 ho rfl (fun hN => ?_) (by rfl) k
  generalize hop : o.op = op at e
  unfold eqBA at e
  split at e
  · split at e
    · rename_i hx hy
      cases e
      exact g_eqB (ng := false) hN hop hx hy hu
    · rename_i hx hy
      cases e
      exact g_eqB (ng := true) hN hop hx hy hu
    · cases e
  · cases e
end
end Go.Proofs.Ytggmeldoecnkaaa.Av
