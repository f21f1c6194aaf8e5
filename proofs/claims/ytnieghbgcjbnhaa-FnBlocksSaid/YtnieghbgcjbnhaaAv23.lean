/-
Structs of plain cells compared, and truth values.
Conditions: none beside those that each theorem names.
-/
import Derived.Test.YtnieghbgcjbnhaaAv22
import Derived.Laws.StructEq
set_option linter.unusedVariables false
set_option linter.unusedSimpArgs false
namespace Go.Proofs.Ytnieghbgcjbnhaa.Av
open Go.RowKit Go.Proofs.YtnieghbgcjbnhaaW.PrintLast

def scalEq : Value → Value → Option Bool
  | .int k a, .int k' b => match ikb k k' with
    | true => some (a == b)
    | false => none
  | .string a, .string b => some (a.toList == b.toList)
  | .bool a, .bool b => some (a == b)
  | _, _ => none
def eqL : List Value → List Value → Option Bool
  | [], [] => some true
  | [x], [y] => scalEq x y
  | x :: xs, y :: ys => match scalEq x y, eqL xs ys with
    | some a, some b => some (a && b)
    | _, _ => none
  | _, _ => none
def scalK (P : Program) (t : TypeId) : Value → Bool
  | .int _ _ => match P.underlying t with
    | some (.int _) => true
    | _ => false
  | .string _ => match P.underlying t with
    | some .string => true
    | _ => false
  | .bool _ => match P.underlying t with
    | some .bool => true
    | _ => false
  | _ => false
/-- Plain fields, cell behind cell, of the values' kinds. -/
def flatF (P : Program) : Nat → List Field → List Value → Bool
  | _, [], [] => true
  | o, f :: fs, v :: vs => Nat.beq f.offset o && (!(f.name == "_") && (scalK P f.type v && flatF P (o + 1) fs vs))
  | _, _, _ => false
section
variable {P : Program}
theorem run_part_scal {t : TypeId} {v : Value} (h : scalK P t v = true) {cs : Array Value} {o : Nat} (hc : cs[o]? = some v) (w : World) : (part t cs o).run P w = .ok v w := by
  have ha : (isAgg t).run P w = .ok false w := by
    unfold scalK at h
    split at h
    · split at h
      · rename_i hu; exact run_isAgg hu w
      · cases h
    · split at h
      · rename_i hu; exact run_isAgg hu w
      · cases h
    · split at h
      · rename_i hu; exact run_isAgg hu w
      · cases h
    · cases h
  unfold part
  simp only [Sem.run_bind, ha, Result.andThen_ok, Bool.false_eq_true, if_false, hc]
  rfl
theorem run_scal {t : TypeId} {x y : Value} {r : Bool} (h : scalK P t x = true) (hr : scalEq x y = some r) (d : Nat) (w : World) : (Op.equalIn (d + 1) t x y).run P w = .ok r w := by
  unfold scalEq at hr
  split at hr
  · rename_i k a k' b
    split at hr
    · rename_i hk
      obtain rfl := ikb_eq hk
      cases hr
      simp only [scalK] at h
      split at h
      · rename_i hu; exact run_equalIn_int w d t k _ a b hu
      · cases h
    · cases hr
  · cases hr
    simp only [scalK] at h
    split at h
    · rename_i hu; exact run_equalIn_string w d t _ _ hu
    · cases h
  · cases hr
    simp only [scalK] at h
    split at h
    · rename_i hu; exact run_equalIn_bool' w d t _ _ hu
    · cases h
  · cases hr
theorem scalK_other {t : TypeId} {x y : Value} {r : Bool} (h : scalK P t x = true) (hr : scalEq x y = some r) : scalK P t y = true := by
  unfold scalEq at hr
  split at hr <;> first | exact h | cases hr
theorem run_eqF : ∀ {fs : List Field} {vs ws : List Value} {o : Nat} {r : Bool} {xs ys : Array Value}, flatF P o fs vs = true → eqL vs ws = some r → (∀ j v, vs[j]? = some v → xs[o + j]? = some v) → (∀ j v, ws[j]? = some v → ys[o + j]? = some v) →
    ∀ (d : Nat) (w : World), (Op.eqFields (d + 1) xs ys fs).run P w = .ok r w
  | [], [], [], o, r, xs, ys, _, hr, _, _, d, w => by cases hr; simp [Op.eqFields]
  | [], [], y :: ws, o, r, xs, ys, _, hr, _, _, d, w => by cases hr
  | [], v :: vs, ws, o, r, xs, ys, h, _, _, _, d, w => by cases h
  | f :: fs, [], ws, o, r, xs, ys, h, _, _, _, d, w => by cases h
  | f :: fs, v :: vs, [], o, r, xs, ys, h, hr, _, _, d, w => by cases vs <;> cases hr
  | f :: fs, v :: vs, y :: ws, o, r, xs, ys, h, hr, hx, hy, d, w => by
    simp only [flatF, Bool.and_eq_true, Bool.not_eq_true'] at h
    obtain ⟨h1, h2, h3, h4⟩ := h
    have ho : f.offset = o := Nat.eq_of_beq_eq_true h1
    have hn' : f.name ≠ "_" := by simpa using h2
    have px : (part f.type xs f.offset).run P w = .ok v w := run_part_scal h3 (by rw [ho]; exact hx 0 v rfl) w
    have main : ∀ {a b : Bool}, scalEq v y = some a → (Op.eqFields (d + 1) xs ys fs).run P w = .ok b w → (Op.eqFields (d + 1) xs ys (f :: fs)).run P w = .ok (a && b) w := fun {a b} ha hb => by
      have py : (part f.type ys f.offset).run P w = .ok y w := run_part_scal (scalK_other h3 ha) (by rw [ho]; exact hy 0 y rfl) w
      rw [Op.eqFields]
      simp only [if_pos hn', Sem.run_bind, px, py, run_scal h3 ha, Result.andThen_ok]
      cases a
      · simp
      · simpa using hb
    match fs, vs, ws, h4, hr with
    | [], [], [], _, hr =>
      have := main (b := true) hr (by simp [Op.eqFields])
      rwa [Bool.and_true] at this
    | fs, v2 :: vs, ws, h4, hr =>
      have hr' : (match scalEq v y, eqL (v2 :: vs) ws with | some a, some b => some (a && b) | _, _ => none) = some r := by
        cases ws <;> exact hr
      split at hr'
      · rename_i a b ha hb
        cases hr'
        exact main ha (run_eqF h4 hb (fun j v hj => by have := hx (j + 1) v hj; rwa [show o + (j + 1) = o + 1 + j by omega] at this) (fun j v hj => by have := hy (j + 1) v hj; rwa [show o + (j + 1) = o + 1 + j by omega] at this) d w)
      · cases hr'
    | [], [], z :: ws, _, hr => exact absurd hr (by simp only [eqL]; split <;> simp_all)
    | f2 :: fs, [], ws, h4, _ => cases h4
/-- The type is a struct of plain fields that may be compared. -/
def flatT (P : Program) (t : TypeId) (vs : List Value) : Bool := match P.underlying t with
  | some (.struct fs) => flatF P 0 fs.toList vs && (!P.stoodInHeld t && !P.eqGuardType P.depth t)
  | _ => false
def scv : Cell → Option Value
  | .d (.v v) => some v
  | .f (.v v) => some v
  | .k _ (.v v) => some v
  | _ => none
def scvs : List Cell → Option (List Value)
  | [] => some []
  | c :: l => match scv c, scvs l with
    | some v, some r => some (v :: r)
    | _, _ => none
theorem scvs_ok {g : Env} {ι : Nm} {H : Hp} {w : World} {cs : List Cell} {vs : List Value} (h : scvs cs = some vs) {f : Nat → Option Value} (hc : CsR g ι H w cs f) : vs.length = cs.length ∧ ∀ (j : Nat) (v : Value), vs[j]? = some v → f j = some v := by
  have one : ∀ {c : Cell} {v u : Value}, scv c = some v → CR g ι H w c u → u = v := fun {c v u} h hu => by
    unfold scv at h
    split at h <;> first | cases h | skip
    · cases hu with | v _ _ => rfl
    · cases hu with | v _ _ => rfl
    · cases hu.2 with | v _ _ => rfl
  have len : ∀ {cs : List Cell} {vs : List Value}, scvs cs = some vs → vs.length = cs.length ∧ ∀ (j : Nat) (v : Value), vs[j]? = some v → ∃ c, cs[j]? = some c ∧ scv c = some v := by
    intro cs
    induction cs with
    | nil => intro vs h; cases h; exact ⟨rfl, fun j v h => by cases h⟩
    | cons c l ih =>
      intro vs h
      simp only [scvs] at h
      split at h
      · rename_i v r h1 h2
        cases h
        obtain ⟨a, b⟩ := ih h2
        refine ⟨by simp [a], fun j z hj => ?_⟩
        cases j with
        | zero => cases hj; exact ⟨c, rfl, h1⟩
        | succ j => exact b j z hj
      · cases h
  obtain ⟨a, b⟩ := len h
  refine ⟨a, fun j v hj => ?_⟩
  obtain ⟨c, h1, h2⟩ := b j v hj
  obtain ⟨u, hu, hcr⟩ := hc j c h1
  rw [hu, one h2 hcr]
variable {N : Nat} {o : Oper} {T : Tm} {H : Hp}
theorem g_eqS {t u : TypeId} {x y : Operand} {cs ds : List Cell} {vs ws : List Value} {r ng : Bool} (hN : dstOk N o.dst = true) (ho : o.op = .binOp (if ng then .neq else .eql) t x y u) (hx : evO T x = some (.e (.agg cs))) (hy : evO T y = some (.e (.agg ds))) (hv : scvs cs = some vs) (hw : scvs ds = some ws)
    (hr : eqL vs ws = some r) (hf : flatT P t vs = true) : GoodW P N o ⟨sV (.bool (if ng then !r else r)), [], [], []⟩ T H :=
  GoodW.val hN fun T' H' hT _ κ w0 S ι a w hrel => by
    obtain ⟨xs, e1, n1, c1⟩ := evO_ok hrel ((evO_agree hT (by simp [ho, Op.operands])).trans hx)
    obtain ⟨ys, e2, n2, c2⟩ := evO_ok hrel ((evO_agree hT (by simp [ho, Op.operands])).trans hy)
    obtain ⟨_, q1⟩ := scvs_ok hv c1
    obtain ⟨_, q2⟩ := scvs_ok hw c2
    unfold flatT at hf
    split at hf
    · rename_i fs hu
      simp only [Bool.and_eq_true, Bool.not_eq_true'] at hf
      have hfo : P.fieldsOf t = fs := by simp [Program.fieldsOf, hu]
      have he : (Op.equalIn 10000 t (.agg xs) (.agg ys)).run P w = .ok r w := by
        rw [run_equalIn_struct (P := P) w 9999 t xs ys (by rw [hfo]; exact hu) hf.2.1, hfo]
        exact run_eqF hf.1 hr (fun j v hj => by rw [Nat.zero_add]; exact q1 j v hj) (fun j v hj => by rw [Nat.zero_add]; exact q2 j v hj) 9998 w
      refine ⟨.bool (if ng then !r else r), ?_, .v _ rfl⟩
      unfold execOp
      rw [ho]
      have hg := run_eqGuard_agg (P := P) w (if ng then .neq else .eql) t x y xs ys hf.2.2
      simp only [e1, e2, Sem.run_bind, hg, Result.andThen_ok]
      cases ng
      · simp only [Bool.false_eq_true, if_false, run_eql_struct, he, Result.andThen_ok]; rfl
      · simp only [if_true, run_neq_struct, he, Result.andThen_ok]; rfl
    · cases hf
theorem g_eqB {t u : TypeId} {x y : Operand} {a b ng : Bool} (hN : dstOk N o.dst = true) (ho : o.op = .binOp (if ng then .neq else .eql) t x y u) (hx : (evO T x).bind sc = some (.bool a)) (hy : (evO T y).bind sc = some (.bool b)) (hu : P.underlying t = some .bool) :
    GoodW P N o ⟨sV (.bool (if ng then !(a == b) else a == b)), [], [], []⟩ T H :=
  GoodW.val hN fun T' H' hT _ κ w0 S ι ac w hr => by
    obtain ⟨xv, h1, h2⟩ := Option.bind_eq_some_iff.1 hx
    obtain ⟨yv, h3, h4⟩ := Option.bind_eq_some_iff.1 hy
    have e1 := (sc_ok (evO_ok hr ((evO_agree hT (by simp [ho, Op.operands])).trans h1)) h2).1
    have e2 := (sc_ok (evO_ok hr ((evO_agree hT (by simp [ho, Op.operands])).trans h3)) h4).1
    refine ⟨.bool (if ng then !(a == b) else a == b), ?_, .v _ rfl⟩
    have he := run_equalIn_bool' (P := P) w 9999 t a b hu
    unfold execOp
    rw [ho]
    have hg : (eqGuard (if ng then .neq else .eql) t x y (.bool a) (.bool b)).run P w = .ok () w := by cases ng <;> rfl
    simp only [e1, e2, Sem.run_bind, hg, Result.andThen_ok]
    cases ng
    · simp only [Bool.false_eq_true, if_false, binOp]
      simp [Op.equal, Op.maxDepth, he]
    · simp only [if_true, binOp]
      simp [Op.equal, Op.maxDepth, he]
end
section
variable {c : Cn} {ops : Array Oper} {m : Cf} {K : List (Oper × Rec) → St → Prop} {τ : Ty}
def eqSA (T : Tm) (o : Op) : Option (TypeId × Bool × List Value × Bool) := match o with
  | .binOp op t x y _ => match op, evO T x, evO T y with
    | .eql, some (.e (.agg cs)), some (.e (.agg ds)) => match scvs cs, scvs ds with
      | some vs, some ws => match eqL vs ws with
        | some r => some (t, false, vs, r)
        | none => none
      | _, _ => none
    | .neq, some (.e (.agg cs)), some (.e (.agg ds)) => match scvs cs, scvs ds with
      | some vs, some ws => match eqL vs ws with
        | some r => some (t, true, vs, r)
        | none => none
      | _, _ => none
    | _, _, _ => none
  | _ => none
theorem CH.eqS {t : TypeId} {ng : Bool} {vs : List Value} (r : Bool) (h64 : Nat.ble 64 m.s.nx = true) (e : ((hdO c.N ops m).bind fun o => eqSA m.s.tm o.op) = some (t, ng, vs, r)) (hf : flatT c.P t vs = true)
    (k : CH c ops K (advO (some ⟨sV (.bool (if ng then !r else r)), [], [], []⟩) m)) : CH c ops K m := by
  obtain ⟨o, ho, e⟩ := Option.bind_eq_some_iff.1 e
  refine CH.use h64 ho rfl (fun hN => ?_) (by rfl) k
  generalize hop : o.op = op at e
  unfold eqSA at e
  split at e
  · split at e
    · rename_i cs ds hx hy
      split at e
      · rename_i v1 w1 hv hw
        split at e
        · rename_i r' hr
          cases e
          exact g_eqS (ng := false) hN hop hx hy hv hw hr hf
        · cases e
      · cases e
    · rename_i cs ds hx hy
      split at e
      · rename_i v1 w1 hv hw
        split at e
        · rename_i r' hr
          cases e
          exact g_eqS (ng := true) hN hop hx hy hv hw hr hf
        · cases e
      · cases e
    · cases e
  · cases e
def eqBA (T : Tm) (o : Op) : Option (TypeId × Bool × Bool × Bool) := match o with
  | .binOp op t x y _ => match op, (evO T x).bind sc, (evO T y).bind sc with
    | .eql, some (.bool a), some (.bool b) => some (t, false, a, b)
    | .neq, some (.bool a), some (.bool b) => some (t, true, a, b)
    | _, _, _ => none
  | _ => none
theorem CH.eqB {t : TypeId} {ng a b : Bool} (h64 : Nat.ble 64 m.s.nx = true) (e : ((hdO c.N ops m).bind fun o => eqBA m.s.tm o.op) = some (t, ng, a, b)) (hu : c.P.underlying t = some .bool)
    (k : CH c ops K (advO (some ⟨sV (.bool (if ng then !(a == b) else a == b)), [], [], []⟩) m)) : CH c ops K m := by
  obtain ⟨o, ho, e⟩ := Option.bind_eq_some_iff.1 e
  refine CH.use h64 ho rfl (fun hN => ?_) (by rfl) k
  generalize hop : o.op = op at e
  unfold eqBA at e
  split at e
  · split at e
    · rename_i hx hy
      cases e
      exact g_eqB (ng := false) hN hop hx hy hu
    · rename_i hx hy
      cases e
      exact g_eqB (ng := true) hN hop hx hy hu
    · cases e
  · cases e
end
end Go.Proofs.Ytnieghbgcjbnhaa.Av
