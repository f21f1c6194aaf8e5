/-
Operations that yield a value and leave the memory alone: what each comes to.
Conditions: none beside those that each theorem names.
-/
import Derived.Test.YtggmeldoecnkaaaAv3
set_option linter.unusedVariables false
set_option linter.unusedSimpArgs false
namespace Go.Proofs.Ytggmeldoecnkaaa.Av
open Go.RowKit

/-- What is asked of a type: its kind (1 slice, 2 struct, 3 array, 4 pointer, 5 string, 6 bool, 7 int), sizes, zero, element, fields. -/
structure TI where
  kd : Nat
  sz : Nat
  bys : Nat
  zero : List Value
  el : Nat := 0
  n : Nat := 0
  fl : List (Nat × Nat) := []
  ik : IntKind := .i64
def KdOk : TypeDesc → TI → Prop
  | .slice e, i => i.kd = 1 ∧ i.el = e
  | .struct fs, i => i.kd = 2 ∧ fs.toList.map (fun f => (f.offset, f.type)) = i.fl
  | .array n e, i => i.kd = 3 ∧ i.n = n ∧ i.el = e
  | .pointer e, i => i.kd = 4 ∧ i.el = e
  | .string, i => i.kd = 5
  | .bool, i => i.kd = 6
  | .int k, i => i.kd = 7 ∧ i.ik = k
  | _, _ => False
def TyP (P : Program) (t : Nat) (i : TI) : Prop := ∃ d f, P.underlying t = some d ∧ P.info? t = some f ∧ f.size = i.sz ∧ f.bytes = i.bys ∧ f.zero.map (fun z => z.cells.toList) = some i.zero ∧ KdOk d i ∧ 0 < i.sz
abbrev Ty := Nat → Option TI
def Tys (P : Program) (τ : Ty) : Prop := ∀ t i, τ t = some i → TyP P t i

def GoodW (P : Program) (N : Nat) (o : Oper) (r : Rec) (T : Tm) (H : Hp) : Prop :=
  ∀ (T' : Tm) (H' : Hp), (∀ t, t ∈ o.op.operands.toList.flatMap Operand.tmps → T' t = T t) → (∀ b, b ∈ r.rd → H' b = H b) → (∀ b, b ∈ r.nw → Fresh T' H' b) →
    ∀ (κ : Nat → Value) (w0 : World) (S : Wr) (ι : Nm) (a : Act) (w : World), Rel N κ w0 S ι T' H' a w → ∀ (Q : Exit → Act → World → Prop) (K : Act → World → Prop),
      (∀ ι' a' w', Rel N κ w0 S ι' (putD T' o.dst r.v) (appL H' r.hs) a' w' → K a' w') → Oper.wp P o a w K Q
section
variable {P : Program} {N : Nat} {ops : Array Oper} {o : Oper} {r : Rec} {T : Tm} {H : Hp}
theorem Good.of (hg : o.guard = none) (h : GoodW P N o r T H) : Good P N ops o r T H := by
  intro T' H' hT hH hF κ w0 S ι a w hr Q K hK
  rw [if_pos (by simp [Region.wanted, hg])]
  exact h T' H' (fun t ht => hT t (List.mem_append_left _ ht)) hH hF κ w0 S ι a w hr Q K hK
theorem guard_is {j g : Nat} {b c : Bool} (hg : o.guard = some (j, b)) (hd : (ops[j]?).bind (·.dst) = some g) (hT : T g = some (.e (.c (.d (.v (.bool c)))))) {T' : Tm} {H' : Hp} (hA : ∀ t, t ∈ rdT ops o → T' t = T t)
    {κ : Nat → Value} {w0 : World} {S : Wr} {ι : Nm} {a : Act} {w : World} (hr : Rel N κ w0 S ι T' H' a w) (hgN : g < N) : Region.wanted o (yielded ops a.tmps) = (c == b) := by
  have h1 : T' g = some (.e (.c (.d (.v (.bool c))))) := (hA g (List.mem_append_right _ (by simp [hg, hd]))).trans hT
  have h2 := hr.tmp g _ h1
  have h3 : a.tmps.getD g undef = .bool c := by
    have h2' : TR w (OkF ⟨κ, S.fr⟩ false ι H' w) (.v (.bool c)) (a.tmps.getD g undef) := h2
    generalize a.tmps.getD g undef = u at h2'
    cases h2'
    rfl
  have h4 : a.tmps[g]? = some (.bool c) := by
    have hlt : g < a.tmps.size := by rw [hr.size]; exact hgN
    rw [Array.getD_eq_getD_getElem?, Array.getElem?_eq_getElem hlt] at h3
    rw [Array.getElem?_eq_getElem hlt]
    exact congrArg some h3
  unfold Region.wanted yielded
  rw [hg]
  simp only [hd, Option.bind_some, h4]
  cases c <;> cases b <;> rfl
theorem Good.yes {j g : Nat} {b : Bool} (hg : o.guard = some (j, b)) (hd : (ops[j]?).bind (·.dst) = some g) (hgN : g < N) (hT : T g = some (.e (.c (.d (.v (.bool b)))))) (h : GoodW P N o r T H) : Good P N ops o r T H := by
  intro T' H' hA hH hF κ w0 S ι a w hr Q K hK
  rw [if_pos (by rw [guard_is hg hd hT hA hr hgN]; simp)]
  exact h T' H' (fun t ht => hA t (List.mem_append_left _ ht)) hH hF κ w0 S ι a w hr Q K hK
def dstOk (N : Nat) : Option Nat → Bool
  | none => true
  | some t => Nat.blt t N
theorem Rel.putD {κ : Nat → Value} {w0 : World} {S : Wr} {ι : Nm} {T : Tm} {H : Hp} {a : Act} {w : World} (h : Rel N κ w0 S ι T H a w) {dst : Option Nat} {x : AV} {v : Value} (ht : dstOk N dst = true) (hx : VR ⟨κ, S.fr⟩ ι H w x v) : Rel N κ w0 S ι (Av.putD T dst x) H (a.put dst v) w := by
  cases dst with
  | none => exact h
  | some t => exact h.put (by simpa [dstOk, Nat.blt_eq] using ht) hx
theorem Good.no {j g : Nat} {b : Bool} (hg : o.guard = some (j, b)) (hd : (ops[j]?).bind (·.dst) = some g) (hgN : g < N) (hN : dstOk N o.dst = true) (hT : T g = some (.e (.c (.d (.v (.bool (!b))))))) : Good P N ops o ⟨.tup [], [], [], []⟩ T H := by
  intro T' H' hA hH hF κ w0 S ι a w hr Q K hK
  rw [if_neg (by rw [guard_is hg hd hT hA hr hgN]; cases b <;> simp)]
  exact hK ι _ _ (hr.putD hN ⟨#[], rfl, rfl, fun j x h => by cases h⟩)
/-- A guard that was not told itself: not wanted. -/
theorem Good.nou {j g : Nat} {b : Bool} (hg : o.guard = some (j, b)) (hd : (ops[j]?).bind (·.dst) = some g) (hgN : g < N) (hN : dstOk N o.dst = true) (hT : T g = some (.tup [])) : Good P N ops o ⟨.tup [], [], [], []⟩ T H := by
  intro T' H' hA hH hF κ w0 S ι a w hr Q K hK
  have h1 : T' g = some (.tup []) := (hA g (List.mem_append_right _ (by simp [hg, hd]))).trans hT
  obtain ⟨vs, h2, h3, _⟩ := hr.tmp g _ h1
  have h4 : a.tmps[g]? = some (.tuple vs) := by
    have hlt : g < a.tmps.size := by rw [hr.size]; exact hgN
    rw [Array.getD_eq_getD_getElem?, Array.getElem?_eq_getElem hlt] at h2
    rw [Array.getElem?_eq_getElem hlt]
    exact congrArg some h2
  have h5 : Region.wanted o (yielded ops a.tmps) = false := by
    unfold Region.wanted yielded
    rw [hg]
    simp only [hd, Option.bind_some, h4]
    rfl
  rw [if_neg (by rw [h5]; simp)]
  exact hK ι _ _ (hr.putD hN ⟨#[], rfl, rfl, fun j x h => by cases h⟩)
theorem GoodW.val {x : AV} {rd : List Nat} (hN : dstOk N o.dst = true)
    (h : ∀ (T' : Tm) (H' : Hp), (∀ t, t ∈ o.op.operands.toList.flatMap Operand.tmps → T' t = T t) → (∀ b, b ∈ rd → H' b = H b) → ∀ (κ : Nat → Value) (w0 : World) (S : Wr) (ι : Nm) (a : Act) (w : World), Rel N κ w0 S ι T' H' a w →
      ∃ v, (execOp a.eval o).run P w = .ok (.value v) w ∧ VR ⟨κ, S.fr⟩ ι H' w x v) : GoodW P N o ⟨x, [], rd, []⟩ T H := by
  intro T' H' hT hH hF κ w0 S ι a w hr Q K hK
  obtain ⟨v, hrun, hv⟩ := h T' H' hT hH κ w0 S ι a w hr
  unfold Oper.wp
  rw [hrun, Oper.upon_value]
  exact hK ι _ _ (hr.putD hN hv)
end

def sV (v : Value) : AV := .e (.c (.d (.v v)))
def cst : Value → Option AV
  | .int k n => some (sV (.int k n))
  | .bool b => some (sV (.bool b))
  | .string s => some (sV (.string s))
  | .slice none 0 0 => some (.e (.c .nil))
  | .pointer none => some .un
  | _ => none
def evO (T : Tm) : Operand → Option AV
  | .tmp t => T t
  | .const v => cst v
  | .func f => some (sV (.func (.func f) #[] #[]))
  | _ => none
theorem evO_ok {N : Nat} {κ : Nat → Value} {w0 : World} {S : Wr} {ι : Nm} {T : Tm} {H : Hp} {a : Act} {w : World} (hr : Rel N κ w0 S ι T H a w) {x : Operand} {y : AV} (h : evO T x = some y) : VR ⟨κ, S.fr⟩ ι H w y (a.eval x) := by
  cases x with
  | tmp t => exact hr.tmp t y h
  | const v =>
    change cst v = some y at h
    unfold cst at h
    split at h <;> first | (cases h; exact .v _ rfl) | (cases h; exact rfl) | (cases h; trivial) | cases h
  | global g => cases h
  | func f => cases h; exact .v _ rfl
theorem evO_agree {T T' : Tm} {o : Oper} (hA : ∀ t, t ∈ o.op.operands.toList.flatMap Operand.tmps → T' t = T t) {x : Operand} (hx : x ∈ o.op.operands.toList) : evO T' x = evO T x := by
  cases x with
  | tmp t => exact hA t (List.mem_flatMap.2 ⟨_, hx, by simp [Operand.tmps]⟩)
  | const v => rfl
  | global g => rfl
  | func f => rfl
/-- The scalar that a slot holds. -/
def sc : AV → Option Value
  | .e (.c (.d (.v v))) => some v
  | .e (.c (.f (.v v))) => some v
  | .e (.c (.k _ (.v v))) => some v
  | _ => none
theorem sc_ok {g : Env} {ι : Nm} {H : Hp} {w : World} {x : AV} {u v : Value} (h : VR g ι H w x u) (hs : sc x = some v) : u = v ∧ v.oneCell' = true := by
  unfold sc at hs
  split at hs
  · cases hs; cases h with | v _ hx => exact ⟨rfl, hx⟩
  · cases hs; cases h with | v _ hx => exact ⟨rfl, hx⟩
  · cases hs; obtain ⟨_, h⟩ := h; cases h with | v _ hx => exact ⟨rfl, hx⟩
  · cases hs
theorem sV_ok (g : Env) (ι : Nm) (H : Hp) (w : World) {v : Value} (h : v.oneCell' = true) : VR g ι H w (sV v) v := .v _ h

/-! ### values of scalars -/
def wr : IntKind → Int → Int
  | .i64, n => wrap64 n
  | k, n => k.wrap n
theorem wr_eq (k : IntKind) (n : Int) : k.wrap n = wr k n := by
  cases k <;> first | rfl | exact IntWalk.i64_left n
def ikb : IntKind → IntKind → Bool
  | .i8, .i8 | .i16, .i16 | .i32, .i32 | .i64, .i64 | .u8, .u8 | .u16, .u16 | .u32, .u32 | .u64, .u64 => true
  | _, _ => false
theorem ikb_eq {k k' : IntKind} (h : ikb k k' = true) : k = k' := by cases k <;> cases k' <;> first | rfl | cases h
def nzb : Int → Bool
  | .ofNat 0 => false
  | .ofNat (_ + 1) => true
  | .negSucc _ => true
def nnb : Int → Bool
  | .ofNat _ => true
  | .negSucc _ => false
def shB : BinOp → Bool
  | .shl => true
  | .shr => true
  | _ => false
def shop (op : BinOp) (k : IntKind) (a b : Int) : Option Value := match nnb b with
  | true => match op with
    | .shl => some (.int k (wr k (a * 2 ^ min b.toNat k.bits)))
    | .shr => some (.int k (a / 2 ^ min b.toNat k.bits))
    | _ => none
  | false => none
def dop (op : BinOp) (k : IntKind) (a b : Int) : Option Value := match nzb b with
  | true => match op with
    | .quo => some (.int k (wr k (a.tdiv b)))
    | .rem => some (.int k (a.tmod b))
    | _ => none
  | false => none
theorem nzb_ne {b : Int} (h : nzb b = true) : b ≠ 0 := by rintro rfl; cases h
theorem nnb_le {b : Int} (h : nnb b = true) : 0 ≤ b := by cases b with | ofNat n => exact Int.natCast_nonneg n | negSucc n => cases h
def iop (op : BinOp) (k : IntKind) (a b : Int) : Option Value :=
  match op with
  | .quo => dop .quo k a b
  | .rem => dop .rem k a b
  | .add => some (.int k (wr k (a + b)))
  | .sub => some (.int k (wr k (a - b)))
  | .mul => some (.int k (wr k (a * b)))
  | .and => some (.int k (wr k (BitVec.ofInt k.bits a &&& BitVec.ofInt k.bits b).toNat))
  | .or => some (.int k (wr k (BitVec.ofInt k.bits a ||| BitVec.ofInt k.bits b).toNat))
  | .xor => some (.int k (wr k (BitVec.ofInt k.bits a ^^^ BitVec.ofInt k.bits b).toNat))
  | .eql => some (.bool (a == b))
  | .neq => some (.bool (a != b))
  | .lss => some (.bool (decide (a < b)))
  | .leq => some (.bool (decide (a ≤ b)))
  | .gtr => some (.bool (decide (a > b)))
  | .geq => some (.bool (decide (a ≥ b)))
  | _ => none
def sop (op : BinOp) (a b : ByteArray) : Option Value :=
  match op with
  | .eql => some (.bool (a.toList == b.toList))
  | .neq => some (.bool !(a.toList == b.toList))
  | .lss => some (.bool (Op.bytesLess a.toList b.toList))
  | .leq => some (.bool (Op.bytesLess a.toList b.toList || a.toList == b.toList))
  | .gtr => some (.bool !(Op.bytesLess a.toList b.toList || a.toList == b.toList))
  | .geq => some (.bool !(Op.bytesLess a.toList b.toList))
  | _ => none
def bop (op : BinOp) : Value → Value → Option Value
  | .int k a, .int k' b => match shB op with
    | true => shop op k a b
    | false => match ikb k k' with
      | true => iop op k a b
      | false => none
  | .string a, .string b => sop op a b
  | _, _ => none
theorem bop_one {op : BinOp} {x y v : Value} (h : bop op x y = some v) : v.oneCell' = true := by
  unfold bop at h
  split at h
  · split at h
    · unfold shop at h
      split at h <;> (try split at h) <;> first | (cases h; rfl) | cases h
    · split at h
      · unfold iop dop at h
        split at h <;> (try split at h) <;> first | (cases h; rfl) | cases h
      · cases h
  · unfold sop at h
    split at h <;> first | (cases h; rfl) | cases h
  · cases h
theorem run_bop {P : Program} (w : World) {op : BinOp} {x y v : Value} (h : bop op x y = some v) (t : TypeId) (ox oy : Operand) : (do eqGuard op t ox oy x y; binOp op t x y).run P w = .ok v w := by
  unfold bop at h
  split at h
  · rename_i k a k' b
    split at h
    · unfold shop at h
      split at h
      · rename_i hn
        have hn := nnb_le hn
        split at h
        · cases h; simp only [← wr_eq]; simp [eqGuard, binOp, shift_shl_any, hn]
        · cases h; simp [eqGuard, binOp, shift_shr_any, hn]
        · cases h
      · cases h
    · split at h
      · rename_i hk
        obtain rfl := ikb_eq hk
        unfold iop at h
        split at h
        · unfold dop at h
          split at h
          · rename_i hn
            cases h; simp only [← wr_eq]; simp [eqGuard, binOp, Op.intDiv, nzb_ne hn]
          · cases h
        · unfold dop at h
          split at h
          · rename_i hn
            cases h; simp [eqGuard, binOp, Op.intDiv, nzb_ne hn]
          · cases h
        all_goals first
          | (cases h; done)
          | (cases h; (try simp only [← wr_eq]); simp [eqGuard, binOp, Op.intArith, Op.intBits, Op.intCmp, bne])
      · cases h
  · rename_i a b
    unfold sop at h
    split at h <;> first
      | (cases h; done)
      | (cases h; simp [eqGuard, binOp, Op.stringOp])
  · cases h
def uop (op : UnOp) : Value → Option Value
  | .bool b => match op with
    | .not => some (.bool !b)
    | _ => none
  | .int k n => match op with
    | .neg => some (.int k (wr k (0 - n)))
    | _ => none
  | _ => none
theorem uop_one {op : UnOp} {x v : Value} (h : uop op x = some v) : v.oneCell' = true := by
  unfold uop at h
  split at h <;> (try split at h) <;> first | (cases h; rfl) | cases h
theorem run_uop {P : Program} (w : World) {op : UnOp} {x v : Value} (h : uop op x = some v) : (Op.unary op x).run P w = .ok v w := by
  unfold uop at h
  split at h <;> (try split at h) <;> first | (cases h; done) | (cases h; simp only [← wr_eq]; simp [Op.unary, Op.intArith]) | (cases h; simp [Op.unary])
section
variable {P : Program} {N : Nat} {o : Oper} {T : Tm} {H : Hp}
theorem g_move {x : Operand} {y : AV} (hN : dstOk N o.dst = true) (ho : o.op = .move x ∨ o.op = .assign x) (hy : evO T x = some y) : GoodW P N o ⟨y, [], [], []⟩ T H :=
  GoodW.val hN fun T' H' hT _ κ w0 S ι a w hr => ⟨a.eval x, by rcases ho with ho | ho <;> (unfold execOp; rw [ho]; rfl), evO_ok hr ((evO_agree hT (by rcases ho with ho | ho <;> simp [ho, Op.operands])).trans hy)⟩
theorem g_pick {c x y : Operand} {b : Bool} {z : AV} (hN : dstOk N o.dst = true) (ho : o.op = .pick c x y) (hc : (evO T c).bind sc = some (.bool b)) (hz : evO T (if b then x else y) = some z) : GoodW P N o ⟨z, [], [], []⟩ T H :=
  GoodW.val hN fun T' H' hT _ κ w0 S ι a w hr => by
    obtain ⟨cv, h1, h2⟩ := Option.bind_eq_some_iff.1 hc
    have h3 := (sc_ok (evO_ok hr ((evO_agree hT (by simp [ho, Op.operands])).trans h1)) h2).1
    refine ⟨a.eval (if b then x else y), ?_, evO_ok hr ((evO_agree hT (by cases b <;> simp [ho, Op.operands])).trans hz)⟩
    unfold execOp
    rw [ho]
    simp only [h3]
    cases b <;> simp [asBool]
theorem g_bin {op : BinOp} {t u : TypeId} {x y : Operand} {a b v : Value} (hN : dstOk N o.dst = true) (ho : o.op = .binOp op t x y u) (hx : (evO T x).bind sc = some a) (hy : (evO T y).bind sc = some b) (hv : bop op a b = some v) : GoodW P N o ⟨sV v, [], [], []⟩ T H :=
  GoodW.val hN fun T' H' hT _ κ w0 S ι ac w hr => by
    obtain ⟨xv, h1, h2⟩ := Option.bind_eq_some_iff.1 hx
    obtain ⟨yv, h3, h4⟩ := Option.bind_eq_some_iff.1 hy
    have e1 := (sc_ok (evO_ok hr ((evO_agree hT (by simp [ho, Op.operands])).trans h1)) h2).1
    have e2 := (sc_ok (evO_ok hr ((evO_agree hT (by simp [ho, Op.operands])).trans h3)) h4).1
    refine ⟨v, ?_, sV_ok _ _ _ _ (bop_one hv)⟩
    unfold execOp
    rw [ho]
    have := run_bop (P := P) w hv t x y
    simp only [e1, e2, Sem.run_bind] at this ⊢
    rw [this]
    rfl
theorem g_un {op : UnOp} {t : TypeId} {x : Operand} {a v : Value} (hN : dstOk N o.dst = true) (ho : o.op = .unOp op t x) (hx : (evO T x).bind sc = some a) (hv : uop op a = some v) : GoodW P N o ⟨sV v, [], [], []⟩ T H :=
  GoodW.val hN fun T' H' hT _ κ w0 S ι ac w hr => by
    obtain ⟨xv, h1, h2⟩ := Option.bind_eq_some_iff.1 hx
    have e1 := (sc_ok (evO_ok hr ((evO_agree hT (by simp [ho, Op.operands])).trans h1)) h2).1
    refine ⟨v, ?_, sV_ok _ _ _ _ (uop_one hv)⟩
    unfold execOp
    rw [ho]
    simp only [e1, Sem.run_bind, run_uop (P := P) w hv]
    rfl
/-- A value may be told in other words. -/
theorem GoodW.as {x y : AV} {hs : List (Nat × Option Blk)} {rd nw : List Nat} (h : GoodW P N o ⟨x, hs, rd, nw⟩ T H) (e : x = y) : GoodW P N o ⟨y, hs, rd, nw⟩ T H := e ▸ h
end
end Go.Proofs.Ytggmeldoecnkaaa.Av
