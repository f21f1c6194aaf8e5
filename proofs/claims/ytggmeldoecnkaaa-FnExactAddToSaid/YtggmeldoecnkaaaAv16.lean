/-
What needs no word of ours is run by looking: one operation behind the other.
Conditions: none beside those that each theorem names.
-/
import Derived.Test.YtggmeldoecnkaaaAv15
import Derived.Lib.SliceRun
set_option linter.unusedVariables false
set_option linter.unusedSimpArgs false
namespace Go.Proofs.Ytggmeldoecnkaaa.Av
open Go.RowKit Go.Proofs.YtggmeldoecnkaaaW.PrintLast

def ra (x : AV) (rd : List Nat) : Option Rec := some ⟨x, [], rd, []⟩
def aLoad (τ : Ty) (T : Tm) (H : Hp) (t : Nat) (x : Operand) : Option Rec := match τ t with
  | none => none
  | some i => match evO T x with
    | some (.pt b 0 p) => match H b with
      | some (.box cs) => match ldE i cs p with
        | some e => ra (.e e) [b]
        | none => none
      | _ => none
    | some (.ip r p) => match ldE i (r.map .d) p with
      | some e => ra (.e e) []
      | none => none
    | _ => none
def aStore (τ : Ty) (T : Tm) (H : Hp) (t : Nat) (x y : Operand) : Option Rec := match τ t with
  | none => none
  | some i => match evO T x with
    | some (.pt b 0 p) => match H b with
      | some (.box cs) => match evO T y with
        | some (.e e) => match (cellsOf e).all (liveC H) && (Nat.beq (cellsOf e).length i.sz && Nat.ble (p + (cellsOf e).length) cs.length) with
          | true => some ⟨.un, [(b, some (.box (splice cs p (cellsOf e))))], b :: refsOf e, []⟩
          | false => none
        | _ => none
      | _ => none
    | _ => none
def aField (τ : Ty) (T : Tm) (H : Hp) (s : Nat) (x : Operand) (f : Nat) : Option Rec := match τ s with
  | none => none
  | some i => match fldOf τ i f with
    | none => none
    | some off => match evO T x with
      | some (.pt b n p) => match H b with
        | some _ => ra (.pt b n (p + off)) [b]
        | none => none
      | some (.ip r p) => ra (.ip r (p + off)) []
      | _ => none
def aPart (τ : Ty) (T : Tm) (s : Nat) (x : Operand) (f : Nat) : Option Rec := match τ s with
  | none => none
  | some i => match evO T x with
    | some (.e (.agg cs)) => match Nat.beq i.kd 2 with
      | false => none
      | true => match i.fl[f]? with
        | some (off, ft) => match τ ft with
          | some j => match ldE j cs off with
            | some e => ra (.e e) []
            | none => none
          | none => none
        | none => none
    | _ => none
def aBuild (τ : Ty) (T : Tm) (H : Hp) (t : Nat) (parts : Array (Nat × Operand)) : Option Rec := match τ t with
  | none => none
  | some i => match Nat.beq i.kd 2 && (i.fl.all (fun p => (τ p.2).isSome) && i.zero.all zok) with
    | false => none
    | true => match evL T parts.toList with
      | none => none
      | some es => match lay i (i.zero.map zc) es with
        | none => none
        | some cs => match layOk τ i es && es.all (fun p => (cellsOf p.2).all (liveC H)) with
          | true => ra (.e (.agg cs)) (es.flatMap fun p => refsOf p.2)
          | false => none
def aLit (τ : Ty) (T : Tm) (H : Hp) (id : Nat) (t len : Nat) (parts : Array (Nat × Operand)) : Option Rec := match τ t with
  | none => none
  | some i => match τ i.el with
    | none => none
    | some j => match evL T parts.toList with
      | none => none
      | some es => match rowsL H j.sz es with
        | none => none
        | some rows => match Nat.beq i.kd 1 && (nums 0 es && (Nat.beq es.length len && (es.all (fun p => (cellsOf p.2).all (liveC H)) && (Nat.ble (len * j.sz) 16777216 && !(es.flatMap (fun p => refsOf p.2)).contains id)))) with
          | true => some ⟨.e (.c (.ref id)), (id, some (.row j.sz i.el rows false (es.all fun p => (cellsOf p.2).all (frC H)))) :: frzL H (es.flatMap fun p => refsOf p.2), es.flatMap (fun p => refsOf p.2), [id]⟩
          | false => none
def aLen (τ : Ty) (T : Tm) (H : Hp) (t : Nat) (x : Operand) : Option Rec := match τ t with
  | none => none
  | some i => match evO T x with
    | some (.e (.c c)) => match Nat.beq i.kd 1 with
      | true => match c with
        | .ref b => match H b with
          | some (.row _ _ rows _ _) => ra (sV (.int .i64 rows.length)) [b]
          | some (.nst _ _ _ rows _) => ra (sV (.int .i64 rows.length)) [b]
          | _ => none
        | c => match rowsOf c with
          | some rows => ra (sV (.int .i64 rows.length)) []
          | none => none
      | false => match Nat.beq i.kd 5 with
        | true => match sc (.e (.c c)) with
          | some (.string s) => ra (sV (.int .i64 s.size)) []
          | _ => none
        | false => none
    | _ => none
def aBox (T : Tm) (H : Hp) (id : Nat) (x : Operand) : Option Rec := match evO T x with
  | some (.e e) => match (cellsOf e).all (liveC H) && !(refsOf e).contains id with
    | true => some ⟨.pt id 0 0, [(id, some (.box (cellsOf e)))], refsOf e, [id]⟩
    | false => none
  | _ => none
def aAlloc (τ : Ty) (id t : Nat) : Option Rec := match τ t with
  | none => none
  | some i => match i.zero.all zok with
    | true => some ⟨.pt id 0 0, [(id, some (.box (i.zero.map zc)))], [], [id]⟩
    | false => none
def aConv (τ : Ty) (T : Tm) (t u : Nat) (x : Operand) : Option Rec := match τ t, τ u with
  | some _, some j => match evO T x with
    | some y => match sc y with
      | some (.int _ n) => match Nat.beq j.kd 7 with
        | true => ra (sV (.int j.ik (wr j.ik n))) []
        | false => none
      | _ => none
    | none => none
  | _, _ => none
def aBin (T : Tm) (op : BinOp) (x y : Operand) : Option Rec := match evO T x, evO T y with
  | some a, some b => match sc a, sc b with
    | some u, some v => match bop op u v with
      | some r => ra (sV r) []
      | none => none
    | _, _ => none
  | _, _ => none
def aUn (T : Tm) (op : UnOp) (x : Operand) : Option Rec := match evO T x with
  | some a => match sc a with
    | some u => match uop op u with
      | some r => ra (sV r) []
      | none => none
    | none => none
  | none => none
def aPick (T : Tm) (c x y : Operand) : Option Rec := match evO T c with
  | some a => match sc a with
    | some (.bool b) => match evO T (if b then x else y) with
      | some z => ra z []
      | none => none
    | _ => none
  | none => none
def aMove (T : Tm) (x : Operand) : Option Rec := match evO T x with
  | some y => ra y []
  | none => none
def aNil (T : Tm) (H : Hp) (x : Operand) : Option Rec := match evO T x with
  | some (.pt b n p) => match H b with
    | some _ => ra (.pt b n p) [b]
    | none => none
  | some (.ip r p) => ra (.ip r p) []
  | _ => none
def aExt (T : Tm) (x : Operand) (n : Nat) : Option Rec := match evO T x with
  | some (.tup xs) => match xs[n]? with
    | some e => ra (.e e) []
    | none => none
  | _ => none
def aCall (τ : Ty) (T : Tm) (H : Hp) (c : Call) : Option Rec := match c.callee, c.args.toList, c.argTypes.toList with
  | .builtin .len, [x], [t] => aLen τ T H t x
  | _, _, _ => none
def nilTest (op : BinOp) (rows : List (List D)) : Option AV := match op with
  | .eql => some (.bo (rows = []) True)
  | .neq => some (.bo True (rows = []))
  | _ => none
def aNt (τ : Ty) (T : Tm) (H : Hp) (op : BinOp) (t : Nat) (x : Operand) : Option Rec := match τ t with
  | some i => match Nat.beq i.kd 1, evO T x with
    | true, some (.e (.c (.ref b))) => match H b with
      | some (.row _ _ rows _ _) => match nilTest op rows with
        | some y => ra y [b]
        | none => none
      | _ => none
    | true, some (.e (.c c)) => match rowsOf c with
      | some rows => match nilTest op rows with
        | some y => ra y []
        | none => none
      | none => none
    | _, _ => none
  | none => none
def aBn (τ : Ty) (T : Tm) (H : Hp) (op : BinOp) (t : Nat) (x y : Operand) : Option Rec := match y with
  | .const (.slice none 0 0) => aNt τ T H op t x
  | y => aBin T op x y
def aMk (T : Tm) (H : Hp) (g : Go.Fn) (fs cs : Array Operand) : Option Rec := match g, fs.toList, cs.toList with
  | .func f, [], [x] => match evO T x with
    | some (.pt b 0 0) => match H b with
      | some (.box _) => ra (.fv f b) [b]
      | _ => none
    | _ => none
  | _, _, _ => none
def autoW (τ : Ty) (T : Tm) (H : Hp) (id : Nat) : Op → Option Rec
  | .move x => aMove T x
  | .assign x => aMove T x
  | .pick c x y => aPick T c x y
  | .alloc t => aAlloc τ id t
  | .box _ x => aBox T H id x
  | .build t ps => aBuild τ T H t ps
  | .buildSlice t len ps => aLit τ T H id t len ps
  | .load t x => aLoad τ T H t x
  | .store t x y => aStore τ T H t x y
  | .nilCheck x => aNil T H x
  | .binOp op t x y _ => aBn τ T H op t x y
  | .unOp op _ x => aUn T op x
  | .convert t u x => aConv τ T t u x
  | .fieldAddr s x f => aField τ T H s x f
  | .field s x f => aPart τ T s x f
  | .extract x n => aExt T x n
  | .call c => aCall τ T H c
  | .makeFunc g fs cs => aMk T H g fs cs
  | _ => none
section
variable {P : Program} {N : Nat} {o : Oper} {T : Tm} {H : Hp} {τ : Ty} {r : Rec}
theorem TyP.sl {t : Nat} {i : TI} (h : TyP P t i) (h1 : Nat.beq i.kd 1 = true) : P.underlying t = some (.slice i.el) := by
  obtain ⟨d, f, hd, _, _, _, _, hk, _⟩ := h
  have h1 : i.kd = 1 := Nat.eq_of_beq_eq_true h1
  cases d <;> simp [KdOk, h1] at hk
  rw [← hk] at hd
  exact hd
theorem run_nt {t e : TypeId} (ht : P.underlying t = some (.slice e)) (w : World) (A : Option Addr) (n c : Nat) (x y : Operand) {op : BinOp} {rows : List (List D)} {v : AV} (hv : nilTest op rows = some v) (hA : A = none → rows = []) :
    ∃ u, (do eqGuard op t x y (.slice A n c) (.slice none 0 0); binOp op t (.slice A n c) (.slice none 0 0)).run P w = .ok u w ∧ ∀ g ι H w, VR g ι H w v u := by
  unfold nilTest at hv
  split at hv
  · cases hv
    refine ⟨.bool A.isNone, ?_, fun _ _ _ _ => ⟨_, rfl, fun h => hA (by simpa using h), fun _ => trivial⟩⟩
    have := Lib.run_eql_slice_nil (P := P) w t e A n c 0 0 ht
    have e3 : (eqGuard .eql t x y (.slice A n c) (.slice none 0 0)).run P w = .ok () w := rfl
    simp only [Sem.run_bind, e3, Result.andThen_ok, this]
  · cases hv
    refine ⟨.bool (!A.isNone), ?_, fun _ _ _ _ => ⟨_, rfl, fun _ => trivial, fun h => hA (by simpa using h)⟩⟩
    have := Lib.run_equalIn_slice_nil (P := P) w 9999 t e A n c 0 0 ht
    simp only [eqGuard, binOp, Op.equal, Op.maxDepth, Sem.run_bind]
    simp [this]
  · cases hv
theorem g_nt (hτ : Tys P τ) {op : BinOp} {t u : Nat} {x : Operand} (hN : dstOk N o.dst = true) (ho : o.op = .binOp op t x (.const (.slice none 0 0)) u) (h : aNt τ T H op t x = some r) : GoodW P N o r T H := by
  have fin : ∀ {rd : List Nat} {v : AV}, (∀ (T' : Tm) (H' : Hp), (∀ t, t ∈ o.op.operands.toList.flatMap Operand.tmps → T' t = T t) → (∀ b, b ∈ rd → H' b = H b) → ∀ (κ : Nat → Value) (w0 : World) (S : Wr) (ι : Nm) (a : Act) (w : World), Rel N κ w0 S ι T' H' a w → ∃ A n c rows, a.eval x = .slice A n c ∧ (A = none → rows = []) ∧ nilTest op rows = some v) →
      ∀ {i : TI}, τ t = some i → Nat.beq i.kd 1 = true → GoodW P N o ⟨v, [], rd, []⟩ T H := fun {rd v} k {i} hi h1 => GoodW.val hN fun T' H' hT hH κ w0 S ι a w hr => by
    obtain ⟨A, n, c, rows, e, hA, hv⟩ := k T' H' hT hH κ w0 S ι a w hr
    obtain ⟨y, h2, h3⟩ := run_nt (P := P) (TyP.sl (hτ t i hi) h1) w A n c x (.const (.slice none 0 0)) hv hA
    refine ⟨y, ?_, h3 _ _ _ _⟩
    unfold execOp
    rw [ho]
    have e2 : a.eval (.const (.slice none 0 0)) = .slice none 0 0 := rfl
    simp only [Sem.run_bind] at h2
    have e3 : (eqGuard op t x (.const (.slice none 0 0)) (.slice A n c) (.slice none 0 0)).run P w = .ok () w := by cases op <;> rfl
    simp only [e3, Result.andThen_ok] at h2
    simp only [e, e2, Sem.run_bind, e3, Result.andThen_ok, h2]
    rfl
  unfold aNt at h
  split at h
  · rename_i i hi
    split at h
    · rename_i b h1 hx
      split at h
      · rename_i wd e rows f nf hB
        split at h
        · rename_i v hv
          cases h
          refine fin (fun T' H' hT hH κ w0 S ι a w hr => ?_) hi h1
          have hB' := (hH b (by simp)).trans hB
          obtain ⟨wd', n, hsh, hrf⟩ := evO_ok hr ((evO_agree hT (by simp [ho, Op.operands])).trans hx) _ hB'
          simp only [Blk.shape, Prod.mk.injEq, true_and] at hsh
          obtain ⟨_, hn⟩ := hsh
          cases hi' : ι b with
          | none =>
            rw [hi'] at hrf
            refine ⟨_, _, _, rows, hrf.2, fun _ => ?_, hv⟩
            exact List.length_eq_zero_iff.1 (hn.trans hrf.1)
          | some q =>
            rw [hi'] at hrf
            exact ⟨_, _, _, rows, hrf, (fun h => by cases h), hv⟩
        · cases h
      · cases h
    · rename_i cc _ h1 hx
      split at h
      · rename_i rows hrows
        split at h
        · rename_i v hv
          cases h
          refine fin (fun T' H' hT hH κ w0 S ι a w hr => ?_) hi h1
          have htr := rowsOf_ok (evO_ok hr ((evO_agree hT (by simp [ho, Op.operands])).trans hx)) hrows
          generalize a.eval x = u at htr
          cases htr with
          | nil A c => exact ⟨A, 0, c, [], rfl, fun _ => rfl, hv⟩
          | row _ wd k oo c cs ty fr u hc hk hb hu hw hv' => exact ⟨_, _, c, rows, rfl, (fun h => by cases h), hv⟩
        · cases h
      · cases h
    · cases h
  · cases h
theorem auto_ok (hτ : Tys P τ) {id : Nat} (hN : dstOk N o.dst = true) (h : autoW τ T H id o.op = some r) : GoodW P N o r T H := by
  generalize hop : o.op = op at h
  cases op <;> simp only [autoW] at h <;> try (cases h; done)
  case move x =>
    simp only [aMove] at h
    split at h
    · rename_i y hy; cases h; exact g_move hN (.inl hop) hy
    · cases h
  case assign x =>
    simp only [aMove] at h
    split at h
    · rename_i y hy; cases h; exact g_move hN (.inr hop) hy
    · cases h
  case pick c x y =>
    simp only [aPick] at h
    split at h
    · rename_i a ha
      split at h
      · rename_i b hb
        split at h
        · rename_i z hz; cases h; exact g_pick hN hop (by rw [ha]; exact hb) hz
        · cases h
      · cases h
    · cases h
  case alloc t =>
    simp only [aAlloc] at h
    split at h
    · cases h
    · rename_i i hi
      split at h
      · rename_i hz; cases h; exact g_alloc hN hop (hτ t i hi) hz
      · cases h
  case box t x =>
    simp only [aBox] at h
    split at h
    · rename_i e he
      split at h
      · rename_i hc
        simp only [Bool.and_eq_true, Bool.not_eq_true'] at hc
        cases h
        exact g_box hN hop he hc.1 hc.2
      · cases h
    · cases h
  case build t ps =>
    simp only [aBuild] at h
    split at h
    · cases h
    · rename_i i hi
      split at h
      · cases h
      · rename_i hc
        simp only [Bool.and_eq_true] at hc
        split at h
        · cases h
        · rename_i es hes
          split at h
          · cases h
          · rename_i cs hcs
            split at h
            · rename_i hd
              simp only [Bool.and_eq_true] at hd
              cases h
              exact g_build hτ hN hop (hτ t i hi) hc.1 hc.2.1 hc.2.2 hes hcs hd.1 hd.2
            · cases h
  case buildSlice t len ps =>
    simp only [aLit] at h
    split at h
    · cases h
    · rename_i i hi
      split at h
      · cases h
      · rename_i j hj
        split at h
        · cases h
        · rename_i es hes
          split at h
          · cases h
          · rename_i rows hrows
            split at h
            · rename_i hc
              simp only [Bool.and_eq_true, Bool.not_eq_true'] at hc
              cases h
              exact g_lit hN hop (hτ t i hi) hc.1 (hτ _ j hj) hes hc.2.1 hc.2.2.1 hrows hc.2.2.2.1 hc.2.2.2.2.1 hc.2.2.2.2.2
            · cases h
  case load t x =>
    simp only [aLoad] at h
    split at h
    · cases h
    · rename_i i hi
      split at h
      · rename_i b p hb
        split at h
        · rename_i cs hcs
          split at h
          · rename_i e he; cases h; exact g_load_box hN hop hb hcs (hτ t i hi) he
          · cases h
        · cases h
      · rename_i rr p hb
        split at h
        · rename_i e he; cases h; exact g_load_ip hN hop hb (hτ t i hi) he
        · cases h
      · cases h
  case store t x y =>
    simp only [aStore] at h
    split at h
    · cases h
    · rename_i i hi
      split at h
      · rename_i b p hb
        split at h
        · rename_i cs hcs
          split at h
          · rename_i e he
            split at h
            · rename_i hc
              simp only [Bool.and_eq_true] at hc
              cases h
              exact g_store_box hN hop hb hcs he (hτ t i hi) hc.1 hc.2.1 hc.2.2
            · cases h
          · cases h
        · cases h
      · cases h
  case nilCheck x =>
    simp only [aNil] at h
    split at h
    · rename_i b n p hb
      split at h
      · rename_i B hB
        cases h
        refine GoodW.val hN fun T' H' hT hH κ w0 S ι a w hr => ?_
        have hv := evO_ok hr ((evO_agree hT (by simp [hop, Op.operands])).trans hb)
        obtain ⟨k, c, h1, h2⟩ := hv B ((hH b (by simp)).trans hB)
        refine ⟨a.eval x, ?_, hv⟩
        unfold execOp
        rw [hop]
        simp only [h2]
        rfl
      · cases h
    · rename_i rr p hb
      cases h
      refine GoodW.val hN fun T' H' hT hH κ w0 S ι a w hr => ?_
      have hv := evO_ok hr ((evO_agree hT (by simp [hop, Op.operands])).trans hb)
      obtain ⟨k, c, h1, h2⟩ := hv
      refine ⟨a.eval x, ?_, ⟨k, c, h1, h2⟩⟩
      unfold execOp
      rw [hop]
      simp only [h2]
      rfl
    · cases h
  case binOp op t x y u =>
    unfold aBn at h
    split at h
    · exact g_nt hτ hN hop h
    simp only [aBin] at h
    split at h
    · rename_i a b ha hb
      split at h
      · rename_i p q hp hq
        split at h
        · rename_i v hv; cases h; exact g_bin hN hop (by rw [ha]; exact hp) (by rw [hb]; exact hq) hv
        · cases h
      · cases h
    · cases h
  case unOp op t x =>
    simp only [aUn] at h
    split at h
    · rename_i a ha
      split at h
      · rename_i p hp
        split at h
        · rename_i v hv; cases h; exact g_un hN hop (by rw [ha]; exact hp) hv
        · cases h
      · cases h
    · cases h
  case convert t u x =>
    simp only [aConv] at h
    split at h
    · rename_i i j hi hj
      split at h
      · rename_i y hy
        split at h
        · rename_i k n hn
          split at h
          · rename_i h7; cases h; exact g_int hN hop (by rw [hy]; exact hn) (hτ t i hi) (hτ u j hj) h7
          · cases h
        · cases h
      · cases h
    · cases h
  case fieldAddr s x f =>
    simp only [aField] at h
    split at h
    · cases h
    · rename_i i hi
      split at h
      · cases h
      · rename_i off hoff
        split at h
        · rename_i b n p hb
          split at h
          · rename_i B hB; cases h; exact g_field hτ hN hop hb hB (hτ s i hi) hoff
          · cases h
        · rename_i rr p hb; cases h; exact g_field_ip hτ hN hop hb (hτ s i hi) hoff
        · cases h
  case field s x f =>
    simp only [aPart] at h
    split at h
    · cases h
    · rename_i i hi
      split at h
      · rename_i cs hcs
        split at h
        · cases h
        · rename_i h2
          split at h
          · rename_i off ft hfl
            split at h
            · rename_i j hj
              split at h
              · rename_i e he; cases h; exact g_part hτ hN hop hcs (hτ s i hi) h2 hfl (hτ ft j hj) he
              · cases h
            · cases h
          · cases h
      · cases h
  case extract x n =>
    simp only [aExt] at h
    split at h
    · rename_i xs hxs
      split at h
      · rename_i e he; cases h; exact g_extract hN hop hxs he
      · cases h
    · cases h
  case makeFunc g fs cs =>
    unfold aMk at h
    split at h
    · rename_i f x hfs hcs
      split at h
      · rename_i b hb
        split at h
        · rename_i cells hB
          cases h
          obtain rfl : fs = #[] := by rw [← Array.toArray_toList (xs := fs), hfs]
          obtain rfl : cs = #[x] := by rw [← Array.toArray_toList (xs := cs), hcs]
          refine GoodW.val hN fun T' H' hT hH κ w0 S ι a w hr => ?_
          have hB' : H' b = some (.box cells) := (hH b (by simp)).trans hB
          obtain ⟨k, c, h1, h2⟩ := evO_ok hr ((evO_agree hT (by simp [hop, Op.operands])).trans hb) _ hB'
          refine ⟨.func (.func f) #[] #[.pointer (some ⟨k, 0, none⟩)], ?_, fun B hB2 => ?_⟩
          · unfold execOp
            rw [hop]
            have h2 : a.eval x = .pointer (some ⟨k, 0, none⟩) := by rw [h2]; simp [Blk.wd]
            simp only [Instr.makeFunc, Array.map_empty, List.map_toArray, List.map_cons, List.map_nil, h2]
            rfl
          · rw [hB'] at hB2
            cases hB2
            exact ⟨k, c, h1, rfl⟩
        · cases h
      · cases h
    · cases h
  case call c =>
    simp only [aCall] at h
    split at h
    · rename_i x t hc1 hc2 hc3
      obtain rfl : c = { callee := .builtin .len, args := #[x], argTypes := #[t] } := by
        obtain ⟨ce, ca, ct⟩ := c
        simp only at hc1 hc2 hc3
        subst hc1
        have h1 : ca = #[x] := by rw [← Array.toArray_toList (xs := ca), hc2]
        have h2 : ct = #[t] := by rw [← Array.toArray_toList (xs := ct), hc3]
        rw [h1, h2]
      simp only [aLen] at h
      split at h
      · cases h
      · rename_i i hi
        split at h
        · rename_i cc hcc
          split at h
          · rename_i h1
            split at h
            · rename_i b
              split at h
              · rename_i hB; cases h; exact g_len_ref hN hop hcc hB (hτ t i hi) h1
              · rename_i hB; cases h; exact g_len_B hN hop hcc hB rfl (hτ t i hi) h1
              · cases h
            · split at h
              · rename_i rows hrows; cases h; exact g_len hN hop hcc hrows (hτ t i hi) h1
              · cases h
          · split at h
            · rename_i h5
              split at h
              · rename_i s hs; cases h; exact g_len_str hN hop (by rw [hcc]; exact hs) (hτ t i hi) h5
              · cases h
            · cases h
        · cases h
    · cases h
end
end Go.Proofs.Ytggmeldoecnkaaa.Av
