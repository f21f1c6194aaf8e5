/-
More operations: a byte of a string, cuts, a string of bytes, a sum of strings.
Conditions: none beside those that each theorem names.
-/
import Derived.Test.YtggmeldoecnkaaaAv20
import Derived.Laws.Slices
import Derived.Laws.BytesString
set_option linter.unusedVariables false
set_option linter.unusedSimpArgs false
namespace Go.Proofs.Ytggmeldoecnkaaa.Av
open Go.RowKit Go.Proofs.YtggmeldoecnkaaaW.PrintLast

section
variable {P : Program} {N : Nat} {o : Oper} {T : Tm} {H : Hp}
theorem TyP.str {t : Nat} {i : TI} (h : TyP P t i) (h5 : Nat.beq i.kd 5 = true) : P.underlying t = some .string := by
  obtain ⟨d, f, hd, _, _, _, _, hk, _⟩ := h
  have h5 : i.kd = 5 := Nat.eq_of_beq_eq_true h5
  cases d <;> simp [KdOk, h5] at hk
  exact hd
theorem g_sidx {t : Nat} {x y : Operand} {i : TI} {s : ByteArray} {k : IntKind} {n : Int} {b : UInt8} (hN : dstOk N o.dst = true) (ho : o.op = .index t x y) (hx : (evO T x).bind sc = some (.string s)) (hy : (evO T y).bind sc = some (.int k n)) (ht : TyP P t i) (h5 : Nat.beq i.kd 5 = true)
    (h0 : 0 ≤ n) (hb : s[n.toNat]? = some b) : GoodW P N o ⟨sV (.int .u8 b.toNat), [], [], []⟩ T H :=
  GoodW.val hN fun T' H' hT hH κ w0 S ι a w hr => by
    obtain ⟨xv, e1, e2⟩ := Option.bind_eq_some_iff.1 hx
    have hxv := (sc_ok (evO_ok hr ((evO_agree hT (by simp [ho, Op.operands])).trans e1)) e2).1
    obtain ⟨yv, e3, e4⟩ := Option.bind_eq_some_iff.1 hy
    have hyv := (sc_ok (evO_ok hr ((evO_agree hT (by simp [ho, Op.operands])).trans e3)) e4).1
    refine ⟨.int .u8 b.toNat, ?_, sV_ok _ _ _ _ rfl⟩
    unfold execOp
    rw [ho]
    simp [Instr.index, hxv, hyv, asIntOf, run_underlying (ht.str h5), h0, hb]
end
/-! ### a function that lays its argument into a box of its own and hands back where -/
section
variable {P : Program} {N : Nat} {o : Oper} {T : Tm} {H : Hp}
def scal : Cell → Bool
  | .d (.v _) => true
  | _ => false
theorem g_callK {f : FuncId} {xo : Operand} {ts : Array TypeId} {fn : Func} {c : Cell} {rows : List (List D)} {cs : List Cell} {nm : Nat} (hN : dstOk N o.dst = true) (ho : o.op = .call { callee := .value (.func f), args := #[xo], argTypes := ts }) (hf : P.funcs[f]? = some fn) (hname : (fn.name == "runtime.NumGoroutine") = false) (hb : fn.body.isSome = true)
    (hfn : Fn P f [.e (.c (.k 0 (.sl rows)))] (lookH []) (.pt 64 0 0) (lookH [(64, some (.box (.k 0 (.sl rows) :: cs)))])) (hx : evO T xo = some (.e (.c c))) (hc : rowsOf c = some rows) (hcs : cs.all scal = true) :
    GoodW P N o ⟨.pt nm 0 0, [(nm, some (.box (.d (.sl rows) :: cs)))], [], [nm]⟩ T H := by
  intro T' H' hT hH hF κ w0 S ι a w hr Q K hK
  have hv := evO_ok hr ((evO_agree hT (by simp [ho, Op.operands, Call.operands])).trans hx)
  have htr := rowsOf_ok hv hc
  have hcall := hfn (fun _ => a.eval xo) (fun k => w.heap.size ≤ k) w (fun _ => none) #[a.eval xo] (fun k h => h) (fun b B h => by cases h) (fun b b' B B' k c c' h => by cases h) rfl (fun j y hj => by
    cases j with
    | zero => cases hj; exact ⟨_, rfl, rfl, htr.move fun k hk => ⟨⟨⟨hk.1.1, fun b B c h => by cases h⟩, fun h => by cases h⟩, rfl⟩⟩
    | succ j => cases hj)
  have he := enters_ (P := P) hf hname hb #[a.eval xo] w
  have hrun : (execOp a.eval o).run P w = .ok (.enter f #[a.eval xo]) w := by
    unfold execOp
    simp [ho, resolve, Deferred.ofValue, invoke, Act.eval] at he ⊢
    exact he
  unfold Oper.wp
  rw [hrun, Oper.upon_enter]
  refine hcall.mono fun e w' ⟨v, ι1, hv1, hkept, hbr, _, hown, _, hvr⟩ => ?_
  subst hv1
  have h64 : lookH [(64, some (Blk.box (.k 0 (.sl rows) :: cs)))] 64 = some (.box (.k 0 (.sl rows) :: cs)) := rfl
  obtain ⟨k, cc, hi, vs, ty, hh, hsz, hcr⟩ := hbr 64 _ h64
  have hk0 : w.heap.size ≤ k := by
    rcases hown k ⟨64, _, _, h64, hi, .inl rfl⟩ with h | ⟨b, B, c, h, _⟩
    · exact h
    · cases h
  obtain ⟨k2, c2, hi2, hv2⟩ := hvr _ h64
  rw [hi] at hi2
  cases hi2
  have hkept' : Kept (fun _ => False) w w' := hkept.mono fun k ⟨b, B, c, h, _⟩ => by cases h
  have hFn := hF nm (by simp)
  have hH0 : ∀ b, b ≠ nm → appL H' [(nm, some (Blk.box (.d (.sl rows) :: cs)))] b = H' b := fun b hb => by simp [appL, hb]
  have hH1 : appL H' [(nm, some (Blk.box (.d (.sl rows) :: cs)))] nm = some (.box (.d (.sl rows) :: cs)) := by simp [appL]
  have hkw : k < w'.heap.size := (Array.getElem?_eq_some_iff.1 hh).1
  have hrel := (hr.next (ι' := fun b => if b = nm then some (k, cc) else ι b) (H' := appL H' [(nm, some (Blk.box (.d (.sl rows) :: cs)))]) (fun _ => False) hkept' (fun _ h => h.elim) (fun b => ?_) (fun b B k' c' h1 h2 => ?_) (fun b b' B B' x1 x2 k' h1 h2 h3 h4 o1 o2 => ?_) (fun hok b B h1 => ?_) (fun b hb => ?_)).1
  · refine hK _ _ w' (hrel.putD hN (x := .pt nm 0 0) fun B hB => ?_)
    rw [hH1] at hB
    cases hB
    exact ⟨k, cc, by simp, hv2⟩
  · by_cases hb : b = nm
    · rw [hb]; exact .inr hFn
    · exact .inl fun B hB => ⟨B, by rw [hH0 b hb] at hB; exact hB, rfl, rfl, congrArg key (by simp [hb])⟩
  · by_cases hb : b = nm
    · simp only [hb, if_true, Option.some.injEq, Prod.mk.injEq] at h2
      rw [hb, hH1] at h1
      cases h1
      exact .inr ⟨rfl, .inr (h2.1 ▸ hk0), .inl (h2.1 ▸ Nat.le_trans hr.kept.size hk0)⟩
    · rw [hH0 b hb] at h1; simp only [if_neg hb] at h2; exact .inl ⟨B, c', h1, id, h2, fun _ => ⟨rfl, rfl⟩⟩
  · by_cases hb : b = nm <;> by_cases hb' : b' = nm
    · rw [hb, hb']
    · simp only [hb, if_true, Option.some.injEq] at h3
      simp only [if_neg hb'] at h4
      rw [hH0 b' hb'] at h2
      rw [hb, hH1] at h1
      cases h1
      have := hr.ownLt h2 h4 o2
      have h5 := o1.one rfl
      rw [← h3] at h5
      simp only at h5
      omega
    · simp only [hb', if_true, Option.some.injEq] at h4
      simp only [if_neg hb] at h3
      rw [hH0 b hb] at h1
      rw [hb', hH1] at h2
      cases h2
      have := hr.ownLt h1 h3 o1
      have h5 := o2.one rfl
      rw [← h4] at h5
      simp only at h5
      omega
    · rw [hH0 b hb] at h1; rw [hH0 b' hb'] at h2; simp only [if_neg hb] at h3; simp only [if_neg hb'] at h4
      exact hr.injO b b' B B' x1 x2 k' h1 h2 h3 h4 o1 o2
  · by_cases hb : b = nm
    · subst hb
      rw [hH1] at h1
      cases h1
      right
      simp only [if_true]
      refine ⟨k, cc, rfl, vs, ty, hh, by simpa using hsz, fun j c1 hj => ?_⟩
      cases j with
      | zero =>
        cases hj
        obtain ⟨u, hu, hu2⟩ := hcr 0 _ rfl
        refine ⟨u, hu, ?_⟩
        have hu3 : u = a.eval xo := hu2.1
        rw [hu3]
        exact htr.move (OkF.up hok false)
      | succ j =>
        have hj' : cs[j]? = some c1 := hj
        obtain ⟨u, hu, hu2⟩ := hcr (j + 1) c1 hj'
        refine ⟨u, hu, ?_⟩
        have := List.all_eq_true.1 hcs c1 (List.mem_of_getElem? hj')
        unfold scal at this
        split at this
        · exact TR.flat hu2
        · cases this
    · left
      rw [hH0 b hb] at h1
      exact ⟨h1, by simp [hb], fun _ _ _ _ h => h⟩
  · have : b ≠ nm := fun e => by have := hFn.2.2; omega
    simp [this]
end
/-! ### the same as steps -/
section
variable {c : Cn} {ops : Array Oper} {K : List (Oper × Rec) → St → Prop} {m : Cf} {τ : Ty}
def sidxA (τ : Ty) (T : Tm) (o : Op) : Option (ByteArray × Int) := match o with
  | .index t x y => match τ t with
    | some i => match Nat.beq i.kd 5, (evO T x).bind sc, (evO T y).bind sc with
      | true, some (.string s), some (.int _ n) => some (s, n)
      | _, _, _ => none
    | none => none
  | _ => none
theorem CH.sidx (hτ : Tys c.P τ) {s : ByteArray} {n : Int} (b : UInt8) (h64 : Nat.ble 64 m.s.nx = true) (e : ((hdO c.N ops m).bind fun o => sidxA τ m.s.tm o.op) = some (s, n)) (h0 : 0 ≤ n) (hb : s[n.toNat]? = some b) (k : CH c ops K (advO (some ⟨sV (.int .u8 b.toNat), [], [], []⟩) m)) : CH c ops K m := by
  obtain ⟨o, ho, e⟩ := Option.bind_eq_some_iff.1 e
  refine CH.use h64 ho rfl (fun hN => ?_) (by simp [okR, bndB, ltAll, AV.ids, hsIds, idsL, sV, E.ids, Cell.ids]) k
  unfold sidxA at e
  split at e
  · rename_i t x y hop
    split at e
    · rename_i i hi
      split at e
      · rename_i q1 q2 q3; cases e; exact g_sidx hN hop q2 q3 (hτ t i hi) q1 h0 hb
      · cases e
    · cases e
  · cases e
def callK (T : Tm) (o : Op) : Option (Nat × List (List D)) := match o with
  | .call cl => match cl.callee, cl.args.toList with
    | .value (.func f), [x] => match evO T x with
      | some (.e (.c c)) => match rowsOf c with
        | some rows => some (f, rows)
        | none => none
      | _ => none
    | _, _ => none
  | _ => none
theorem CH.callK {f : FuncId} {rows : List (List D)} {cs : List Cell} {fn : Func} (hfn : Fn c.P f [.e (.c (.k 0 (.sl rows)))] (lookH []) (.pt 64 0 0) (lookH [(64, some (.box (.k 0 (.sl rows) :: cs)))])) (hf : c.P.funcs[f]? = some fn) (hname : ((fn.name == "runtime.NumGoroutine") = false) ∧ fn.body.isSome = true) (h64 : Nat.ble 64 m.s.nx = true)
    (e : ((hdO c.N ops m).bind fun o => Av.callK m.s.tm o.op) = some (f, rows)) (hcs : cs.all scal = true) (hb : okR m (some ⟨.pt m.id 0 0, [(m.id, some (.box (.d (.sl rows) :: cs)))], [], [m.id]⟩) = true)
    (k : CH c ops K (advO (some ⟨.pt m.id 0 0, [(m.id, some (.box (.d (.sl rows) :: cs)))], [], [m.id]⟩) m)) : CH c ops K m := by
  obtain ⟨o, ho, e⟩ := Option.bind_eq_some_iff.1 e
  refine CH.use h64 ho rfl (fun hN => ?_) hb k
  unfold Av.callK at e
  split at e
  · rename_i cl hop
    split at e
    · rename_i f' x hce hargs
      split at e
      · rename_i c1 hx
        split at e
        · rename_i rows' hrows
          simp only [Option.some.injEq, Prod.mk.injEq] at e
          obtain ⟨rfl, rfl⟩ := e
          obtain ⟨ce, ca, ct⟩ := cl
          simp only at hce hargs
          have h1 : ca = #[x] := by rw [← Array.toArray_toList (xs := ca), hargs]
          subst hce h1
          exact g_callK hN hop hf hname.1 hname.2 hfn hx hrows hcs
        · cases e
      · cases e
    · cases e
  · cases e
end
end Go.Proofs.Ytggmeldoecnkaaa.Av
