/-
A call through a function value; walks whose end is known beforehand (they may split on what no contract tells: is a slice nil?).
Conditions: none beside those that each theorem names.
-/
import Derived.Test.YtggmeldoecnkaaaAv21
import Derived.Lib.SliceRun
set_option linter.unusedVariables false
set_option linter.unusedSimpArgs false
namespace Go.Proofs.Ytggmeldoecnkaaa.Av
open Go.RowKit Go.Proofs.YtggmeldoecnkaaaW.PrintLast

section
variable {P : Program} {N : Nat} {o : Oper} {T : Tm} {H : Hp}
theorem g_callV {f : FuncId} {as : Array Operand} {ts : Array TypeId} {y : Operand} {fn : Func} {args caps : List AV} {h0 h1 : List (Nat × Option Blk)} {x x' : AV} (hN : dstOk N o.dst = true) (ho : o.op = .call { callee := .value y, args := as, argTypes := ts }) (hf : P.funcs[f]? = some fn) (hname : (fn.name == "runtime.NumGoroutine") = false) (hb : fn.body.isSome = true)
    (hfn : Fn P f (args ++ caps) (lookH h0) x (lookH h1)) {m0 r1 : List (Nat × Nat)} (hy : (∃ b fb cs, evO T y = some (.fv f b) ∧ look m0 b = some fb ∧ H b = some (.box cs) ∧ caps = [.pt fb 0 0]) ∨ evO T y = some (sV (.func (.func f) #[] #[])) ∧ caps = [])
    (hargs : vwL H m0 T as.toList = some args) (hh0 : h0 = m0.map fun p => (p.2, vwB H p)) (hck : boxOk H m0 = true) (hrb : BackOk H m0 h1) (hx : impA (sw r1) x = some x')
    (hn : (nodupB (m0.map (·.1)) && (nodupB (m0.map (·.2)) && (nodupB (r1.map (·.1)) && (nodupB (r1.map (·.2)) && ((m0.all fun p => Nat.blt p.2 64) && ((r1.all fun p => Nat.ble 64 p.2) && (r1.all fun p => m0.all fun q => !Nat.beq q.1 p.1))))))) = true) :
    GoodW P N o ⟨x', hsOf H m0 r1 h1, rdC H m0 T as.toList, r1.map (·.1)⟩ T H := by
  intro T' H' hT hH hF κ w0 S ι a w hr Q K hK
  simp only [Bool.and_eq_true] at hn
  obtain ⟨n1, n2, n3, n4, n5, n6, n7⟩ := hn
  have hev : ∀ y, y ∈ as.toList → evO T' y = evO T y := fun y hy => evO_agree hT (by rw [ho]; simpa [Op.operands, Call.operands] using Or.inr (by simpa using hy))
  have hevy : evO T' y = evO T y := evO_agree hT (by rw [ho]; simp [Op.operands, Call.operands])
  obtain ⟨v1, v2⟩ := vwL_agree (H := H) (H' := H') (m0 := m0) hev fun b hb => hH b (List.mem_append_left _ hb)
  have hm : ∀ p, p ∈ m0 → H' p.1 = H p.1 := fun p hp => hH p.1 (List.mem_append_right _ (List.mem_append_left _ (List.mem_map.2 ⟨p, hp, rfl⟩)))
  have hbx : ∀ p, p ∈ m0 → ∀ cs, H p.1 = some (.box cs) → ∀ b, b ∈ cs.flatMap Cell.ids → H' b = H b := fun p hp cs hcs b hb => hH b (List.mem_append_right _ (List.mem_append_right _ (List.mem_flatMap.2 ⟨p, hp, by simp only [hcs]; exact hb⟩)))
  have v3 : (m0.map fun p => (p.2, vwB H' p)) = m0.map fun p => (p.2, vwB H p) := List.map_congr_left fun p hp => by rw [vwB_agree (hm p hp) (hbx p hp)]
  have v4 : boxOk H' m0 = boxOk H m0 := by
    unfold boxOk
    rw [Bool.eq_iff_iff, List.all_eq_true, List.all_eq_true]
    constructor <;> intro h p hp <;> have := h p hp <;> (try rw [hm p hp] at *) <;> first | exact this | (rw [hm p hp]; exact this)
  have v5 : hsOf H' m0 r1 h1 = hsOf H m0 r1 h1 := by
    unfold hsOf
    congr 1
    exact List.map_congr_left fun p hp => by unfold backB; rw [hm p hp]
  obtain ⟨hal, hag⟩ := vwL_get (v1.trans hargs)
  obtain ⟨cv, hcy, hcl, hcv⟩ : ∃ cv : List Value, a.eval y = .func (.func f) #[] cv.toArray ∧ cv.length = caps.length ∧ ∀ (j : Nat) (z : AV), caps[j]? = some z → ∃ u y, cv[j]? = some u ∧ VR ⟨κ, S.fr⟩ ι H' w y u ∧ vwA H' m0 y = some z := by
    rcases hy with ⟨b, fb, cs, h1, h2, h3, rfl⟩ | ⟨h1, rfl⟩
    · have hv := evO_ok hr (hevy.trans h1)
      have hB : H' b = some (.box cs) := (hm (b, fb) (look_mem h2)).trans h3
      obtain ⟨k, c, q1, q2⟩ := hv _ hB
      refine ⟨[.pointer (some ⟨k, 0, none⟩)], q2, rfl, fun j z hj => ?_⟩
      match j, hj with
      | 0, hj =>
        cases hj
        refine ⟨_, .pt b 0 0, rfl, fun B hB2 => ⟨k, c, q1, by simp⟩, ?_⟩
        simp only [vwA, h2]
    · have hv := evO_ok hr (hevy.trans h1)
      refine ⟨[], ?_, rfl, fun j z hj => by cases hj⟩
      generalize a.eval y = u at hv
      cases hv with | v _ _ => rfl
  have hcore := call_core (T := T') (vs := as.map a.eval ++ cv.toArray) hfn (hh0.trans v3.symm) (v4.trans hck) hx n1 n2 n3 n4 n5 n6 hr (by simp [hal, hcl]) (fun j z hz => by
    rcases Nat.lt_or_ge j args.length with hj | hj
    · rw [List.getElem?_append_left hj] at hz
      obtain ⟨xo, y, e1, e2, e3⟩ := hag j z hz
      exact ⟨a.eval xo, y, by rw [Array.getElem?_append_left (by simp; simp at hal; omega)]; simp at e1; simp [e1], evO_ok hr e2, .inl e3⟩
    · rw [List.getElem?_append_right hj] at hz
      obtain ⟨u, y, e1, e2, e3⟩ := hcv _ z hz
      refine ⟨u, y, ?_, e2, .inl e3⟩
      rw [Array.getElem?_append_right (by simp; simp at hal; omega)]
      simp only [Array.size_map, List.getElem?_toArray]
      rw [show as.size = args.length by simp at hal; omega]
      exact e1) ⟨fun p hp wd e rows nf wd1 e1 rows1 q1 q2 => hrb.1 p hp wd e rows nf wd1 e1 rows1 ((hm p hp).symm.trans q1) q2, fun p hp wd e co rows wd1 e1 co1 rows1 q1 q2 => hrb.2 p hp wd e co rows wd1 e1 co1 rows1 ((hm p hp).symm.trans q1) q2⟩ fun b hb => by
    refine ⟨hF b hb, fun fb hm' => ?_⟩
    obtain ⟨p, hp, rfl⟩ := List.mem_map.1 hb
    have := List.all_eq_true.1 (List.all_eq_true.1 n7 p hp) _ hm'
    simp at this
  rw [v5] at hcore
  have he := enters_ (P := P) hf hname hb (as.map a.eval ++ cv.toArray) w
  have hrun : (execOp a.eval o).run P w = .ok (.enter f (as.map a.eval ++ cv.toArray)) w := by
    unfold execOp
    simp [ho, resolve, Deferred.ofValue, invoke, hcy] at he ⊢
    exact he
  unfold Oper.wp
  rw [hrun, Oper.upon_enter]
  refine hcore.mono fun e w' ⟨v, ι', hv, hrel, hval⟩ => ?_
  subst hv
  exact hK ι' _ w' (hrel.putD hN hval)
end
section
variable {c : Cn} {ops : Array Oper} {m : Cf} {K : List (Oper × Rec) → St → Prop} {τ : Ty}
def callVR (T : Tm) (H : Hp) (id : Nat) (m0 : List (Nat × Nat)) (x : AV) (h1 : List (Nat × Option Blk)) (o : Op) : Option Rec := match o with
  | .call cl => match impA (sw (mkR id 0 h1)) x with
      | some x' => match noBack H m0 h1 && (boxOk H m0 && (nodupB (m0.map (·.1)) && (nodupB (m0.map (·.2)) && (nodupB ((mkR id 0 h1).map (·.1)) && (nodupB ((mkR id 0 h1).map (·.2)) && ((m0.all fun p => Nat.blt p.2 64) && (((mkR id 0 h1).all fun p => Nat.ble 64 p.2) && ((mkR id 0 h1).all fun p => m0.all fun q => !Nat.beq q.1 p.1)))))))) with
        | true => some ⟨x', hsOf H m0 (mkR id 0 h1) h1, rdC H m0 T cl.args.toList, (mkR id 0 h1).map (·.1)⟩
        | false => none
      | none => none
  | _ => none
def fvA (T : Tm) (H : Hp) (m0 : List (Nat × Nat)) (y : Operand) : Option (Nat × List AV) := match evO T y with
  | some (.fv f b) => match look m0 b, H b with
    | some fb, some (.box _) => some (f, [.pt fb 0 0])
    | _, _ => none
  | some (.e (.c (.d (.v (.func (.func f) ⟨[]⟩ ⟨[]⟩))))) => some (f, [])
  | _ => none
def callVA (T : Tm) (H : Hp) (m0 : List (Nat × Nat)) (o : Op) : Option (Nat × List AV) := match o with
  | .call cl => match cl.callee with
    | .value y => match fvA T H m0 y, vwL H m0 T cl.args.toList with
      | some (f, cs), some as => some (f, as ++ cs)
      | _, _ => none
    | _ => none
  | _ => none
theorem fvA_ok {T : Tm} {H : Hp} {m0 : List (Nat × Nat)} {y : Operand} {f : Nat} {cs : List AV} (h : fvA T H m0 y = some (f, cs)) : (∃ b fb cl, evO T y = some (.fv f b) ∧ look m0 b = some fb ∧ H b = some (.box cl) ∧ cs = [.pt fb 0 0]) ∨ evO T y = some (sV (.func (.func f) #[] #[])) ∧ cs = [] := by
  unfold fvA at h
  split at h
  · rename_i g b hb
    split at h
    · rename_i fb cl h1 h2
      cases h
      exact .inl ⟨b, fb, cl, hb, h1, h2, rfl⟩
    · cases h
  · rename_i g hb
    cases h
    exact .inr ⟨hb, rfl⟩
  · cases h
theorem CH.callV {f : FuncId} {args : List AV} {h0 h1 : List (Nat × Option Blk)} {x : AV} {fn : Func} (hfn : Fn c.P f args (lookH h0) x (lookH h1)) (hf : c.P.funcs[f]? = some fn) (hname : ((fn.name == "runtime.NumGoroutine") = false) ∧ fn.body.isSome = true) (m0 : List (Nat × Nat)) (h64 : Nat.ble 64 m.s.nx = true)
    (e : ((hdO c.N ops m).bind fun o => callVA m.s.tm m.s.hp m0 o.op) = some (f, args)) (eh : handed m.s.hp m0 = h0) (hb : okR m ((hdO c.N ops m).bind fun o => callVR m.s.tm m.s.hp m.id m0 x h1 o.op) = true)
    (k : CH c ops K (advO ((hdO c.N ops m).bind fun o => callVR m.s.tm m.s.hp m.id m0 x h1 o.op) m)) : CH c ops K m := by
  obtain ⟨o, ho, e⟩ := Option.bind_eq_some_iff.1 e
  rw [ho] at hb k
  simp only [Option.bind_some] at hb k
  cases hR : callVR m.s.tm m.s.hp m.id m0 x h1 o.op with
  | none => rw [hR] at hb; cases hb
  | some R =>
    refine CH.use h64 ho hR (fun hN => ?_) hb k
    generalize hop : o.op = op at e hR
    unfold callVA at e
    split at e
    · rename_i cl
      split at e
      · rename_i y hce
        split at e
        · rename_i f' cs as hfv hargs
          cases e
          simp only [callVR] at hR
          split at hR
          · rename_i x' hx'
            split at hR
            · rename_i hc
              simp only [Bool.and_eq_true] at hc
              cases hR
              have hop' : o.op = .call { callee := .value y, args := cl.args, argTypes := cl.argTypes } := by
                rw [hop]
                obtain ⟨a, b, d⟩ := cl
                simp only at hce
                rw [hce]
              refine g_callV hN hop' hf hname.1 hname.2 hfn (fvA_ok hfv) hargs eh.symm hc.2.1 (noBack_ok hc.1) hx' ?_
              simp only [Bool.and_eq_true]
              exact hc.2.2
            · cases hR
          · cases hR
        · cases e
      · cases e
    · cases e
end
/-! ### walks whose end is known beforehand -/
/-- For whom a U walks: P, N; its ends may differ from world to world. -/
def U (P : Program) (N : Nat) (x : Code) (R : Exit → St → Prop) (s : St) : Prop := ∀ κ w0 S, W ⟨P, N, κ, w0, S⟩ x R s
section
variable {P : Program} {N : Nat} {s : St} {R : Exit → St → Prop} {τ : Ty} {id : Nat} {ops : Array Oper} {draw : Bool}
theorem U.ofX {x : Code} (h : X P N x R s) : U P N x R s := fun κ w0 S hs a w hr => by
  obtain ⟨e, s', hk', hr', hw⟩ := h hs
  exact wp_mono (hw κ w0 S hs a w hr) fun e1 a' w' ⟨s1, q1, ⟨q2, q3⟩, q4⟩ => ⟨s1, q1, by rw [q2, q3]; exact hr', q4⟩
theorem U.mono {x : Code} {R' : Exit → St → Prop} (h : U P N x R s) (hq : ∀ e s, R e s → R' e s) : U P N x R' s := fun κ w0 S => W.mono (h κ w0 S) hq
theorem U.seq {x y : Code} (h : U P N x (thn (U P N y R) R) s) : U P N (.seq x y) R s := fun κ w0 S => W.seq (W.mono (h κ w0 S) fun e s hr => by
  cases e <;> first | exact hr | exact hr κ w0 S)
theorem U.block {x : Code} (h : U P N x (inB id R) s) : U P N (.block id x) R s := fun κ w0 S => W.block (h κ w0 S)
theorem U.skip (h : R .normal s) : U P N .skip R s := fun _ _ _ => W.skip h
theorem U.exit {i : Nat} (h : R (.exit i) s) : U P N (.exit i) R s := fun _ _ _ => W.exit h
theorem U.ret (h : R .ret s) : U P N .ret R s := fun _ _ _ => W.ret h
theorem U.cond {o : Operand} {b : Bool} {x y : Code} (hb : (evO s.tm o).bind sc = some (.bool b)) (h : U P N (if b then x else y) R s) : U P N (.cond o x y) R s := fun κ w0 S => W.cond hb (h κ w0 S)
theorem U.if_ {o : Operand} {b : Bool} {x y : Code} (hb : (evO s.tm o).bind sc = some (.bool b)) (h1 : b = true → U P N x R s) (h2 : b = false → U P N y R s) : U P N (.cond o x y) R s := by
  refine U.cond hb ?_
  cases b with
  | true => exact h1 rfl
  | false => exact h2 rfl
theorem U.ifT {o : Operand} {x y : Code} (hb : (evO s.tm o).bind sc = some (.bool true)) (h : U P N x R s) : U P N (.cond o x y) R s := U.cond hb h
theorem U.ifF {o : Operand} {x y : Code} (hb : (evO s.tm o).bind sc = some (.bool false)) (h : U P N y R s) : U P N (.cond o x y) R s := U.cond hb h
theorem U.ifN {o : Operand} {p q : Prop} {x y : Code} (hb : evO s.tm o = some (.bo p q)) (h1 : p → U P N x R s) (h2 : q → U P N y R s) : U P N (.cond o x y) R s := fun κ w0 S hs a w hr => by
  obtain ⟨ι, hr0⟩ := hr
  obtain ⟨b, e, hp, hq⟩ := evO_ok hr0 hb
  cases b with
  | true => exact wp_cond e (h1 (hp rfl) κ w0 S hs a w ⟨ι, hr0⟩)
  | false => exact wp_cond e (h2 (hq rfl) κ w0 S hs a w ⟨ι, hr0⟩)
theorem U.weak {x : Code} {s' : St} (h : Wk s s') (k : U P N x R s') : U P N x R s := fun κ w0 S => W.weak h (k κ w0 S)
theorem U.loop {σ : Type} (I : σ → St) (μ : σ → Nat) (g0 : σ) (h0 : Wk s (I g0)) {x : Code} (h : ∀ g, U P N x (thn (fun s' => ∃ g', μ g' < μ g ∧ Wk s' (I g')) R) (I g)) : U P N (.loop x) R s := fun κ w0 S => W.loop I μ g0 h0 fun g => h g κ w0 S
theorem U.rk (s1 : St) (hτ : Tys P τ) (hm : P.follows .mixedOrders = true) (e : regB τ N s ops draw = true) (h : lessL (nxt s ops.size (run τ N ops ops.size (st0 s ops))) s1 = lessR s1) {s2 : St} (h2 : s1 = s2) (k : R .normal s2) : U P N (.region id ops draw) R s :=
  U.ofX (X.rk s1 hτ hm e h h2 k)
theorem U.rs (n : Nat) (hτ : Tys P τ) (hm : P.follows .mixedOrders = true) (e : Nat.ble 64 s.nx = true) (k : CH (c0 P N) ops (fun rs s' => (draw = true → drOk ops rs = true) ∧ ∃ s1, lessL ⟨s'.T, s'.H, s.nx + 16 * ops.size⟩ s1 = lessR s1 ∧ R .normal s1) (run τ N ops n (st0 s ops))) : U P N (.region id ops draw) R s :=
  U.ofX (X.rs n hτ hm e k)
/-- A FUNCTION'S BODY, what it hands back known beforehand. -/
theorem Fn.bodyU {f : FuncId} {fn : Func} {code : Code} (hτ : Tys P τ) {args : List AV} {h0 h1 : List (Nat × Option Blk)} {x : AV} (hf : P.funcs[f]? = some fn) (hc : fn.body = some code) (hN : fn.ntmps = N) (hna : Nat.ble args.length N = true) (hok : okB ⟨numL 0 args, h0, 64⟩ 64 = true)
    (h : U P N code (fun e s' => fin_ e ∧ RetW τ fn.results.toList s' x h1) ⟨numL 0 args, h0, 64⟩) : Fn P f args (lookH h0) x (lookH h1) := by
  refine Fn.body hτ hf hc hN hna hok fun κ w0 S hs a w hr => ?_
  refine wp_mono (h κ w0 S hs a w hr) fun e1 a' w' ⟨s1, q1, ⟨q2, q3⟩, q4⟩ => ?_
  rcases q3 with q3 | ⟨s2, hwk, q3⟩
  · exact ⟨s1, q1, ⟨q2, q3⟩, q4⟩
  · exact ⟨s2, hwk.okB, ⟨q2, q3⟩, (hwk.rel q4).1⟩
end
end Go.Proofs.Ytggmeldoecnkaaa.Av
