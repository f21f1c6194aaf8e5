/-
Steps of a walk: append, a call; the body of a function as a whole.
Conditions: none beside those that each theorem names.
-/
import Derived.Test.YtggmeldoecnkaaaAv18
set_option linter.unusedVariables false
set_option linter.unusedSimpArgs false
namespace Go.Proofs.Ytggmeldoecnkaaa.Av
open Go.RowKit Go.Proofs.YtggmeldoecnkaaaW.PrintLast

/-- Where append goes: the block's name, its cells, the element's type, the rows, the flag. -/
def baseO (H : Hp) (j : TI) (el : Nat) : Cell → Option (Option Nat × List (List D) × Bool)
  | .nil => some (none, [], true)
  | .ref b => match H b with
    | some (.row wd ty rows false nf) => match Nat.beq wd j.sz && Nat.beq ty el with
      | true => some (some b, rows, nf)
      | false => none
    | _ => none
  | _ => none
def appA (τ : Ty) (T : Tm) (H : Hp) (o : Op) : Option (List (List D) × List (List D) × Nat × Nat) := match o with
  | .call c => match c.callee, c.args.toList, c.argTypes.toList with
    | .builtin .append, [s, x], [t, u] => match τ t, Nat.beq t u, evO T s, evO T x with
      | some i, true, some (.e (.c c)), some (.e (.c c2)) => match τ i.el with
        | some j => match baseO H j i.el c, toD H c2 with
          | some (_, rows, _), some (.sl rows2) => some (rows, rows2, j.sz, j.bys)
          | _, _ => none
        | none => none
      | _, _, _, _ => none
    | _, _, _ => none
  | _ => none
def appR (τ : Ty) (T : Tm) (H : Hp) (id : Nat) (fl : Bool) (o : Op) : Option Rec := match o with
  | .call c => match c.callee, c.args.toList, c.argTypes.toList with
    | .builtin .append, [s, x], [t, u] => match τ t, Nat.beq t u, evO T s, evO T x with
      | some i, true, some (.e (.c c)), some (.e (.c c2)) => match τ i.el with
        | some j => match baseO H j i.el c, toD H c2 with
          | some (bo, rows, nf), some (.sl rows2) => match Nat.beq i.kd 1 && (!(idO bo).contains id && (Nat.ble 1 j.bys && Nat.beq j.zero.length j.sz)) with
            | true => some ⟨.e (.c (.ref id)), (id, some (.row j.sz i.el (rows ++ rows2) false (nf && (frC H c2 || fl)))) :: gone bo, idO bo ++ c2.ids, [id]⟩
            | false => none
          | _, _ => none
        | none => none
      | _, _, _, _ => none
    | _, _, _ => none
  | _ => none
theorem call_eq {c : Call} {ce : Callee} {as : List Operand} {ts : List TypeId} (h1 : c.callee = ce) (h2 : c.args.toList = as) (h3 : c.argTypes.toList = ts) : c = { callee := ce, args := as.toArray, argTypes := ts.toArray } := by
  obtain ⟨a, b, d⟩ := c
  simp only at h1 h2 h3
  subst h1 h2 h3
  simp
section
variable {c : Cn} {ops : Array Oper} {K : List (Oper × Rec) → St → Prop} {m : Cf} {τ : Ty}
theorem baseO_ok {H : Hp} {j : TI} {el : Nat} {x : Cell} {bo : Option Nat} {rows : List (List D)} {nf : Bool} (h : baseO H j el x = some (bo, rows, nf)) : Base H x bo j.sz el rows nf := by
  unfold baseO at h
  split at h
  · cases h; exact .nil _ _
  · rename_i b
    split at h
    · rename_i wd ty rows' nf' hb
      split at h
      · rename_i hc
        simp only [Bool.and_eq_true] at hc
        cases h
        obtain rfl := Nat.eq_of_beq_eq_true hc.1
        obtain rfl := Nat.eq_of_beq_eq_true hc.2
        exact .ref b _ _ _ _ hb
      · cases h
    · cases h
  · cases h
theorem CH.app (hτ : Tys c.P τ) {rows rows2 : List (List D)} {sz bys : Nat} (fl : Bool) (h64 : Nat.ble 64 m.s.nx = true) (e : ((hdO c.N ops m).bind fun o => appA τ m.s.tm m.s.hp o.op) = some (rows, rows2, sz, bys)) (hfl : fl = true → Flat rows2) (hw : ∀ r, r ∈ rows2 → r.length = sz) (hbd : (rows.length + rows2.length) * bys ≤ 140737488355328)
    (hb : okR m ((hdO c.N ops m).bind fun o => appR τ m.s.tm m.s.hp m.id fl o.op) = true) (k : CH c ops K (advO ((hdO c.N ops m).bind fun o => appR τ m.s.tm m.s.hp m.id fl o.op) m)) : CH c ops K m := by
  obtain ⟨o, ho, e⟩ := Option.bind_eq_some_iff.1 e
  rw [ho] at hb k
  simp only [Option.bind_some] at hb k
  cases hR : appR τ m.s.tm m.s.hp m.id fl o.op with
  | none => rw [hR] at hb; cases hb
  | some R =>
    refine CH.use h64 ho hR (fun hN => ?_) hb k
    generalize hop : o.op = op at e hR
    unfold appA at e
    split at e
    · rename_i cl
      split at e
      · rename_i s x t u q1 q2 q3
        split at e
        · rename_i i c1 c2 p1 p2 p3 p4
          split at e
          · rename_i j hj
            split at e
            · rename_i bo rows' nf rows2' b1 b2
              cases e
              obtain rfl := Nat.eq_of_beq_eq_true p2
              have hcl := call_eq q1 q2 q3
              unfold appR at hR
              simp only [q1, q2, q3, p1, p2, p3, p4, hj, b1, b2] at hR
              split at hR
              · rename_i hc
                simp only [Bool.and_eq_true, Bool.not_eq_true'] at hc
                cases hR
                rw [hcl] at hop
                exact g_app hN hop (hτ t i p1) hc.1 (hτ _ j hj) p3 (baseO_ok b1) (by simp) (by simp) p4 b2 (fun h => by
                  simp only [Bool.or_eq_true] at h
                  exact h.imp (fun h => h) hfl) hc.2.1 hw hbd hc.2.2.1 hc.2.2.2
              · cases hR
            · cases e
          · cases e
        · cases e
      · cases e
    · cases e
/-! ### a call -/
def mkR (id : Nat) : Nat → List (Nat × Option Blk) → List (Nat × Nat)
  | _, [] => []
  | j, (b, _) :: l => match Nat.ble 64 b with
    | true => (id + j, b) :: mkR id (j + 1) l
    | false => mkR id j l
/-- Is no slice handed back in place? -/
def noBack (H : Hp) (m0 : List (Nat × Nat)) (h1 : List (Nat × Option Blk)) : Bool := m0.all fun p => match H p.1, lookH h1 p.2 with
  | some (.row _ _ _ _ _), some (.row _ _ _ _ _) => false
  | some (.nst _ _ _ _ _), some (.nst _ _ _ _ _) => false
  | _, _ => true
theorem noBack_ok {H : Hp} {m0 : List (Nat × Nat)} {h1 : List (Nat × Option Blk)} (h : noBack H m0 h1 = true) : BackOk H m0 h1 := ⟨(fun p hp wd e rows nf wd1 e1 rows1 q1 q2 => by
  have := List.all_eq_true.1 h p hp
  simp only [q1, q2] at this
  cases this), fun p hp wd e co rows wd1 e1 co1 rows1 q1 q2 => by
  have := List.all_eq_true.1 h p hp
  simp only [q1, q2] at this
  cases this⟩
def callR (nb : Bool) (T : Tm) (H : Hp) (id : Nat) (m0 : List (Nat × Nat)) (x : AV) (h1 : List (Nat × Option Blk)) (o : Op) : Option Rec := match o with
  | .call cl => match cl.callee with
    | .value (.func _) => match impA (sw (mkR id 0 h1)) x with
      | some x' => match (nb || noBack H m0 h1) && (boxOk H m0 && (nodupB (m0.map (·.1)) && (nodupB (m0.map (·.2)) && (nodupB ((mkR id 0 h1).map (·.1)) && (nodupB ((mkR id 0 h1).map (·.2)) && ((m0.all fun p => Nat.blt p.2 64) && (((mkR id 0 h1).all fun p => Nat.ble 64 p.2) && ((mkR id 0 h1).all fun p => m0.all fun q => !Nat.beq q.1 p.1)))))))) with
        | true => some ⟨x', hsOf H m0 (mkR id 0 h1) h1, rdC H m0 T cl.args.toList, (mkR id 0 h1).map (·.1)⟩
        | false => none
      | none => none
    | _ => none
  | _ => none
def callA (T : Tm) (H : Hp) (m0 : List (Nat × Nat)) (o : Op) : Option (Nat × List AV) := match o with
  | .call cl => match cl.callee with
    | .value (.func f) => match vwL H m0 T cl.args.toList with
      | some as => some (f, as)
      | none => none
    | _ => none
  | _ => none
def handed (H : Hp) (m0 : List (Nat × Nat)) : List (Nat × Option Blk) := m0.map fun p => (p.2, vwB H p)
theorem CH.callG {f : FuncId} {args : List AV} {h0 h1 : List (Nat × Option Blk)} {x : AV} {fn : Func} (hfn : Fn c.P f args (lookH h0) x (lookH h1)) (hf : c.P.funcs[f]? = some fn) (hname : ((fn.name == "runtime.NumGoroutine") = false) ∧ fn.body.isSome = true) (m0 : List (Nat × Nat)) (h64 : Nat.ble 64 m.s.nx = true)
    (e : ((hdO c.N ops m).bind fun o => callA m.s.tm m.s.hp m0 o.op) = some (f, args)) (eh : handed m.s.hp m0 = h0) {nb : Bool} (hrb : nb = true → BackOk m.s.hp m0 h1) (hb : okR m ((hdO c.N ops m).bind fun o => callR nb m.s.tm m.s.hp m.id m0 x h1 o.op) = true)
    (k : CH c ops K (advO ((hdO c.N ops m).bind fun o => callR nb m.s.tm m.s.hp m.id m0 x h1 o.op) m)) : CH c ops K m := by
  obtain ⟨o, ho, e⟩ := Option.bind_eq_some_iff.1 e
  rw [ho] at hb k
  simp only [Option.bind_some] at hb k
  cases hR : callR nb m.s.tm m.s.hp m.id m0 x h1 o.op with
  | none => rw [hR] at hb; cases hb
  | some R =>
    refine CH.use h64 ho hR (fun hN => ?_) hb k
    generalize hop : o.op = op at e hR
    unfold callA at e
    split at e
    · rename_i cl
      split at e
      · rename_i f' hce
        split at e
        · rename_i as hargs
          cases e
          unfold callR at hR
          simp only [hce] at hR
          split at hR
          · rename_i x' hx'
            split at hR
            · rename_i hc
              simp only [Bool.and_eq_true] at hc
              cases hR
              have hop' : o.op = .call { callee := .value (.func f), args := cl.args, argTypes := cl.argTypes } := by
                rw [hop]
                obtain ⟨a, b, d⟩ := cl
                simp only at hce
                rw [hce]
              refine g_call hN hop' hf hname.1 hname.2 hfn hargs eh.symm (by simp only [Bool.and_eq_true]; exact ⟨rfl, hc.2.1⟩) (by cases nb with | true => exact hrb rfl | false => exact noBack_ok (by simpa using hc.1)) hx' ?_
              simp only [Bool.and_eq_true]
              exact hc.2.2
            · cases hR
          · cases hR
        · cases e
      · cases e
    · cases e
theorem CH.call {f : FuncId} {args : List AV} {h0 h1 : List (Nat × Option Blk)} {x : AV} {fn : Func} (hfn : Fn c.P f args (lookH h0) x (lookH h1)) (hf : c.P.funcs[f]? = some fn) (hname : ((fn.name == "runtime.NumGoroutine") = false) ∧ fn.body.isSome = true) (m0 : List (Nat × Nat)) (h64 : Nat.ble 64 m.s.nx = true)
    (e : ((hdO c.N ops m).bind fun o => callA m.s.tm m.s.hp m0 o.op) = some (f, args)) (eh : handed m.s.hp m0 = h0) (hb : okR m ((hdO c.N ops m).bind fun o => callR false m.s.tm m.s.hp m.id m0 x h1 o.op) = true)
    (k : CH c ops K (advO ((hdO c.N ops m).bind fun o => callR false m.s.tm m.s.hp m.id m0 x h1 o.op) m)) : CH c ops K m :=
  CH.callG hfn hf hname m0 h64 e eh (nb := false) (fun h => by cases h) hb k
/-- One slice is handed back in place. -/
theorem CH.callB {f : FuncId} {args : List AV} {h0 h1 : List (Nat × Option Blk)} {x : AV} {fn : Func} (hfn : Fn c.P f args (lookH h0) x (lookH h1)) (hf : c.P.funcs[f]? = some fn) (hname : ((fn.name == "runtime.NumGoroutine") = false) ∧ fn.body.isSome = true) (b wd e0 : Nat) (rows : List (List D)) (nf : Bool) (e1 : Nat) (rows1 : List (List D)) (h64 : Nat.ble 64 m.s.nx = true)
    (e : ((hdO c.N ops m).bind fun o => callA m.s.tm m.s.hp [(b, 0)] o.op) = some (f, args)) (eh : handed m.s.hp [(b, 0)] = h0) (eB : m.s.hp b = some (.row wd e0 rows false nf)) (e1' : lookH h1 0 = some (.row wd e1 rows1 false true)) (hl : rows1.length = rows.length)
    (hb : okR m ((hdO c.N ops m).bind fun o => callR true m.s.tm m.s.hp m.id [(b, 0)] x h1 o.op) = true)
    (k : CH c ops K (advO ((hdO c.N ops m).bind fun o => callR true m.s.tm m.s.hp m.id [(b, 0)] x h1 o.op) m)) : CH c ops K m :=
  CH.callG hfn hf hname [(b, 0)] h64 e eh (nb := true) (fun _ => ⟨fun p hp wd' e' rows' nf' wd1 e1 rows1' q1 q2 => by
    rcases List.mem_singleton.1 hp with rfl
    rw [eB] at q1
    rw [e1'] at q2
    cases q1
    cases q2
    exact ⟨rfl, hl⟩, fun p hp wd' e' co' rows' wd1 e1 co1 rows1' q1 q2 => by
    rcases List.mem_singleton.1 hp with rfl
    rw [eB] at q1
    cases q1⟩) hb k
end
/-! ### the body -/
def numL : Nat → List AV → List (Nat × AV)
  | _, [] => []
  | k, a :: l => (k, a) :: numL (k + 1) l
theorem numL_look : ∀ {l : List AV} {k t : Nat} {x : AV}, look (numL k l) t = some x → k ≤ t ∧ l[t - k]? = some x
  | a :: l, k, t, x, h => by
    simp only [numL, look] at h
    split at h
    · rename_i hb
      cases h
      obtain rfl := Nat.eq_of_beq_eq_true hb
      exact ⟨Nat.le_refl _, by simp⟩
    · rename_i hb
      obtain ⟨h1, h2⟩ := numL_look h
      refine ⟨by omega, ?_⟩
      rw [show t - k = (t - (k + 1)) + 1 by omega]
      simpa using h2
/-- What is handed back. -/
structure Ret (τ : Ty) (rv : List ResultVar) (s : St) (x : AV) (h1 : List (Nat × Option Blk)) : Prop where
  ex : ∃ ρ, retX τ s.tm s.hp rv = some (x.mp (rn ρ)) ∧ (h1.map fun p => s.hp (rn ρ p.1)) = (h1.map fun p => p.2.map (Blk.mp (rn ρ))) ∧ nodupB (h1.map fun p => rn ρ p.1) = true ∧ (ρ.all fun p => Nat.ble 64 p.1) = true
theorem Ret.mk' {τ : Ty} {rv : List ResultVar} {s : St} {x : AV} {h1 : List (Nat × Option Blk)} (ρ : List (Nat × Nat)) (e : retX τ s.tm s.hp rv = some (x.mp (rn ρ))) (e2 : (h1.map fun p => s.hp (rn ρ p.1)) = (h1.map fun p => p.2.map (Blk.mp (rn ρ))))
    (e3 : (nodupB (h1.map fun p => rn ρ p.1) && (ρ.all fun p => Nat.ble 64 p.1)) = true) : Ret τ rv s x h1 := by
  simp only [Bool.and_eq_true] at e3
  exact ⟨ρ, e, e2, e3.1, e3.2⟩
theorem nd_inj {ρ : List (Nat × Nat)} {b b' : Nat} {B B' : Option Blk} : ∀ {l : List (Nat × Option Blk)}, (l.map fun p => rn ρ p.1).Nodup → (b, B) ∈ l → (b', B') ∈ l → rn ρ b = rn ρ b' → b = b'
  | p :: l, hn, m1, m2, he => by
    simp only [List.map_cons, List.nodup_cons] at hn
    rcases List.mem_cons.1 m1 with q1 | q1 <;> rcases List.mem_cons.1 m2 with q2 | q2
    · rw [← q1] at q2; cases q2; rfl
    · rw [← q1] at hn
      exact absurd (List.mem_map.2 ⟨_, q2, he.symm⟩) hn.1
    · rw [← q2] at hn
      exact absurd (List.mem_map.2 ⟨_, q1, he⟩) hn.1
    · exact nd_inj hn.2 q1 q2 he
def fin_ : Exit → Prop
  | .normal => True
  | .ret => True
  | _ => False
theorem Fn.body {P : Program} {f : FuncId} {fn : Func} {code : Code} {τ : Ty} (hτ : Tys P τ) {args : List AV} {h0 h1 : List (Nat × Option Blk)} {x : AV} {N : Nat} (hf : P.funcs[f]? = some fn) (hc : fn.body = some code) (hN : fn.ntmps = N) (hna : Nat.ble args.length N = true) (hok : okB ⟨numL 0 args, h0, 64⟩ 64 = true)
    (h : ∀ κ w0 S, W ⟨P, N, κ, w0, S⟩ code (fun e s' => fin_ e ∧ Ret τ fn.results.toList s' x h1) ⟨numL 0 args, h0, 64⟩) : Fn P f args (lookH h0) x (lookH h1) := by
  intro κ fr w ι vs hfr hbr hinj hsz hargs
  refine calls_of_wp hf hc ?_
  have hle := Nat.le_of_ble_eq_true hna
  have hrel : Rel N κ w ⟨OwnN ι (lookH h0), ι, fr⟩ ι (look (numL 0 args)) (lookH h0) { tmps := vs ++ Array.replicate (fn.ntmps - vs.size) undef, defers := [] } w := by
    refine ⟨Kept.refl _ _, hfr, hbr, hinj, fun b B x k h1 h2 h3 => .inr ⟨b, B, x, h1, h2, h3⟩, by simp; omega, rfl, fun _ _ => rfl, fun t y ht => ?_⟩
    obtain ⟨_, h2⟩ := numL_look ht
    obtain ⟨v, hv, hvr⟩ := hargs t y (by simpa using h2)
    have : (vs ++ Array.replicate (fn.ntmps - vs.size) undef).getD t undef = v := by
      have hlt := (Array.getElem?_eq_some_iff.1 hv).1
      rw [Array.getD_eq_getD_getElem?, Array.getElem?_append_left hlt, hv]
      rfl
    rw [this]
    exact hvr
  refine wp_mono (h κ w _ hok _ w ⟨ι, hrel⟩) fun e a' w' ⟨s', _, ⟨hfin, hret⟩, ι'', hr'⟩ => ?_
  obtain ⟨ρ, r1, r3, r4, r5⟩ := hret.ex
  obtain ⟨v, hrun, hv⟩ := run_resultsX hτ hr' r1
  have h64 : ∀ b, b < 64 → rn ρ b = b := fun b hb => by
    unfold rn
    cases hl : look ρ b with
    | none => rfl
    | some q =>
      have := Nat.le_of_ble_eq_true (List.all_eq_true.1 r5 _ (look_mem hl))
      omega
  have hP : Pulls (rn ρ) s'.hp (lookH h1) := fun b B hB => map_eq_mem r3 (b, some B) (lookH_mem hB)
  have hpost : (a'.defers = [] ∧ ∃ v, (results fn a'.tmps).run P w' = .ok v w' ∧ ∃ v_1 ι', Ending.returned v = .returned v_1 ∧ Kept (OwnN ι (lookH h0)) w w' ∧ (∀ b B, lookH h1 b = some B → BR ⟨κ, fr⟩ ι' (lookH h1) w' (ι' b) B) ∧
      InjN ι' (lookH h1) ∧ (∀ k, OwnN ι' (lookH h1) k → w.heap.size ≤ k ∨ OwnN ι (lookH h0) k) ∧
      (∀ b, b < 64 → key (ι' b) = key (ι b)) ∧ VR ⟨κ, fr⟩ ι' (lookH h1) w' x v_1) := by
    refine ⟨hr'.dfr, v, hrun, v, fun b => ι'' (rn ρ b), rfl, hr'.kept, fun b B hB => BR.pull hP (hr'.blk _ _ (hP b B hB)), fun b b' B B' x x' k e1 e2 e3 e4 o1 o2 => ?_, fun k ⟨b, B, x, e1, e2, e3⟩ => hr'.ownO _ _ x k (hP b B e1) e2 (Owns.mp.2 e3), fun b hb => (congrArg (fun b => key (ι'' b)) (h64 b hb)).trans (hr'.io b hb), ?_⟩
    · have he := hr'.injO _ _ _ _ x x' k (hP b B e1) (hP b' B' e2) e3 e4 (Owns.mp.2 o1) (Owns.mp.2 o2)
      exact nd_inj (nodupB_ok r4) (lookH_mem e1) (lookH_mem e2) he
    · exact VR.pull hP hv
  cases e with
  | normal => exact hpost
  | ret => exact hpost
  | exit id => exact hfin.elim
  | goto l => exact hfin.elim
  | panic ch => exact hfin.elim
  | outgrown => exact hfin.elim
/-! ### short words -/
section
variable {c : Cn} {τ : Ty} {s : St} {Q : Exit → St → Prop} {id : Nat} {ops : Array Oper} {draw : Bool}
def st0 (s : St) (ops : Array Oper) : Cf := ⟨0, ops.toList, s, []⟩
def nxt (s : St) (n : Nat) (m : Cf) : St := ⟨m.s.T, m.s.H, s.nx + 16 * n⟩
/-- A region that needs no word of ours. -/
theorem W.reg (hτ : Tys c.P τ) (hm : c.P.follows .mixedOrders = true) (e : (Nat.ble 64 s.nx && ((run τ c.N ops ops.size (st0 s ops)).l.isEmpty && (!draw || drOk ops (run τ c.N ops ops.size (st0 s ops)).rs.reverse))) = true)
    (k : Q .normal (nxt s ops.size (run τ c.N ops ops.size (st0 s ops)))) : W c (.region id ops draw) Q s := by
  simp only [Bool.and_eq_true] at e
  refine W.region hm e.1 (CH.run hτ (Nat.le_of_ble_eq_true e.1) ops.size (CH.done e.2.1 ⟨fun hd => ?_, k⟩))
  have := e.2.2
  rw [hd] at this
  have h2 : drOk ops (run τ c.N ops ops.size (st0 s ops)).rs.reverse = true := by simpa using this
  exact h2
/-- .. and one that does: as far as it goes by itself. -/
theorem W.regs (hτ : Tys c.P τ) (hm : c.P.follows .mixedOrders = true) (e : Nat.ble 64 s.nx = true) (k : CH c ops (fun rs s' => (draw = true → drOk ops rs = true) ∧ Q .normal ⟨s'.T, s'.H, s.nx + 16 * ops.size⟩) (run τ c.N ops ops.size (st0 s ops))) : W c (.region id ops draw) Q s :=
  W.region hm e (CH.run hτ (Nat.le_of_ble_eq_true e) ops.size k)
theorem CH.on {K : List (Oper × Rec) → St → Prop} {m : Cf} (hτ : Tys c.P τ) (e : Nat.ble 64 m.s.nx = true) (k : CH c ops K (Av.run τ c.N ops ops.size m)) : CH c ops K m := CH.run hτ (Nat.le_of_ble_eq_true e) ops.size k
theorem CH.end_ {m : Cf} (e : (m.l.isEmpty && (!draw || drOk ops m.rs.reverse)) = true) (k : Q .normal (nxt s ops.size m)) : CH c ops (fun rs s' => (draw = true → drOk ops rs = true) ∧ Q .normal ⟨s'.T, s'.H, s.nx + 16 * ops.size⟩) m := by
  simp only [Bool.and_eq_true] at e
  refine CH.done e.1 ⟨fun hd => ?_, k⟩
  have := e.2
  rw [hd] at this
  simpa using this
end
end Go.Proofs.Ytggmeldoecnkaaa.Av
