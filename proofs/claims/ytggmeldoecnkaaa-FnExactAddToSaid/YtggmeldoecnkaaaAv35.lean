/-
Rows whose inner slices are their own: the steps of a walk.
Conditions: none beside those that each theorem names.
-/
import Derived.Test.YtggmeldoecnkaaaAv34
set_option linter.unusedVariables false
set_option linter.unusedSimpArgs false
namespace Go.Proofs.Ytggmeldoecnkaaa.Av
open Go.RowKit

section
variable {c : Cn} {ops : Array Oper} {K : List (Oper × Rec) → St → Prop} {m : Cf} {τ : Ty}
def ldnA (T : Tm) (H : Hp) : Op → Option (List (List D) × Nat × Nat × List (Nat × Nat × Nat))
  | .load _ x => match evO T x with
    | some (.pt b n p) => match H b with
      | some (.nst _ _ _ rows op) => some (rows, n, p, op)
      | _ => none
    | _ => none
  | _ => none
def ldnR (τ : Ty) (T : Tm) (H : Hp) (id : Nat) (d : D) : Op → Option Rec
  | .load t x => match τ t, evO T x with
    | some i, some (.pt b n p) => match aggB i, H b with
      | false, some (.nst wd e co rows op) => match holeJ op p with
        | some r => some ⟨.e (.c (.ref r)), [], [b], []⟩
        | none => match d with
          | .v v => some ⟨.e (.c (.d (.v v))), [], [b], []⟩
          | .sl q => match lk co p with
            | some (wd', ty) => match Nat.blt 0 wd' && !(Nat.beq b id) with
              | true => some ⟨.e (.c (.ref id)), [(b, some (.nst wd e co rows ((n, p, id) :: op))), (id, some (.row wd' ty q false true))], [b], [id]⟩
              | false => none
            | none => none
      | _, _ => none
    | _, _ => none
  | _ => none
/-- A load out of a nest: r is the element, d the cell. -/
theorem CH.ldN (hτ : Tys c.P τ) {rows : List (List D)} {n p : Nat} {op : List (Nat × Nat × Nat)} (r : List D) (d : D) (h64 : Nat.ble 64 m.s.nx = true) (e : ((hdO c.N ops m).bind fun o => ldnA m.s.tm m.s.hp o.op) = some (rows, n, p, op)) (hr : rows[n]? = some r) (hd : r[p]? = some d) (hop : AllAt n op)
    (hb : okR m ((hdO c.N ops m).bind fun o => ldnR τ m.s.tm m.s.hp m.id d o.op) = true) (k : CH c ops K (advO ((hdO c.N ops m).bind fun o => ldnR τ m.s.tm m.s.hp m.id d o.op) m)) : CH c ops K m := by
  obtain ⟨o, ho, e⟩ := Option.bind_eq_some_iff.1 e
  rw [ho] at hb k
  simp only [Option.bind_some] at hb k
  cases hR : ldnR τ m.s.tm m.s.hp m.id d o.op with
  | none => rw [hR] at hb; cases hb
  | some R =>
    refine CH.use h64 ho hR (fun hN => ?_) hb k
    generalize hop' : o.op = op' at e hR
    cases op' with
    | load t x =>
      simp only [ldnA] at e
      simp only [ldnR] at hR
      cases hi : τ t with
      | none => simp [hi] at hR
      | some i =>
        rw [hi] at hR
        cases hx : evO m.s.tm x with
        | none => rw [hx] at e; cases e
        | some y =>
          rw [hx] at e hR
          cases y with
          | pt b n' p' =>
            simp only at e hR
            cases hB : m.s.hp b with
            | none => rw [hB] at e; cases e
            | some B =>
              rw [hB] at e hR
              cases B with
              | nst wd e' co rows' op2 =>
                simp only at e hR
                cases e
                cases hag : aggB i with
                | true => rw [hag] at hR; cases hR
                | false =>
                  rw [hag] at hR
                  simp only at hR
                  cases hh : holeJ op p with
                  | some r' =>
                    rw [hh] at hR
                    cases hR
                    exact g_ld_n hN hop' hx hB (hτ t i hi) hag hr hd (.inl ⟨r', (holeJ_eq hop).trans hh, rfl⟩)
                  | none =>
                    rw [hh] at hR
                    cases d with
                    | v v =>
                      cases hR
                      exact g_ld_n hN hop' hx hB (hτ t i hi) hag hr hd (.inr ⟨(holeJ_eq hop).trans hh, v, rfl, rfl⟩)
                    | sl q =>
                      simp only at hR
                      cases hl : lk co p with
                      | none => rw [hl] at hR; cases hR
                      | some z =>
                        obtain ⟨wd', ty⟩ := z
                        rw [hl] at hR
                        simp only at hR
                        split at hR
                        · rename_i hc
                          cases hR
                          simp only [Bool.and_eq_true, Nat.blt_eq, Bool.not_eq_true'] at hc
                          exact g_ld_foc hN hop' hx hB (hτ t i hi) hag hr hd ((holeJ_eq hop).trans hh) hl hc.1 (fun e => by rw [e, Nat.beq_refl] at hc; cases hc.2)
                        · cases hR
              | box cs => cases e
              | row wd e' rows' f nf => cases e
          | e x => cases e
          | ip r' o' => cases e
          | tup xs => cases e
          | fv f b => cases e
          | bo p' q => cases e
          | un => cases e
    | _ => cases e
def stnA (T : Tm) (H : Hp) : Op → Option (List (List D) × Nat × Nat × Nat × List (Nat × Nat × Nat) × List (Nat × Nat × List (List D)))
  | .store _ x y => match evO T x, evO T y with
    | some (.pt b n p), some (.e ex) => match H b with
      | some (.nst _ _ co rows op) => match nCs H co p (cellsOf ex) with
        | some (ds, L) => some (rows, n, p, ds.length, op, L)
        | none => none
      | _ => none
    | _, _ => none
  | _ => none
def stnR (τ : Ty) (T : Tm) (H : Hp) (r : List D) : Op → Option Rec
  | .store t x y => match τ t, evO T x, evO T y with
    | some i, some (.pt b n p), some (.e ex) => match H b with
      | some (.nst wd e co rows _) => match nCs H co p (cellsOf ex) with
        | some (ds, L) => match (cellsOf ex).all (liveC H) && (Nat.beq ds.length i.sz && (Nat.ble (p + ds.length) wd && nodupB (L.map (·.2.1)))) with
          | true => some ⟨.un, (b, some (.nst wd e co (rows.set n (splice r p ds)) [])) :: noneL L, b :: refsOf ex, []⟩
          | false => none
        | none => none
      | _ => none
    | _, _, _ => none
  | _ => none
/-- A store into a nest. -/
theorem CH.stN (hτ : Tys c.P τ) {rows : List (List D)} {n p len : Nat} {op : List (Nat × Nat × Nat)} {L : List (Nat × Nat × List (List D))} (r : List D) (h64 : Nat.ble 64 m.s.nx = true) (e : ((hdO c.N ops m).bind fun o => stnA m.s.tm m.s.hp o.op) = some (rows, n, p, len, op, L)) (hr : rows[n]? = some r) (hop : AllIn n p len op) (hfl : FlatL L)
    (hb : okR m ((hdO c.N ops m).bind fun o => stnR τ m.s.tm m.s.hp r o.op) = true) (k : CH c ops K (advO ((hdO c.N ops m).bind fun o => stnR τ m.s.tm m.s.hp r o.op) m)) : CH c ops K m := by
  obtain ⟨o, ho, e⟩ := Option.bind_eq_some_iff.1 e
  rw [ho] at hb k
  simp only [Option.bind_some] at hb k
  cases hR : stnR τ m.s.tm m.s.hp r o.op with
  | none => rw [hR] at hb; cases hb
  | some R =>
    refine CH.use h64 ho hR (fun hN => ?_) hb k
    generalize hop' : o.op = op' at e hR
    cases op' with
    | store t x y =>
      simp only [stnA] at e
      simp only [stnR] at hR
      cases hi : τ t with
      | none => simp [hi] at hR
      | some i =>
        rw [hi] at hR
        split at e
        · rename_i b n' p' ex hx hy
          rw [hx, hy] at hR
          simp only at hR
          split at e
          · rename_i wd e' co rows' op2 hB
            rw [hB] at hR
            simp only at hR
            split at e
            · rename_i ds L' hd
              cases e
              rw [hd] at hR
              simp only at hR
              split at hR
              · rename_i hc
                cases hR
                simp only [Bool.and_eq_true] at hc
                exact g_st_n hN hop' hx hB hr hy (hτ t i hi) hc.1 hd hc.2.1 hc.2.2.1 hop hfl hc.2.2.2
              · cases hR
            · cases e
          · cases e
        · cases e
    | _ => cases e
def baseN (H : Hp) (j : TI) (el : Nat) (co : List (Nat × Nat × TypeId)) : Cell → Option (Option Nat × List (List D))
  | .nil => some (none, [])
  | .ref b => match H b with
    | some (.nst wd ty co' rows []) => match Nat.beq wd j.sz && (Nat.beq ty el && decide (co' = co)) with
      | true => some (some b, rows)
      | false => none
    | _ => none
  | _ => none
theorem baseN_ok {H : Hp} {j : TI} {el : Nat} {co : List (Nat × Nat × TypeId)} {x : Cell} {bo : Option Nat} {rows : List (List D)} (h : baseN H j el co x = some (bo, rows)) : BaseN H j.sz el co x bo rows := by
  unfold baseN at h
  split at h
  · cases h; exact .nil
  · split at h
    · rename_i b wd ty co' rows' hb
      split at h
      · rename_i hc
        cases h
        simp only [Bool.and_eq_true, decide_eq_true_eq] at hc
        obtain rfl := Nat.eq_of_beq_eq_true hc.1
        obtain rfl := Nat.eq_of_beq_eq_true hc.2.1
        obtain rfl := hc.2.2
        exact .ref _ _ hb
      · cases h
    · cases h
  · cases h
def apnA (τ : Ty) (T : Tm) (H : Hp) (co : List (Nat × Nat × TypeId)) (o : Op) : Option (List (List D) × List (List D) × Nat) := match o with
  | .call c => match c.callee, c.args.toList, c.argTypes.toList with
    | .builtin .append, [s, x], [t, u] => match τ t, Nat.beq t u, evO T s, evO T x with
      | some i, true, some (.e (.c c)), some (.e (.c c2)) => match τ i.el with
        | some j => match baseN H j i.el co c, baseN H j i.el co c2 with
          | some (_, rows), some (_, rows2) => some (rows, rows2, j.bys)
          | _, _ => none
        | none => none
      | _, _, _, _ => none
    | _, _, _ => none
  | _ => none
def apnR (τ : Ty) (T : Tm) (H : Hp) (id : Nat) (co : List (Nat × Nat × TypeId)) (o : Op) : Option Rec := match o with
  | .call c => match c.callee, c.args.toList, c.argTypes.toList with
    | .builtin .append, [s, x], [t, u] => match τ t, Nat.beq t u, evO T s, evO T x with
      | some i, true, some (.e (.c c)), some (.e (.c c2)) => match τ i.el with
        | some j => match baseN H j i.el co c, baseN H j i.el co c2 with
          | some (bo, rows), some (bs, rows2) => match Nat.beq i.kd 1 && (!((idO bo).contains id || (idO bs).contains id) && (!inter (idO bo) (idO bs) && (Nat.ble 1 j.bys && Nat.beq j.zero.length j.sz))) with
            | true => some ⟨.e (.c (.ref id)), (id, some (.nst j.sz i.el co (rows ++ rows2) [])) :: (gone bo ++ gone bs), idO bo ++ idO bs, [id]⟩
            | false => none
          | _, _ => none
        | none => none
      | _, _, _, _ => none
    | _, _, _ => none
  | _ => none
/-- append: a nest behind a nest. -/
theorem CH.apN (hτ : Tys c.P τ) {rows rows2 : List (List D)} {bys : Nat} (co : List (Nat × Nat × TypeId)) (h64 : Nat.ble 64 m.s.nx = true) (e : ((hdO c.N ops m).bind fun o => apnA τ m.s.tm m.s.hp co o.op) = some (rows, rows2, bys)) (hbd : (rows.length + rows2.length) * bys ≤ 140737488355328)
    (hb : okR m ((hdO c.N ops m).bind fun o => apnR τ m.s.tm m.s.hp m.id co o.op) = true) (k : CH c ops K (advO ((hdO c.N ops m).bind fun o => apnR τ m.s.tm m.s.hp m.id co o.op) m)) : CH c ops K m := by
  obtain ⟨o, ho, e⟩ := Option.bind_eq_some_iff.1 e
  rw [ho] at hb k
  simp only [Option.bind_some] at hb k
  cases hR : apnR τ m.s.tm m.s.hp m.id co o.op with
  | none => rw [hR] at hb; cases hb
  | some R =>
    refine CH.use h64 ho hR (fun hN => ?_) hb k
    generalize hop : o.op = op at e hR
    cases op with
    | call cl =>
      simp only [apnA] at e
      simp only [apnR] at hR
      split at e
      · rename_i s x t u q1 q2 q3
        rw [q1, q2, q3] at hR
        simp only at hR
        split at e
        · rename_i i cc c2 p1 p2 p3 p4
          rw [p1, p2, p3, p4] at hR
          simp only at hR
          split at e
          · rename_i j pj
            rw [pj] at hR
            simp only at hR
            split at e
            · rename_i bo rows' bs rows2' b1 b2
              cases e
              rw [b1, b2] at hR
              simp only at hR
              split at hR
              · rename_i hc
                cases hR
                simp only [Bool.and_eq_true, Bool.not_eq_true'] at hc
                obtain rfl := Nat.eq_of_beq_eq_true p2
                exact g_app_n hN (hop.trans (congrArg Op.call (call_eq q1 q2 q3))) (hτ _ i p1) hc.1 (hτ _ j pj) p3 (baseN_ok b1) p4 (baseN_ok b2) hc.2.1 hc.2.2.1 hbd hc.2.2.2.1 hc.2.2.2.2
              · cases hR
            · cases e
          · cases e
        · cases e
      · cases e
    | _ => cases e
def ltnA (τ : Ty) (T : Tm) (H : Hp) (co : List (Nat × Nat × TypeId)) : Op → Option (List (Nat × Nat × List (List D)))
  | .buildSlice t len parts => match τ t, parts.toList with
    | some i, [(0, x)] => match evO T x with
      | some (.e ex) => match nCs H co 0 (cellsOf ex) with
        | some (ds, L) => some L
        | none => none
      | _ => none
    | _, _ => none
  | _ => none
def ltnR (τ : Ty) (T : Tm) (H : Hp) (id : Nat) (co : List (Nat × Nat × TypeId)) : Op → Option Rec
  | .buildSlice t len parts => match τ t, parts.toList with
    | some i, [(0, x)] => match evO T x, τ i.el with
      | some (.e ex), some j => match nCs H co 0 (cellsOf ex) with
        | some (ds, L) => match Nat.beq len 1 && (Nat.beq i.kd 1 && ((cellsOf ex).all (liveC H) && (Nat.beq ds.length j.sz && (Nat.ble j.sz 16777216 && (nodupB (L.map (·.2.1)) && !(refsOf ex).contains id))))) with
          | true => some ⟨.e (.c (.ref id)), (id, some (.nst j.sz i.el co [ds] [])) :: noneL L, refsOf ex, [id]⟩
          | false => none
        | none => none
      | _, _ => none
    | _, _ => none
  | _ => none
/-- []T{x}, a nest. -/
theorem CH.ltN (hτ : Tys c.P τ) {L : List (Nat × Nat × List (List D))} (co : List (Nat × Nat × TypeId)) (h64 : Nat.ble 64 m.s.nx = true) (e : ((hdO c.N ops m).bind fun o => ltnA τ m.s.tm m.s.hp co o.op) = some L) (hfl : FlatL L)
    (hb : okR m ((hdO c.N ops m).bind fun o => ltnR τ m.s.tm m.s.hp m.id co o.op) = true) (k : CH c ops K (advO ((hdO c.N ops m).bind fun o => ltnR τ m.s.tm m.s.hp m.id co o.op) m)) : CH c ops K m := by
  obtain ⟨o, ho, e⟩ := Option.bind_eq_some_iff.1 e
  rw [ho] at hb k
  simp only [Option.bind_some] at hb k
  cases hR : ltnR τ m.s.tm m.s.hp m.id co o.op with
  | none => rw [hR] at hb; cases hb
  | some R =>
    refine CH.use h64 ho hR (fun hN => ?_) hb k
    generalize hop : o.op = op at e hR
    cases op with
    | buildSlice t len parts =>
      simp only [ltnA] at e
      simp only [ltnR] at hR
      split at e
      · rename_i i x q1 q2
        rw [q1, q2] at hR
        simp only at hR
        split at e
        · rename_i ex q3
          rw [q3] at hR
          cases hj : τ i.el with
          | none => rw [hj] at hR; cases hR
          | some j =>
            rw [hj] at hR
            simp only at hR
            split at e
            · rename_i ds L' hd
              cases e
              rw [hd] at hR
              simp only at hR
              split at hR
              · rename_i hc
                cases hR
                simp only [Bool.and_eq_true, Bool.not_eq_true'] at hc
                obtain rfl := Nat.eq_of_beq_eq_true hc.1
                exact g_lit_n hN hop q2 (hτ t i q1) hc.2.1 (hτ _ j hj) q3 hc.2.2.1 hd hc.2.2.2.1 hc.2.2.2.2.1 hfl hc.2.2.2.2.2.1 hc.2.2.2.2.2.2
              · cases hR
            · cases e
        · cases e
      · cases e
    | _ => cases e
def mknR (τ : Ty) (id n : Nat) (co : List (Nat × Nat × TypeId)) : Op → Option Rec
  | .makeSlice t l c => match τ t with
    | some i => match τ i.el with
      | some j => match Nat.beq i.kd 1 && ((j.zero.all fun v => v.oneCell') && Nat.beq j.zero.length j.sz) with
        | true => some ⟨.e (.c (.ref id)), [(id, some (.nst j.sz i.el co (List.replicate n (j.zero.map zD)) []))], [], [id]⟩
        | false => none
      | none => none
    | none => none
  | _ => none
/-- make([]T, n): a nest of n zero values. -/
theorem CH.mkN (hτ : Tys c.P τ) {n bys : Nat} (co : List (Nat × Nat × TypeId)) (h64 : Nat.ble 64 m.s.nx = true) (e : ((hdO c.N ops m).bind fun o => mksA τ m.s.tm o.op) = some (.int .i64 (n : Int), .int .i64 (n : Int), bys)) (hbd : bys * n ≤ 281474976710656) (h63 : n ≤ 9223372036854775807)
    (hb : okR m ((hdO c.N ops m).bind fun o => mknR τ m.id n co o.op) = true) (k : CH c ops K (advO ((hdO c.N ops m).bind fun o => mknR τ m.id n co o.op) m)) : CH c ops K m := by
  obtain ⟨o, ho, e⟩ := Option.bind_eq_some_iff.1 e
  rw [ho] at hb k
  simp only [Option.bind_some] at hb k
  cases hR : mknR τ m.id n co o.op with
  | none => rw [hR] at hb; cases hb
  | some R =>
    refine CH.use h64 ho hR (fun hN => ?_) hb k
    generalize hop : o.op = op at e hR
    cases op with
    | makeSlice t l cc =>
      simp only [mksA] at e
      simp only [mknR] at hR
      split at e
      · rename_i x y i q1 q2 q3
        split at e
        · rename_i j q4
          cases e
          simp only [q3, q4] at hR
          split at hR
          · rename_i hc
            simp only [Bool.and_eq_true] at hc
            cases hR
            exact g_mks_n hN hop (hτ t i q3) hc.1 (hτ _ j q4) q1 q2 hbd h63 hc.2.1 hc.2.2
          · cases hR
        · cases e
      · cases e
    | _ => cases e
end
end Go.Proofs.Ytggmeldoecnkaaa.Av
