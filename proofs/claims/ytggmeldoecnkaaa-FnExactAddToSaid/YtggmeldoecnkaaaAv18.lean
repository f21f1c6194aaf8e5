/-
Steps of a walk that want a word of ours: an element, an append, a call; and the body of a function.
Conditions: none beside those that each theorem names.
-/
import Derived.Test.YtggmeldoecnkaaaAv17
set_option linter.unusedVariables false
set_option linter.unusedSimpArgs false
namespace Go.Proofs.Ytggmeldoecnkaaa.Av
open Go.RowKit Go.Proofs.YtggmeldoecnkaaaW.PrintLast

def advO (r : Option Rec) (m : Cf) : Cf := match r with
  | some r => adv r m
  | none => m
/-- The next operation, if it is wanted. -/
def hdO (N : Nat) (ops : Array Oper) (m : Cf) : Option Oper := match m.l with
  | [] => none
  | o :: _ => match dstOk N o.dst with
    | false => none
    | true => match gdB N ops m.s.tm o with
      | some true => some o
      | _ => none
def okR (m : Cf) (r : Option Rec) : Bool := match r with
  | some r => bndB m.id r
  | none => false
section
variable {c : Cn} {ops : Array Oper} {K : List (Oper × Rec) → St → Prop} {m : Cf} {τ : Ty}
theorem hdO_ok {o : Oper} (h : hdO c.N ops m = some o) : ∃ l, m.l = o :: l ∧ dstOk c.N o.dst = true ∧ gdB c.N ops m.s.tm o = some true := by
  unfold hdO at h
  split at h
  · cases h
  · rename_i o' l hl
    split at h
    · cases h
    · rename_i hN
      split at h
      · rename_i hg; cases h; exact ⟨l, hl, hN, hg⟩
      · cases h
/-- A step by a record of ours. -/
theorem CH.use {R : Option Rec} {r : Rec} {o : Oper} (h64 : Nat.ble 64 m.s.nx = true) (ho : hdO c.N ops m = some o) (hR : R = some r) (g : dstOk c.N o.dst = true → GoodW c.P c.N o r m.s.tm m.s.hp) (hb : okR m R = true) (k : CH c ops K (advO R m)) : CH c ops K m := by
  obtain ⟨l, hl, hN, hg⟩ := hdO_ok ho
  subst hR
  exact CH.step hl r (Nat.le_of_ble_eq_true h64) (gd_good hg (g hN)) hb k
/-- What a slot holds, told in other words. -/
theorem St.alt {s : St} {t : Nat} {v0 v : AV} (e : look s.T t = some v0) (h : v0 = v) : (⟨(t, v) :: s.T, s.H, s.nx⟩ : St).tm = s.tm := by
  subst h
  show look ((t, v0) :: s.T) = look s.T
  rw [look_cons]
  funext n
  unfold Tm.put
  by_cases hn : n = t
  · subst hn; rw [if_pos rfl, e]
  · rw [if_neg hn]
theorem St.alt_ok {s : St} {t : Nat} {v0 v : AV} (e : look s.T t = some v0) (h : v0 = v) {n : Nat} (hok : okB s n = true) : okB (⟨(t, v) :: s.T, s.H, s.nx⟩ : St) n = true := by
  subst h
  simp only [okB, Bool.and_eq_true, List.all_eq_true] at hok ⊢
  exact ⟨fun p hp => (List.mem_cons.1 hp).elim (fun e' => by rw [e']; exact hok.1 _ (look_mem e)) (hok.1 p), hok.2⟩
def Cf.alt (t : Nat) (v : AV) (m : Cf) : Cf := ⟨m.i, m.l, ⟨(t, v) :: m.s.T, m.s.H, m.s.nx⟩, m.rs⟩
theorem CH.alt (t : Nat) (v0 v : AV) (e : look m.s.T t = some v0) (h : v0 = v) (k : CH c ops K (m.alt t v)) : CH c ops K m := fun hok => by
  obtain ⟨rs', s', h1, h2, h3, h4, h5⟩ := k (St.alt_ok e h hok)
  refine ⟨rs', s', ?_, h2, h3, h4, h5⟩
  have := St.alt e h
  simp only [Cf.alt] at h1
  rw [this] at h1
  exact h1
theorem W.alt {x : Code} {Q : Exit → St → Prop} {s : St} (t : Nat) (v0 v : AV) (e : look s.T t = some v0) (h : v0 = v) (k : W c x Q ⟨(t, v) :: s.T, s.H, s.nx⟩) : W c x Q s := fun hok a w ⟨ι, hr⟩ =>
  k (St.alt_ok e h hok) a w ⟨ι, by rw [St.alt e h]; exact hr⟩
/-! ### an element of a slice -/
def idxA (τ : Ty) (T : Tm) (o : Op) : Option (List (List D) × Int × Nat) := match o with
  | .indexAddr t x y => match τ t with
    | none => none
    | some i => match Nat.beq i.kd 1, τ i.el, evO T x, (evO T y).bind sc with
      | true, some j, some (.e (.c c)), some (.int _ n) => match rowsOf c with
        | some rows => some (rows, n, j.sz)
        | none => none
      | _, _, _, _ => none
  | _ => none
theorem CH.idx (hτ : Tys c.P τ) {rows : List (List D)} {n : Int} {sz : Nat} (r : List D) (h64 : Nat.ble 64 m.s.nx = true) (e : ((hdO c.N ops m).bind fun o => idxA τ m.s.tm o.op) = some (rows, n, sz)) (h0 : 0 ≤ n) (hr : rows[n.toNat]? = some r) (hl : Nat.beq r.length sz = true)
    (k : CH c ops K (advO (some ⟨.ip r 0, [], [], []⟩) m)) : CH c ops K m := by
  obtain ⟨o, ho, e⟩ := Option.bind_eq_some_iff.1 e
  refine CH.use h64 ho rfl (fun hN => ?_) (by simp [okR, bndB, ltAll, AV.ids, hsIds, idsL]) k
  unfold idxA at e
  split at e
  · rename_i t x y hop
    split at e
    · cases e
    · rename_i i hi
      split at e
      · rename_i j cc kk nn q1 q2 q3 q4
        split at e
        · rename_i rows' hrows
          cases e
          exact g_idx hN hop q3 hrows q4 (hτ t i hi) q1 (hτ _ j q2) h0 hr (Nat.eq_of_beq_eq_true hl)
        · cases e
      · cases e
  · cases e
def idxB (τ : Ty) (T : Tm) (H : Hp) (o : Op) : Option (Nat × List (List D) × Int) := match o with
  | .indexAddr t x y => match τ t with
    | none => none
    | some i => match Nat.beq i.kd 1, τ i.el, evO T x, (evO T y).bind sc with
      | true, some j, some (.e (.c (.ref b))), some (.int _ n) => match H b with
        | some (.row wd _ rows _ _) => match Nat.beq wd j.sz with
          | true => some (b, rows, n)
          | false => none
        | some (.nst wd _ _ rows _) => match Nat.beq wd j.sz with
          | true => some (b, rows, n)
          | false => none
        | _ => none
      | _, _, _, _ => none
  | _ => none
theorem CH.idxR (hτ : Tys c.P τ) {rows : List (List D)} {n : Int} {b : Nat} (h64 : Nat.ble 64 m.s.nx = true) (e : ((hdO c.N ops m).bind fun o => idxB τ m.s.tm m.s.hp o.op) = some (b, rows, n)) (h0 : 0 ≤ n) (hn : n < rows.length) (hb : Nat.blt b (m.id + 16) = true)
    (k : CH c ops K (advO (some ⟨.pt b n.toNat 0, [], [b], []⟩) m)) : CH c ops K m := by
  obtain ⟨o, ho, e⟩ := Option.bind_eq_some_iff.1 e
  refine CH.use h64 ho rfl (fun hN => ?_) (by simpa [okR, bndB, ltAll, AV.ids, hsIds, idsL] using hb) k
  unfold idxB at e
  split at e
  · rename_i t x y hop
    split at e
    · cases e
    · rename_i i hi
      split at e
      · rename_i j bb kk nn q1 q2 q3 q4
        split at e
        · rename_i wd ty rows' f nf hrow
          split at e
          · rename_i hwd
            cases e
            exact g_idx_ref hN hop q3 hrow q4 (hτ t i hi) q1 (hτ _ j q2) hwd h0 hn
          · cases e
        · rename_i wd ty co rows' op' hrow
          split at e
          · rename_i hwd
            cases e
            exact g_idx_B hN hop q3 hrow rfl rfl q4 (hτ t i hi) q1 (hτ _ j q2) hwd h0 hn
          · cases e
        · cases e
      · cases e
  · cases e
/-! ### a row of the call's own, read and written -/
def rowA (T : Tm) (H : Hp) (o : Op) : Option (List (List D) × Nat) := match o with
  | .load _ x => match evO T x with
    | some (.pt b n _) => match H b with
      | some (.row _ _ rows _ _) => some (rows, n)
      | _ => none
    | _ => none
  | .store _ x _ => match evO T x with
    | some (.pt b n _) => match H b with
      | some (.row _ _ rows _ _) => some (rows, n)
      | _ => none
    | _ => none
  | _ => none
def rowR (τ : Ty) (T : Tm) (H : Hp) (r : List D) (o : Op) : Option Rec := match o with
  | .load t x => match τ t, evO T x with
    | some i, some (.pt b n p) => match H b with
      | some (.row _ _ _ _ nf) => match ldE i (r.map (nfc nf)) p with
        | some e => some ⟨.e e, [], [b], []⟩
        | none => none
      | _ => none
    | _, _ => none
  | .store t x y => match τ t, evO T x, evO T y with
    | some i, some (.pt b n p), some (.e e) => match H b with
      | some (.row wd ty rows false nf) => match toDs H (cellsOf e) with
        | some ds => match (cellsOf e).all (liveC H) && (Nat.beq ds.length i.sz && (Nat.ble (p + ds.length) wd && !(refsOf e).contains b)) with
          | true => some ⟨.un, (b, some (.row wd ty (rows.set n (splice r p ds)) false (nf && (cellsOf e).all (frC H)))) :: frzL H (refsOf e), b :: refsOf e, []⟩
          | false => none
        | none => none
      | _ => none
    | _, _, _ => none
  | _ => none
theorem CH.row (hτ : Tys c.P τ) {rows : List (List D)} {n : Nat} (r : List D) (h64 : Nat.ble 64 m.s.nx = true) (e : ((hdO c.N ops m).bind fun o => rowA m.s.tm m.s.hp o.op) = some (rows, n)) (hr : rows[n]? = some r)
    (hb : okR m ((hdO c.N ops m).bind fun o => rowR τ m.s.tm m.s.hp r o.op) = true) (k : CH c ops K (advO ((hdO c.N ops m).bind fun o => rowR τ m.s.tm m.s.hp r o.op) m)) : CH c ops K m := by
  obtain ⟨o, ho, e⟩ := Option.bind_eq_some_iff.1 e
  rw [ho] at hb k
  simp only [Option.bind_some] at hb k
  cases hR : rowR τ m.s.tm m.s.hp r o.op with
  | none => rw [hR] at hb; cases hb
  | some R =>
    refine CH.use h64 ho hR (fun hN => ?_) hb k
    generalize hop : o.op = op at e hR
    unfold rowA at e
    split at e
    · rename_i t x
      split at e
      · rename_i b n' p hx
        split at e
        · rename_i wd ty rows' f nf hrow
          cases e
          simp only [rowR, hx] at hR
          split at hR
          · rename_i i b' nn pp hi hxx
            cases hxx
            simp only [hrow] at hR
            split at hR
            · rename_i e he; cases hR; exact g_load_row hN hop hx hrow hr (hτ t i hi) he
            · cases hR
          · cases hR
        · cases e
      · cases e
    · rename_i t x y
      split at e
      · rename_i b n' p hx
        split at e
        · rename_i wd ty rows' f nf hrow
          cases e
          simp only [rowR, hx] at hR
          split at hR
          · rename_i i b' nn pp ee hi hxx hy
            cases hxx
            simp only [hrow] at hR
            split at hR
            · rename_i hq
              cases hq
              split at hR
              · rename_i ds hds
                split at hR
                · rename_i hc
                  simp only [Bool.and_eq_true, Bool.not_eq_true'] at hc
                  cases hR
                  exact g_store_row hN hop hx hrow hr hy (hτ t i hi) hc.1 hds hc.2.1 hc.2.2.1 hc.2.2.2
                · cases hR
              · cases hR
            · cases hR
          · cases hR
        · cases e
      · cases e
    · cases e
end
end Go.Proofs.Ytggmeldoecnkaaa.Av
