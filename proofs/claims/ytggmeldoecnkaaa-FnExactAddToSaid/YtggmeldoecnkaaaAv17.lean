/-
A region, walked by steps; a function's body.
Conditions: none beside those that each theorem names.
-/
import Derived.Test.YtggmeldoecnkaaaAv16
set_option linter.unusedVariables false
set_option linter.unusedSimpArgs false
namespace Go.Proofs.Ytggmeldoecnkaaa.Av
open Go.RowKit Go.Proofs.YtggmeldoecnkaaaW.PrintLast

/-- A walk inside a region: the number of the next operation, those still to come, the state, what has been done (the last one first). -/
structure Cf where
  i : Nat
  l : List Oper
  s : St
  rs : List (Oper × Rec)
def St.app (s : St) (dst : Option Nat) (r : Rec) : St := ⟨match dst with | some t => (t, r.v) :: s.T | none => s.T, r.hs ++ s.H, s.nx⟩
def Cf.id (m : Cf) : Nat := m.s.nx + 16 * m.i
def adv (r : Rec) (m : Cf) : Cf := match m.l with
  | [] => m
  | o :: l => ⟨m.i + 1, l, m.s.app o.dst r, (o, r) :: m.rs⟩
def hsIds (hs : List (Nat × Option Blk)) : List Nat := idsL Blk.ids hs
def bndB (lo : Nat) (r : Rec) : Bool := ltAll (lo + 16) r.v.ids && (ltAll (lo + 16) (hsIds r.hs) && (r.nw.all fun b => Nat.ble lo b && Nat.blt b (lo + 16)))
/-- Is the operation wanted: by its guard. -/
def gdB (N : Nat) (ops : Array Oper) (T : Tm) (o : Oper) : Option Bool := match o.guard with
  | none => some true
  | some (j, b) => match (ops[j]?).bind (·.dst) with
    | none => none
    | some g => match Nat.blt g N with
      | false => none
      | true => match T g with
        | some (.e (.c (.d (.v (.bool c))))) => match c, b with
          | true, true => some true
          | false, false => some true
          | true, false => some false
          | false, true => some false
        | some (.tup []) => some false
        | _ => none
/-- The next operation, where no word of ours is wanted. -/
def autoR (τ : Ty) (N : Nat) (ops : Array Oper) (s : St) (id : Nat) (o : Oper) : Option Rec := match dstOk N o.dst with
  | false => none
  | true => match gdB N ops s.tm o with
    | some true => match autoW τ s.tm s.hp id o.op with
      | some r => match bndB id r with
        | true => some r
        | false => none
      | none => none
    | some false => some ⟨.tup [], [], [], []⟩
    | none => none
def run (τ : Ty) (N : Nat) (ops : Array Oper) : Nat → Cf → Cf
  | 0, m => m
  | n + 1, m => match m.l with
    | [] => m
    | o :: _ => match autoR τ N ops m.s m.id o with
      | none => m
      | some r => run τ N ops n (adv r m)
def CH (c : Cn) (ops : Array Oper) (K : List (Oper × Rec) → St → Prop) (m : Cf) : Prop :=
  okB m.s m.id = true → ∃ rs' s', Chain c.P c.N ops m.l m.s.tm m.s.hp rs' s'.tm s'.hp ∧ s'.nx = m.s.nx ∧ okB s' (m.s.nx + 16 * (m.i + m.l.length)) = true ∧ (∀ p, p ∈ rs' → ∀ b, b ∈ p.2.nw → m.id ≤ b) ∧ K (m.rs.reverse ++ rs') s'
theorem ltAll_mem {m : Nat} {l : List Nat} (h : ltAll m l = true) {b : Nat} (hb : b ∈ l) : b < m := by
  have := List.all_eq_true.1 h b hb
  simpa [Nat.blt_eq] using this
theorem ltAll_mono {m m' : Nat} {l : List Nat} (h : ltAll m l = true) (hm : m ≤ m') : ltAll m' l = true := List.all_eq_true.2 fun b hb => by
  have := ltAll_mem h hb
  simp [Nat.blt_eq]
  omega
theorem okB_parts {s : St} {m : Nat} (h : okB s m = true) : (∀ t x, s.tm t = some x → ∀ b, b ∈ x.ids → b < m) ∧ (∀ b B, s.hp b = some B → ∀ c, c ∈ B.ids → c < m) := by
  simp only [okB, Bool.and_eq_true] at h
  refine ⟨fun t x hx b hb => ltAll_mem (List.all_eq_true.1 h.1 _ (look_mem hx)) hb, fun b B hB c hc => ?_⟩
  have := List.all_eq_true.1 h.2 _ (lookH_mem hB)
  exact ltAll_mem this hc
theorem okB_mono {s : St} {m m' : Nat} (h : okB s m = true) (hm : m ≤ m') : okB s m' = true := by
  simp only [okB, Bool.and_eq_true, List.all_eq_true] at h ⊢
  refine ⟨fun p hp => ltAll_mono (h.1 p hp) hm, fun p hp => ?_⟩
  have := h.2 p hp
  cases hB : p.2 with
  | none => rfl
  | some B => rw [hB] at this; exact ltAll_mono this hm
theorem St.fresh {s : St} {m b : Nat} (h : okB s m = true) (hb : m ≤ b) (h64 : 64 ≤ b) : Fresh s.tm s.hp b := by
  obtain ⟨h1, h2⟩ := okB_parts h
  exact ⟨fun t x hx hm => by have := h1 t x hx b hm; omega, fun b' B hB hm => by have := h2 b' B hB b hm; omega, h64⟩
theorem St.app_tm (s : St) (dst : Option Nat) (r : Rec) : (s.app dst r).tm = putD s.tm dst r.v ∧ (s.app dst r).hp = appL s.hp r.hs := by
  refine ⟨?_, lookH_append _ _⟩
  cases dst with
  | none => rfl
  | some t => exact look_cons
theorem St.app_ok {s : St} {lo : Nat} (h : okB s lo = true) {dst : Option Nat} {r : Rec} (hb : bndB lo r = true) : okB (s.app dst r) (lo + 16) = true := by
  simp only [bndB, Bool.and_eq_true] at hb
  have h' := okB_mono h (m' := lo + 16) (by omega)
  simp only [okB, Bool.and_eq_true, List.all_eq_true] at h' ⊢
  refine ⟨fun p hp => ?_, fun p hp => ?_⟩
  · cases dst with
    | none => exact h'.1 p hp
    | some t =>
      rcases List.mem_cons.1 hp with e | e
      · rw [e]; exact hb.1
      · exact h'.1 p e
  · rcases List.mem_append.1 hp with e | e
    · obtain ⟨k, B⟩ := p
      cases B with
      | none => rfl
      | some B =>
        refine List.all_eq_true.2 fun q hq => List.all_eq_true.1 hb.2.1 q (idsL_mem e hq)
    · exact h'.2 p e
section
variable {c : Cn} {ops : Array Oper} {K : List (Oper × Rec) → St → Prop} {m : Cf} {τ : Ty}
theorem CH.done (hl : m.l.isEmpty = true) (h : K m.rs.reverse m.s) : CH c ops K m := fun hok => by
  have hl' : m.l = [] := List.isEmpty_iff.1 hl
  exact ⟨[], m.s, by rw [hl']; exact .nil _ _, rfl, by rw [hl']; simpa [Cf.id] using hok, (fun p hp => by cases hp), by simpa using h⟩
theorem CH.step {o : Oper} {l : List Oper} (hl : m.l = o :: l) (r : Rec) (h64 : 64 ≤ m.s.nx) (g : Good c.P c.N ops o r m.s.tm m.s.hp) (hb : bndB m.id r = true) (k : CH c ops K (adv r m)) : CH c ops K m := fun hok => by
  have hadv : adv r m = ⟨m.i + 1, l, m.s.app o.dst r, (o, r) :: m.rs⟩ := by unfold adv; rw [hl]
  rw [hadv] at k
  have hok' := St.app_ok (dst := o.dst) hok hb
  obtain ⟨rs', s', h1, h2, h3, h4, h5⟩ := k (by simpa [Cf.id, St.app, Nat.mul_add, Nat.add_assoc] using hok')
  obtain ⟨e1, e2⟩ := St.app_tm m.s o.dst r
  simp only [bndB, Bool.and_eq_true] at hb
  have hnw : ∀ b, b ∈ r.nw → m.id ≤ b := fun b hb' => by
    have := List.all_eq_true.1 hb.2.2 b hb'
    simp only [Bool.and_eq_true] at this
    exact Nat.le_of_ble_eq_true this.1
  refine ⟨(o, r) :: rs', s', ?_, h2, ?_, fun p hp b hb' => ?_, ?_⟩
  · rw [hl]
    refine .cons g (fun b hb' => St.fresh hok (hnw b hb') (by have := hnw b hb'; unfold Cf.id at this; omega)) ?_
    rw [← e1, ← e2]
    exact h1
  · rw [hl]
    simpa [St.app, Nat.add_assoc, Nat.add_comm 1] using h3
  · rcases List.mem_cons.1 hp with e | e
    · rw [e] at hb'; exact hnw b hb'
    · have := h4 p e b hb'
      simp only [Cf.id, St.app] at this ⊢
      omega
  · simpa using h5
theorem gd_good {o : Oper} {r : Rec} {T : Tm} {H : Hp} (hg : gdB c.N ops T o = some true) (h : GoodW c.P c.N o r T H) : Good c.P c.N ops o r T H := by
  unfold gdB at hg
  split at hg
  · rename_i hn; exact Good.of hn h
  · rename_i j b hgd
    split at hg
    · cases hg
    · rename_i g hd
      split at hg
      · cases hg
      · rename_i hlt
        have hlt : g < c.N := by simpa [Nat.blt_eq] using hlt
        split at hg
        · rename_i cc hT
          cases cc <;> cases b <;> simp at hg
          · exact Good.yes hgd hd hlt hT h
          · exact Good.yes hgd hd hlt hT h
        · cases hg
        · cases hg
theorem gd_no {o : Oper} {T : Tm} {H : Hp} (hN : dstOk c.N o.dst = true) (hg : gdB c.N ops T o = some false) : Good c.P c.N ops o ⟨.tup [], [], [], []⟩ T H := by
  unfold gdB at hg
  split at hg
  · cases hg
  · rename_i j b hgd
    split at hg
    · cases hg
    · rename_i g hd
      split at hg
      · cases hg
      · rename_i hlt
        have hlt : g < c.N := by simpa [Nat.blt_eq] using hlt
        split at hg
        · rename_i cc hT
          cases cc <;> cases b <;> simp at hg
          · exact Good.no hgd hd hlt hN hT
          · exact Good.no hgd hd hlt hN hT
        · rename_i hT; exact Good.nou hgd hd hlt hN hT
        · cases hg
theorem auto_good (hτ : Tys c.P τ) {s : St} {id : Nat} {o : Oper} {r : Rec} (h : autoR τ c.N ops s id o = some r) : Good c.P c.N ops o r s.tm s.hp ∧ bndB id r = true := by
  unfold autoR at h
  split at h
  · cases h
  · rename_i hN
    split at h
    · rename_i hg
      split at h
      · rename_i r' hr
        split at h
        · rename_i hb
          cases h
          exact ⟨gd_good hg (auto_ok hτ hN hr), hb⟩
        · cases h
      · cases h
    · rename_i hg
      cases h
      exact ⟨gd_no hN hg, by simp [bndB, ltAll, AV.ids, hsIds, idsL]⟩
    · cases h
theorem adv_nx (r : Rec) (m : Cf) : (adv r m).s.nx = m.s.nx := by
  unfold adv
  split <;> rfl
theorem CH.run (hτ : Tys c.P τ) (h64 : 64 ≤ m.s.nx) (n : Nat) (k : CH c ops K (Av.run τ c.N ops n m)) : CH c ops K m := by
  induction n generalizing m with
  | zero => exact k
  | succ n ih =>
    unfold Av.run at k
    split at k
    · exact k
    · rename_i o l hl
      split at k
      · exact k
      · rename_i r hr
        obtain ⟨g, hb⟩ := auto_good hτ hr
        exact CH.step hl r h64 g hb (ih (by rw [adv_nx]; exact h64) k)
/-! ### the region -/
def fin (m : Cf) : St := ⟨m.s.T, m.s.H, m.s.nx + 16 * m.i⟩
def drOk (ops : Array Oper) (rs : List (Oper × Rec)) : Bool :=
  waitsOk (rtab .any ops).2 (bitsOf (rtab .any ops).2) && (baseOk (rtab .any ops).2 (List.range ops.size) && ((lof (rtab .any ops).2.length (List.range ops.size) (fun _ => false) == List.replicate ops.size false && (List.range ops.size).length == ops.size) && okDraw ops (bitsOf (rtab .any ops).2) rs))
theorem W.region {id : Nat} {draw : Bool} {s : St} {Q : Exit → St → Prop} (hm : c.P.follows .mixedOrders = true) (h64 : Nat.ble 64 s.nx = true)
    (h : CH c ops (fun rs s' => (draw = true → drOk ops rs = true) ∧ Q .normal ⟨s'.T, s'.H, s.nx + 16 * ops.size⟩) ⟨0, ops.toList, s, []⟩) : W c (.region id ops draw) Q s := by
  intro hok a w ⟨ι, hr⟩
  have h64 := Nat.le_of_ble_eq_true h64
  obtain ⟨rs, s', h1, h2, h3, h4, h5, h6⟩ := h (by simpa [Cf.id] using hok)
  simp only [List.reverse_nil, List.nil_append] at h5
  have hq : ∀ ι a w, Rel c.N c.κ c.w0 c.S ι s'.tm s'.hp a w → ∃ s'', okB s'' s''.nx = true ∧ Q .normal s'' ∧ RelS c s'' a w := fun ι a w hr' => ⟨⟨s'.T, s'.H, s.nx + 16 * ops.size⟩, by
    have : okB s' (s.nx + 16 * ops.size) = true := by simpa using h3
    exact this, h6, ι, hr'⟩
  cases draw with
  | false => exact wp_region_list (Chain.list h1 (fun ι a w hr' => hq ι a w hr') ι a w hr)
  | true =>
    have hd := h5 rfl
    simp only [drOk, Bool.and_eq_true] at hd
    refine region_draw hm rfl h1 (fun p hp b hb => ?_) hd.1 hd.2.1 (by simpa using hd.2.2.1) hd.2.2.2 (fun ι a w hr' => hq ι a w hr') ι a w hr
    have hb' := h4 p hp b hb
    simp only [Cf.id, Nat.mul_zero, Nat.add_zero] at hb'
    exact St.fresh hok hb' (by omega)
end
end Go.Proofs.Ytggmeldoecnkaaa.Av
