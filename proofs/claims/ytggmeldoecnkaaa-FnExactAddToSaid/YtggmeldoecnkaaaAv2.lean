/-
A region's operations, each by what it yields and turns; one behind the other, or in whatever order is drawn: what they come to is the same where none turns what another one reads.
Conditions: none beside those that each theorem names.
-/
import Derived.Test.YtggmeldoecnkaaaAv1
import Derived.Test.YtggmeldoecnkaaaWInv
set_option linter.unusedVariables false
namespace Go.Proofs.Ytggmeldoecnkaaa.Av
open Go.RowKit Go.Proofs.YtggmeldoecnkaaaW.PrintLast

/-- What an operation comes to: its value, the blocks that it turns or makes, those that it reads, the names that it takes. -/
structure Rec where
  v : AV
  hs : List (Nat × Option Blk)
  rd : List Nat
  nw : List Nat
def appL {β : Type} (M : Nat → Option β) : List (Nat × Option β) → Nat → Option β
  | [], x => M x
  | (k, B) :: r, x => if x = k then B else appL M r x
def putD (T : Tm) : Option Nat → AV → Tm
  | none, _ => T
  | some t, x => T.put t x
def Operand.tmps : Operand → List Nat
  | .tmp t => [t]
  | _ => []
/-- The slots that an operation reads. -/
def rdT (ops : Array Oper) (o : Oper) : List Nat :=
  o.op.operands.toList.flatMap Operand.tmps ++ match o.guard with
    | none => []
    | some (j, _) => match (ops[j]?).bind (·.dst) with | none => [] | some g => [g]
def Good (P : Program) (N : Nat) (ops : Array Oper) (o : Oper) (r : Rec) (T : Tm) (H : Hp) : Prop :=
  ∀ (T' : Tm) (H' : Hp), (∀ t, t ∈ rdT ops o → T' t = T t) → (∀ b, b ∈ r.rd → H' b = H b) → (∀ b, b ∈ r.nw → Fresh T' H' b) →
    ∀ (κ : Nat → Value) (w0 : World) (S : Wr) (ι : Nm) (a : Act) (w : World), Rel N κ w0 S ι T' H' a w → ∀ (Q : Exit → Act → World → Prop) (K : Act → World → Prop),
      (∀ ι' a' w', Rel N κ w0 S ι' (putD T' o.dst r.v) (appL H' r.hs) a' w' → K a' w') →
      if Region.wanted o (yielded ops a.tmps) = true then Oper.wp P o a w K Q else K (a.put o.dst undef) w
inductive Chain (P : Program) (N : Nat) (ops : Array Oper) : List Oper → Tm → Hp → List (Oper × Rec) → Tm → Hp → Prop
  | nil (T H) : Chain P N ops [] T H [] T H
  | cons {o : Oper} {l : List Oper} {r : Rec} {T : Tm} {H : Hp} {rs : List (Oper × Rec)} {T' : Tm} {H' : Hp} (g : Good P N ops o r T H) (hn : ∀ b, b ∈ r.nw → Fresh T H b) (h : Chain P N ops l (putD T o.dst r.v) (appL H r.hs) rs T' H') : Chain P N ops (o :: l) T H ((o, r) :: rs) T' H'
theorem Chain.list {P : Program} {N : Nat} {ops : Array Oper} {l : List Oper} {T : Tm} {H : Hp} {rs : List (Oper × Rec)} {T' : Tm} {H' : Hp} (h : Chain P N ops l T H rs T' H') {κ : Nat → Value} {w0 : World} {S : Wr} {Q : Exit → Act → World → Prop}
    (hQ : ∀ ι a w, Rel N κ w0 S ι T' H' a w → Q .normal a w) : ∀ ι a w, Rel N κ w0 S ι T H a w → wpList P ops Q l a w := by
  induction h with
  | nil T H => exact fun ι a w hr => hQ ι a w hr
  | cons g hn h ih =>
    intro ι a w hr
    exact wpList_step fun K hK => g _ _ (fun _ _ => rfl) (fun _ _ => rfl) hn κ w0 S ι a w hr Q K fun ι' a' w' hr' => hK a' w' (ih hQ ι' a' w' hr')

/-! ### In whatever order -/
section
variable {β : Type}
/-- What stands at each place once the operations of b are done (the list: the last one first). -/
def asM (b : Nat → Bool) (M : Nat → Option β) : List (Nat × List (Nat × Option β)) → Nat → Option β
  | [] => M
  | (i, w) :: L => if b i = true then appL (asM b M L) w else asM b M L
def keys (w : List (Nat × Option β)) : List Nat := w.map (·.1)
theorem appL_in {M M' : Nat → Option β} : ∀ {w : List (Nat × Option β)} {x : Nat}, x ∈ keys w → appL M w x = appL M' w x
  | (k, B) :: r, x, h => by
    unfold appL
    by_cases hx : x = k
    · rw [if_pos hx, if_pos hx]
    · rw [if_neg hx, if_neg hx]
      exact appL_in (by simpa [keys, hx] using h)
theorem appL_out {M : Nat → Option β} : ∀ {w : List (Nat × Option β)} {x : Nat}, x ∉ keys w → appL M w x = M x
  | [], x, _ => rfl
  | (k, B) :: r, x, h => by
    unfold appL
    simp only [keys, List.map_cons, List.mem_cons, not_or] at h
    rw [if_neg h.1]
    exact appL_out (by simpa [keys] using h.2)
theorem asM_agree {b b' : Nat → Bool} {M : Nat → Option β} {x : Nat} : ∀ {L : List (Nat × List (Nat × Option β))}, (∀ i w, (i, w) ∈ L → x ∈ keys w → b i = b' i) → asM b M L x = asM b' M L x
  | [], _ => rfl
  | (i, w) :: L, h => by
    have ih := asM_agree (b := b) (b' := b') (M := M) (x := x) (L := L) fun j v hj => h j v (List.mem_cons_of_mem _ hj)
    unfold asM
    by_cases hx : x ∈ keys w
    · rw [h i w List.mem_cons_self hx]
      cases b' i
      · exact ih
      · exact appL_in hx
    · have hb : ∀ c : Bool, ∀ M1 : Nat → Option β, (if c = true then appL M1 w else M1) x = M1 x := fun c M1 => by
        cases c
        · rfl
        · exact appL_out hx
      rw [hb, hb]
      exact ih
theorem asM_top {c : Nat → Bool} {M M' : Nat → Option β} {x i : Nat} {w : List (Nat × Option β)} (hx : x ∈ keys w) (hc : c i = true) : ∀ {L : List (Nat × List (Nat × Option β))}, L.Pairwise (fun p q => q.1 < p.1) → (i, w) ∈ L → (∀ j v, (j, v) ∈ L → i < j → x ∈ keys v → c j = false) → asM c M L x = appL M' w x
  | (j, v) :: L, hp, hm, h => by
    rw [List.pairwise_cons] at hp
    unfold asM
    rcases List.mem_cons.1 hm with e | hm'
    · cases e
      rw [if_pos hc]
      exact appL_in hx
    · have ih := asM_top (c := c) (M := M) (M' := M') hx hc (L := L) hp.2 hm' (fun j' v' hj' => h j' v' (List.mem_cons_of_mem _ hj'))
      cases hcj : c j with
      | false => simp only [Bool.false_eq_true, if_false]; exact ih
      | true =>
        have hxv : x ∉ keys v := fun hxv => by
          rw [h j v List.mem_cons_self (hp.1 _ hm') hxv] at hcj
          cases hcj
        rw [if_pos rfl]
        exact (appL_out hxv).trans ih
theorem asM_up {b : Nat → Bool} {M : Nat → Option β} {i : Nat} {w : List (Nat × Option β)} {L : List (Nat × List (Nat × Option β))} (hp : L.Pairwise (fun p q => q.1 < p.1)) (hm : (i, w) ∈ L) (hc : ∀ j v x, (j, v) ∈ L → i < j → x ∈ keys w → x ∈ keys v → b j = false) :
    asM (up b i) M L = appL (asM b M L) w := by
  funext x
  by_cases hx : x ∈ keys w
  · exact asM_top hx (up_self b i) hp hm fun j v hj hij hxv => by
      rw [up_ne (by omega)]
      exact hc j v x hj hij hx hxv
  · rw [appL_out hx]
    refine asM_agree fun j v hj hxv => up_ne fun e => ?_
    subst e
    have : v = w := by
      clear hx hc
      induction L with
      | nil => cases hj
      | cons p L ih =>
        rw [List.pairwise_cons] at hp
        rcases List.mem_cons.1 hj with h1 | h1 <;> rcases List.mem_cons.1 hm with h2 | h2
        · rw [← h1] at h2; cases h2; rfl
        · have := hp.1 _ h2; rw [← h1] at this; exact absurd this (Nat.lt_irrefl _)
        · have := hp.1 _ h1; rw [← h2] at this; exact absurd this (Nat.lt_irrefl _)
        · exact ih hp.2 h1 h2
    subst this
    exact hx hxv
/-- What stands there came with one of b's operations, or stood there before. -/
theorem asM_from {b : Nat → Bool} {M : Nat → Option β} {x : Nat} {y : β} : ∀ {L : List (Nat × List (Nat × Option β))}, asM b M L x = some y → M x = some y ∨ ∃ i w, (i, w) ∈ L ∧ b i = true ∧ (x, some y) ∈ w
  | [], h => .inl h
  | (i, w) :: L, h => by
    have ih := asM_from (b := b) (M := M) (x := x) (y := y) (L := L)
    have up : (M x = some y ∨ ∃ i w, (i, w) ∈ L ∧ b i = true ∧ (x, some y) ∈ w) → M x = some y ∨ ∃ i' w', (i', w') ∈ (i, w) :: L ∧ b i' = true ∧ (x, some y) ∈ w' := fun h => h.imp id fun ⟨i', w', h1, h2⟩ => ⟨i', w', List.mem_cons_of_mem _ h1, h2⟩
    unfold asM at h
    cases hb : b i with
    | false => rw [hb] at h; exact up (ih h)
    | true =>
      rw [hb, if_pos rfl] at h
      have key : ∀ v : List (Nat × Option β), appL (asM b M L) v x = some y → (x, some y) ∈ v ∨ asM b M L x = some y := by
        intro v
        induction v with
        | nil => exact fun h => .inr h
        | cons e r ihr =>
          intro h
          obtain ⟨k, B⟩ := e
          unfold appL at h
          by_cases hx : x = k
          · rw [if_pos hx] at h
            subst hx h
            exact .inl List.mem_cons_self
          · rw [if_neg hx] at h
            exact (ihr h).imp (List.mem_cons_of_mem _) id
      rcases key w h with h | h
      · exact .inr ⟨i, w, List.mem_cons_self, hb, h⟩
      · exact up (ih h)
end

/-- The operations with their numbers, the last one first. -/
def idx {α : Type} : Nat → List α → List (Nat × α) → List (Nat × α)
  | _, [], acc => acc
  | k, x :: l, acc => idx (k + 1) l ((k, x) :: acc)
theorem idx_mem {α : Type} {j : Nat} {y : α} : ∀ {l : List α} {k : Nat} {acc : List (Nat × α)}, (j, y) ∈ idx k l acc ↔ (j, y) ∈ acc ∨ (k ≤ j ∧ l[j - k]? = some y)
  | [], k, acc => by simp [idx]
  | x :: l, k, acc => by
    unfold idx
    rw [idx_mem (l := l)]
    constructor
    · rintro (h | ⟨h1, h2⟩)
      · rcases List.mem_cons.1 h with h | h
        · cases h
          exact .inr ⟨Nat.le_refl _, by simp⟩
        · exact .inl h
      · refine .inr ⟨by omega, ?_⟩
        rw [show j - k = (j - (k + 1)) + 1 by omega]
        simpa using h2
    · rintro (h | ⟨h1, h2⟩)
      · exact .inl (List.mem_cons_of_mem _ h)
      · by_cases e : j = k
        · subst e
          simp at h2
          subst h2
          exact .inl List.mem_cons_self
        · refine .inr ⟨by omega, ?_⟩
          rw [show j - k = (j - (k + 1)) + 1 by omega] at h2
          simpa using h2
theorem idx_sorted {α : Type} : ∀ {l : List α} {k : Nat} {acc : List (Nat × α)}, acc.Pairwise (fun p q => q.1 < p.1) → (∀ p, p ∈ acc → p.1 < k) → (idx k l acc).Pairwise (fun p q => q.1 < p.1)
  | [], _, _, h, _ => h
  | x :: l, k, acc, h, hk => by
    unfold idx
    exact idx_sorted (List.pairwise_cons.2 ⟨fun p hp => hk p hp, h⟩) (fun p hp => by
      rcases List.mem_cons.1 hp with rfl | hp
      · exact Nat.lt_succ_self _
      · exact Nat.lt_succ_of_lt (hk p hp))
def wT (p : Oper × Rec) : List (Nat × Option AV) := match p.1.dst with
  | none => []
  | some t => [(t, some p.2.v)]
def wH (p : Oper × Rec) : List (Nat × Option Blk) := p.2.hs
theorem putD_eq (T : Tm) (p : Oper × Rec) : putD T p.1.dst p.2.v = appL T (wT p) := by
  unfold wT putD
  cases p.1.dst with
  | none => rfl
  | some t => rfl
def LT (rs : List (Oper × Rec)) : List (Nat × List (Nat × Option AV)) := (idx 0 rs []).map fun p => (p.1, wT p.2)
def LH (rs : List (Oper × Rec)) : List (Nat × List (Nat × Option Blk)) := (idx 0 rs []).map fun p => (p.1, wH p.2)
theorem L_mem {β : Type} {f : Oper × Rec → β} {rs : List (Oper × Rec)} {i : Nat} {w : β} : (i, w) ∈ ((idx 0 rs []).map fun p => (p.1, f p.2)) ↔ ∃ p, rs[i]? = some p ∧ f p = w := by
  simp only [List.mem_map]
  constructor
  · rintro ⟨⟨j, p⟩, h, e⟩
    cases e
    rcases (idx_mem (l := rs)).1 h with h | ⟨_, h⟩
    · cases h
    · exact ⟨p, by simpa using h, rfl⟩
  · rintro ⟨p, h, rfl⟩
    exact ⟨(i, p), (idx_mem (l := rs)).2 (.inr ⟨Nat.zero_le _, by simpa using h⟩), rfl⟩
theorem L_sorted {β : Type} {f : Oper × Rec → β} {rs : List (Oper × Rec)} : ((idx 0 rs []).map fun p => (p.1, f p.2)).Pairwise (fun p q => q.1 < p.1) := by
  rw [List.pairwise_map]
  exact idx_sorted List.Pairwise.nil (fun p hp => by cases hp)
def inter (a b : List Nat) : Bool := a.any fun x => b.contains x
theorem inter_false {a b : List Nat} (h : inter a b = false) {x : Nat} (ha : x ∈ a) (hb : x ∈ b) : False := by
  unfold inter at h
  rw [List.any_eq_false] at h
  exact h x ha (by simpa using hb)
def idsL {β : Type} (f : β → List Nat) (w : List (Nat × Option β)) : List Nat := w.flatMap fun p => match p.2 with | none => [] | some y => f y
theorem idsL_mem {β : Type} {f : β → List Nat} {w : List (Nat × Option β)} {x b : Nat} {y : β} (h : (x, some y) ∈ w) (hb : b ∈ f y) : b ∈ idsL f w := List.mem_flatMap.2 ⟨_, h, hb⟩
/-- May these two come in any order? i stands ahead of j. -/
def apart (ops : Array Oper) (p q : Oper × Rec) : Bool :=
  !(inter (keys (wT p)) (rdT ops q.1 ++ keys (wT q)) || inter (rdT ops p.1) (keys (wT q)) || inter (keys p.2.hs) (q.2.rd ++ keys q.2.hs) || inter p.2.rd (keys q.2.hs) ||
    inter p.2.nw (idsL AV.ids (wT q) ++ idsL Blk.ids q.2.hs))
/-- .. and does j need none of i's names, nor i one of j's? -/
def okPair (ops : Array Oper) (B : List Nat) (rs : List (Oper × Rec)) (i j : Nat) : Bool := match rs[i]?, rs[j]? with
  | some p, some q => ((B.getD j 0).testBit i || apart ops p q) && !inter q.2.nw (idsL AV.ids (wT p) ++ idsL Blk.ids p.2.hs)
  | _, _ => true
def okDraw (ops : Array Oper) (B : List Nat) (rs : List (Oper × Rec)) : Bool := (List.range rs.length).all fun j => (List.range j).all fun i => okPair ops B rs i j
theorem okDraw_pair {ops : Array Oper} {B : List Nat} {rs : List (Oper × Rec)} (h : okDraw ops B rs = true) {i j : Nat} (hij : i < j) {p q : Oper × Rec} (hp : rs[i]? = some p) (hq : rs[j]? = some q) :
    ((B.getD j 0).testBit i = true ∨ apart ops p q = true) ∧ inter q.2.nw (idsL AV.ids (wT p) ++ idsL Blk.ids p.2.hs) = false := by
  unfold okDraw at h
  rw [List.all_eq_true] at h
  have h1 := h j (by simpa using (List.getElem?_eq_some_iff.1 hq).1)
  rw [List.all_eq_true] at h1
  have h2 := h1 i (by simpa using hij)
  unfold okPair at h2
  simp only [hp, hq, Bool.and_eq_true, Bool.or_eq_true, Bool.not_eq_true'] at h2
  exact h2
end Go.Proofs.Ytggmeldoecnkaaa.Av
