/-
Rows whose inner slices are their own: append, a literal of one, make.
Conditions: none beside those that each theorem names.
-/
import Derived.Test.YtggmeldoecnkaaaAv31
set_option linter.unusedVariables false
set_option linter.unusedSimpArgs false
namespace Go.Proofs.Ytggmeldoecnkaaa.Av
open Go.RowKit

section
variable {P : Program} {N : Nat} {o : Oper} {T : Tm} {H : Hp}
theorem ND.to {g : Env} {w w' : World} {k k2 : Nat} {c c' : Cp} {co : List (Nat × Nat × TypeId)} {j : Nat} {d : D} {u : Value} (h : ND g w k c co j d u) (hm : ∀ k', c.m k' → k' ≠ k → c'.m k' ∧ k' ≠ k2 ∧ w'.heap[k']? = w.heap[k']?) : ND g w' k2 c' co j d u := by
  match d, h with
  | .v x, h => exact h
  | .sl q, .inl h => exact .inl h
  | .sl q, .inr ⟨wd, ty, k', cap, h1, h2, h3⟩ =>
    obtain ⟨e1, e2, e3⟩ := hm k' h3.own h3.ne
    exact .inr ⟨wd, ty, k', cap, h1, h2, h3.pos, h3.len, e1, e2, h3.fr, h3.le, h3.max, let ⟨cs, g1, g2⟩ := h3.blk; ⟨cs, e3.trans g1, g2⟩⟩
theorem ND.one {g : Env} {w : World} {k : Nat} {c : Cp} {co : List (Nat × Nat × TypeId)} {j : Nat} {d : D} {u : Value} (h : ND g w k c co j d u) : u.oneCell' = true := by
  match d, h with
  | .v x, h => rw [h.1]; exact h.2
  | .sl q, .inl h => rw [h.1]; rfl
  | .sl q, .inr ⟨wd, ty, k', cap, h1, h2, h3⟩ => rw [h2]; rfl
/-- A nest, or none. -/
inductive BaseN (H : Hp) (wd ty : Nat) (co : List (Nat × Nat × TypeId)) : Cell → Option Nat → List (List D) → Prop
  | nil : BaseN H wd ty co .nil none []
  | ref (b : Nat) (rows : List (List D)) (h : H b = some (.nst wd ty co rows [])) : BaseN H wd ty co (.ref b) (some b) rows
theorem BaseN.agree {H' : Hp} {wd ty : Nat} {co : List (Nat × Nat × TypeId)} {c : Cell} {bo : Option Nat} {rows : List (List D)} (hb : BaseN H wd ty co c bo rows) (h : ∀ b, b ∈ idO bo → H' b = H b) : BaseN H' wd ty co c bo rows := by
  cases hb with
  | nil => exact .nil
  | ref b _ hb => exact .ref b _ ((h b (by simp [idO])).trans hb)
/-- The cells of a nest that nobody else holds. -/
theorem own_n {κ : Nat → Value} {w0 : World} {S : Wr} {ι : Nm} {a : Act} {w : World} (hr : Rel N κ w0 S ι T H a w) {c : Cell} {bo : Option Nat} {wd ty : Nat} {co : List (Nat × Nat × TypeId)} {rows : List (List D)} (hb : BaseN H wd ty co c bo rows) (hwd : 0 < wd) {v : Value} (hv : CR ⟨κ, S.fr⟩ ι H w c v) :
    ∃ (xs : List Value) (k0 : Nat) (c0 : Cp), w.ownsRow 0 ty wd v rows.length xs ∧ (∀ k, v.ownBlock = some k → k = k0 ∧ S.fr k ∧ ∃ b, bo = some b ∧ ι b = some (k0, c0)) ∧ (∀ k', c0.m k' → k' < w.heap.size ∧ ∃ b, bo = some b ∧ ι b = some (k0, c0)) ∧ (∀ r, r ∈ rows → r.length = wd) ∧
      (∀ (i : Nat) (r : List D) (j : Nat) (d : D), rows[i]? = some r → r[j]? = some d → ∃ u, xs[i * wd + j]? = some u ∧ ND ⟨κ, S.fr⟩ w k0 c0 co j d u) ∧
      ∀ (i j i' j' : Nat) (r r' : List D) (q q' : List (List D)) (k' n n' z z' : Nat), rows[i]? = some r → r[j]? = some (.sl q) → rows[i']? = some r' → r'[j']? = some (.sl q') → xs[i * wd + j]? = some (.slice (some ⟨k', 0, none⟩) n z) → xs[i' * wd + j']? = some (.slice (some ⟨k', 0, none⟩) n' z') → i = i' ∧ j = j' := by
  cases hb with
  | nil =>
    cases hv
    exact ⟨[], 0, cp 0, World.ownsRow_nil w 0 ty wd, (fun k hk => by cases hk), (fun k hk => hk.elim), (fun r hr => by cases hr), (fun i r j d hi => by cases hi), fun i j i' j' r r' q q' k' n n' z z' hi => by cases hi⟩
  | ref b _ hb =>
    obtain ⟨wd', n, hsh, href⟩ := hv _ hb
    simp only [Blk.shape, Prod.mk.injEq, true_and] at hsh
    obtain ⟨rfl, rfl⟩ := hsh
    have hbr := hr.blk b _ hb
    have hw : ∀ r, r ∈ rows → r.length = wd := fun r hr => by obtain ⟨i, hi⟩ := List.mem_iff_getElem?.1 hr; exact hbr.2.1 i r hi
    cases hi : ι b with
    | none =>
      rw [hi] at href hbr
      obtain ⟨_, _, rfl⟩ := hbr
      rw [href.2]
      exact ⟨[], 0, cp 0, World.ownsRow_nil w 0 ty wd, (fun k hk => by cases hk), (fun k hk => hk.elim), hw, (fun i r j d hi => by cases hi), fun i j i' j' r r' q q' k' n n' z z' hi => by cases hi⟩
    | some x =>
      obtain ⟨k, cc⟩ := x
      rw [hi] at href hbr
      have href : v = .slice (some ⟨k, 0, none⟩) rows.length cc := href
      subst href
      obtain ⟨_, _, cs, hh, h1, h2, h3, h4, h5, h6, h7⟩ := hbr
      have hle : rows.length * wd ≤ cs.size := by rw [h3]; exact Nat.mul_le_mul_right _ h1
      have get : ∀ (i : Nat) (r : List D) (j : Nat) (d : D), rows[i]? = some r → r[j]? = some d → (cs.toList.take (rows.length * wd))[i * wd + j]? = cs[i * wd + j]? := fun i r j d hi' hj => by
        have hil : i < rows.length := (List.getElem?_eq_some_iff.1 hi').1
        have hjl : j < wd := by have := (List.getElem?_eq_some_iff.1 hj).1; have := hw r (List.mem_of_getElem? hi'); omega
        have : (i + 1) * wd ≤ rows.length * wd := Nat.mul_le_mul_right _ hil
        rw [Nat.add_mul, Nat.one_mul] at this
        rw [List.getElem?_take, if_pos (by omega)]
        simp
      refine ⟨cs.toList.take (rows.length * wd), k, cc, ⟨(List.length_take ..).trans (Nat.min_eq_left (by rw [show cs.toList.length = cs.size from Array.length_toList]; exact hle)), .inr ⟨k, cc, cs, rfl, Nat.zero_le _, hh, h1, h2, h3, rfl⟩⟩, (fun k' hk' => by cases hk'; exact ⟨rfl, h4, b, rfl, hi⟩), (fun k' hk' => ⟨h5 k' hk', b, rfl, hi⟩), hw, (fun i r j d hi' hj => ?_), fun i j i' j' r r' q q' k' n n' z z' a1 a2 b1 b2 v1 v2 => ?_⟩
      · obtain ⟨u, hu, ht⟩ := h6 i r j d hi' hj
        exact ⟨u, (get i r j d hi' hj).trans hu, ht⟩
      · exact h7 i j i' j' r r' q q' k' n n' z z' a1 a2 rfl b1 b2 rfl ((get i r j _ a1 a2).symm.trans v1) ((get i' r' j' _ b1 b2).symm.trans v2)
/-- What append leaves behind: the nest of both. -/
theorem after_appN {κ : Nat → Value} {w0 : World} {S : Wr} {ι : Nm} {a : Act} {w w' : World} (hr : Rel N κ w0 S ι T H a w) {c c2 : Cell} {bo bs : Option Nat} {wd ty id : Nat} {co : List (Nat × Nat × TypeId)} {rows rows2 : List (List D)} (hb : BaseN H wd ty co c bo rows) (hs : BaseN H wd ty co c2 bs rows2) (hwd : 0 < wd) {v v' : Value} (hF : Fresh T H id) (hid : id ∉ idO bo) (hid2 : id ∉ idO bs) (hne : ∀ b, bo = some b → bs ≠ some b)
    {xs news : List Value} {k0 k2 : Nat} {c0 cc2 : Cp} (h1 : w.ownsRow 0 ty wd v rows.length xs) (h2 : ∀ k, v.ownBlock = some k → k = k0 ∧ S.fr k ∧ ∃ b, bo = some b ∧ ι b = some (k0, c0)) (h3 : ∀ k', c0.m k' → k' < w.heap.size ∧ ∃ b, bo = some b ∧ ι b = some (k0, c0)) (h4 : ∀ r, r ∈ rows → r.length = wd)
    (h5 : ∀ (i : Nat) (r : List D) (j : Nat) (d : D), rows[i]? = some r → r[j]? = some d → ∃ u, xs[i * wd + j]? = some u ∧ ND ⟨κ, S.fr⟩ w k0 c0 co j d u)
    (h6 : ∀ (i j i' j' : Nat) (r r' : List D) (q q' : List (List D)) (k' n n' z z' : Nat), rows[i]? = some r → r[j]? = some (.sl q) → rows[i']? = some r' → r'[j']? = some (.sl q') → xs[i * wd + j]? = some (.slice (some ⟨k', 0, none⟩) n z) → xs[i' * wd + j']? = some (.slice (some ⟨k', 0, none⟩) n' z') → i = i' ∧ j = j')
    (g3 : ∀ k', cc2.m k' → k' < w.heap.size ∧ ∃ b, bs = some b ∧ ι b = some (k2, cc2)) (g4 : ∀ r, r ∈ rows2 → r.length = wd)
    (g5 : ∀ (i : Nat) (r : List D) (j : Nat) (d : D), rows2[i]? = some r → r[j]? = some d → ∃ u, news[i * wd + j]? = some u ∧ ND ⟨κ, S.fr⟩ w k2 cc2 co j d u)
    (g6 : ∀ (i j i' j' : Nat) (r r' : List D) (q q' : List (List D)) (k' n n' z z' : Nat), rows2[i]? = some r → r[j]? = some (.sl q) → rows2[i']? = some r' → r'[j']? = some (.sl q') → news[i * wd + j]? = some (.slice (some ⟨k', 0, none⟩) n z) → news[i' * wd + j']? = some (.slice (some ⟨k', 0, none⟩) n' z') → i = i' ∧ j = j')
    (ho : w'.ownsRow 0 ty wd v' (rows.length + rows2.length) (xs ++ news)) (hg : w.grownBy w' v.ownBlock) (hat : v'.ownBlock = v.ownBlock ∨ v'.ownBlock = some w.heap.size) :
    ∃ g, Rel N κ w0 S (ι.put id g) T (appL H ((id, some (.nst wd ty co (rows ++ rows2) [])) :: (gone bo ++ gone bs))) a w' ∧ RefV (key g) (rows ++ rows2).length v' := by
  have hbl : ∀ b, bo = some b → ∃ B, H b = some B ∧ B.wr = true ∧ B.isN = true := by
    intro b hb'
    subst hb'
    cases hb with
    | ref _ _ hb => exact ⟨_, hb, rfl, rfl⟩
  have hbs : ∀ b, bs = some b → ∃ B, H b = some B ∧ B.wr = true ∧ B.isN = true := by
    intro b hb'
    subst hb'
    cases hs with
    | ref _ _ hb => exact ⟨_, hb, rfl, rfl⟩
  let m' : Nat → Prop := fun x => c0.m x ∨ cc2.m x
  -- the new name
  obtain ⟨g, hgv, hgk, hgb⟩ : ∃ g : Option (Nat × Cp), RefV (key g) (rows ++ rows2).length v' ∧ (∀ k cc, g = some (k, cc) → v'.ownBlock = some k ∧ cc.m = m') ∧
      (match g with
        | none => rows ++ rows2 = []
        | some (k, cc) => ∃ cs, w'.heap[k]? = some (.cells cs ty (0, 0)) ∧ (rows ++ rows2).length ≤ cc.n ∧ cc.n ≤ maxLen ∧ cs.size = cc.n * wd ∧ cs.toList.take ((rows.length + rows2.length) * wd) = xs ++ news) := by
    rcases ho.2 with ⟨e1, e2⟩ | ⟨k, cc, cs, e1, _, e2, e3, e4, e5, e6⟩
    · exact ⟨none, ⟨by rw [List.length_append]; exact e2, e1⟩, (fun k cc h => by cases h), List.eq_nil_of_length_eq_zero (by rw [List.length_append]; exact e2)⟩
    · refine ⟨some (k, ⟨cc, m'⟩), ?_, (fun k' cc' h => by cases h; rw [e1]; exact ⟨rfl, rfl⟩), cs, e2, by rw [List.length_append]; exact e3, e4, e5, e6⟩
      show v' = _
      rw [e1, List.length_append]
  refine ⟨g, ?_, hgv⟩
  generalize hH1 : appL H ((id, some (.nst wd ty co (rows ++ rows2) [])) :: (gone bo ++ gone bs)) = H1
  have hgone : ∀ (o : Option Nat) (M : Hp) (b : Nat), appL M (gone o) b = if o = some b then none else M b := fun o M b => by
    cases o with
    | none => simp [gone, appL]
    | some b0 =>
      simp only [gone, appL]
      by_cases e : b = b0
      · subst e; simp
      · rw [if_neg e, if_neg (fun h => e (by cases h; rfl))]
  have hH : ∀ b, b ≠ id → H1 b = if bo = some b then none else if bs = some b then none else H b := by
    intro b hb'
    rw [← hH1]
    simp only [appL, if_neg hb']
    rw [appL_append, hgone, hgone]
  have hself : H1 id = some (.nst wd ty co (rows ++ rows2) []) := by rw [← hH1]; simp [appL]
  have hι : ∀ b, b ≠ id → (ι.put id g) b = ι b := fun b hb' => by simp [Nm.put, hb']
  have hιd : (ι.put id g) id = g := by simp [Nm.put]
  have hold : ∀ b B, b ≠ id → H1 b = some B → H b = some B ∧ bo ≠ some b ∧ bs ≠ some b := by
    intro b B hb' h
    rw [hH b hb'] at h
    by_cases e : bo = some b
    · rw [if_pos e] at h; cases h
    · rw [if_neg e] at h
      by_cases e2 : bs = some b
      · rw [if_pos e2] at h; cases h
      · rw [if_neg e2] at h; exact ⟨h, e, e2⟩
  have hk' : ∀ k cc, g = some (k, cc) → (v.ownBlock = some k) ∨ k = w.heap.size := fun k cc h => by
    have := (hgk k cc h).1
    rcases hat with e | e
    · exact .inl (e ▸ this)
    · rw [e] at this; cases this; exact .inr rfl
  -- whose are the blocks
  have ob : ∀ k, v.ownBlock = some k → ∃ b B, bo = some b ∧ H b = some B ∧ B.wr = true ∧ ι b = some (k0, c0) ∧ Owns B (k0, c0) k := fun k hk => by
    obtain ⟨rfl, _, b, e1, e2⟩ := h2 k hk
    obtain ⟨B, e3, e4, _⟩ := hbl b e1
    exact ⟨b, B, e1, e3, e4, e2, .inl rfl⟩
  have o0 : ∀ k', c0.m k' → ∃ b B, bo = some b ∧ H b = some B ∧ B.wr = true ∧ ι b = some (k0, c0) ∧ Owns B (k0, c0) k' := fun k hk => by
    obtain ⟨_, b, e1, e2⟩ := h3 k hk
    obtain ⟨B, e3, e4, e5⟩ := hbl b e1
    exact ⟨b, B, e1, e3, e4, e2, .inr ⟨e5, hk⟩⟩
  have o2 : ∀ k', cc2.m k' → ∃ b B, bs = some b ∧ H b = some B ∧ B.wr = true ∧ ι b = some (k2, cc2) ∧ Owns B (k2, cc2) k' := fun k hk => by
    obtain ⟨_, b, e1, e2⟩ := g3 k hk
    obtain ⟨B, e3, e4, e5⟩ := hbs b e1
    exact ⟨b, B, e1, e3, e4, e2, .inr ⟨e5, hk⟩⟩
  have hown : ∀ y k, g = some y → Owns (.nst wd ty co (rows ++ rows2) []) y k → (∃ b B x, (bo = some b ∨ bs = some b) ∧ H b = some B ∧ B.wr = true ∧ ι b = some x ∧ Owns B x k) ∨ k = w.heap.size := fun y k hy ho => by
    rcases ho with ho | ⟨_, ho⟩
    · rcases hk' y.1 y.2 hy with e | e
      · obtain ⟨b, B, e1, e2, e3, e4, e5⟩ := ob k (ho ▸ e)
        exact .inl ⟨b, B, (k0, c0), .inl e1, e2, e3, e4, e5⟩
      · exact .inr (ho.trans e)
    · have := (hgk y.1 y.2 hy).2
      rw [this] at ho
      rcases ho with ho | ho
      · obtain ⟨b, B, e1, e2, e3, e4, e5⟩ := o0 k ho
        exact .inl ⟨b, B, (k0, c0), .inl e1, e2, e3, e4, e5⟩
      · obtain ⟨b, B, e1, e2, e3, e4, e5⟩ := o2 k ho
        exact .inl ⟨b, B, (k2, cc2), .inr e1, e2, e3, e4, e5⟩
  -- what stays as it is
  have stay : ∀ k', (c0.m k' ∧ k' ≠ k0 ∨ cc2.m k') → v.ownBlock ≠ some k' ∧ k' < w.heap.size := fun k' hk' => by
    rcases hk' with ⟨hk', hn⟩ | hk'
    · exact ⟨fun e => hn (h2 k' e).1, (h3 k' hk').1⟩
    · refine ⟨fun e => ?_, (g3 k' hk').1⟩
      obtain ⟨b, B, e1, e2, _, e4, e5⟩ := ob k' e
      obtain ⟨b', B', f1, f2, _, f4, f5⟩ := o2 k' hk'
      have := hr.injO b b' B B' _ _ k' e2 f2 e4 f4 e5 f5
      exact hne b e1 (this ▸ f1)
  have disj : ∀ k', c0.m k' → ¬ cc2.m k' := fun k' hk1 hk2 => by
    obtain ⟨b, B, e1, e2, _, e4, e5⟩ := o0 k' hk1
    obtain ⟨b', B', f1, f2, _, f4, f5⟩ := o2 k' hk2
    have := hr.injO b b' B B' _ _ k' e2 f2 e4 f4 e5 f5
    exact hne b e1 (this ▸ f1)
  refine (hr.nextO (fun k => v.ownBlock = some k) ⟨hg.os, hg.tape, hg.output, hg.size, fun k hk hn => hg.block k hk (fun e => hn e.symm)⟩ (fun k hk _ => ?_) (fun b => ?_) (fun b B x k hB hi hox => ?_) (fun b b' B B' x1 x2 k e1 e2 e3 e4 p1 p2 => ?_) (fun hok b B hB => ?_) (fun b hb => congrArg key (hι b fun e => by have := hF.2.2; omega))).1
  · obtain ⟨b, B, e1, e2, e3, e4, e5⟩ := ob k hk
    exact ⟨b, B, _, e2, e3, e4, e5⟩
  · by_cases hb' : b = id
    · subst hb'; exact .inr hF
    · refine .inl fun B' hB' => ?_
      obtain ⟨e1, _⟩ := hold b B' hb' hB'
      exact ⟨B', e1, rfl, rfl, congrArg key (hι b hb')⟩
  · by_cases hb' : b = id
    · subst hb'
      rw [hself] at hB
      cases hB
      rw [hιd] at hi
      rcases hown x k hi hox with ⟨b0, B0, x0, _, e2, e3, e4, e5⟩ | e
      · exact .inl ⟨b0, B0, x0, e2, fun _ => e3, e4, e5⟩
      · exact .inr ⟨.inr (by omega), .inl (by have := hr.kept.size; omega)⟩
    · obtain ⟨e1, _⟩ := hold b B hb' hB
      rw [hι b hb'] at hi
      exact .inl ⟨b, B, x, e1, fun h => h, hi, hox⟩
  · have side : ∀ b B x y, b ≠ id → H1 b = some B → (ι.put id g) b = some x → Owns B x k → g = some y → Owns (.nst wd ty co (rows ++ rows2) []) y k → False := by
      intro b B x y hb' hB hi hox hy ho
      obtain ⟨e1, e2, e3⟩ := hold b B hb' hB
      rw [hι b hb'] at hi
      rcases hown y k hy ho with ⟨b0, B0, x0, f1, f2, _, f4, f5⟩ | e
      · have := hr.injO b b0 B B0 x x0 k e1 f2 hi f4 hox f5
        subst this
        exact f1.elim e2 e3
      · have := hr.ownLt e1 hi hox; omega
    by_cases hb1 : b = id <;> by_cases hb2 : b' = id
    · exact hb1.trans hb2.symm
    · subst hb1
      rw [hιd] at e3
      rw [hself] at e1
      cases e1
      exact (side b' B' x2 x1 hb2 e2 e4 p2 e3 p1).elim
    · subst hb2
      rw [hιd] at e4
      rw [hself] at e2
      cases e2
      exact (side b B x1 x2 hb1 e1 e3 p1 e4 p2).elim
    · rw [hι b hb1] at e3
      rw [hι b' hb2] at e4
      exact hr.injO b b' B B' x1 x2 k (hold b B hb1 e1).1 (hold b' B' hb2 e2).1 e3 e4 p1 p2
  · by_cases hb' : b = id
    · subst hb'
      rw [hself] at hB
      cases hB
      rw [hιd]
      refine .inr ⟨hwd, fun i r hi => ?_, ?_⟩
      · rcases List.mem_append.1 (List.mem_of_getElem? hi) with h | h
        · exact h4 r h
        · exact g4 r h
      · cases hgg : g with
        | none => rw [hgg] at hgb; exact hgb
        | some y =>
          obtain ⟨k, cc⟩ := y
          rw [hgg] at hgb
          obtain ⟨hvk, hcm⟩ := hgk k cc hgg
          obtain ⟨cs, f1, f2, f3, f4, f5⟩ := hgb
          have hlen : xs.length = rows.length * wd := h1.1
          have get : ∀ m u, m < (rows.length + rows2.length) * wd → (xs ++ news)[m]? = some u → cs[m]? = some u := fun m u hm hu => by
            rw [← f5, List.getElem?_take, if_pos hm] at hu
            simpa using hu
          have hko : k = k0 ∧ v.ownBlock = some k ∨ k = w.heap.size := (hk' k cc hgg).imp (fun e => ⟨(h2 k e).1, e⟩) id
          have keep : ∀ k', c0.m k' ∧ k' ≠ k0 ∨ cc2.m k' → w'.heap[k']? = w.heap[k']? ∧ k' ≠ k := fun k' hk' => by
            obtain ⟨s1, s2⟩ := stay k' hk'
            refine ⟨hg.block k' s2 (fun e => s1 e.symm), fun e => ?_⟩
            subst e
            rcases hko with ⟨_, e⟩ | e
            · exact s1 e
            · omega
          -- the cells, one by one
          have cell : ∀ i r j d, (rows ++ rows2)[i]? = some r → r[j]? = some d → (i < rows.length ∧ rows[i]? = some r ∧ ∃ u, xs[i * wd + j]? = some u ∧ cs[i * wd + j]? = some u ∧ ND ⟨κ, S.fr⟩ w k0 c0 co j d u) ∨ (rows.length ≤ i ∧ rows2[i - rows.length]? = some r ∧ ∃ u, news[(i - rows.length) * wd + j]? = some u ∧ cs[i * wd + j]? = some u ∧ ND ⟨κ, S.fr⟩ w k2 cc2 co j d u) := by
            intro i r j d hi hj
            have hjl : j < wd := by
              have := (List.getElem?_eq_some_iff.1 hj).1
              rcases List.mem_append.1 (List.mem_of_getElem? hi) with h | h
              · have := h4 r h; omega
              · have := g4 r h; omega
            by_cases hil : i < rows.length
            · rw [List.getElem?_append_left hil] at hi
              obtain ⟨u, hu, ht⟩ := h5 i r j d hi hj
              have hm : i * wd + j < rows.length * wd := by
                have : (i + 1) * wd ≤ rows.length * wd := Nat.mul_le_mul_right _ hil
                rw [Nat.add_mul, Nat.one_mul] at this
                omega
              exact .inl ⟨hil, hi, u, hu, get _ u (by rw [Nat.add_mul]; omega) (by rw [List.getElem?_append_left (by omega)]; exact hu), ht⟩
            · rw [List.getElem?_append_right (by omega)] at hi
              obtain ⟨u, hu, ht⟩ := g5 (i - rows.length) r j d hi hj
              have hil2 : i - rows.length < rows2.length := (List.getElem?_eq_some_iff.1 hi).1
              have e : i * wd + j = rows.length * wd + ((i - rows.length) * wd + j) := by
                rw [← Nat.add_assoc, ← Nat.add_mul]
                congr 2
                omega
              have hm : (i - rows.length) * wd + j < rows2.length * wd := by
                have : (i - rows.length + 1) * wd ≤ rows2.length * wd := Nat.mul_le_mul_right _ hil2
                rw [Nat.add_mul, Nat.one_mul] at this
                omega
              exact .inr ⟨by omega, hi, u, hu, get _ u (by rw [Nat.add_mul]; omega) (by rw [List.getElem?_append_right (by omega), show i * wd + j - xs.length = (i - rows.length) * wd + j by omega]; exact hu), ht⟩
          refine ⟨cs, f1, f2, f3, f4, ?_, fun k' hk' => ?_, fun i r j d hi hj => ?_, fun i1 j1 i2 j2 r1 r2 q1 q2 k' n n' z z' a1 a2 _ b1 b2 _ v1 v2 => ?_⟩
          · rcases hko with ⟨_, e⟩ | e
            · exact (h2 k e).2.1
            · exact hr.new _ (by have := hr.kept.size; omega)
          · rw [hcm] at hk'
            exact Nat.lt_of_lt_of_le (hk'.elim (fun h => (h3 k' h).1) fun h => (g3 k' h).1) hg.size
          · rcases cell i r j d hi hj with ⟨_, _, u, _, u2, ht⟩ | ⟨_, _, u, _, u2, ht⟩
            · exact ⟨u, u2, ND.to ht fun k' hk1 hk2 => let ⟨s1, s2⟩ := keep k' (.inl ⟨hk1, hk2⟩); ⟨by rw [hcm]; exact .inl hk1, s2, s1⟩⟩
            · exact ⟨u, u2, ND.to ht fun k' hk1 _ => let ⟨s1, s2⟩ := keep k' (.inr hk1); ⟨by rw [hcm]; exact .inr hk1, s2, s1⟩⟩
          · rcases cell i1 r1 j1 _ a1 a2 with ⟨l1, m1, u1, w1, w2, t1⟩ | ⟨l1, m1, u1, w1, w2, t1⟩ <;> rcases cell i2 r2 j2 _ b1 b2 with ⟨l2, m2, u2, x1, x2, t2⟩ | ⟨l2, m2, u2, x1, x2, t2⟩ <;> (rw [v1] at w2; rw [v2] at x2; cases w2; cases x2)
            · exact h6 i1 j1 i2 j2 r1 r2 q1 q2 k' n n' z z' m1 a2 m2 b2 w1 x1
            · exact absurd t2.at_.1 (disj k' t1.at_.1)
            · exact absurd t1.at_.1 (disj k' t2.at_.1)
            · obtain ⟨y1, y2⟩ := g6 (i1 - rows.length) j1 (i2 - rows.length) j2 r1 r2 q1 q2 k' n n' z z' m1 a2 m2 b2 w1 x1
              exact ⟨by omega, y2⟩
    · obtain ⟨e1, e2, e3⟩ := hold b B hb' hB
      refine .inl ⟨e1, hι b hb', hr.keeps (M := fun k => v.ownBlock = some k) ⟨hg.os, hg.tape, hg.output, hg.size, fun k hk hn => hg.block k hk (fun e => hn e.symm)⟩ e1 fun x hi k ho hk => ?_⟩
      obtain ⟨b0, B0, f1, f2, _, f4, f5⟩ := ob k hk
      have := hr.injO b b0 B B0 x _ k e1 f2 hi f4 ho f5
      exact e2 (this ▸ f1)
end
end Go.Proofs.Ytggmeldoecnkaaa.Av
