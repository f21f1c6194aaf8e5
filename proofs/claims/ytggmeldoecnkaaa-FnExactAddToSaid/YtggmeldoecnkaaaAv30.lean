/-
Rows whose inner slices are their own: what loads and stores in them come to.
Conditions: none beside those that each theorem names.
-/
import Derived.Test.YtggmeldoecnkaaaAv29
set_option linter.unusedVariables false
set_option linter.unusedSimpArgs false
namespace Go.Proofs.Ytggmeldoecnkaaa.Av
open Go.RowKit

section
variable {P : Program} {N : Nat} {T : Tm} {H : Hp} {κ : Nat → Value} {w0 : World} {S : Wr} {ι : Nm} {a : Act} {w : World}
/-- AN INNER SLICE IS TAKEN OUT: it has a name of its own, its cell is a hole. -/
theorem Rel.focN (h : Rel N κ w0 S ι T H a w) {b r i j wd wd' : Nat} {e ty : TypeId} {co : List (Nat × Nat × TypeId)} {rows : List (List D)} {op : List (Nat × Nat × Nat)} {q : List (List D)} {row : List D}
    (hb : H b = some (.nst wd e co rows op)) (hn : hole op i j = none) (hF : Fresh T H r) (hbr : b ≠ r) (hlk : lk co j = some (wd', ty)) (hw' : 0 < wd') (hrow : rows[i]? = some row) (hq : row[j]? = some (.sl q)) :
    ∃ ι', Rel N κ w0 S ι' T ((H.put r (some (.row wd' ty q false true))).put b (some (.nst wd e co rows ((i, j, r) :: op)))) a w := by
  obtain ⟨hw0, hwd, hB3⟩ := h.blk b _ hb
  cases hib : ι b with
  | none =>
    rw [hib] at hB3
    have hB3 : rows = [] := hB3
    rw [hB3] at hrow
    cases hrow
  | some x =>
  obtain ⟨k, c⟩ := x
  rw [hib] at hB3
  obtain ⟨cs, hh, hle, hmx, hsz, hfr, hml, hcl, hdis⟩ := hB3
  obtain ⟨u, hu, hur⟩ := hcl i row j _ hrow hq
  rw [hn] at hur
  have hur : ND ⟨κ, S.fr⟩ w k c co j (.sl q) u := hur
  -- where the inner slice lies
  obtain ⟨g, hg1, hg2⟩ : ∃ g : Option (Nat × Cp), RefV (key g) q.length u ∧ (match g with
      | none => q = []
      | some (k', c') => c' = cp c'.n ∧ InR ⟨κ, S.fr⟩ w k c wd' ty q k' c'.n) := by
    rcases hur with ⟨h1, h2⟩ | ⟨wd2, ty2, k', cap, h1, h2, h3⟩
    · exact ⟨none, ⟨by rw [h2]; rfl, h1⟩, h2⟩
    · rw [hlk] at h1
      cases h1
      exact ⟨some (k', cp cap), h2, rfl, h3⟩
  let m' : Nat → Prop := fun x => c.m x ∧ ∀ c', g ≠ some (x, c')
  let ι' : Nm := (ι.put r g).put b (some (k, ⟨c.n, m'⟩))
  have hιb : ι' b = some (k, ⟨c.n, m'⟩) := by simp [ι', Nm.put]
  have hιr : ι' r = g := by simp [ι', Nm.put, Ne.symm hbr]
  have hι : ∀ x, x ≠ b → x ≠ r → ι' x = ι x := fun x hx hx' => by simp [ι', Nm.put, hx, hx']
  have hHb : ((H.put r (some (.row wd' ty q false true))).put b (some (.nst wd e co rows ((i, j, r) :: op)))) b = some (.nst wd e co rows ((i, j, r) :: op)) := by simp [Hp.put]
  have hHr : ((H.put r (some (.row wd' ty q false true))).put b (some (.nst wd e co rows ((i, j, r) :: op)))) r = some (.row wd' ty q false true) := by simp [Hp.put, Ne.symm hbr]
  have hH : ∀ x, x ≠ b → x ≠ r → ((H.put r (some (.row wd' ty q false true))).put b (some (.nst wd e co rows ((i, j, r) :: op)))) x = H x := fun x hx hx' => by simp [Hp.put, hx, hx']
  have hS : ∀ x, x ≠ r → Same ι H ι' ((H.put r (some (.row wd' ty q false true))).put b (some (.nst wd e co rows ((i, j, r) :: op)))) x := fun x hxr B hx => by
    by_cases hxb : x = b
    · subst hxb
      rw [hHb] at hx
      cases hx
      exact ⟨_, hb, rfl, rfl, by rw [hιb, hib]; rfl⟩
    · rw [hH x hxb hxr] at hx
      exact ⟨B, hx, rfl, rfl, by rw [hι x hxb hxr]⟩
  have hown : ∀ x B y k', ((H.put r (some (.row wd' ty q false true))).put b (some (.nst wd e co rows ((i, j, r) :: op)))) x = some B → ι' x = some y → Owns B y k' → (∃ x0 B0 y0, H x0 = some B0 ∧ B0.wr = true ∧ ι x0 = some y0 ∧ Owns B0 y0 k' ∧ (x = b ∧ x0 = b ∧ (∀ c', g ≠ some (k', c')) ∨ x = r ∧ x0 = b ∧ ∃ c', g = some (k', c'))) ∨ x ≠ b ∧ x ≠ r ∧ H x = some B ∧ ι x = some y := fun x B y k' hx hi ho => by
    by_cases hxb : x = b
    · subst hxb
      rw [hHb] at hx
      cases hx
      rw [hιb] at hi
      cases hi
      left
      rcases ho with ho | ⟨_, ho⟩
      · refine ⟨x, _, _, hb, rfl, hib, .inl ho, .inl ⟨rfl, rfl, fun c' hg => ?_⟩⟩
        rw [hg] at hg2
        exact hg2.2.ne ho
      · exact ⟨x, _, _, hb, rfl, hib, .inr ⟨rfl, ho.1⟩, .inl ⟨rfl, rfl, ho.2⟩⟩
    · by_cases hxr : x = r
      · subst hxr
        rw [hHr] at hx
        cases hx
        rw [hιr] at hi
        obtain ⟨k2, c2⟩ := y
        rw [hi] at hg2
        obtain rfl := ho.pair rfl
        exact .inl ⟨b, _, _, hb, rfl, hib, .inr ⟨rfl, hg2.2.own⟩, .inr ⟨rfl, rfl, c2, hi⟩⟩
      · rw [hH x hxb hxr] at hx
        rw [hι x hxb hxr] at hi
        exact .inr ⟨hxb, hxr, hx, hi⟩
  refine ⟨ι', (h.nextO (fun _ => False) (Kept.refl _ _) (fun _ hf => hf.elim) (fun x => ?_) (fun x B y k' hx hi ho => ?_) (fun x x' B B' y y' k' hx hx' hi hi' ho ho' => ?_) (fun hok x B hx => ?_) (fun x hx => ?_)).1⟩
  · by_cases hxr : x = r
    · exact .inr (hxr ▸ hF)
    · exact .inl (hS x hxr)
  · rcases hown x B y k' hx hi ho with ⟨x0, B0, y0, q1, q2, q3, q4, _⟩ | ⟨_, _, q3, q4⟩
    · exact .inl ⟨x0, B0, y0, q1, fun _ => q2, q3, q4⟩
    · exact .inl ⟨x, B, y, q3, id, q4, ho⟩
  · rcases hown x B y k' hx hi ho with ⟨x0, B0, y0, q1, q2, q3, q4, q5⟩ | ⟨n1, n2, q3, q4⟩ <;> rcases hown x' B' y' k' hx' hi' ho' with ⟨x1, B1, y1, s1, s2, s3, s4, s5⟩ | ⟨m1, m2, s3, s4⟩
    · rcases q5 with ⟨q5, _, q6⟩ | ⟨q5, _, c1, q6⟩ <;> rcases s5 with ⟨s5, _, s6⟩ | ⟨s5, _, c2, s6⟩
      · rw [q5, s5]
      · exact absurd s6 (q6 c2)
      · exact absurd q6 (s6 c1)
      · rw [q5, s5]
    · have := h.injO x0 x' B0 B' y0 y' k' q1 s3 q3 s4 q4 ho'
      rcases q5 with ⟨_, q5, _⟩ | ⟨_, q5, _⟩ <;> exact absurd (this.symm.trans q5) m1
    · have := h.injO x x1 B B1 y y1 k' q3 s1 q4 s3 ho s4
      rcases s5 with ⟨_, s5, _⟩ | ⟨_, s5, _⟩ <;> exact absurd (this.trans s5) n1
    · exact h.injO x x' B B' y y' k' q3 s3 q4 s4 ho ho'
  · by_cases hxb : x = b
    · subst hxb
      rw [hHb] at hx
      cases hx
      refine .inr ?_
      rw [hιb]
      have same : ∀ (i' j' : Nat), ¬ (i' = i ∧ j' = j) → hole ((i, j, r) :: op) i' j' = hole op i' j' := fun i' j' hn => by
        rw [hole_cons, if_neg (fun h => hn ⟨h.1.symm, h.2.symm⟩)]
      refine ⟨hw0, hwd, cs, hh, hle, hmx, hsz, hfr, fun k' hk' => hml k' hk'.1, fun i' r' j' d hi' hj' => ?_, fun i1 j1 i2 j2 r1 r2 q1 q2 k' n n' z z' a1 a2 a3 b1 b2 b3 v1 v2 => ?_⟩
      · obtain ⟨u', hu', hnc⟩ := hcl i' r' j' d hi' hj'
        refine ⟨u', hu', ?_⟩
        by_cases hij : i' = i ∧ j' = j
        · obtain ⟨rfl, rfl⟩ := hij
          rw [hole_cons, if_pos ⟨rfl, rfl⟩]
          rw [hu] at hu'
          cases hu'
          intro B hB
          rw [hHr] at hB
          cases hB
          exact ⟨wd', q.length, rfl, by rw [hιr]; exact hg1⟩
        · rw [same i' j' hij]
          cases hho : hole op i' j' with
          | none =>
            rw [hho] at hnc
            refine ND.up hnc fun wd2 ty2 q2 k' cap e1 e2 hin => ⟨⟨hin.own, fun c' hg => ?_⟩, rfl⟩
            rw [hg] at hg1
            cases hg1
            subst e1
            subst e2
            exact hij (hdis i' j' i j r' row q2 q k' _ _ _ _ hi' hj' hho hrow hq hn hu' hu)
          | some b' =>
            rw [hho] at hnc
            refine CR.move (g := ⟨κ, S.fr⟩) (c := .ref b') (Moves.of hok) (fun b'' hb'' => hS b'' fun e => ?_) hnc
            subst e
            simp [Cell.ids] at hb''
            subst hb''
            exact hF.2.1 x _ hb (List.mem_map.2 ⟨_, hole_mem hho, rfl⟩)
      · have d1 : ¬ (i1 = i ∧ j1 = j) := fun h => by rw [h.1, h.2, hole_cons, if_pos ⟨rfl, rfl⟩] at a3; cases a3
        have d2 : ¬ (i2 = i ∧ j2 = j) := fun h => by rw [h.1, h.2, hole_cons, if_pos ⟨rfl, rfl⟩] at b3; cases b3
        exact hdis i1 j1 i2 j2 r1 r2 q1 q2 k' n n' z z' a1 a2 ((same i1 j1 d1).symm.trans a3) b1 b2 ((same i2 j2 d2).symm.trans b3) v1 v2
    · by_cases hxr : x = r
      · subst hxr
        rw [hHr] at hx
        cases hx
        refine .inr ?_
        rw [hιr]
        cases hgg : g with
        | none =>
          rw [hgg] at hg2
          exact ⟨hw', (fun i r h => by rw [show q = [] from hg2] at h; cases h), hg2⟩
        | some y =>
          obtain ⟨k', c'⟩ := y
          rw [hgg] at hg2
          obtain ⟨_, hin⟩ := hg2
          obtain ⟨cs', g1, g2, g3⟩ := hin.blk
          exact ⟨hw', hin.len, cs', g1, hin.le, hin.max, g2, fun _ => hin.fr, fun i' r' j' d hi' hj' => let ⟨x, e1, e2, e3⟩ := g3 i' r' j' d hi' hj'; ⟨x, e3, e1 ▸ .v _ e2⟩⟩
      · rw [hH x hxb hxr] at hx
        exact .inl ⟨hx, hι x hxb hxr, fun _ _ _ _ => rfl⟩
  · by_cases hxb : x = b
    · subst hxb
      rw [hιb, hib]
      rfl
    · have hxr : x ≠ r := fun e => by have := hF.2.2; omega
      rw [hι x hxb hxr]
/-! ### several holes are closed -/
def FlatL : List (Nat × Nat × List (List D)) → Prop
  | [] => True
  | p :: l => Flat p.2.2 ∧ FlatL l
theorem FlatL.mem : ∀ {L : List (Nat × Nat × List (List D))}, FlatL L → ∀ p, p ∈ L → Flat p.2.2
  | q :: L, h, p, hp => by
    rcases List.mem_cons.1 hp with e | hp
    · exact e ▸ h.1
    · exact FlatL.mem h.2 p hp
def noneL (L : List (Nat × Nat × List (List D))) : List (Nat × Option Blk) := L.map fun p => (p.2.1, none)
theorem hole_none {n j : Nat} : ∀ {L : List (Nat × Nat × List (List D))}, j ∉ L.map (·.1) → hole (L.map fun p => (n, p.1, p.2.1)) n j = none
  | [], _ => rfl
  | p :: L, h => by
    simp only [List.map_cons, List.mem_cons, not_or] at h ⊢
    rw [hole_cons, if_neg (fun e => h.1 e.2.symm)]
    exact hole_none h.2
theorem Rel.closeL {b n wd : Nat} {e : TypeId} {co : List (Nat × Nat × TypeId)} {rows : List (List D)} {row : List D} (hrow : rows[n]? = some row) : ∀ (L : List (Nat × Nat × List (List D))) (H : Hp) (ι : Nm), Rel N κ w0 S ι T H a w → H b = some (.nst wd e co rows (L.map fun p => (n, p.1, p.2.1))) →
    (∀ p, p ∈ L → ∃ wd' ty, H p.2.1 = some (.row wd' ty p.2.2 false true) ∧ lk co p.1 = some (wd', ty) ∧ Flat p.2.2 ∧ row[p.1]? = some (.sl p.2.2)) → (L.map (·.1)).Nodup → (L.map (·.2.1)).Nodup →
    ∃ ι', Rel N κ w0 S ι' T (appL H ((b, some (.nst wd e co rows [])) :: noneL L)) a w
  | [], H, ι, h, hb, _, _, _ => ⟨ι, h.less (fun _ _ => id) fun x B hx => by
      by_cases hxb : x = b
      · subst hxb
        simp only [noneL, List.map_nil, appL, if_true] at hx
        rw [hb]
        exact hx
      · simp only [noneL, List.map_nil, appL, if_neg hxb] at hx
        exact hx⟩
  | (j, r, q) :: L, H, ι, h, hb, hL, n1, n2 => by
    simp only [List.map_cons, List.nodup_cons] at n1 n2
    obtain ⟨wd', ty, h1, h2, h3, h4⟩ := hL _ List.mem_cons_self
    obtain ⟨ι1, hr1⟩ := h.closeN hb h1 (hole_none n1.1) (fun hm => n2.1 (by simpa [List.map_map, Function.comp_def] using hm)) h2 h3 hrow h4
    have hbr : b ≠ r := fun e => by rw [e] at hb; simp only at h1; rw [h1] at hb; cases hb
    obtain ⟨ι2, hr2⟩ := Rel.closeL (b := b) (wd := wd) (e := e) (co := co) hrow L ((H.put r none).put b (some (.nst wd e co rows (L.map fun p => (n, p.1, p.2.1))))) ι1 hr1 (by simp [Hp.put]) (fun p hp => by
      obtain ⟨wd2, ty2, g1, g2, g3, g4⟩ := hL p (List.mem_cons_of_mem _ hp)
      refine ⟨wd2, ty2, ?_, g2, g3, g4⟩
      have hpr : p.2.1 ≠ r := fun e => n2.1 (List.mem_map.2 ⟨p, hp, e⟩)
      have hpb : p.2.1 ≠ b := fun e => by rw [e, hb] at g1; cases g1
      simp only [Hp.put, if_neg hpr, if_neg hpb]
      exact g1) n1.2 n2.2
    refine ⟨ι2, hr2.less (fun _ _ => id) fun x B hx => ?_⟩
    simp only [appL] at hx ⊢
    by_cases hxb : x = b
    · rw [if_pos hxb] at hx ⊢
      exact hx
    · rw [if_neg hxb] at hx ⊢
      have key : ∀ (l : List (Nat × Option Blk)) (M M' : Hp), M x = M' x → appL M l x = appL M' l x := by
        intro l
        induction l with
        | nil => exact fun _ _ h => h
        | cons p l ih =>
          obtain ⟨y, C⟩ := p
          intro M M' h
          simp only [appL]
          split
          · rfl
          · exact ih M M' h
      by_cases hxr : x = r
      · simp only [noneL, List.map_cons, appL, if_pos hxr] at hx
        cases hx
      · simp only [noneL, List.map_cons, appL, if_neg hxr] at hx
        rw [key _ _ H (by simp [Hp.put, hxb, hxr])]
        exact hx
end
end Go.Proofs.Ytggmeldoecnkaaa.Av
