/-
Rows whose inner slices are their own: a slice that has a name is taken in, one is taken out, all are read as data.
Conditions: none beside those that each theorem names.
-/
import Derived.Test.YtggmeldoecnkaaaAv28
set_option linter.unusedVariables false
set_option linter.unusedSimpArgs false
namespace Go.Proofs.Ytggmeldoecnkaaa.Av
open Go.RowKit

section
variable {P : Program} {N : Nat} {T : Tm} {H : Hp} {κ : Nat → Value} {w0 : World} {S : Wr} {ι : Nm} {a : Act} {w : World}
theorem InR.up {g : Env} {w w' : World} {k wd : Nat} {c c' : Cp} {ty : TypeId} {q : List (List D)} {k' cap : Nat} (h : InR g w k c wd ty q k' cap) (hm : c'.m k') (e : w'.heap[k']? = w.heap[k']?) : InR g w' k c' wd ty q k' cap :=
  ⟨h.pos, h.len, hm, h.ne, h.fr, h.le, h.max, let ⟨cs, h1, h2⟩ := h.blk; ⟨cs, e.trans h1, h2⟩⟩
/-- A cell of its owner's, told of a greater owner. -/
theorem ND.up {g : Env} {w w' : World} {k : Nat} {c c' : Cp} {co : List (Nat × Nat × TypeId)} {j : Nat} {d : D} {u : Value} (h : ND g w k c co j d u) (hm : ∀ wd ty q k' cap, d = .sl q → u = .slice (some ⟨k', 0, none⟩) q.length cap → InR g w k c wd ty q k' cap → c'.m k' ∧ w'.heap[k']? = w.heap[k']?) : ND g w' k c' co j d u := by
  match d, h with
  | .v x, h => exact h
  | .sl q, .inl h => exact .inl h
  | .sl q, .inr ⟨wd, ty, k', cap, h1, h2, h3⟩ =>
    obtain ⟨e1, e2⟩ := hm wd ty q k' cap rfl h2 h3
    exact .inr ⟨wd, ty, k', cap, h1, h2, h3.up e1 e2⟩
/-- Whose cell leads to a block has it among its own. -/
theorem ND.at_ {g : Env} {w : World} {k : Nat} {c : Cp} {co : List (Nat × Nat × TypeId)} {j : Nat} {q : List (List D)} {k' n z : Nat} (h : ND g w k c co j (.sl q) (.slice (some ⟨k', 0, none⟩) n z)) : c.m k' ∧ k' ≠ k := by
  rcases h with ⟨h, _⟩ | ⟨wd, ty, k2, cap, h1, h2, h3⟩
  · cases h
  · cases h2
    exact ⟨h3.own, h3.ne⟩
theorem TR.flatv {w : World} {ok : Nat → Prop} {d : D} {u : Value} (h : TR w ok d u) {v : Value} (e : d = .v v) : u = v ∧ v.oneCell' = true := by
  subst e
  cases h with | v _ hx => exact ⟨rfl, hx⟩
/-- THE HOLE IS CLOSED: the slice named r is the nest's own from now on. -/
theorem Rel.closeN (h : Rel N κ w0 S ι T H a w) {b r i j wd wd' : Nat} {e ty : TypeId} {co : List (Nat × Nat × TypeId)} {rows : List (List D)} {op2 : List (Nat × Nat × Nat)} {q : List (List D)} {row : List D}
    (hb : H b = some (.nst wd e co rows ((i, j, r) :: op2))) (hr : H r = some (.row wd' ty q false true)) (hn : hole op2 i j = none) (hr2 : r ∉ op2.map (·.2.2)) (hlk : lk co j = some (wd', ty)) (hfl : Flat q) (hrow : rows[i]? = some row) (hq : row[j]? = some (.sl q)) :
    ∃ ι', Rel N κ w0 S ι' T ((H.put r none).put b (some (.nst wd e co rows op2))) a w := by
  have hbr : b ≠ r := fun e => by rw [e, hr] at hb; cases hb
  have hBb := h.blk b _ hb
  have hBr := h.blk r _ hr
  obtain ⟨hw0, hwd, hB3⟩ := hBb
  cases hib : ι b with
  | none =>
    rw [hib] at hB3
    have hB3 : rows = [] := hB3
    rw [hB3] at hrow
    cases hrow
  | some x =>
  obtain ⟨k, c⟩ := x
  rw [hib] at hB3
  obtain ⟨cs, hh, hle, hmx, hsz, hfr, hml, hcl, hdis⟩ := hB3
  -- the slice that is taken in
  obtain ⟨u, hu, hur⟩ := hcl i row j _ hrow hq
  have hur : CR ⟨κ, S.fr⟩ ι H w (.ref r) u := by rw [hole_cons, if_pos ⟨rfl, rfl⟩] at hur; exact hur
  obtain ⟨wd2, n2, hsh, href⟩ := hur _ hr
  simp only [Blk.shape, Prod.mk.injEq, true_and] at hsh
  obtain ⟨rfl, rfl⟩ := hsh
  obtain ⟨m', hm', hmk⟩ : ∃ m' : Nat → Prop, (∀ x, m' x ↔ c.m x ∨ ∃ c', ι r = some (x, c')) ∧ True := ⟨fun x => c.m x ∨ ∃ c', ι r = some (x, c'), fun x => Iff.rfl, trivial⟩
  have hrk : ∀ k' c', ι r = some (k', c') → k' ≠ k ∧ ¬ c.m k' ∧ k' < w.heap.size := fun k' c' hi => by
    refine ⟨fun e => hbr (h.injO b r _ _ _ _ k' hb hr hib hi (.inl e) (.inl rfl)), fun hm => hbr (h.injO b r _ _ _ _ k' hb hr hib hi (.inr ⟨rfl, hm⟩) (.inl rfl)), h.ownLt hr hi (.inl rfl)⟩
  let ι' : Nm := ι.put b (some (k, ⟨c.n, m'⟩))
  have hιb : ι' b = some (k, ⟨c.n, m'⟩) := by simp [ι', Nm.put]
  have hι : ∀ x, x ≠ b → ι' x = ι x := fun x hx => by simp [ι', Nm.put, hx]
  have hHb : ((H.put r none).put b (some (.nst wd e co rows op2))) b = some (.nst wd e co rows op2) := by simp [Hp.put]
  have hH : ∀ x, x ≠ b → x ≠ r → ((H.put r none).put b (some (.nst wd e co rows op2))) x = H x := fun x hx hx' => by simp [Hp.put, hx, hx']
  have hHr : ((H.put r none).put b (some (.nst wd e co rows op2))) r = none := by simp [Hp.put, Ne.symm hbr]
  have hne : ∀ {x B}, ((H.put r none).put b (some (.nst wd e co rows op2))) x = some B → x ≠ r := fun {x B} hx e => by rw [e, hHr] at hx; cases hx
  have hS : ∀ x, Same ι H ι' ((H.put r none).put b (some (.nst wd e co rows op2))) x := fun x B hx => by
    by_cases hxb : x = b
    · subst hxb
      rw [hHb] at hx
      cases hx
      exact ⟨_, hb, rfl, rfl, by rw [hιb, hib]; rfl⟩
    · rw [hH x hxb (hne hx)] at hx
      exact ⟨B, hx, rfl, rfl, by rw [hι x hxb]⟩
  have hown : ∀ x B y k', ((H.put r none).put b (some (.nst wd e co rows op2))) x = some B → ι' x = some y → Owns B y k' → ∃ x0 B0 y0, H x0 = some B0 ∧ (B.wr = true → B0.wr = true) ∧ ι x0 = some y0 ∧ Owns B0 y0 k' ∧ (x = b ∧ (x0 = b ∨ x0 = r) ∨ x ≠ b ∧ x ≠ r ∧ x0 = x) := fun x B y k' hx hi ho => by
    by_cases hxb : x = b
    · subst hxb
      rw [hHb] at hx
      cases hx
      rw [hιb] at hi
      cases hi
      rcases ho with ho | ⟨_, ho⟩
      · exact ⟨x, _, _, hb, fun _ => rfl, hib, .inl ho, .inl ⟨rfl, .inl rfl⟩⟩
      · rcases (hm' k').1 ho with ho | ⟨c', hc'⟩
        · exact ⟨x, _, _, hb, fun _ => rfl, hib, .inr ⟨rfl, ho⟩, .inl ⟨rfl, .inl rfl⟩⟩
        · exact ⟨r, _, _, hr, fun _ => rfl, hc', .inl rfl, .inl ⟨rfl, .inr rfl⟩⟩
    · have hxr := hne hx
      rw [hH x hxb hxr] at hx
      rw [hι x hxb] at hi
      exact ⟨x, B, y, hx, id, hi, ho, .inr ⟨hxb, hxr, rfl⟩⟩
  refine ⟨ι', (h.nextO (fun _ => False) (Kept.refl _ _) (fun _ hf => hf.elim) (fun x => .inl (hS x)) (fun x B y k' hx hi ho => ?_) (fun x x' B B' y y' k' hx hx' hi hi' ho ho' => ?_) (fun hok x B hx => ?_) (fun x hx => ?_)).1⟩
  · obtain ⟨x0, B0, y0, q1, q2, q3, q4, _⟩ := hown x B y k' hx hi ho
    exact .inl ⟨x0, B0, y0, q1, q2, q3, q4⟩
  · obtain ⟨x0, B0, y0, q1, _, q3, q4, q5⟩ := hown x B y k' hx hi ho
    obtain ⟨x1, B1, y1, s1, _, s3, s4, s5⟩ := hown x' B' y' k' hx' hi' ho'
    have := h.injO x0 x1 B0 B1 y0 y1 k' q1 s1 q3 s3 q4 s4
    subst this
    rcases q5 with ⟨q5, q6⟩ | ⟨q5, q6, q7⟩ <;> rcases s5 with ⟨s5, s6⟩ | ⟨s5, s6, s7⟩
    · rw [q5, s5]
    · rcases q6 with q6 | q6
      · exact absurd (s7 ▸ q6) s5
      · exact absurd (s7 ▸ q6) s6
    · rcases s6 with s6 | s6
      · exact absurd (q7 ▸ s6) q5
      · exact absurd (q7 ▸ s6) q6
    · exact q7.symm.trans s7
  · by_cases hxb : x = b
    · subst hxb
      rw [hHb] at hx
      cases hx
      refine .inr ?_
      rw [hιb]
      have same : ∀ (i' j' : Nat), ¬ (i' = i ∧ j' = j) → hole ((i, j, r) :: op2) i' j' = hole op2 i' j' := fun i' j' hn => by
        rw [hole_cons, if_neg (fun h => hn ⟨h.1.symm, h.2.symm⟩)]
      refine ⟨hw0, hwd, cs, hh, hle, hmx, hsz, hfr, fun k' hk' => ?_, fun i' r' j' d hi' hj' => ?_, fun i1 j1 i2 j2 r1 r2 q1 q2 k' n n' z z' a1 a2 a3 b1 b2 b3 v1 v2 => ?_⟩
      · rcases (hm' k').1 hk' with hk' | ⟨c', hc'⟩
        · exact hml k' hk'
        · exact (hrk k' c' hc').2.2
      · obtain ⟨u', hu', hnc⟩ := hcl i' r' j' d hi' hj'
        refine ⟨u', hu', ?_⟩
        by_cases hij : i' = i ∧ j' = j
        · obtain ⟨rfl, rfl⟩ := hij
          rw [hn]
          rw [hrow] at hi'
          cases hi'
          rw [hq] at hj'
          cases hj'
          rw [hu] at hu'
          cases hu'
          show ND ⟨κ, S.fr⟩ w k ⟨c.n, m'⟩ co _ (.sl q) u
          cases hir : ι r with
          | none =>
            rw [hir] at href hBr
            exact .inl ⟨href.2, hBr.2.2⟩
          | some y =>
            obtain ⟨k', c'⟩ := y
            rw [hir] at href hBr
            obtain ⟨p0, p1, cs', p2, p3, p4, p5, p6, p7⟩ := hBr
            refine .inr ⟨_, _, k', c'.n, hlk, href, p0, p1, (hm' k').2 (.inr ⟨c', hir⟩), (hrk k' c' hir).1, p6 rfl, p3, p4, cs', p2, p5, fun i2 r2 j2 d2 s1 s2 => ?_⟩
            obtain ⟨u2, t1, t2⟩ := p7 i2 r2 j2 d2 s1 s2
            obtain ⟨v, hv⟩ := hfl r2 (List.mem_of_getElem? s1) d2 (List.mem_of_getElem? s2)
            obtain ⟨e1, e2⟩ := t2.flatv hv
            exact ⟨v, hv, e2, e1 ▸ t1⟩
        · rw [same i' j' hij] at hnc
          cases hho : hole op2 i' j' with
          | none =>
            rw [hho] at hnc
            exact ND.up hnc fun wd ty q k' cap _ _ hin => ⟨(hm' k').2 (.inl hin.own), rfl⟩
          | some b' =>
            rw [hho] at hnc
            exact CR.move (g := ⟨κ, S.fr⟩) (c := .ref b') (Moves.of hok) (fun b'' hb'' => hS b'') hnc
      · by_cases h1 : i1 = i ∧ j1 = j <;> by_cases h2 : i2 = i ∧ j2 = j
        · exact ⟨h1.1.trans h2.1.symm, h1.2.trans h2.2.symm⟩
        · obtain ⟨rfl, rfl⟩ := h1
          rw [hu] at v1
          cases v1
          cases hir : ι r with
          | none => rw [hir] at href; cases href.2
          | some y =>
            obtain ⟨k2, c2⟩ := y
            rw [hir] at href
            cases href
            obtain ⟨u2, hu2, hnc⟩ := hcl i2 r2 j2 _ b1 b2
            rw [same i2 j2 h2, b3] at hnc
            rw [v2] at hu2
            cases hu2
            exact absurd (ND.at_ hnc).1 (hrk _ _ hir).2.1
        · obtain ⟨rfl, rfl⟩ := h2
          rw [hu] at v2
          cases v2
          cases hir : ι r with
          | none => rw [hir] at href; cases href.2
          | some y =>
            obtain ⟨k2, c2⟩ := y
            rw [hir] at href
            cases href
            obtain ⟨u2, hu2, hnc⟩ := hcl i1 r1 j1 _ a1 a2
            rw [same i1 j1 h1, a3] at hnc
            rw [v1] at hu2
            cases hu2
            exact absurd (ND.at_ hnc).1 (hrk _ _ hir).2.1
        · exact hdis i1 j1 i2 j2 r1 r2 q1 q2 k' n n' z z' a1 a2 ((same i1 j1 h1).trans a3) b1 b2 ((same i2 j2 h2).trans b3) v1 v2
    · have hxr := hne hx
      rw [hH x hxb hxr] at hx
      exact .inl ⟨hx, hι x hxb, fun _ _ _ _ => rfl⟩
  · by_cases hxb : x = b
    · subst hxb
      rw [hιb, hib]
      rfl
    · rw [hι x hxb]
end
end Go.Proofs.Ytggmeldoecnkaaa.Av
