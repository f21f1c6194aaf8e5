/-
Rows whose inner slices are their own: states told more loosely; nothing told as an empty one.
Conditions: none beside those that each theorem names.
-/
import Derived.Test.YtggmeldoecnkaaaAv33
set_option linter.unusedVariables false
set_option linter.unusedSimpArgs false
namespace Go.Proofs.Ytggmeldoecnkaaa.Av
open Go.RowKit

section
variable {P : Program} {N : Nat} {T : Tm} {H : Hp} {κ : Nat → Value} {w0 : World} {S : Wr} {ι : Nm} {a : Act} {w : World}
/-- What is told of a hole's cell does not matter. -/
theorem Rel.tellN (h : Rel N κ w0 S ι T H a w) {b r i j wd : Nat} {e : TypeId} {co : List (Nat × Nat × TypeId)} {rows : List (List D)} {op : List (Nat × Nat × Nat)} {row : List D} (hb : H b = some (.nst wd e co rows op)) (hh : hole op i j = some r) (hrow : rows[i]? = some row) (d : D) :
    Rel N κ w0 S ι T (H.put b (some (.nst wd e co (rows.set i (row.set j d)) op))) a w := by
  have hil : i < rows.length := (List.getElem?_eq_some_iff.1 hrow).1
  have hHb : (H.put b (some (.nst wd e co (rows.set i (row.set j d)) op))) b = some (.nst wd e co (rows.set i (row.set j d)) op) := by simp [Hp.put]
  have hH : ∀ x, x ≠ b → (H.put b (some (.nst wd e co (rows.set i (row.set j d)) op))) x = H x := fun x hx => by simp [Hp.put, hx]
  have f : ∀ x B, (H.put b (some (.nst wd e co (rows.set i (row.set j d)) op))) x = some B → ∃ B0, H x = some B0 ∧ (B.wr = true → B0.wr = true) ∧ (B.isN = true → B0.isN = true) ∧ B0.shape = B.shape ∧ B0.wd = B.wd := fun x B hx => by
    by_cases hxb : x = b
    · subst hxb
      rw [hHb] at hx
      cases hx
      exact ⟨_, hb, (fun _ => rfl), (fun _ => rfl), by simp [Blk.shape], rfl⟩
    · exact ⟨B, (hH x hxb) ▸ hx, id, id, rfl, rfl⟩
  have hS : ∀ x, Same ι H ι (H.put b (some (.nst wd e co (rows.set i (row.set j d)) op))) x := fun x B hx => by
    obtain ⟨B0, h1, _, _, h2, h3⟩ := f x B hx
    exact ⟨B0, h1, h2, h3, rfl⟩
  have get : ∀ {i' r' j' d'}, (rows.set i (row.set j d))[i']? = some r' → r'[j']? = some d' → ¬ (i' = i ∧ j' = j) → ∃ r0, rows[i']? = some r0 ∧ r0[j']? = some d' := fun {i' r' j' d'} hi hj hn => by
    rw [List.getElem?_set] at hi
    by_cases hii : i = i'
    · subst hii
      rw [if_pos rfl, if_pos hil] at hi
      cases hi
      rw [List.getElem?_set] at hj
      rw [if_neg (fun e => hn ⟨rfl, e.symm⟩)] at hj
      exact ⟨row, hrow, hj⟩
    · rw [if_neg hii] at hi
      exact ⟨r', hi, hj⟩
  refine (h.nextO (fun _ => False) (Kept.refl _ _) (fun _ hf => hf.elim) (fun x => .inl (hS x)) (fun x B y k' hx hi ho => ?_) (fun x x' B B' y y' k' hx hx' hi hi' ho ho' => ?_) (fun hok x B hx => ?_)).1
  · obtain ⟨B0, h1, h2, h3, _⟩ := f x B hx
    exact .inl ⟨x, B0, y, h1, h2, hi, ho.up h3⟩
  · obtain ⟨B0, h1, _, h3, _⟩ := f x B hx
    obtain ⟨B1, g1, _, g3, _⟩ := f x' B' hx'
    exact h.injO x x' B0 B1 y y' k' h1 g1 hi hi' (ho.up h3) (ho'.up g3)
  · by_cases hxb : x = b
    · subst hxb
      rw [hHb] at hx
      cases hx
      refine .inr ?_
      obtain ⟨hw0, hwd, hB3⟩ := h.blk x _ hb
      refine ⟨hw0, fun i' r' hi' => ?_, ?_⟩
      · rw [List.getElem?_set] at hi'
        by_cases hii : i = i'
        · subst hii
          rw [if_pos rfl, if_pos hil] at hi'
          cases hi'
          rw [List.length_set]
          exact hwd i row hrow
        · rw [if_neg hii] at hi'
          exact hwd i' r' hi'
      · cases hi : ι x with
        | none =>
          rw [hi] at hB3
          have hB3 : rows = [] := hB3
          rw [hB3] at hrow
          cases hrow
        | some y =>
          obtain ⟨k, c⟩ := y
          rw [hi] at hB3
          obtain ⟨cs, q1, q2, q3, q4, q5, q6, q7, q8⟩ := hB3
          refine ⟨cs, q1, by rw [List.length_set]; exact q2, q3, q4, q5, q6, fun i' r' j' d' hi' hj' => ?_, fun i1 j1 i2 j2 r1 r2 s1 s2 k' n n' z z' a1 a2 a3 b1 b2 b3 v1 v2 => ?_⟩
          · have mv : ∀ {d0 u}, NC ⟨κ, S.fr⟩ ι H w k c co j' (hole op i' j') d0 u → NC ⟨κ, S.fr⟩ ι (H.put x (some (.nst wd e co (rows.set i (row.set j d)) op))) w k c co j' (hole op i' j') d0 u := fun hnc => NC.move (Moves.of hok) (fun _ _ => rfl) (fun b' _ => hS b') hnc
            by_cases hij : i' = i ∧ j' = j
            · obtain ⟨rfl, rfl⟩ := hij
              have hjl : j' < row.length := by
                rw [List.getElem?_set, if_pos rfl, if_pos hil] at hi'
                cases hi'
                have := (List.getElem?_eq_some_iff.1 hj').1
                simpa using this
              obtain ⟨u, hu, hnc⟩ := q7 i' row j' _ hrow (List.getElem?_eq_getElem hjl)
              have hnc := mv hnc
              rw [hh] at hnc ⊢
              exact ⟨u, hu, hnc⟩
            · obtain ⟨r0, g1, g2⟩ := get hi' hj' hij
              obtain ⟨u, hu, hnc⟩ := q7 i' r0 j' d' g1 g2
              exact ⟨u, hu, mv hnc⟩
          · obtain ⟨r3, g1, g2⟩ := get a1 a2 (fun e => by rw [e.1, e.2, hh] at a3; cases a3)
            obtain ⟨r4, g3, g4⟩ := get b1 b2 (fun e => by rw [e.1, e.2, hh] at b3; cases b3)
            exact q8 i1 j1 i2 j2 r3 r4 s1 s2 k' n n' z z' g1 g2 a3 g3 g4 b3 v1 v2
    · rw [hH x hxb] at hx
      exact .inl ⟨hx, rfl, fun _ _ _ _ => rfl⟩
end
/-! ### states -/
section
variable {s : St}
theorem lookH_cons {b x : Nat} {B : Option Blk} {l : List (Nat × Option Blk)} : lookH ((b, B) :: l) x = if x = b then B else lookH l x := by
  simp only [lookH]
  by_cases h : x = b
  · subst h; rw [Nat.beq_refl, if_pos rfl]
  · rw [nbf h, if_neg h]
/-- The hole is closed. -/
def clsN (b i r : Nat) (wd : Nat) (e : TypeId) (co : List (Nat × Nat × TypeId)) (rows : List (List D)) (op2 : List (Nat × Nat × Nat)) (row : List D) (s : St) : St := ⟨s.T, (b, some (.nst wd e co (rows.set i row) op2)) :: (r, none) :: s.H, s.nx⟩
theorem Wk.closeN (b : Nat) {wd wd' i j r : Nat} {e ty : TypeId} {co : List (Nat × Nat × TypeId)} {rows : List (List D)} {op2 : List (Nat × Nat × Nat)} {q : List (List D)} (row : List D) (hb : lookH s.H b = some (.nst wd e co rows ((i, j, r) :: op2))) (hr : lookH s.H r = some (.row wd' ty q false true)) (hrow : rows[i]? = some row) (hfl : Flat q) (hn : AllAt i op2)
    (hc : (Nat.blt j row.length && (!(op2.map (·.2.2)).contains r)) = true) (hlk : lk co j = some (wd', ty)) (hhj : holeJ op2 j = none) (ho : Av.okB (clsN b i r wd e co rows op2 (row.set j (.sl q)) s) s.nx = true) : Wk s (clsN b i r wd e co rows op2 (row.set j (.sl q)) s) := by
  simp only [Bool.and_eq_true, Nat.blt_eq] at hc
  refine ⟨fun c a w hr' => ?_, ho⟩
  obtain ⟨ι, hrel⟩ := hr'
  have hil : i < rows.length := (List.getElem?_eq_some_iff.1 hrow).1
  have h1 := hrel.tellN (b := b) (j := j) hb (by rw [hole_cons, if_pos ⟨rfl, rfl⟩]) hrow (.sl q)
  have hbr : r ≠ b := fun e => by rw [e] at hr; rw [hb] at hr; cases hr
  obtain ⟨ι', h2⟩ := h1.closeN (b := b) (r := r) (i := i) (j := j) (wd' := wd') (ty := ty) (q := q) (row := row.set j (.sl q)) (op2 := op2) (wd := wd) (e := e) (co := co) (rows := rows.set i (row.set j (.sl q))) (by simp [Hp.put]) (by simp only [Hp.put, if_neg hbr]; exact hr) ((holeJ_eq hn).trans hhj) (by simpa using hc.2) hlk hfl (by rw [List.getElem?_set, if_pos rfl, if_pos hil]) (by rw [List.getElem?_set, if_pos rfl, if_pos hc.1])
  refine ⟨ι', h2.less (fun _ _ h => h) fun x B hx => ?_⟩
  have hx : lookH ((b, some (.nst wd e co (rows.set i (row.set j (.sl q))) op2)) :: (r, none) :: s.H) x = some B := hx
  rw [lookH_cons, lookH_cons] at hx
  simp only [Hp.put]
  by_cases hxb : x = b
  · rw [if_pos hxb] at hx ⊢
    exact hx
  · rw [if_neg hxb] at hx ⊢
    by_cases hxr : x = r
    · rw [if_pos hxr] at hx; cases hx
    · rw [if_neg hxr] at hx ⊢
      rw [if_neg hxb]
      exact hx
/-! ### nothing, told as an empty nest -/
theorem own1N {c : Cn} {wd : Nat} {e : TypeId} {co : List (Nat × Nat × TypeId)} (h64 : 64 ≤ s.nx) (hok : okB s s.nx = true) (hw : 0 < wd) {a : Act} {w : World} (hr : RelS c s a w) : ∃ ι, ι s.nx = none ∧ Rel c.N c.κ c.w0 c.S ι s.tm (lookH ((s.nx, some (.nst wd e co [] [])) :: s.H)) a w := by
  obtain ⟨ι, hr⟩ := hr
  have hF := St.fresh hok (Nat.le_refl _) h64
  have hH : ∀ b, b ≠ s.nx → lookH ((s.nx, some (.nst wd e co [] [])) :: s.H) b = s.hp b := fun b hb => by simp only [lookH, nbf hb]; rfl
  have hH0 : lookH ((s.nx, some (.nst wd e co [] [])) :: s.H) s.nx = some (.nst wd e co [] []) := by simp only [lookH, Nat.beq_refl]
  have hι : ∀ b, b ≠ s.nx → (fun b => if b = s.nx then none else ι b) b = ι b := fun b hb => by simp only [if_neg hb]
  refine ⟨fun b => if b = s.nx then none else ι b, by simp, (hr.nextO (fun _ => False) (Kept.refl _ _) (fun _ h => h.elim) (fun b => ?_) (fun b B x k h1 h2 h3 => ?_) (fun b b' B B' x x' k h1 h2 h3 h4 o1 o2 => ?_) (fun hk b B h1 => ?_) (fun b hb => ?_)).1⟩
  · by_cases hb : b = s.nx
    · rw [hb]; exact .inr hF
    · exact .inl fun B hB => ⟨B, by rw [hH b hb] at hB; exact hB, rfl, rfl, congrArg key (hι b hb)⟩
  · by_cases hb : b = s.nx
    · simp [hb] at h2
    · rw [hH b hb] at h1; simp only [if_neg hb] at h2; exact .inl ⟨b, B, x, h1, id, h2, h3⟩
  · by_cases hb : b = s.nx
    · simp [hb] at h3
    · by_cases hb' : b' = s.nx
      · simp [hb'] at h4
      · rw [hH b hb] at h1; rw [hH b' hb'] at h2; simp only [if_neg hb] at h3; simp only [if_neg hb'] at h4
        exact hr.injO b b' B B' x x' k h1 h2 h3 h4 o1 o2
  · by_cases hb : b = s.nx
    · subst hb
      rw [hH0] at h1
      cases h1
      right
      simp only [if_pos]
      exact ⟨hw, (fun i r h => by cases h), rfl⟩
    · left
      rw [hH b hb] at h1
      exact ⟨h1, hι b hb, fun _ _ _ _ => rfl⟩
  · exact congrArg key (hι b (by omega))
theorem nil_refN {g : Env} {ι : Nm} {H : Hp} {w : World} {u : Value} {b wd : Nat} {e : TypeId} {co : List (Nat × Nat × TypeId)} (hb : H b = some (.nst wd e co [] [])) (hi : ι b = none) (h : CR g ι H w .nil u) : CR g ι H w (.ref b) u := fun B hB => by
  rw [hb] at hB
  cases hB
  exact ⟨wd, 0, rfl, by rw [hi]; exact ⟨rfl, h⟩⟩
def ownTN (t wd : Nat) (e : TypeId) (co : List (Nat × Nat × TypeId)) (s : St) : St := ⟨(t, .e (.c (.ref s.nx))) :: s.T, (s.nx, some (.nst wd e co [] [])) :: s.H, s.nx + 16⟩
theorem Wk.ownTN (t wd : Nat) (e : TypeId) (co : List (Nat × Nat × TypeId)) (h : look s.T t = some (.e (.c .nil))) (hc : (Nat.ble 64 s.nx && (Av.okB s s.nx && Nat.blt 0 wd)) = true) (ho : Av.okB (Av.ownTN t wd e co s) (s.nx + 16) = true) : Wk s (Av.ownTN t wd e co s) := by
  simp only [Bool.and_eq_true, Nat.blt_eq] at hc
  refine ⟨fun c a w hr => ?_, ho⟩
  obtain ⟨ι, hi, hr⟩ := own1N (e := e) (co := co) (Nat.le_of_ble_eq_true hc.1) hc.2.1 hc.2.2 hr
  refine ⟨ι, hr.kept, hr.new, hr.blk, hr.injO, hr.ownO, hr.size, hr.dfr, hr.io, fun t' y hy => ?_⟩
  replace hy : look ((t, .e (.c (.ref s.nx))) :: s.T) t' = some y := hy
  simp only [look] at hy
  split at hy
  · rename_i hb
    obtain rfl := Nat.eq_of_beq_eq_true hb
    obtain rfl := Option.some.inj hy
    exact nil_refN (g := ⟨c.κ, c.S.fr⟩) (w := w) (wd := wd) (e := e) (co := co) (by show lookH ((s.nx, some (.nst wd e co [] [])) :: s.H) s.nx = _; simp only [lookH, Nat.beq_refl]) hi (hr.tmp _ _ h)
  · exact hr.tmp t' y hy
end
end Go.Proofs.Ytggmeldoecnkaaa.Av
