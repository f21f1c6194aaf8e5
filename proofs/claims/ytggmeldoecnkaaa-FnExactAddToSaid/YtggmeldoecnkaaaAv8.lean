/-
Rows of the call's own: elements stored, literals, append; struct literals.
Conditions: none beside those that each theorem names.
-/
import Derived.Test.YtggmeldoecnkaaaAv7
import Derived.Great.BuildSlice
set_option linter.unusedVariables false
set_option linter.unusedSimpArgs false
namespace Go.Proofs.Ytggmeldoecnkaaa.Av
open Go.RowKit

theorem appL_append {β : Type} (M : Nat → Option β) : ∀ (a b : List (Nat × Option β)), appL M (a ++ b) = appL (appL M b) a
  | [], b => rfl
  | (k, B) :: a, b => by
    funext x
    show (if x = k then B else appL M (a ++ b) x) = if x = k then B else appL (appL M b) a x
    rw [appL_append M a b]
theorem appL_cons_put (H : Hp) (b : Nat) (B : Option Blk) (l : List (Nat × Option Blk)) : appL H ((b, B) :: l) = Hp.put (appL H l) b B := by funext x; rfl
section
variable {P : Program} {N : Nat} {o : Oper} {T : Tm} {H : Hp}
theorem frzL_at : ∀ (l : List Nat) (x : Nat), appL H (frzL H l) x = H x ∨ ∃ wd e rows f nf, H x = some (.row wd e rows f nf) ∧ appL H (frzL H l) x = some (.row wd e rows true nf)
  | [], x => .inl rfl
  | b :: l, x => by
    have ih := frzL_at l x
    show appL H (frz1 H b ++ frzL H l) x = H x ∨ _
    rw [frzL, appL_append]
    by_cases hx : x = b
    · subst hx
      cases hb : H x with
      | none =>
        have e0 : frz1 H x = [] := by unfold frz1; rw [hb]
        rw [e0]
        rw [hb] at ih
        exact ih
      | some B =>
        cases B with
        | box cs =>
          have e0 : frz1 H x = [] := by unfold frz1; rw [hb]
          rw [e0]
          rw [hb] at ih
          exact ih
        | nst wd e co rows op =>
          have e0 : frz1 H x = [] := by unfold frz1; rw [hb]
          rw [e0]
          rw [hb] at ih
          exact ih
        | row wd e rows f nf =>
          have e0 : frz1 H x = [(x, some (.row wd e rows true nf))] := by unfold frz1; rw [hb]
          refine .inr ⟨wd, e, rows, f, nf, rfl, ?_⟩
          rw [e0, appL_put]
          simp [Hp.put]
    · have e0 : ∀ M : Hp, appL M (frz1 H b) x = M x := fun M => by
        unfold frz1
        split
        · rw [appL_put]; simp [Hp.put, hx]
        · rfl
      rw [e0]
      exact ih
theorem frz1_same (l : List Nat) (b : Nat) : frz1 (appL H (frzL H l)) b = frz1 H b := by
  rcases frzL_at (H := H) l b with h | ⟨wd, e, rows, f, nf, h1, h2⟩
  · unfold frz1; rw [h]
  · unfold frz1; rw [h1, h2]
theorem frzL_in : ∀ (l : List Nat) (b : Nat), b ∈ l → ∀ wd e rows f nf, H b = some (.row wd e rows f nf) → appL H (frzL H l) b = some (.row wd e rows true nf)
  | c :: l, b, hb, wd, e, rows, f, nf, h => by
    rw [frzL, appL_append]
    by_cases hc : b = c
    · subst hc
      have e0 : frz1 H b = [(b, some (.row wd e rows true nf))] := by unfold frz1; rw [h]
      rw [e0, appL_put]
      simp [Hp.put]
    · have e0 : ∀ M : Hp, appL M (frz1 H c) b = M b := fun M => by
        unfold frz1
        split
        · rw [appL_put]; simp [Hp.put, hc]
        · rfl
      rw [e0]
      exact frzL_in l b ((List.mem_cons.1 hb).resolve_left hc) wd e rows f nf h
theorem Rel.frzL {κ : Nat → Value} {w0 : World} {S : Wr} {ι : Nm} {a : Act} {w : World} (h : Rel N κ w0 S ι T H a w) : ∀ l : List Nat, Rel N κ w0 S ι T (appL H (Av.frzL H l)) a w
  | [] => h
  | b :: l => by
    rw [Av.frzL, appL_append, ← frz1_same l b]
    exact (Rel.frzL h l).frz b
/-- What a cell reads as. -/
def toD (H : Hp) : Cell → Option D
  | .d x => some x
  | .f x => some x
  | .k _ x => some x
  | .nil => some (.sl [])
  | .ref b => match H b with
    | some (.row _ _ rows _ _) => some (.sl rows)
    | _ => none
def toDs (H : Hp) : List Cell → Option (List D)
  | [] => some []
  | c :: l => match toD H c, toDs H l with
    | some d, some r => some (d :: r)
    | _, _ => none
/-- .. and does it lead to blocks of the call's own alone? -/
def frC (H : Hp) : Cell → Bool
  | .f _ => true
  | .nil => true
  | .d (.v _) => true
  | .k _ (.v _) => true
  | .ref b => match H b with
    | some (.row _ _ _ _ nf) => nf
    | _ => false
  | _ => false
theorem toDs_get : ∀ {cs : List Cell} {ds : List D}, toDs H cs = some ds → ds.length = cs.length ∧ ∀ (j : Nat) (d : D), ds[j]? = some d → ∃ c, cs[j]? = some c ∧ toD H c = some d
  | [], ds, h => by
    cases h
    exact ⟨rfl, fun j d hj => by cases hj⟩
  | c :: l, ds, h => by
    unfold toDs at h
    cases h1 : toD H c with
    | none => simp [h1] at h
    | some d0 =>
      cases h2 : toDs H l with
      | none => simp [h1, h2] at h
      | some r =>
        simp [h1, h2] at h
        subst h
        obtain ⟨i1, i2⟩ := toDs_get h2
        refine ⟨by simp [i1], fun j d hj => ?_⟩
        cases j with
        | zero => cases hj; exact ⟨c, rfl, h1⟩
        | succ j => exact i2 j d hj
theorem toD_agree {H H' : Hp} {c : Cell} (h : ∀ b, b ∈ c.ids → H' b = H b) : toD H' c = toD H c ∧ frC H' c = frC H c := by
  cases c with
  | ref b => simp [toD, frC, h b (by simp [Cell.ids])]
  | d x => cases x <;> exact ⟨rfl, rfl⟩
  | k j x => cases x <;> exact ⟨rfl, rfl⟩
  | _ => exact ⟨rfl, rfl⟩
theorem toDs_agree {H H' : Hp} : ∀ {cs : List Cell}, (∀ b, b ∈ cs.flatMap Cell.ids → H' b = H b) → toDs H' cs = toDs H cs ∧ cs.all (frC H') = cs.all (frC H)
  | [], _ => ⟨rfl, rfl⟩
  | c :: l, h => by
    obtain ⟨a, b⟩ := toDs_agree (H := H) (H' := H') (cs := l) fun b hb => h b (by simp only [List.flatMap_cons]; exact List.mem_append_right _ hb)
    obtain ⟨a', b'⟩ := toD_agree (H := H) (H' := H') (c := c) fun b hb => h b (by simp only [List.flatMap_cons]; exact List.mem_append_left _ hb)
    exact ⟨by unfold toDs; rw [a, a'], by simp [List.all_cons, b, b']⟩
/-- A cell whose row is written no more reads as its rows. -/
theorem cell_tr {κ : Nat → Value} {w0 : World} {S : Wr} {ι : Nm} {a : Act} {w : World} {H2 : Hp} (hr : Rel N κ w0 S ι T H2 a w) {c : Cell} {u : Value} (h : CR ⟨κ, S.fr⟩ ι H2 w c u) {d : D} (hd : toD H c = some d)
    (hf : ∀ b, c = .ref b → ∀ wd e rows f nf, H b = some (.row wd e rows f nf) → H2 b = some (.row wd e rows true nf)) (nf : Bool) (hnf : nf = true → frC H c = true) : TR w (OkF ⟨κ, S.fr⟩ nf ι H2 w) d u := by
  have weak : ∀ {x : D} {b : Bool}, TR w (OkF ⟨κ, S.fr⟩ b ι H2 w) x u → (nf = true → b = true) → TR w (OkF ⟨κ, S.fr⟩ nf ι H2 w) x u := fun t hb => t.move fun k hk => ⟨⟨hk.1, fun hn => hk.2 (hb hn)⟩, rfl⟩
  cases c with
  | d x =>
    cases hd
    cases d with
    | v y => cases h with | v _ hy => exact .v _ hy
    | sl r => exact weak h fun hn => by have := hnf hn; cases this
  | f x => cases hd; exact weak h fun _ => rfl
  | k j x =>
    cases hd
    cases d with
    | v y => cases h.2 with | v _ hy => exact .v _ hy
    | sl r => exact weak h.2 fun hn => by have := hnf hn; cases this
  | nil => cases hd; cases h; exact .nil _ _
  | ref b =>
    unfold toD at hd
    cases hb : H b with
    | none => simp [hb] at hd
    | some B =>
      cases B with
      | box cs => simp [hb] at hd
      | nst wd e co rows op => simp [hb] at hd
      | row wd e rows f nf' =>
        simp [hb] at hd
        subst hd
        have hb2 := hf b rfl wd e rows f nf' hb
        obtain ⟨wd', n, hsh, href⟩ := h _ hb2
        simp only [Blk.shape, Prod.mk.injEq, true_and] at hsh
        obtain ⟨rfl, rfl⟩ := hsh
        have hbr := hr.blk b _ hb2
        cases hi : ι b with
        | none =>
          rw [hi] at href hbr
          obtain ⟨_, _, rfl⟩ := hbr
          rw [href.2]
          exact .nil _ _
        | some q =>
          obtain ⟨k, cc⟩ := q
          rw [hi] at href hbr
          obtain ⟨hw0, hw, cs, hh, hlc, hmx, hsz, hn0, hcells⟩ := hbr
          rw [show u = _ from href]
          have hwr : ∀ (i : Nat) (r : List D) (j : Nat) (dd : D), rows[i]? = some r → r[j]? = some dd → ∃ x, cs[0 + (i * wd + j)]? = some x ∧ TR w (OkF ⟨κ, S.fr⟩ nf' ι H2 w) dd x := fun i r j dd hi hj => by
            rw [Nat.zero_add]
            exact hcells i r j dd hi hj
          have hnf' : nf = true → nf' = true := fun hn => by have := hnf hn; simp [frC, hb] at this; exact this
          refine .row rows wd k 0 cc cs e (0, 0) (fun i j => (cs[0 + (i * wd + j)]?).getD undef) hlc ⟨⟨(Array.getElem?_eq_some_iff.1 hh).1, fun b2 B2 c2 hB2 hw2 hi2 ho2 => ?_⟩, fun hn => hn0 (hnf' hn)⟩ hh (fun i j hi' hj' => ?_) hw (fun i r j dd hi' hj' => ?_)
          · obtain rfl := hr.injO b2 b B2 _ c2 _ k hB2 hb2 hi2 hi ho2 (.inl rfl)
            rw [hb2] at hB2
            cases hB2
            cases hw2
          · have hlen := hw i _ (List.getElem?_eq_getElem hi')
            obtain ⟨x, hx, _⟩ := hwr i _ j _ (List.getElem?_eq_getElem hi') (List.getElem?_eq_getElem (by omega))
            rw [hx]
            rfl
          · obtain ⟨x, hx, hxt⟩ := hwr i r j dd hi' hj'
            rw [hx]
            exact hxt.move fun k hk => ⟨⟨hk.1, fun hn => hk.2 (hnf' hn)⟩, rfl⟩
/-- Stores an element, or a part of one, into a row of the call's own: r is that row. -/
theorem g_store_row {t b n p wd ty : Nat} {x y : Operand} {i : TI} {rows : List (List D)} {nf : Bool} {r ds : List D} {e : E} (hN : dstOk N o.dst = true) (ho : o.op = .store t x y) (hx : evO T x = some (.pt b n p)) (hb : H b = some (.row wd ty rows false nf)) (hrow : rows[n]? = some r) (hy : evO T y = some (.e e)) (ht : TyP P t i)
    (hl : (cellsOf e).all (liveC H) = true) (hd : toDs H (cellsOf e) = some ds) (hsz : Nat.beq ds.length i.sz = true) (hle : Nat.ble (p + ds.length) wd = true) (hbr : (refsOf e).contains b = false) :
    GoodW P N o ⟨.un, (b, some (.row wd ty (rows.set n (splice r p ds)) false (nf && (cellsOf e).all (frC H)))) :: frzL H (refsOf e), b :: refsOf e, []⟩ T H := by
  intro T' H' hT hH hF κ w0 S ι a w hr0 Q K hK
  have hHr : ∀ c, c ∈ refsOf e → H' c = H c := fun c hc => hH c (List.mem_cons_of_mem _ hc)
  have hfr : frzL H (refsOf e) = frzL H' (refsOf e) := by
    have : ∀ l : List Nat, (∀ c ∈ l, H' c = H c) → frzL H l = frzL H' l := by
      intro l
      induction l with
      | nil => exact fun _ => rfl
      | cons c l ih =>
        intro h
        unfold frzL frz1
        rw [h c List.mem_cons_self, ih fun c hc => h c (List.mem_cons_of_mem _ hc)]
    exact this _ hHr
  obtain ⟨hd', hfc⟩ := toDs_agree (H := H) (H' := H') (cs := cellsOf e) hHr
  rw [← hd'] at hd
  have hl' : (cellsOf e).all (liveC H') = true := by
    rw [List.all_eq_true] at hl ⊢
    exact fun c hc => (liveC_agree fun b hb => hHr b (List.mem_flatMap.2 ⟨c, hc, hb⟩)).trans (hl c hc)
  have hb' : H' b = some (.row wd ty rows false nf) := (hH b (by simp)).trans hb
  have hu := evO_ok hr0 ((evO_agree hT (by simp [ho, Op.operands])).trans hy)
  obtain ⟨c1, c2, c3⟩ := cells_of_live hu hl'
  have hr := hr0.frzL (refsOf e)
  have hbn : b ∉ refsOf e := by simpa using hbr
  have hb2 : appL H' (frzL H' (refsOf e)) b = some (.row wd ty rows false nf) := by
    have : ∀ l : List Nat, b ∉ l → appL H' (frzL H' l) b = H' b := by
      intro l
      induction l with
      | nil => exact fun _ => rfl
      | cons c l ih =>
        intro h
        simp only [List.mem_cons, not_or] at h
        rw [frzL, appL_append]
        have : ∀ M : Hp, appL M (frz1 H' c) b = M b := fun M => by
          unfold frz1
          split
          · rw [appL_put]; simp [Hp.put, h.1]
          · rfl
        rw [this]
        exact ih h.2
    rw [this _ hbn, hb']
  have c2' : CsR ⟨κ, S.fr⟩ ι (appL H' (frzL H' (refsOf e))) w (cellsOf e) (fun j => (a.eval y).cells[j]?) := by
    refine CsR.move (Moves.of fun k hk => ⟨⟨hk.1, fun b B c hB hw => ?_⟩, rfl⟩) (fun c hc B hB => ?_) c2
    · rcases frzL_at (H := H') (refsOf e) b with h | ⟨wd, e', rows, f, nf, h1, h2⟩
      · exact hk.2 b B c (h ▸ hB) hw
      · rw [h2] at hB; cases hB; cases hw
    · rcases frzL_at (H := H') (refsOf e) c with h | ⟨wd, e', rows, f, nf, h1, h2⟩
      · exact ⟨B, h ▸ hB, rfl, rfl, rfl⟩
      · rw [h2] at hB; cases hB; exact ⟨_, h1, rfl, rfl, rfl⟩
  have hrf : ∀ c, c ∈ cellsOf e → ∀ b, c = .ref b → ∀ wd e' rows f nf, H' b = some (.row wd e' rows f nf) → appL H' (frzL H' (refsOf e)) b = some (.row wd e' rows true nf) := fun c hc b hb wd e' rows f nf h =>
    frzL_in _ b (List.mem_flatMap.2 ⟨c, hc, by rw [hb]; simp [Cell.ids]⟩) wd e' rows f nf h
  have hx2 := evO_ok hr ((evO_agree hT (by simp [ho, Op.operands])).trans hx)
  rw [hfr, ← hfc] at hK
  simp only [appL_cons_put] at hK
  generalize appL H' (frzL H' (refsOf e)) = H2 at *
  obtain ⟨hdl, hdg⟩ := toDs_get hd
  have hsz : ds.length = i.sz := Nat.eq_of_beq_eq_true hsz
  have hle : p + ds.length ≤ wd := Nat.le_of_ble_eq_true hle
  obtain ⟨k, c, h1, h2⟩ := hx2 _ hb2
  have h3 := hr.blk b _ hb2
  rw [h1] at h3
  obtain ⟨hw0, hw, cs, h4, hlc, hmx, hcs, hn0, h5⟩ := h3
  have hrl := hw n r hrow
  have hnl : n < rows.length := (List.getElem?_eq_some_iff.1 hrow).1
  have hin : n * wd + p + ds.length ≤ cs.size := by
    have : (n + 1) * wd ≤ c * wd := Nat.mul_le_mul_right _ (by omega)
    rw [Nat.add_mul, Nat.one_mul] at this
    omega
  have hlen : (a.eval y).cells.size = ds.length := by rw [c1, hdl]
  have hrun := run_st (P := P) (p := n * wd + p) ht h4 (u := a.eval y) (by rw [hlen, hsz]) (by omega) c3
  obtain ⟨cs', e1, e2, e3⟩ := heap_setCells_same k (a.eval y).cells.toList (n * wd + p) w cs ty (0, 0) h4
  have hsame : ∀ b', Same ι H2 ι (Hp.put H2 b (some (.row wd ty (rows.set n (splice r p ds)) false (nf && (cellsOf e).all (frC H'))))) b' := fun b' B' hB' => by
    by_cases hn : b' = b
    · subst hn
      have : B' = .row wd ty (rows.set n (splice r p ds)) false (nf && (cellsOf e).all (frC H')) := by simpa [Hp.put] using hB'.symm
      subst this
      exact ⟨_, hb2, by simp [Blk.shape], rfl, rfl⟩
    · have : H2 b' = some B' := by simpa [Hp.put, hn] using hB'
      exact ⟨B', this, rfl, rfl, rfl⟩
  have hnx := (hr.next (w' := w.setCells k (n * wd + p) (a.eval y).cells.toList) (ι' := ι) (H' := Hp.put H2 b (some (.row wd ty (rows.set n (splice r p ds)) false (nf && (cellsOf e).all (frC H'))))) (fun q => q = k) (kept_setCells w k _ _ _ rfl) (fun q hq _ => ⟨b, _, c, hb2, rfl, hq ▸ h1⟩) (fun b' => .inl (hsame b'))
    (fun b' B' q c' hB' hi => by
      by_cases hn : b' = b
      · subst hn
        have : B' = .row wd ty (rows.set n (splice r p ds)) false (nf && (cellsOf e).all (frC H')) := by simpa [Hp.put] using hB'.symm
        subst this
        exact .inl ⟨_, c', hb2, fun _ => rfl, hi, fun h => nomatch h⟩
      · have : H2 b' = some B' := by simpa [Hp.put, hn] using hB'
        exact .inl ⟨B', c', this, fun h => h, hi, fun _ => ⟨rfl, rfl⟩⟩)
    (fun b1 b2 B1 B2 x1 x2 q g1 g2 g3 g4 o1 o2 => by
      have f : ∀ b' B', (Hp.put H2 b (some (.row wd ty (rows.set n (splice r p ds)) false (nf && (cellsOf e).all (frC H'))))) b' = some B' → ∃ B0, H2 b' = some B0 ∧ (B'.isN = true → B0.isN = true) := fun b' B' hB' => by
        by_cases hn : b' = b
        · subst hn
          have : B' = .row wd ty (rows.set n (splice r p ds)) false (nf && (cellsOf e).all (frC H')) := by simpa [Hp.put] using hB'.symm
          subst this
          exact ⟨_, hb2, fun h => nomatch h⟩
        · exact ⟨B', by simpa [Hp.put, hn] using hB', id⟩
      obtain ⟨B3, g5, n1⟩ := f _ _ g1
      obtain ⟨B4, g6, n2⟩ := f _ _ g2
      exact hr.injO b1 b2 B3 B4 x1 x2 q g5 g6 g3 g4 (o1.up n1) (o2.up n2))
    (fun hok b' B' hB' => by
      by_cases hn : b' = b
      · subst hn
        have : B' = .row wd ty (rows.set n (splice r p ds)) false (nf && (cellsOf e).all (frC H')) := by simpa [Hp.put] using hB'.symm
        subst this
        refine .inr ?_
        rw [h1]
        refine ⟨hw0, fun m rr hm => ?_, cs', e1, by rw [List.length_set]; exact hlc, hmx, by rw [e2, hcs], fun h => hn0 (by simp at h; exact h.1), fun m rr j d hm hj => ?_⟩
        · rw [List.getElem?_set] at hm
          by_cases hmn : n = m
          · subst hmn
            rw [if_pos rfl, if_pos hnl] at hm
            cases hm
            rw [splice_length (by omega)]
            exact hrl
          · rw [if_neg hmn] at hm
            exact hw m rr hm
        · rw [e3]
          rw [List.getElem?_set] at hm
          have hmw : ∀ m' j', m' < n → j' < wd → m' * wd + j' < n * wd := fun m' j' h1 h2 => by
            have : (m' + 1) * wd ≤ n * wd := Nat.mul_le_mul_right _ h1
            rw [Nat.add_mul, Nat.one_mul] at this
            omega
          have hmw2 : ∀ m', n < m' → n * wd + wd ≤ m' * wd := fun m' h1 => by
            have : (n + 1) * wd ≤ m' * wd := Nat.mul_le_mul_right _ h1
            rwa [Nat.add_mul, Nat.one_mul] at this
          have weak : ∀ {x : D} {v : Value}, TR w (OkF ⟨κ, S.fr⟩ nf ι H2 w) x v → TR w (OkF ⟨κ, S.fr⟩ (nf && (cellsOf e).all (frC H')) ι H2 w) x v := fun t => t.move fun k hk => ⟨⟨hk.1, fun hn => hk.2 (by simp at hn; exact hn.1)⟩, rfl⟩
          by_cases hmn : n = m
          · subst hmn
            rw [if_pos rfl, if_pos hnl] at hm
            cases hm
            rw [splice_get (by omega)] at hj
            by_cases hp : p ≤ j ∧ j < p + ds.length
            · rw [if_pos hp] at hj
              rw [if_pos ⟨by omega, by simp only [Array.length_toList]; omega, by omega⟩]
              obtain ⟨cc, hc1, hc2⟩ := hdg _ d hj
              obtain ⟨v, hv1, hv2⟩ := c2' _ cc hc1
              refine ⟨v, ?_, ?_⟩
              · rw [show n * wd + j - (n * wd + p) = j - p by omega]
                simpa using hv1
              · have := cell_tr hr hv2 hc2 (hrf cc (List.mem_of_getElem? hc1)) (nf && (cellsOf e).all (frC H')) fun h => by
                  simp only [Bool.and_eq_true] at h
                  exact List.all_eq_true.1 h.2 _ (List.mem_of_getElem? hc1)
                exact this.move fun q hq => ⟨⟨(hok q hq.1).1, hq.2⟩, (hok q hq.1).2⟩
            · rw [if_neg hp] at hj
              have hjl : j < wd := by have := (List.getElem?_eq_some_iff.1 hj).1; omega
              rw [if_neg (by simp only [Array.length_toList]; omega)]
              obtain ⟨v, hv1, hv2⟩ := h5 n r j d hrow hj
              exact ⟨v, hv1, (weak hv2).move fun q hq => ⟨⟨(hok q hq.1).1, hq.2⟩, (hok q hq.1).2⟩⟩
          · rw [if_neg hmn] at hm
            obtain ⟨v, hv1, hv2⟩ := h5 m rr j d hm hj
            have hjl : j < wd := by have := (List.getElem?_eq_some_iff.1 hj).1; have := hw m rr hm; omega
            refine ⟨v, ?_, (weak hv2).move fun q hq => ⟨⟨(hok q hq.1).1, hq.2⟩, (hok q hq.1).2⟩⟩
            rw [if_neg ?_]
            · exact hv1
            · simp only [Array.length_toList]
              rcases Nat.lt_or_gt_of_ne hmn with hlt | hlt
              · have := hmw2 m hlt; omega
              · have := hmw m j hlt hjl; omega
      · have : H2 b' = some B' := by simpa [Hp.put, hn] using hB'
        exact .inl ⟨this, rfl, fun x hx q ho hq => hn (hr.injO b' b B' _ x _ q this hb2 hx h1 ho (.inl hq))⟩)).1
  unfold Oper.wp execOp
  rw [ho]
  simp only [h2, Blk.wd, Sem.run_bind, hrun, Result.andThen_ok, Sem.run_pure, Oper.upon_skip]
  exact hK _ _ _ (hnx.putD hN (x := .un) trivial)
end
end Go.Proofs.Ytggmeldoecnkaaa.Av
