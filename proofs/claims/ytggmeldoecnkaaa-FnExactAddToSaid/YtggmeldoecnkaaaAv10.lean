/-
append: onto a row of the call's own, or onto none; what it comes to.
Conditions: none beside those that each theorem names.
-/
import Derived.Test.YtggmeldoecnkaaaAv9
import Derived.Lib.AppendStr
set_option linter.unusedVariables false
set_option linter.unusedSimpArgs false
namespace Go.Proofs.Ytggmeldoecnkaaa.Av
open Go.RowKit

/-- What is read of a slice, cell by cell. -/
def Src (w : World) (ok : Nat → Prop) (wd : Nat) (rows : List (List D)) (v : Value) : Prop :=
  ∃ A c, v = .slice A rows.length c ∧ (A = none → rows = []) ∧ ∀ a, A = some a → ∀ (i : Nat) (r : List D) (j : Nat) (d : D), rows[i]? = some r → r[j]? = some d → ∃ u, w.cell? (a.add (i * wd + j)) = some u ∧ TR w ok d u
theorem TR.src {w : World} {ok : Nat → Prop} {rows : List (List D)} {v : Value} (t : TR w ok (.sl rows) v) {wd : Nat} (hw : ∀ r, r ∈ rows → r.length = wd) : Src w ok wd rows v := by
  cases t with
  | nil A c => exact ⟨A, c, rfl, fun _ => rfl, fun a _ i r j d hi => by cases hi⟩
  | row _ wd' k o c cs ty fr u hc hk hb hu hw' hv =>
    refine ⟨_, c, rfl, (fun h => by cases h), fun a ha i r j d hi hj => ?_⟩
    cases ha
    have hil : i < rows.length := (List.getElem?_eq_some_iff.1 hi).1
    have e : wd' = wd := by rw [← hw' i r hi, hw r (List.mem_of_getElem? hi)]
    subst e
    have hjl : j < wd' := by have := (List.getElem?_eq_some_iff.1 hj).1; have := hw' i r hi; omega
    rw [Addr.add_mid]
    exact ⟨u i j, cell_in hb (hu i j hil hjl), hv i r j d hi hj⟩
theorem TR.one {w : World} {ok : Nat → Prop} {d : D} {u : Value} (t : TR w ok d u) : u.oneCell' = true := by cases t <;> first | assumption | rfl
section
variable {P : Program} {N : Nat} {o : Oper} {T : Tm} {H : Hp}
/-- The slice that is appended to: none, or a row of the call's own that may be written. -/
inductive Base (H : Hp) : Cell → Option Nat → Nat → Nat → List (List D) → Bool → Prop
  | nil (wd ty : Nat) : Base H .nil none wd ty [] true
  | ref (b wd ty : Nat) (rows : List (List D)) (nf : Bool) (h : H b = some (.row wd ty rows false nf)) : Base H (.ref b) (some b) wd ty rows nf
def gone : Option Nat → List (Nat × Option Blk)
  | none => []
  | some b => [(b, none)]
def idO : Option Nat → List Nat
  | none => []
  | some b => [b]
theorem own_of {κ : Nat → Value} {w0 : World} {S : Wr} {ι : Nm} {a : Act} {w : World} (hr : Rel N κ w0 S ι T H a w) {c : Cell} {bo : Option Nat} {wd ty : Nat} {rows : List (List D)} {nf : Bool} (hb : Base H c bo wd ty rows nf) (hwd : 0 < wd) {v : Value} (hv : CR ⟨κ, S.fr⟩ ι H w c v) :
    ∃ xs : List Value, w.ownsRow 0 ty wd v rows.length xs ∧ (∀ k, v.ownBlock = some k → ∃ b cc, bo = some b ∧ ι b = some (k, cc)) ∧ (∀ r, r ∈ rows → r.length = wd) ∧ (∀ k, v.ownBlock = some k → nf = true → S.fr k) ∧
      ∀ (i : Nat) (r : List D) (j : Nat) (d : D), rows[i]? = some r → r[j]? = some d → ∃ u, xs[i * wd + j]? = some u ∧ TR w (OkF ⟨κ, S.fr⟩ nf ι H w) d u := by
  cases hb with
  | nil _ _ =>
    cases hv
    exact ⟨[], World.ownsRow_nil w 0 ty wd, (fun k hk => by cases hk), (fun r hr => by cases hr), (fun k hk => by cases hk), fun i r j d hi => by cases hi⟩
  | ref b _ _ _ _ hb =>
    obtain ⟨wd', n, hsh, href⟩ := hv _ hb
    simp only [Blk.shape, Prod.mk.injEq, true_and] at hsh
    obtain ⟨rfl, rfl⟩ := hsh
    have hbr := hr.blk b _ hb
    have hw : ∀ r, r ∈ rows → r.length = wd := fun r hr => by obtain ⟨i, hi⟩ := List.mem_iff_getElem?.1 hr; exact hbr.2.1 i r hi
    cases hi : ι b with
    | none =>
      rw [hi] at href hbr
      obtain ⟨_, _, rfl⟩ := hbr
      rw [href.2]
      exact ⟨[], World.ownsRow_nil w 0 ty wd, (fun k hk => by cases hk), hw, (fun k hk => by cases hk), fun i r j d hi => by cases hi⟩
    | some q =>
      obtain ⟨k, cc⟩ := q
      rw [hi] at href hbr
      have href : v = .slice (some ⟨k, 0, none⟩) rows.length cc := href
      subst href
      obtain ⟨_, _, cs, hh, h1, h2, h3, h4, h5⟩ := hbr
      have hle : rows.length * wd ≤ cs.size := by rw [h3]; exact Nat.mul_le_mul_right _ h1
      refine ⟨cs.toList.take (rows.length * wd), ⟨(List.length_take ..).trans (Nat.min_eq_left (by rw [show cs.toList.length = cs.size from Array.length_toList]; exact hle)), .inr ⟨k, cc, cs, rfl, Nat.zero_le _, hh, h1, h2, h3, rfl⟩⟩, (fun k' hk' => by cases hk'; exact ⟨b, cc, rfl, hi⟩), hw, (fun k' hk' hn => by cases hk'; exact h4 hn), fun i r j d hi' hj => ?_⟩
      obtain ⟨u, hu, ht⟩ := h5 i r j d hi' hj
      refine ⟨u, ?_, ht⟩
      have hil : i < rows.length := (List.getElem?_eq_some_iff.1 hi').1
      have hjl : j < wd := by have := (List.getElem?_eq_some_iff.1 hj).1; have := hw r (List.mem_of_getElem? hi'); omega
      have : (i + 1) * wd ≤ rows.length * wd := Nat.mul_le_mul_right _ hil
      rw [Nat.add_mul, Nat.one_mul] at this
      rw [List.getElem?_take, if_pos (by omega)]
      simpa using hu
theorem Base.agree {H' : Hp} {c : Cell} {bo : Option Nat} {wd ty : Nat} {rows : List (List D)} {nf : Bool} (hb : Base H c bo wd ty rows nf) (h : ∀ b, b ∈ idO bo → H' b = H b) : Base H' c bo wd ty rows nf := by
  cases hb with
  | nil _ _ => exact .nil _ _
  | ref b _ _ _ _ hb => exact .ref b _ _ _ _ ((h b (by simp [idO])).trans hb)
/-- What append leaves behind. -/
theorem after_app {κ : Nat → Value} {w0 : World} {S : Wr} {ι : Nm} {a : Act} {w w' : World} (hr : Rel N κ w0 S ι T H a w) {c : Cell} {bo : Option Nat} {wd ty id : Nat} {rows rows2 : List (List D)} {nf nf2 : Bool} (hb : Base H c bo wd ty rows nf) (hwd : 0 < wd) {v v' : Value} (hv : CR ⟨κ, S.fr⟩ ι H w c v) (hF : Fresh T H id) (hid : id ∉ idO bo)
    {xs news : List Value} (h1 : w.ownsRow 0 ty wd v rows.length xs) (h2 : ∀ k, v.ownBlock = some k → ∃ b cc, bo = some b ∧ ι b = some (k, cc)) (h3 : ∀ r, r ∈ rows → r.length = wd) (h4 : ∀ k, v.ownBlock = some k → nf = true → S.fr k)
    (h5 : ∀ (i : Nat) (r : List D) (j : Nat) (d : D), rows[i]? = some r → r[j]? = some d → ∃ u, xs[i * wd + j]? = some u ∧ TR w (OkF ⟨κ, S.fr⟩ nf ι H w) d u)
    (hw2 : ∀ r, r ∈ rows2 → r.length = wd) (g5 : ∀ (i : Nat) (r : List D) (j : Nat) (d : D), rows2[i]? = some r → r[j]? = some d → ∃ u, news[i * wd + j]? = some u ∧ TR w (OkF ⟨κ, S.fr⟩ nf2 ι H w) d u)
    (ho : w'.ownsRow 0 ty wd v' (rows.length + rows2.length) (xs ++ news)) (hg : w.grownBy w' v.ownBlock) (hat : v'.ownBlock = v.ownBlock ∨ ∃ b, v'.ownBlock = some b ∧ w.heap.size ≤ b) :
    ∃ g, Rel N κ w0 S (ι.put id g) T (Hp.put (appL H (gone bo)) id (some (.row wd ty (rows ++ rows2) false (nf && nf2)))) a w' ∧ RefV (key g) (rows ++ rows2).length v' := by
  have hbl : ∀ b, bo = some b → ∃ B, H b = some B ∧ B.wr = true := by
    intro b hb'
    subst hb'
    cases hb with
    | ref _ _ _ _ _ hb => exact ⟨_, hb, rfl⟩
  have hidb : bo ≠ some id := fun e => hid (by rw [e]; simp [idO])
  -- the new name
  obtain ⟨g, hgv, hgk, hgb⟩ : ∃ g : Option (Nat × Cp), RefV (key g) (rows ++ rows2).length v' ∧ (∀ k cc, g = some (k, cc) → v'.ownBlock = some k) ∧
      (match g with
        | none => rows ++ rows2 = []
        | some (k, cc) => ∃ cs, w'.heap[k]? = some (.cells cs ty (0, 0)) ∧ (rows ++ rows2).length ≤ cc.n ∧ cc.n ≤ maxLen ∧ cs.size = cc.n * wd ∧ cs.toList.take ((rows.length + rows2.length) * wd) = xs ++ news) := by
    rcases ho.2 with ⟨e1, e2⟩ | ⟨k, cc, cs, e1, _, e2, e3, e4, e5, e6⟩
    · exact ⟨none, ⟨by rw [List.length_append]; exact e2, e1⟩, (fun k cc h => by cases h), List.eq_nil_of_length_eq_zero (by rw [List.length_append]; exact e2)⟩
    · refine ⟨some (k, cp cc), ?_, (fun k' cc' h => by cases h; rw [e1]; rfl), cs, e2, by rw [List.length_append]; exact e3, e4, e5, e6⟩
      show v' = _
      rw [e1, List.length_append]
      rfl
  refine ⟨g, ?_, hgv⟩
  have hH : ∀ b, b ≠ id → (Hp.put (appL H (gone bo)) id (some (.row wd ty (rows ++ rows2) false (nf && nf2)))) b = if bo = some b then none else H b := by
    intro b hb'
    simp only [Hp.put, hb', if_false]
    cases bo with
    | none => simp [gone, appL]
    | some b0 =>
      simp only [gone, appL]
      by_cases e : b = b0
      · subst e; simp
      · rw [if_neg e, if_neg (fun h => e (by cases h; rfl))]
  have hι : ∀ b, b ≠ id → (ι.put id g) b = ι b := fun b hb' => by simp [Nm.put, hb']
  have hself : (Hp.put (appL H (gone bo)) id (some (.row wd ty (rows ++ rows2) false (nf && nf2)))) id = some (.row wd ty (rows ++ rows2) false (nf && nf2)) ∧ (ι.put id g) id = g := by simp [Hp.put, Nm.put]
  have hold : ∀ b B, b ≠ id → (Hp.put (appL H (gone bo)) id (some (.row wd ty (rows ++ rows2) false (nf && nf2)))) b = some B → H b = some B ∧ bo ≠ some b := by
    intro b B hb' h
    rw [hH b hb'] at h
    by_cases e : bo = some b
    · rw [if_pos e] at h; cases h
    · rw [if_neg e] at h; exact ⟨h, e⟩
  have hk' : ∀ k cc, g = some (k, cc) → (v.ownBlock = some k) ∨ w.heap.size ≤ k := fun k cc h => by
    have := hgk k cc h
    rcases hat with e | ⟨b, e, hb⟩
    · exact .inl (e ▸ this)
    · rw [e] at this; cases this; exact .inr hb
  -- another's block is not the one appended to
  have hother : ∀ b B x k, H b = some B → bo ≠ some b → ι b = some x → Owns B x k → v.ownBlock ≠ some k := fun b B x k h1' h2' h3' ho' h4' => by
    obtain ⟨b0, c0, e1, e2⟩ := h2 k h4'
    obtain ⟨B0, e3, _⟩ := hbl b0 e1
    exact h2' (e1.trans (congrArg some (hr.injO b0 b B0 B _ x k e3 h1' e2 h3' (.inl rfl) ho')))
  refine (hr.next (fun k => v.ownBlock = some k) ⟨hg.os, hg.tape, hg.output, hg.size, fun k hk hn => hg.block k hk (fun e => hn e.symm)⟩ (fun k hk _ => ?_) (fun b => ?_) (fun b B k cc hB hi => ?_) (fun b b' B B' x1 x2 k e1 e2 e3 e4 o1 o2 => ?_) (fun hok b B hB => ?_) (fun b hb => congrArg key (hι b fun e => by have := hF.2.2; omega))).1
  · obtain ⟨b, cc, e1, e2⟩ := h2 k hk
    obtain ⟨B, e3, e4⟩ := hbl b e1
    exact ⟨b, B, cc, e3, e4, e2⟩
  · by_cases hb' : b = id
    · subst hb'; exact .inr hF
    · refine .inl fun B' hB' => ?_
      obtain ⟨e1, e2⟩ := hold b B' hb' hB'
      exact ⟨B', e1, rfl, rfl, congrArg key (hι b hb')⟩
  · by_cases hb' : b = id
    · subst hb'
      rw [hself.2] at hi
      rw [hself.1] at hB
      cases hB
      rcases hk' k cc hi with e | e
      · refine .inr ⟨rfl, .inl e, ?_⟩
        obtain ⟨b0, c0, e1, e2⟩ := h2 k e
        obtain ⟨B0, e3, _⟩ := hbl b0 e1
        exact hr.own b0 B0 k c0 e3 e2
      · exact .inr ⟨rfl, .inr e, .inl (Nat.le_trans hr.kept.size e)⟩
    · obtain ⟨e1, _⟩ := hold b B hb' hB
      rw [hι b hb'] at hi
      exact .inl ⟨B, cc, e1, fun h => h, hi, fun _ => ⟨rfl, rfl⟩⟩
  · have side : ∀ b B x y k, b ≠ id → (Hp.put (appL H (gone bo)) id (some (.row wd ty (rows ++ rows2) false (nf && nf2)))) b = some B → (ι.put id g) b = some x → Owns B x k → g = some y → k = y.1 → False := by
      intro b B x y k hb' hB hi hox hg' hky
      obtain ⟨e1, e2⟩ := hold b B hb' hB
      rw [hι b hb'] at hi
      rcases hk' y.1 y.2 hg' with e | e
      · exact hother b B x k e1 e2 hi hox (hky ▸ e)
      · have := hr.ownLt e1 hi hox; omega
    by_cases hb1 : b = id <;> by_cases hb2 : b' = id
    · exact hb1.trans hb2.symm
    · subst hb1
      rw [hself.2] at e3
      rw [hself.1] at e1
      cases e1
      exact (side b' B' x2 x1 k hb2 e2 e4 o2 e3 (o1.one rfl)).elim
    · subst hb2
      rw [hself.2] at e4
      rw [hself.1] at e2
      cases e2
      exact (side b B x1 x2 k hb1 e1 e3 o1 e4 (o2.one rfl)).elim
    · rw [hι b hb1] at e3
      rw [hι b' hb2] at e4
      exact hr.injO b b' B B' x1 x2 k (hold b B hb1 e1).1 (hold b' B' hb2 e2).1 e3 e4 o1 o2
  · by_cases hb' : b = id
    · subst hb'
      rw [hself.1] at hB
      cases hB
      rw [hself.2]
      refine .inr ⟨hwd, fun i r hi => ?_, ?_⟩
      · rcases List.mem_append.1 (List.mem_of_getElem? hi) with h | h
        · exact h3 r h
        · exact hw2 r h
      · cases g with
        | none => exact hgb
        | some q =>
          obtain ⟨k, cc⟩ := q
          obtain ⟨cs, f1, f2, f3, f4, f5⟩ := hgb
          refine ⟨cs, f1, f2, f3, f4, fun hn => ?_, fun i r j d hi hj => ?_⟩
          · simp only [Bool.and_eq_true] at hn
            rcases hk' k cc rfl with e | e
            · exact h4 k e hn.1
            · exact hr.new _ (Nat.le_trans hr.kept.size e)
          · have hlen : xs.length = rows.length * wd := h1.1
            have get : ∀ m u, m < (rows.length + rows2.length) * wd → (xs ++ news)[m]? = some u → cs[m]? = some u := fun m u hm hu => by
              rw [← f5, List.getElem?_take, if_pos hm] at hu
              simpa using hu
            have hjl : j < wd := by
              have := (List.getElem?_eq_some_iff.1 hj).1
              rcases List.mem_append.1 (List.mem_of_getElem? hi) with h | h
              · have := h3 r h; omega
              · have := hw2 r h; omega
            by_cases hil : i < rows.length
            · rw [List.getElem?_append_left hil] at hi
              obtain ⟨u, hu, ht⟩ := h5 i r j d hi hj
              have hm : i * wd + j < rows.length * wd := by
                have : (i + 1) * wd ≤ rows.length * wd := Nat.mul_le_mul_right _ hil
                rw [Nat.add_mul, Nat.one_mul] at this
                omega
              refine ⟨u, get _ u (by rw [Nat.add_mul]; omega) (by rw [List.getElem?_append_left (by omega)]; exact hu), ?_⟩
              exact ht.move fun q hq => ⟨⟨(hok q hq.1).1, fun hn => hq.2 (by simp only [Bool.and_eq_true] at hn; exact hn.1)⟩, (hok q hq.1).2⟩
            · rw [List.getElem?_append_right (by omega)] at hi
              obtain ⟨u, hu, ht⟩ := g5 (i - rows.length) r j d hi hj
              have hil2 : i - rows.length < rows2.length := (List.getElem?_eq_some_iff.1 hi).1
              have e : i * wd + j = rows.length * wd + ((i - rows.length) * wd + j) := by
                rw [← Nat.add_assoc, ← Nat.add_mul]
                congr 2
                omega
              have hm : (i - rows.length) * wd + j < rows2.length * wd := by
                have : (i - rows.length + 1) * wd ≤ rows2.length * wd := Nat.mul_le_mul_right _ hil2
                rw [Nat.add_mul, Nat.one_mul] at this
                omega
              refine ⟨u, get _ u (by rw [Nat.add_mul]; omega) (by rw [List.getElem?_append_right (by omega), show i * wd + j - xs.length = (i - rows.length) * wd + j by omega]; exact hu), ?_⟩
              exact ht.move fun q hq => ⟨⟨(hok q hq.1).1, fun hn => hq.2 (by simp only [Bool.and_eq_true] at hn; exact hn.2)⟩, (hok q hq.1).2⟩
    · obtain ⟨e1, e2⟩ := hold b B hb' hB
      exact .inl ⟨e1, hι b hb', fun x hi k ho => hother b B x k e1 e2 hi ho⟩
def Flat (rows : List (List D)) : Prop := ∀ r, r ∈ rows → ∀ d, d ∈ r → ∃ v, d = .v v
theorem src_of {κ : Nat → Value} {w0 : World} {S : Wr} {ι : Nm} {a : Act} {w : World} (hr : Rel N κ w0 S ι T H a w) {c : Cell} {u : Value} {rows : List (List D)} (h : CR ⟨κ, S.fr⟩ ι H w c u) (hd : toD H c = some (.sl rows)) {wd : Nat} (hw : ∀ r, r ∈ rows → r.length = wd) {nf : Bool}
    (hnf : nf = true → frC H c = true ∨ Flat rows) : Src w (OkF ⟨κ, S.fr⟩ nf ι H w) wd rows u := by
  -- out of what is read under some flag
  have weak : ∀ b : Bool, (b = true ↔ frC H c = true) ∨ b = frC H c → Src w (OkF ⟨κ, S.fr⟩ b ι H w) wd rows u → Src w (OkF ⟨κ, S.fr⟩ nf ι H w) wd rows u := by
    rintro b hb ⟨A, cc, e, hA, hs⟩
    refine ⟨A, cc, e, hA, fun a ha i r j d hi hj => ?_⟩
    obtain ⟨x, hx, ht⟩ := hs a ha i r j d hi hj
    refine ⟨x, hx, ?_⟩
    by_cases hn : nf = true
    · rcases hnf hn with h1 | h1
      · have hbt : b = true := by rcases hb with h | h; exact h.2 h1; exact h.trans h1
        exact ht.move fun k hk => ⟨⟨hk.1, fun _ => hk.2 hbt⟩, rfl⟩
      · obtain ⟨v, rfl⟩ := h1 r (List.mem_of_getElem? hi) d (List.mem_of_getElem? hj)
        cases ht with | v _ hv => exact .v _ hv
    · exact ht.move fun k hk => ⟨⟨hk.1, fun h => absurd h hn⟩, rfl⟩
  cases c with
  | d x =>
    cases hd
    exact weak false (.inr rfl) (TR.src h hw)
  | f x =>
    cases hd
    exact weak true (.inr rfl) (TR.src h hw)
  | k j x =>
    cases hd
    exact weak false (.inr rfl) (TR.src h.2 hw)
  | nil =>
    cases hd
    cases h
    exact ⟨none, 0, rfl, fun _ => rfl, fun a ha => by cases ha⟩
  | ref b =>
    unfold toD at hd
    cases hb : H b with
    | none => simp [hb] at hd
    | some B =>
      cases B with
      | box cs => simp [hb] at hd
      | nst wd' e co rows' op => simp [hb] at hd
      | row wd' e rows' f nf' =>
        simp [hb] at hd
        subst hd
        refine weak nf' (.inr (by simp [frC, hb])) ?_
        obtain ⟨wd2, n, hsh, href⟩ := h _ hb
        simp only [Blk.shape, Prod.mk.injEq, true_and] at hsh
        obtain ⟨rfl, rfl⟩ := hsh
        have hbr := hr.blk b _ hb
        cases hi : ι b with
        | none =>
          rw [hi] at href hbr
          obtain ⟨_, _, rfl⟩ := hbr
          exact ⟨none, 0, href.2, fun _ => rfl, fun a ha => by cases ha⟩
        | some q =>
          obtain ⟨k, cc⟩ := q
          rw [hi] at href hbr
          obtain ⟨_, hw', cs, hh, _, _, _, _, h5⟩ := hbr
          refine ⟨_, cc, href, (fun h => by cases h), fun a ha i r j d hi' hj => ?_⟩
          cases ha
          obtain ⟨x, hx, ht⟩ := h5 i r j d hi' hj
          have e : wd' = wd := by rw [← hw' i r hi', hw r (List.mem_of_getElem? hi')]
          subst e
          rw [Addr.add_mid, Nat.zero_add]
          exact ⟨x, cell_in hh hx, ht⟩
theorem Src.list {w : World} {ok : Nat → Prop} {wd : Nat} {rows : List (List D)} {A : Addr} {c n : Nat} (h : Src w ok wd rows (.slice (some A) n c)) (hw : ∀ r, r ∈ rows → r.length = wd) :
    ∃ news : List Value, news.length = rows.length * wd ∧ (∀ j u, news[j]? = some u → w.cell? (A.add j) = some u) ∧ (∀ u, u ∈ news → u.oneCell' = true) ∧ ∀ (i : Nat) (r : List D) (j : Nat) (d : D), rows[i]? = some r → r[j]? = some d → ∃ u, news[i * wd + j]? = some u ∧ TR w ok d u := by
  obtain ⟨A', c', e, _, hs⟩ := h
  cases e
  have hs := hs A rfl
  have hat : ∀ q, q < rows.length * wd → ∃ i r j d, rows[i]? = some r ∧ r[j]? = some d ∧ q = i * wd + j := by
    intro q hq
    have hpos : 0 < wd := Nat.pos_of_ne_zero fun e => by subst e; simp at hq
    have hi : q / wd < rows.length := (Nat.div_lt_iff_lt_mul hpos).2 hq
    have hr := List.getElem?_eq_getElem hi
    have hl := hw _ (List.mem_of_getElem? hr)
    have hj : q % wd < (rows[q / wd]).length := by rw [hl]; exact Nat.mod_lt _ hpos
    exact ⟨q / wd, _, q % wd, _, hr, List.getElem?_eq_getElem hj, by rw [Nat.mul_comm]; exact (Nat.div_add_mod q wd).symm⟩
  have hget : ∀ q, q < rows.length * wd → ∃ u, w.cell? (A.add q) = some u ∧ u.oneCell' = true := fun q hq => by
    obtain ⟨i, r, j, d, h1, h2, rfl⟩ := hat q hq
    obtain ⟨u, hu, ht⟩ := hs i r j d h1 h2
    exact ⟨u, hu, ht.one⟩
  refine ⟨(List.range (rows.length * wd)).map fun q => (w.cell? (A.add q)).getD undef, by simp, fun j u hj => ?_, fun u hu => ?_, fun i r j d hi hj => ?_⟩
  · have hl : j < rows.length * wd := by have := (List.getElem?_eq_some_iff.1 hj).1; simpa using this
    obtain ⟨x, hx, _⟩ := hget j hl
    simp [hl, hx] at hj
    rw [hx, hj]
  · obtain ⟨q, hq, rfl⟩ := List.mem_map.1 hu
    obtain ⟨x, hx, h1⟩ := hget q (by simpa using hq)
    rw [hx]
    exact h1
  · obtain ⟨u, hu, ht⟩ := hs i r j d hi hj
    refine ⟨u, ?_, ht⟩
    have hil : i < rows.length := (List.getElem?_eq_some_iff.1 hi).1
    have hjl : j < wd := by have := (List.getElem?_eq_some_iff.1 hj).1; have := hw r (List.mem_of_getElem? hi); omega
    have : (i + 1) * wd ≤ rows.length * wd := Nat.mul_le_mul_right _ hil
    rw [Nat.add_mul, Nat.one_mul] at this
    rw [List.getElem?_map, List.getElem?_range (by omega)]
    simp [hu]
theorem g_app {t id wd ty : Nat} {s x : Operand} {i j : TI} {c c2 : Cell} {bo : Option Nat} {rows rows2 : List (List D)} {nf nf2 : Bool} (hN : dstOk N o.dst = true) (ho : o.op = .call { callee := .builtin .append, args := #[s, x], argTypes := #[t, t] }) (ht : TyP P t i) (h1 : Nat.beq i.kd 1 = true) (hj : TyP P i.el j)
    (hs : evO T s = some (.e (.c c))) (hb : Base H c bo wd ty rows nf) (hwd : Nat.beq wd j.sz = true) (hty : Nat.beq ty i.el = true) (hx : evO T x = some (.e (.c c2))) (hd : toD H c2 = some (.sl rows2)) (hnf : nf2 = true → frC H c2 = true ∨ Flat rows2) (hid : (idO bo).contains id = false)
    (hw2 : ∀ r, r ∈ rows2 → r.length = j.sz) (hbound : (rows.length + rows2.length) * j.bys ≤ 140737488355328) (hby : Nat.ble 1 j.bys = true) (hzl : Nat.beq j.zero.length j.sz = true) :
    GoodW P N o ⟨.e (.c (.ref id)), (id, some (.row wd ty (rows ++ rows2) false (nf && nf2))) :: gone bo, idO bo ++ c2.ids, [id]⟩ T H := by
  intro T' H' hT hH hF κ w0 S ι a w hr Q K hK
  obtain rfl := Nat.eq_of_beq_eq_true hwd
  obtain rfl := Nat.eq_of_beq_eq_true hty
  have h1 : i.kd = 1 := Nat.eq_of_beq_eq_true h1
  have hs' := evO_ok hr ((evO_agree hT (by simp [ho, Op.operands, Call.operands])).trans hs)
  have hx' := evO_ok hr ((evO_agree hT (by simp [ho, Op.operands, Call.operands])).trans hx)
  have hb' := hb.agree (H' := H') fun b hb => hH b (List.mem_append_left _ hb)
  obtain ⟨a1, a2⟩ := toD_agree (H := H) (H' := H') (c := c2) fun b hb => hH b (List.mem_append_right _ hb)
  rw [← a1] at hd
  rw [← a2] at hnf
  obtain ⟨d, inf, hdt, _, _, _, _, hk, _⟩ := ht
  cases d <;> simp [KdOk, h1] at hk
  rename_i el
  obtain ⟨dj, fj, hdj, hij, hsj, hbj, hzj, _, hpos⟩ := hj
  obtain ⟨z, hz1, hz2⟩ := Option.map_eq_some_iff.1 hzj
  subst hk
  obtain ⟨xs, o1, o2, o3, o4, o5⟩ := own_of hr hb' hpos hs'
  have hsrc := src_of hr hx' hd hw2 hnf
  have hid' : id ∉ idO bo := by simpa using hid
  -- the run
  obtain ⟨v', w', news, hrun, r1, r2, r3, r4⟩ : ∃ v' w' news, (Builtin.append_ #[t, t] o.type #[a.eval s, a.eval x]).run P w = .ok v' w' ∧ w'.ownsRow 0 i.el j.sz v' (rows.length + rows2.length) (xs ++ news) ∧ w.grownBy w' (a.eval s).ownBlock ∧ ((a.eval s).ownBlock = v'.ownBlock ∨ v'.ownBlock = some w.heap.size) ∧
      ∀ (i : Nat) (r : List D) (m : Nat) (d : D), rows2[i]? = some r → r[m]? = some d → ∃ u, news[i * j.sz + m]? = some u ∧ TR w (OkF ⟨κ, S.fr⟩ nf2 ι H' w) d u := by
    obtain ⟨A, cc, hxv, hA, _⟩ := (show _ from hsrc)
    cases A with
    | none =>
      have hr2 := hA rfl
      subst hr2
      refine ⟨a.eval s, w, [], ?_, by simpa using o1, World.grownBy.refl w _, .inl rfl, fun i r m d hi => by cases hi⟩
      rw [hxv]
      rcases o1.2 with ⟨e, _⟩ | ⟨g, cap, cur, e, _, _, hnc, _⟩
      · rw [e]; simp [Builtin.append_, run_underlying hdt, sizeOf, typeInfo, hij, Builtin.lenOf, Builtin.firstCells]
      · rw [e]; simp [Builtin.append_, run_underlying hdt, sizeOf, typeInfo, hij, Builtin.lenOf, Builtin.firstCells, hnc, storeCells]
    | some A =>
      rw [hxv] at hsrc
      obtain ⟨news, n1, n2, n3, n4⟩ := hsrc.list hw2
      have hb1 : 1 ≤ j.bys := Nat.le_of_ble_eq_true hby
      have hlen : rows.length + rows2.length ≤ 140737488355328 := Nat.le_trans (Nat.le_mul_of_pos_right _ hb1) hbound
      obtain ⟨v1, w1, e1, e2, e3, _, e5⟩ := run_append_own_at (P := P) w 0 t o.type i.el fj z j.sz j.bys hdt hij hz1 hsj hbj (by
          have hz3 := congrArg List.length hz2
          rw [Array.length_toList] at hz3
          rw [hz3]
          exact Nat.eq_of_beq_eq_true hzl) hpos (a.eval s) rows.length xs o1 A rows2.length cc news n1 n2 n3 (by simp only [maxLen]; omega) hbound (Nat.zero_le _)
      exact ⟨v1, w1, news, by rw [hxv]; exact e1, e2, e3, e5.imp Eq.symm (fun h => h), n4⟩
  obtain ⟨g, hn, hgv⟩ := after_app hr hb' hpos hs' (hF id (by simp)) hid' o1 o2 o3 o4 o5 hw2 r4 r1 r2 (r3.imp Eq.symm (fun h => ⟨_, h, Nat.le_refl _⟩))
  rw [← appL_cons_put] at hn
  unfold Oper.wp execOp
  rw [ho]
  simp only [resolve, invoke, builtin, Sem.run_bind, Sem.run_pure, Result.andThen_ok, List.map_toArray, List.map_cons, List.map_nil, hrun]
  refine hK _ _ _ (hn.putD hN (x := .e (.c (.ref id))) fun B hB => ?_)
  have : B = .row j.sz i.el (rows ++ rows2) false (nf && nf2) := by simpa [appL] using hB.symm
  subst this
  exact ⟨j.sz, _, rfl, by simp only [Nm.put, if_true]; exact hgv⟩
/-! ### a string's bytes -/
def dB (n : Int) : List D := [.v (.int .u8 n)]
def bys (s : ByteArray) : List Int := s.data.toList.map fun b => (b.toNat : Int)
end
end Go.Proofs.Ytggmeldoecnkaaa.Av
