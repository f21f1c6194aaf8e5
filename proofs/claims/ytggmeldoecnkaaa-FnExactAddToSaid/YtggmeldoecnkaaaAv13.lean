/-
A call of a Go function, by what the function comes to.
Conditions: none beside those that each theorem names.
-/
import Derived.Test.YtggmeldoecnkaaaAv12
set_option linter.unusedVariables false
set_option linter.unusedSimpArgs false
namespace Go.Proofs.Ytggmeldoecnkaaa.Av
open Go.RowKit Go.Proofs.YtggmeldoecnkaaaW.PrintLast

section
variable {P : Program} {N : Nat} {o : Oper} {T : Tm} {H : Hp}
/-- What a cell reads as, for whoever may read okc's blocks. -/
theorem cell_view {κ : Nat → Value} {w0 : World} {S : Wr} {ι : Nm} {a : Act} {w : World} (hr : Rel N κ w0 S ι T H a w) {c : Cell} {u : Value} (h : CR ⟨κ, S.fr⟩ ι H w c u) {d : D} (hd : toD H c = some d) {okc : Nat → Prop} (hk : ∀ k, Ok ι H w k → okc k)
    (href : ∀ b, c = .ref b → ∀ B x k, H b = some B → ι b = some x → Owns B x k → okc k) : TR w okc d u := by
  have mv : ∀ {x : D} {b : Bool}, TR w (OkF ⟨κ, S.fr⟩ b ι H w) x u → TR w okc x u := fun t => t.move fun k hq => ⟨hk k hq.1, rfl⟩
  cases c with
  | d x => cases hd; exact mv h
  | f x => cases hd; exact mv h
  | k j x => cases hd; exact mv h.2
  | nil => cases hd; cases h; exact .nil _ _
  | ref b =>
    unfold toD at hd
    cases hb : H b with
    | none => simp [hb] at hd
    | some B =>
      cases B with
      | box cs => simp [hb] at hd
      | nst wd e co rows op => simp [hb] at hd
      | row wd e rows f nf' =>
        simp [hb] at hd
        subst hd
        obtain ⟨wd', n, hsh, hrf⟩ := h _ hb
        simp only [Blk.shape, Prod.mk.injEq, true_and] at hsh
        obtain ⟨rfl, rfl⟩ := hsh
        have hbr := hr.blk b _ hb
        cases hi : ι b with
        | none =>
          rw [hi] at hrf hbr
          obtain ⟨_, _, rfl⟩ := hbr
          rw [hrf.2]
          exact .nil _ _
        | some q =>
          obtain ⟨k, cc⟩ := q
          rw [hi] at hrf hbr
          obtain ⟨hw0, hw, cs, hh, hlc, hmx, hsz, hn0, hcells⟩ := hbr
          rw [show u = _ from hrf]
          refine .row rows wd k 0 cc cs e (0, 0) (fun i j => (cs[0 + (i * wd + j)]?).getD undef) hlc (href b rfl _ _ k hb hi (.inl rfl)) hh (fun i j hi' hj' => ?_) hw (fun i r j dd hi' hj' => ?_)
          · have hlen := hw i _ (List.getElem?_eq_getElem hi')
            obtain ⟨x, hx, _⟩ := hcells i _ j _ (List.getElem?_eq_getElem hi') (List.getElem?_eq_getElem (by omega))
            rw [Nat.zero_add, hx]
            rfl
          · obtain ⟨x, hx, hxt⟩ := hcells i r j dd hi' hj'
            rw [Nat.zero_add, hx]
            exact hxt.move fun k hq => ⟨hk k hq.1, rfl⟩
/-- What a row of the call's own reads as, a nest too. -/
def toDN (H : Hp) (b : Nat) : Option D := match H b with
  | some (.row _ _ rows _ _) => some (.sl rows)
  | some (.nst _ _ _ rows []) => some (.sl rows)
  | _ => none
theorem nest_view {κ : Nat → Value} {w0 : World} {S : Wr} {ι : Nm} {a : Act} {w : World} (hr : Rel N κ w0 S ι T H a w) {b : Nat} {u : Value} (h : CR ⟨κ, S.fr⟩ ι H w (.ref b) u) {d : D} (hd : toDN H b = some d) {okc : Nat → Prop} (hk : ∀ k, Ok ι H w k → okc k)
    (href : ∀ B x k, H b = some B → ι b = some x → Owns B x k → okc k) : TR w okc d u := by
  unfold toDN at hd
  split at hd
  · rename_i wd e rows f nf hb
    exact cell_view hr (c := .ref b) h (d := d) (by (show (match H b with | some (.row _ _ rows _ _) => some (.sl rows) | _ => none) = some d); rw [hb]; exact hd) hk fun b' e => by cases e; exact href
  · rename_i wd e co rows hb
    cases hd
    obtain ⟨wd', n, hsh, hrf⟩ := h _ hb
    simp only [Blk.shape, Prod.mk.injEq, true_and] at hsh
    obtain ⟨rfl, rfl⟩ := hsh
    have hbr := hr.blk b _ hb
    cases hi : ι b with
    | none =>
      rw [hi] at hrf hbr
      obtain ⟨_, _, rfl⟩ := hbr
      rw [hrf.2]
      exact .nil _ _
    | some q =>
      obtain ⟨k, cc⟩ := q
      rw [hi] at hrf hbr
      obtain ⟨hw0, hw, cs, hh, hlc, hmx, hsz, hfr, hml, hcl, _⟩ := hbr
      rw [show u = _ from hrf]
      refine .row rows wd k 0 cc cs e (0, 0) (fun i j => (cs[0 + (i * wd + j)]?).getD undef) hlc (href _ _ k hb hi (.inl rfl)) hh (fun i j hi' hj' => ?_) hw (fun i r j dd hi' hj' => ?_)
      · have hlen := hw i _ (List.getElem?_eq_getElem hi')
        obtain ⟨x, hx, _⟩ := hcl i _ j _ (List.getElem?_eq_getElem hi') (List.getElem?_eq_getElem (by omega))
        rw [Nat.zero_add, hx]
        rfl
      · obtain ⟨x, hx, hnc⟩ := hcl i r j dd hi' hj'
        rw [Nat.zero_add, hx]
        have hnc : ND ⟨κ, S.fr⟩ w k cc co j dd x := hnc
        match dd, hnc with
        | .v v, hnc => show TR w okc _ x; rw [hnc.1]; exact .v _ hnc.2
        | .sl q, .inl hnc =>
          show TR w okc _ x
          rw [hnc.1, hnc.2]
          exact .nil _ _
        | .sl q, .inr ⟨wd', ty, k', cap, h1, h2, h3⟩ =>
          show TR w okc _ x
          rw [h2]
          obtain ⟨cs', g1, g2, g3⟩ := h3.blk
          refine .row q wd' k' 0 cap cs' ty (0, 0) (fun i j => (cs'[0 + (i * wd' + j)]?).getD undef) h3.le (href _ _ k' hb hi (.inr ⟨rfl, h3.own⟩)) g1 (fun i j hi' hj' => ?_) h3.len (fun i r j dd hi' hj' => ?_)
          · have hlen := h3.len i _ (List.getElem?_eq_getElem hi')
            obtain ⟨x, _, _, hx⟩ := g3 i _ j _ (List.getElem?_eq_getElem hi') (List.getElem?_eq_getElem (by omega))
            rw [Nat.zero_add, hx]
            rfl
          · obtain ⟨x, rfl, ho, hx⟩ := g3 i r j dd hi' hj'
            rw [Nat.zero_add, hx]
            exact .v _ ho
  · cases hd
def vwC (H : Hp) (m0 : List (Nat × Nat)) : Cell → Option Cell
  | .ref b => match look m0 b with
    | some fb => some (.ref fb)
    | none => match toDN H b with
      | some d => some (.d d)
      | none => none
  | c => match toD H c with
    | some d => some (.d d)
    | none => none
def vwCs (H : Hp) (m0 : List (Nat × Nat)) : List Cell → Option (List Cell)
  | [] => some []
  | c :: l => match vwC H m0 c, vwCs H m0 l with
    | some d, some r => some (d :: r)
    | _, _ => none
def vwE (H : Hp) (m0 : List (Nat × Nat)) : E → Option E
  | .c c => match vwC H m0 c with
    | some c => some (.c c)
    | none => none
  | .agg cs => match vwCs H m0 cs with
    | some cs => some (.agg cs)
    | none => none
def vwA (H : Hp) (m0 : List (Nat × Nat)) : AV → Option AV
  | .e x => match vwE H m0 x with
    | some y => some (.e y)
    | none => none
  | .pt b i o => match look m0 b with
    | some fb => some (.pt fb i o)
    | none => none
  | .fv f b => match look m0 b with
    | some fb => some (.fv f fb)
    | none => none
  | .ip r o => some (.ip r o)
  | _ => none
def vwL (H : Hp) (m0 : List (Nat × Nat)) (T : Tm) : List Operand → Option (List AV)
  | [] => some []
  | x :: l => match evO T x, vwL H m0 T l with
    | some y, some r => match vwA H m0 y with
      | some z => some (z :: r)
      | none => none
    | _, _ => none
/-- The names of what is read. -/
def idL (T : Tm) : List Operand → List Nat
  | [] => []
  | x :: l => (match evO T x with | some (.e e) => refsOf e | some (.pt b _ _) => [b] | some (.fv _ b) => [b] | _ => []) ++ idL T l
def aggOk (m0 : List (Nat × Nat)) (T : Tm) (l : List Operand) : Bool := true
def ks (n : Nat) : List D → List Cell
  | [] => []
  | d :: l => .k n d :: ks (n + 1) l
def vwB (H : Hp) (p : Nat × Nat) : Option Blk := match H p.1 with
  | some (.box cs) => match toDs H cs with
    | some ds => match Nat.blt cs.length 100 with
      | true => some (.box (ks (100 * p.2) ds))
      | false => none
    | none => none
  | some (.row wd e rows false nf) => some (.row wd e rows false nf)
  | some (.nst wd e co rows []) => some (.nst wd e co rows [])
  | _ => none
def boxOk (H : Hp) (m0 : List (Nat × Nat)) : Bool := m0.all fun p => match H p.1 with
  | some (.box cs) => Nat.blt cs.length 100 && (cs.flatMap Cell.ids).all fun b => (look m0 b).isNone
  | _ => true
theorem ks_get : ∀ {ds : List D} {n j : Nat} {c : Cell}, (ks n ds)[j]? = some c → ∃ d, ds[j]? = some d ∧ c = .k (n + j) d
  | d :: l, n, j, c, h => by
    cases j with
    | zero => cases h; exact ⟨d, rfl, rfl⟩
    | succ j =>
      obtain ⟨d', h1, h2⟩ := ks_get (ds := l) h
      exact ⟨d', h1, by rw [h2]; congr 1; omega⟩
theorem ks_length : ∀ {ds : List D} {n : Nat}, (ks n ds).length = ds.length
  | [], _ => rfl
  | d :: l, n => by simp [ks, ks_length (ds := l)]
/-- What comes back, under the caller's names. -/
def impC (ρ : List (Nat × Nat)) : Cell → Option Cell
  | .d (.v x) => some (.d (.v x))
  | .f x => some (.f x)
  | .nil => some .nil
  | .ref b => match look ρ b with
    | some c => some (.ref c)
    | none => none
  | _ => none
def impCs (ρ : List (Nat × Nat)) : List Cell → Option (List Cell)
  | [] => some []
  | c :: l => match impC ρ c, impCs ρ l with
    | some d, some r => some (d :: r)
    | _, _ => none
def impE (ρ : List (Nat × Nat)) : E → Option E
  | .c c => match impC ρ c with
    | some c => some (.c c)
    | none => none
  | .agg cs => match impCs ρ cs with
    | some cs => some (.agg cs)
    | none => none
def impEs (ρ : List (Nat × Nat)) : List E → Option (List E)
  | [] => some []
  | c :: l => match impE ρ c, impEs ρ l with
    | some d, some r => some (d :: r)
    | _, _ => none
def impA (ρ : List (Nat × Nat)) : AV → Option AV
  | .e x => match impE ρ x with
    | some y => some (.e y)
    | none => none
  | .tup xs => match impEs ρ xs with
    | some ys => some (.tup ys)
    | none => none
  | .un => some .un
  | .pt b 0 0 => match look ρ b with
    | some c => some (.pt c 0 0)
    | none => none
  | _ => none
/-- A box's cells behind the call: those kept stay as they were told. -/
def impBox (ρ : List (Nat × Nat)) (n : Nat) : List Cell → List Cell → Option (List Cell)
  | [], [] => some []
  | .k j _ :: l, c0 :: l0 => match Nat.beq j n, impBox ρ (n + 1) l l0 with
    | true, some r => some (c0 :: r)
    | _, _ => none
  | c :: l, _ :: l0 => match impC ρ c, impBox ρ (n + 1) l l0 with
    | some d, some r => some (d :: r)
    | _, _ => none
  | _, _ => none
/-- A block handed back. -/
def impRow (ρ : List (Nat × Nat)) : Option Blk → Option Blk
  | some (.row wd e rows false true) => some (.row wd e rows false true)
  | some (.nst wd e co rows []) => some (.nst wd e co rows [])
  | some (.box cs) => match impCs ρ cs with
    | some cs' => some (.box cs')
    | none => none
  | _ => none
theorem impC_ok {g g' : Env} {ι ι' : Nm} {H1 H' : Hp} {w' : World} {ρ : List (Nat × Nat)} (hT : ∀ d v, TR w' (OkF g true ι H1 w') d v → TR w' (OkF g' true ι' H' w') d v) (hρ : ∀ b c B, look ρ b = some c → H' c = some B → ∃ B1, H1 b = some B1 ∧ B1.shape = B.shape ∧ key (ι' c) = key (ι b))
    {c c' : Cell} {u : Value} (h : CR g ι H1 w' c u) (hi : impC ρ c = some c') : CR g' ι' H' w' c' u := by
  unfold impC at hi
  split at hi
  · cases hi; cases h with | v _ hv => exact .v _ hv
  · cases hi; exact hT _ _ h
  · cases hi; exact h
  · split at hi
    · rename_i b _ c hl
      cases hi
      intro B hB
      obtain ⟨B1, e1, e2, e3⟩ := hρ _ _ B hl hB
      obtain ⟨wd, n, h1, h2⟩ := h B1 e1
      exact ⟨wd, n, e2 ▸ h1, e3 ▸ h2⟩
    · cases hi
  · cases hi
theorem impCs_get {ρ : List (Nat × Nat)} : ∀ {cs cs' : List Cell}, impCs ρ cs = some cs' → cs'.length = cs.length ∧ ∀ (j : Nat) (c' : Cell), cs'[j]? = some c' → ∃ c, cs[j]? = some c ∧ impC ρ c = some c'
  | [], cs', h => by cases h; exact ⟨rfl, fun j c h => by cases h⟩
  | c :: l, cs', h => by
    unfold impCs at h
    split at h
    · rename_i d r h1 h2
      cases h
      obtain ⟨a, b⟩ := impCs_get h2
      refine ⟨by simp [a], fun j c' hj => ?_⟩
      cases j with
      | zero => cases hj; exact ⟨c, rfl, h1⟩
      | succ j => exact b j c' hj
    · cases h
theorem impE_ok {g g' : Env} {ι ι' : Nm} {H1 H' : Hp} {w' : World} {ρ : List (Nat × Nat)} (hT : ∀ d v, TR w' (OkF g true ι H1 w') d v → TR w' (OkF g' true ι' H' w') d v) (hρ : ∀ b c B, look ρ b = some c → H' c = some B → ∃ B1, H1 b = some B1 ∧ B1.shape = B.shape ∧ key (ι' c) = key (ι b))
    {e e' : E} {u : Value} (h : ER g ι H1 w' e u) (hi : impE ρ e = some e') : ER g' ι' H' w' e' u := by
  cases e with
  | c c =>
    simp only [impE] at hi
    split at hi
    · rename_i c' hc
      cases hi
      exact impC_ok hT hρ h hc
    · cases hi
  | agg cs =>
    simp only [impE] at hi
    split at hi
    · rename_i cs' hc
      cases hi
      obtain ⟨a, b⟩ := impCs_get hc
      obtain ⟨vs, e, hl, hcs⟩ := h
      refine ⟨vs, e, by omega, fun j c' hj => ?_⟩
      obtain ⟨c, h1, h2⟩ := b j c' hj
      obtain ⟨u, hu, hcr⟩ := hcs j c h1
      exact ⟨u, hu, impC_ok hT hρ hcr h2⟩
    · cases hi
theorem impEs_get {ρ : List (Nat × Nat)} : ∀ {cs cs' : List E}, impEs ρ cs = some cs' → cs'.length = cs.length ∧ ∀ (j : Nat) (c' : E), cs'[j]? = some c' → ∃ c, cs[j]? = some c ∧ impE ρ c = some c'
  | [], cs', h => by cases h; exact ⟨rfl, fun j c h => by cases h⟩
  | c :: l, cs', h => by
    unfold impEs at h
    split at h
    · rename_i d r h1 h2
      cases h
      obtain ⟨a, b⟩ := impEs_get h2
      refine ⟨by simp [a], fun j c' hj => ?_⟩
      cases j with
      | zero => cases hj; exact ⟨c, rfl, h1⟩
      | succ j => exact b j c' hj
    · cases h
theorem impA_ok {g g' : Env} {ι ι' : Nm} {H1 H' : Hp} {w' : World} {ρ : List (Nat × Nat)} (hT : ∀ d v, TR w' (OkF g true ι H1 w') d v → TR w' (OkF g' true ι' H' w') d v) (hρ : ∀ b c B, look ρ b = some c → H' c = some B → ∃ B1, H1 b = some B1 ∧ B1.shape = B.shape ∧ key (ι' c) = key (ι b))
    {x x' : AV} {u : Value} (h : VR g ι H1 w' x u) (hi : impA ρ x = some x') : VR g' ι' H' w' x' u := by
  cases x with
  | e x =>
    simp only [impA] at hi
    split at hi
    · rename_i y hy
      cases hi
      exact impE_ok hT hρ h hy
    · cases hi
  | tup xs =>
    simp only [impA] at hi
    split at hi
    · rename_i ys hy
      cases hi
      obtain ⟨a, b⟩ := impEs_get hy
      obtain ⟨vs, e, hl, hcs⟩ := h
      refine ⟨vs, e, by omega, fun j c' hj => ?_⟩
      obtain ⟨c, h1, h2⟩ := b j c' hj
      obtain ⟨u, hu, hcr⟩ := hcs j c h1
      exact ⟨u, hu, impE_ok hT hρ hcr h2⟩
    · cases hi
  | un => cases hi; trivial
  | pt b i o =>
    unfold impA at hi
    split at hi <;> first | (rename_i hq; cases hq; done) | skip
    · rename_i hq
      cases hq
      split at hi
      · rename_i c hl
        cases hi
        intro B hB
        obtain ⟨B1, e1, _, e3⟩ := hρ _ _ B hl hB
        obtain ⟨k, cc, h1, h2⟩ := h B1 e1
        obtain ⟨c', hc'⟩ := key_at e3 h1
        exact ⟨k, c', hc', by rw [h2]; simp⟩
      · cases hi
    · cases hi
  | ip r o => cases hi
  | fv f b => cases hi
  | bo p q => cases hi
end
end Go.Proofs.Ytggmeldoecnkaaa.Av
