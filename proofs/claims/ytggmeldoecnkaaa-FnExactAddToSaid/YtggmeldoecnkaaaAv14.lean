/-
A call of a Go function: the state behind it.
Conditions: none beside those that each theorem names.
-/
import Derived.Test.YtggmeldoecnkaaaAv13
set_option linter.unusedVariables false
set_option linter.unusedSimpArgs false
namespace Go.Proofs.Ytggmeldoecnkaaa.Av
open Go.RowKit Go.Proofs.YtggmeldoecnkaaaW.PrintLast

def sw (l : List (Nat × Nat)) : List (Nat × Nat) := l.map fun p => (p.2, p.1)
theorem look_of {l : List (Nat × Nat)} (hn : nodupB (l.map (·.1)) = true) {a b : Nat} (h : (a, b) ∈ l) : look l a = some b := by
  replace hn := nodupB_ok hn
  induction l with
  | nil => cases h
  | cons p l ih =>
    obtain ⟨k, v⟩ := p
    simp only [List.map_cons, List.nodup_cons] at hn
    simp only [look]
    rcases List.mem_cons.1 h with e | e
    · cases e
      simp
    · have hne : a ≠ k := fun e' => hn.1 (e' ▸ List.mem_map.2 ⟨(a, b), e, rfl⟩)
      rw [nbf hne]
      exact ih e hn.2
theorem look_sw {l : List (Nat × Nat)} (hn : nodupB (l.map (·.2)) = true) {a b : Nat} (h : (a, b) ∈ l) : look (sw l) b = some a :=
  look_of (by unfold sw; rw [List.map_map]; exact hn) (List.mem_map.2 ⟨(a, b), h, rfl⟩)
theorem look_sw_mem {l : List (Nat × Nat)} {a b : Nat} (h : look (sw l) b = some a) : (a, b) ∈ l := by
  have := look_mem h
  obtain ⟨p, hp, e⟩ := List.mem_map.1 this
  cases e
  exact hp
def backB (ρ : List (Nat × Nat)) (H : Hp) (h1 : List (Nat × Option Blk)) (p : Nat × Nat) : Option Blk := match H p.1, lookH h1 p.2 with
  | some (.box cs), some (.box cs1) => match impBox ρ (100 * p.2) cs1 cs with
    | some cs' => some (.box cs')
    | none => none
  | some (.row _ _ _ false _), some (.row wd e rows false true) => some (.row wd e rows false true)
  | some (.nst _ _ _ _ []), some (.nst wd e co rows []) => some (.nst wd e co rows [])
  | _, _ => none
/-- What is handed back in place has the length it had. -/
def BackR (H : Hp) (m0 : List (Nat × Nat)) (h1 : List (Nat × Option Blk)) : Prop := ∀ p, p ∈ m0 → ∀ wd e rows nf wd1 e1 rows1, H p.1 = some (.row wd e rows false nf) → lookH h1 p.2 = some (.row wd1 e1 rows1 false true) → wd1 = wd ∧ rows1.length = rows.length
def BackN (H : Hp) (m0 : List (Nat × Nat)) (h1 : List (Nat × Option Blk)) : Prop := ∀ p, p ∈ m0 → ∀ wd e co rows wd1 e1 co1 rows1, H p.1 = some (.nst wd e co rows []) → lookH h1 p.2 = some (.nst wd1 e1 co1 rows1 []) → wd1 = wd ∧ rows1.length = rows.length
def BackOk (H : Hp) (m0 : List (Nat × Nat)) (h1 : List (Nat × Option Blk)) : Prop := BackR H m0 h1 ∧ BackN H m0 h1
def hsOf (H : Hp) (m0 r1 : List (Nat × Nat)) (h1 : List (Nat × Option Blk)) : List (Nat × Option Blk) := r1.map (fun p => (p.1, impRow (sw r1) (lookH h1 p.2))) ++ m0.map (fun p => (p.1, backB (sw r1) H h1 p))
theorem appL_map (M : Hp) (f : Nat × Nat → Option Blk) : ∀ (l : List (Nat × Nat)) (b : Nat), appL M (l.map fun p => (p.1, f p)) b = match look l b with | some r => f (b, r) | none => M b
  | [], b => rfl
  | (k, v) :: l, b => by
    simp only [List.map_cons, appL, look]
    by_cases h : b = k
    · subst h; simp
    · rw [if_neg h, nbf h, appL_map M f l b]
theorem impBox_get {ρ : List (Nat × Nat)} : ∀ {l l0 r : List Cell} {n : Nat}, impBox ρ n l l0 = some r → r.length = l0.length ∧ l.length = l0.length ∧ ∀ (j : Nat) (c : Cell), r[j]? = some c → (∃ d, l[j]? = some (.k (n + j) d) ∧ l0[j]? = some c) ∨ ∃ c1, l[j]? = some c1 ∧ impC ρ c1 = some c
  | [], [], r, n, h => by
    cases h
    exact ⟨rfl, rfl, fun j c h => by cases h⟩
  | [], c0 :: l0, r, n, h => by cases h
  | c :: l, [], r, n, h => by cases c <;> cases h
  | c :: l, c0 :: l0, r, n, h => by
    by_cases hk : ∃ j d, c = .k j d
    · obtain ⟨j, d, rfl⟩ := hk
      simp only [impBox] at h
      split at h
      · rename_i r' hb hr'
        cases h
        obtain rfl := Nat.eq_of_beq_eq_true hb
        obtain ⟨a, b, e⟩ := impBox_get hr'
        refine ⟨by simp [a], by simp [b], fun q cc hq => ?_⟩
        cases q with
        | zero => cases hq; exact .inl ⟨d, rfl, rfl⟩
        | succ q => exact (e q cc hq).imp (fun ⟨d, h1, h2⟩ => ⟨d, by rw [show j + (q + 1) = j + 1 + q by omega]; exact h1, h2⟩) (fun h => h)
      · cases h
    · have h' : (match impC ρ c, impBox ρ (n + 1) l l0 with | some d, some r => some (d :: r) | _, _ => none) = some r := by
        cases c <;> first | exact h | exact absurd ⟨_, _, rfl⟩ hk
      split at h'
      · rename_i d r' hd hr'
        cases h'
        obtain ⟨a, b, e⟩ := impBox_get hr'
        refine ⟨by simp [a], by simp [b], fun q cc hq => ?_⟩
        cases q with
        | zero => cases hq; exact .inr ⟨c, rfl, hd⟩
        | succ q => exact (e q cc hq).imp (fun ⟨d, h1, h2⟩ => ⟨d, by rw [show n + (q + 1) = n + 1 + q by omega]; exact h1, h2⟩) (fun h => h)
      · cases h'
section
variable {P : Program} {N : Nat} {T : Tm} {H : Hp}
theorem vwL_get {m0 : List (Nat × Nat)} : ∀ {l : List Operand} {args : List AV}, vwL H m0 T l = some args → args.length = l.length ∧ ∀ (j : Nat) (z : AV), args[j]? = some z → ∃ x y, l[j]? = some x ∧ evO T x = some y ∧ vwA H m0 y = some z
  | [], args, h => by cases h; exact ⟨rfl, fun j z h => by cases h⟩
  | x :: l, args, h => by
    simp only [vwL] at h
    split at h
    · rename_i y r h1 h2
      split at h
      · rename_i z hz
        cases h
        obtain ⟨a, b⟩ := vwL_get h2
        refine ⟨by simp [a], fun j z' hj => ?_⟩
        cases j with
        | zero => cases hj; exact ⟨x, y, rfl, h1, hz⟩
        | succ j => exact b j z' hj
      · cases h
    · cases h
theorem vwCs_get {m0 : List (Nat × Nat)} : ∀ {cs cs' : List Cell}, vwCs H m0 cs = some cs' → cs'.length = cs.length ∧ ∀ (j : Nat) (c' : Cell), cs'[j]? = some c' → ∃ c, cs[j]? = some c ∧ vwC H m0 c = some c'
  | [], cs', h => by cases h; exact ⟨rfl, fun j c h => by cases h⟩
  | c :: l, cs', h => by
    simp only [vwCs] at h
    split at h
    · rename_i d r h1 h2
      cases h
      obtain ⟨a, b⟩ := vwCs_get h2
      refine ⟨by simp [a], fun j z hj => ?_⟩
      cases j with
      | zero => cases hj; exact ⟨c, rfl, h1⟩
      | succ j => exact b j z hj
    · cases h
theorem call_core {f : FuncId} {vs : Array Value} {args : List AV} {h0 h1 : List (Nat × Option Blk)} {x x' : AV} (hfn : Fn P f args (lookH h0) x (lookH h1)) {m0 r1 : List (Nat × Nat)}
    (hh0 : h0 = m0.map fun p => (p.2, vwB H p)) (hbox : boxOk H m0 = true) (hx : impA (sw r1) x = some x')
    (hn1 : nodupB (m0.map (·.1)) = true) (hn2 : nodupB (m0.map (·.2)) = true) (hn3 : nodupB (r1.map (·.1)) = true) (hn4 : nodupB (r1.map (·.2)) = true) (h64 : (m0.all fun p => Nat.blt p.2 64) = true) (h64' : (r1.all fun p => Nat.ble 64 p.2) = true)
    {κ : Nat → Value} {w0 : World} {S : Wr} {ι : Nm} {a : Act} {w : World} (hr : Rel N κ w0 S ι T H a w) (hsz : vs.size = args.length) (hvs : ∀ (j : Nat) (z : AV), args[j]? = some z → ∃ u y, vs[j]? = some u ∧ VR ⟨κ, S.fr⟩ ι H w y u ∧ (vwA H m0 y = some z ∨ y = .e (.c .nil) ∧ z = .e (.c .nil))) (hrb : BackOk H m0 h1) (hF : ∀ b, b ∈ r1.map (·.1) → Fresh T H b ∧ ∀ fb, (b, fb) ∉ m0) :
    Calls P f vs w fun e w' => ∃ v ι', e = .returned v ∧ Rel N κ w0 S ι' T (appL H (hsOf H m0 r1 h1)) a w' ∧ VR ⟨κ, S.fr⟩ ι' (appL H (hsOf H m0 r1 h1)) w' x' v := by
  -- the callee's names
  have hA : ∀ fb B, lookH h0 fb = some B → ∃ cb, (cb, fb) ∈ m0 ∧ vwB H (cb, fb) = some B := by
    intro fb B h
    have := lookH_mem h
    rw [hh0] at this
    obtain ⟨p, hp, e⟩ := List.mem_map.1 this
    obtain ⟨cb, fb'⟩ := p
    simp only [Prod.mk.injEq] at e
    obtain ⟨rfl, e⟩ := e
    exact ⟨cb, hp, e⟩
  have hB : ∀ cb fb, (cb, fb) ∈ m0 → look (sw m0) fb = some cb := fun cb fb h => look_sw hn2 h
  have hC : ∀ cb fb, (cb, fb) ∈ m0 → look m0 cb = some fb := fun cb fb h => look_of hn1 h
  let ιc : Nm := fun b => match look (sw m0) b with | some cb => ι cb | none => none
  have hιc : ∀ cb fb, (cb, fb) ∈ m0 → ιc fb = ι cb := fun cb fb h => by simp only [ιc, hB cb fb h]
  -- whose block is handed is written by us
  have hwr : ∀ cb fb B, vwB H (cb, fb) = some B → ∃ Bc, H cb = some Bc ∧ Bc.wr = true ∧ Bc.shape = B.shape ∧ Bc.wd = B.wd ∧ Bc.isN = B.isN := by
    intro cb fb B h
    unfold vwB at h
    split at h
    · rename_i cs hcs
      split at h
      · rename_i ds hds
        split at h
        · cases h
          exact ⟨_, hcs, rfl, by simp [Blk.shape, ks_length, (toDs_get hds).1], rfl, rfl⟩
        · cases h
      · cases h
    · rename_i wd e rows nf hcs
      cases h
      exact ⟨_, hcs, rfl, rfl, rfl, rfl⟩
    · rename_i wd e co rows hcs
      cases h
      exact ⟨_, hcs, rfl, rfl, rfl, rfl⟩
    · cases h
  have hk : ∀ k, Ok ι H w k → Ok ιc (lookH h0) w k := by
    intro k hk
    refine ⟨hk.1, fun fb B c hB' hw hi ho => ?_⟩
    obtain ⟨cb, hm, hv⟩ := hA fb B hB'
    obtain ⟨Bc, e1, e2, _, _, e3⟩ := hwr cb fb B hv
    rw [hιc cb fb hm] at hi
    exact hk.2 cb Bc c e1 e2 hi (ho.up fun h => e3 ▸ h)
  have href : ∀ b, look m0 b = none → ∀ B x k, H b = some B → ι b = some x → Owns B x k → Ok ιc (lookH h0) w k := by
    intro b hb B x k hHb hi ho
    refine ⟨hr.ownLt hHb hi ho, fun fb B' c hB' hw hi' ho' => ?_⟩
    · obtain ⟨cb, hm, hv⟩ := hA fb B' hB'
      obtain ⟨Bc, e1, _, _, _, e3⟩ := hwr cb fb B' hv
      rw [hιc cb fb hm] at hi'
      have := hr.injO cb b Bc B c x k e1 hHb hi' hi (ho'.up fun h => e3 ▸ h) ho
      subst this
      rw [hC cb fb hm] at hb
      cases hb
  let κ' : Nat → Value := fun n => match look (sw m0) (n / 100) with
    | some cb => match ι cb with
      | some (k, _) => (w.cell? ⟨k, n % 100, none⟩).getD undef
      | none => undef
    | none => undef
  let fr' : Nat → Prop := fun k => w.heap.size ≤ k ∨ (S.fr k ∧ (Ok ι H w k ∨ ∃ cb fb B x, (cb, fb) ∈ m0 ∧ H cb = some B ∧ ι cb = some x ∧ Owns B x k))
  have view : ∀ {c : Cell} {u : Value} {d : D}, CR ⟨κ, S.fr⟩ ι H w c u → toD H c = some d → (∀ b, b ∈ c.ids → look m0 b = none) → TR w (OkF ⟨κ', fr'⟩ false ιc (lookH h0) w) d u := by
    intro c u d hc hd hb
    have : TR w (Ok ιc (lookH h0) w) d u := cell_view hr hc hd hk fun b hcb B x k hB' hi ho => by
      subst hcb
      exact href b (hb b (by simp [Cell.ids])) B x k hB' hi ho
    exact this.move fun k hq => ⟨⟨hq, fun h => by cases h⟩, rfl⟩
  have hboxes : ∀ cb fb cs, (cb, fb) ∈ m0 → H cb = some (.box cs) → ∀ b, b ∈ cs.flatMap Cell.ids → look m0 b = none := by
    intro cb fb cs hm hcb b hb
    have h1 := List.all_eq_true.1 hbox (cb, fb) hm
    simp only [hcb, Bool.and_eq_true] at h1
    have := List.all_eq_true.1 h1.2 b hb
    cases hl : look m0 b with
    | none => rfl
    | some v => rw [hl] at this; cases this
  have hκ : ∀ cb fb k cc j u, (cb, fb) ∈ m0 → ι cb = some (k, cc) → j < 100 → w.cell? ⟨k, j, none⟩ = some u → κ' (100 * fb + j) = u := by
    intro cb fb k cc j u hm hi hj hu
    simp only [κ', show (100 * fb + j) / 100 = fb by omega, show (100 * fb + j) % 100 = j by omega, hB cb fb hm, hi, hu, Option.getD_some]
  have hbrs : ∀ b B, lookH h0 b = some B → BR ⟨κ', fr'⟩ ιc (lookH h0) w (ιc b) B := by
    intro fb B hfb
    obtain ⟨cb, hm, hv⟩ := hA fb B hfb
    rw [hιc cb fb hm]
    unfold vwB at hv
    split at hv
    · rename_i cs hcs
      split at hv
      · rename_i ds hds
        split at hv
        · rename_i hlt
          have hlt : cs.length < 100 := by simpa [Nat.blt_eq] using hlt
          cases hv
          obtain ⟨k, cc, hi, vs, ty, e1, e2, e3⟩ := hr.blk cb _ hcs
          obtain ⟨g1, g2⟩ := toDs_get hds
          refine ⟨k, cc, hi, vs, ty, e1, by rw [ks_length, g1, e2], fun j c hj => ?_⟩
          obtain ⟨d, hd, rfl⟩ := ks_get hj
          obtain ⟨cell, q1, q2⟩ := g2 j d hd
          obtain ⟨u, hu, hcr⟩ := e3 j cell q1
          have hjl : j < 100 := by have := (List.getElem?_eq_some_iff.1 q1).1; omega
          exact ⟨u, hu, (hκ cb fb k cc j u hm hi hjl (cell_in e1 hu)).symm, view hcr q2 fun b hb => hboxes cb fb cs hm hcs b (List.mem_flatMap.2 ⟨cell, List.mem_of_getElem? q1, hb⟩)⟩
        · cases hv
      · cases hv
    · rename_i wd e rows nf hcs
      cases hv
      have hbr := hr.blk cb _ hcs
      refine ⟨hbr.1, hbr.2.1, ?_⟩
      have h3 := hbr.2.2
      cases hi : ι cb with
      | none => rw [hi] at h3; exact h3
      | some q =>
        obtain ⟨k, cc⟩ := q
        rw [hi] at h3
        obtain ⟨cs, e1, e2, e3, e4, e6, e5⟩ := h3
        exact ⟨cs, e1, e2, e3, e4, (fun h => .inr ⟨e6 h, .inr ⟨cb, fb, _, _, hm, hcs, hi, .inl rfl⟩⟩), fun i r j d hi' hj => let ⟨u, hu, ht⟩ := e5 i r j d hi' hj; ⟨u, hu, ht.move fun k hq => ⟨⟨hk k hq.1, fun h => .inr ⟨hq.2 h, .inl hq.1⟩⟩, rfl⟩⟩⟩
    · rename_i wd e co rows hcs
      cases hv
      have hbr := hr.blk cb _ hcs
      refine ⟨hbr.1, hbr.2.1, ?_⟩
      have h3 := hbr.2.2
      cases hi : ι cb with
      | none => rw [hi] at h3; exact h3
      | some q =>
        obtain ⟨k, cc⟩ := q
        rw [hi] at h3
        obtain ⟨cs, e1, e2, e3, e4, e5, e6, e7, e8⟩ := h3
        exact ⟨cs, e1, e2, e3, e4, .inr ⟨e5, .inr ⟨cb, fb, _, _, hm, hcs, hi, .inl rfl⟩⟩, e6, fun i r j d hi' hj => let ⟨u, hu, ht⟩ := e7 i r j d hi' hj
          ⟨u, hu, ND.env (g := ⟨κ, S.fr⟩) (g' := ⟨κ', fr'⟩) (fun k' hk' hf' => Or.inr ⟨hf', .inr ⟨cb, fb, _, _, hm, hcs, hi, .inr ⟨rfl, hk'⟩⟩⟩) ht⟩, e8⟩
    · cases hv
  have hinjc : InjN ιc (lookH h0) := by
    intro b b' B B' k c c' e1 e2 e3 e4 o1 o2
    obtain ⟨cb, m1, v1⟩ := hA b B e1
    obtain ⟨cb', m2, v2⟩ := hA b' B' e2
    obtain ⟨B1, q1, _, _, _, n1⟩ := hwr cb b B v1
    obtain ⟨B2, q2, _, _, _, n2⟩ := hwr cb' b' B' v2
    rw [hιc cb b m1] at e3
    rw [hιc cb' b' m2] at e4
    obtain rfl := hr.injO cb cb' B1 B2 k c c' q1 q2 e3 e4 (o1.up fun h => n1 ▸ h) (o2.up fun h => n2 ▸ h)
    have := (hC cb b m1).symm.trans (hC cb b' m2)
    exact Option.some.inj this
  refine (hfn κ' fr' w ιc vs (fun k hk => .inl hk) hbrs hinjc hsz fun j z hz => ?_).mono ?_
  · obtain ⟨u, y, e1, hv, e3o⟩ := hvs j z hz
    refine ⟨u, e1, ?_⟩
    refine Or.elim e3o (fun e3 => ?_) (fun q => by obtain ⟨rfl, rfl⟩ := q; exact hv)
    clear e3o
    cases y with
    | e y =>
      simp only [vwA] at e3
      split at e3
      · rename_i y' hy
        cases e3
        have cell : ∀ {c z : Cell} {u : Value}, CR ⟨κ, S.fr⟩ ι H w c u → vwC H m0 c = some z → CR ⟨κ', fr'⟩ ιc (lookH h0) w z u := by
          intro c z u hv hy
          have plain : (∀ b, b ∈ c.ids → look m0 b = none) → ∀ d, toD H c = some d → CR ⟨κ', fr'⟩ ιc (lookH h0) w (.d d) u := fun hb d hd => view hv hd hb
          cases c with
          | ref b =>
            simp only [vwC] at hy
            split at hy
            · rename_i fb hfb
              cases hy
              intro B hB'
              obtain ⟨cb, hm, hvb⟩ := hA fb B hB'
              have hcb : cb = b := by
                have h2 := look_mem hfb
                have := (hB cb fb hm).symm.trans (hB b fb h2)
                exact Option.some.inj this
              subst hcb
              obtain ⟨Bc, q1, _, q3, _⟩ := hwr cb fb B hvb
              obtain ⟨wd, n, q4, q5⟩ := hv Bc q1
              exact ⟨wd, n, q3 ▸ q4, by rw [hιc cb fb hm]; exact q5⟩
            · rename_i hnone
              split at hy
              · rename_i d hd
                cases hy
                exact (nest_view hr hv hd hk fun B x k hB' hi ho => href b hnone B x k hB' hi ho).move fun k hq => ⟨⟨hq, fun h => by cases h⟩, rfl⟩
              · cases hy
          | d q => simp only [vwC, toD] at hy; cases hy; exact plain (fun b hb => by cases hb) _ rfl
          | f q => simp only [vwC, toD] at hy; cases hy; exact plain (fun b hb => by cases hb) _ rfl
          | k jj q => simp only [vwC, toD] at hy; cases hy; exact plain (fun b hb => by cases hb) _ rfl
          | nil => simp only [vwC, toD] at hy; cases hy; exact plain (fun b hb => by cases hb) _ rfl
        cases y with
        | agg cs =>
          simp only [vwE] at hy
          split at hy
          · rename_i ds hds
            cases hy
            obtain ⟨vs, q1, q2, q3⟩ := hv
            obtain ⟨g1, g2⟩ := vwCs_get hds
            refine ⟨vs, q1, by rw [q2, g1], fun j c hj => ?_⟩
            obtain ⟨c0, p1, p2⟩ := g2 j c hj
            obtain ⟨u, hu, hcr⟩ := q3 j c0 p1
            exact ⟨u, hu, cell hcr p2⟩
          · cases hy
        | c c =>
          simp only [vwE] at hy
          split at hy
          · rename_i c' hc'
            cases hy
            exact cell hv hc'
          · cases hy
      · cases e3
    | pt b i oo =>
      have : ∃ fb, look m0 b = some fb ∧ z = .pt fb i oo := by
        have e3 : (match look m0 b with | some fb => some (AV.pt fb i oo) | none => none) = some z := e3
        split at e3
        · rename_i fb hfb; cases e3; exact ⟨fb, hfb, rfl⟩
        · cases e3
      obtain ⟨fb, hfb, rfl⟩ := this
      intro B hB'
      obtain ⟨cb, hm, hvb⟩ := hA fb B hB'
      have hcb : cb = b := by
        have h2 := look_mem hfb
        have := (hB cb fb hm).symm.trans (hB b fb h2)
        exact Option.some.inj this
      subst hcb
      obtain ⟨Bc, q1, _, _, q3, _⟩ := hwr cb fb B hvb
      obtain ⟨k, c, q4, q5⟩ := hv Bc q1
      exact ⟨k, c, (hιc cb fb hm).trans q4, by rw [q5, q3]⟩
    | fv f b =>
      have : ∃ fb, look m0 b = some fb ∧ z = .fv f fb := by
        have e3 : (match look m0 b with | some fb => some (AV.fv f fb) | none => none) = some z := e3
        split at e3
        · rename_i fb hfb; cases e3; exact ⟨fb, hfb, rfl⟩
        · cases e3
      obtain ⟨fb, hfb, rfl⟩ := this
      intro B hB'
      obtain ⟨cb, hm, hvb⟩ := hA fb B hB'
      have hcb : cb = b := by
        have h2 := look_mem hfb
        have := (hB cb fb hm).symm.trans (hB b fb h2)
        exact Option.some.inj this
      subst hcb
      obtain ⟨Bc, q1, _, _, q3⟩ := hwr cb fb B hvb
      obtain ⟨k, c, q4, q5⟩ := hv Bc q1
      exact ⟨k, c, (hιc cb fb hm).trans q4, q5⟩
    | bo p q => cases e3
    | ip r p =>
      cases e3
      obtain ⟨k, q, hrun, hu⟩ := hv
      exact ⟨k, q, hrun.move fun k hq => ⟨⟨hk k hq.1, fun h => by cases h⟩, rfl⟩, hu⟩
    | tup xs => cases e3
    | un => cases e3
  -- behind the call
  rintro e w' ⟨v, ι1, rfl, hkept, hbr1, hinj1, hown1, hio1, hvr⟩
  let ι' : Nm := fun b => match look r1 b with | some r => ι1 r | none => match look m0 b with | some fb => ι1 fb | none => ι b
  have hHn : ∀ b, appL H (hsOf H m0 r1 h1) b = match look r1 b with | some r => impRow (sw r1) (lookH h1 r) | none => (match look m0 b with | some fb => backB (sw r1) H h1 (b, fb) | none => H b) := by
    intro b
    unfold hsOf
    rw [appL_append, appL_map (f := fun p => impRow (sw r1) (lookH h1 p.2))]
    cases look r1 b with
    | some r => rfl
    | none => exact appL_map H (fun p => backB (sw r1) H h1 p) m0 b
  have hr1F : ∀ b r, look r1 b = some r → Fresh T H b ∧ look m0 b = none ∧ 64 ≤ r := by
    intro b r h
    have hm := look_mem h
    obtain ⟨f1, f2⟩ := hF b (List.mem_map.2 ⟨_, hm, rfl⟩)
    refine ⟨f1, ?_, Nat.le_of_ble_eq_true (List.all_eq_true.1 h64' _ hm)⟩
    cases hl : look m0 b with
    | none => rfl
    | some fb => exact absurd (look_mem hl) (f2 fb)
  have hm64 : ∀ b fb, look m0 b = some fb → fb < 64 := fun b fb h => by
    have := List.all_eq_true.1 h64 _ (look_mem h)
    simpa [Nat.blt_eq] using this
  have hrow : ∀ r B, impRow (sw r1) (lookH h1 r) = some B → ∃ B1, lookH h1 r = some B1 ∧ B1.shape = B.shape ∧ B1.wr = true ∧ B1.isN = B.isN ∧ ((∃ wd e rows, B1 = .row wd e rows false true ∧ B = .row wd e rows false true) ∨ (∃ wd e co rows, B1 = .nst wd e co rows [] ∧ B = .nst wd e co rows []) ∨ ∃ cs cs', B1 = .box cs ∧ B = .box cs' ∧ impCs (sw r1) cs = some cs') := by
    intro r B h
    unfold impRow at h
    split at h
    · rename_i wd e rows hq; cases h; exact ⟨_, hq, rfl, rfl, rfl, .inl ⟨wd, e, rows, rfl, rfl⟩⟩
    · rename_i wd e co rows hq; cases h; exact ⟨_, hq, rfl, rfl, rfl, .inr (.inl ⟨wd, e, co, rows, rfl, rfl⟩)⟩
    · rename_i cs hq
      split at h
      · rename_i cs' hc; cases h; exact ⟨_, hq, by simp [Blk.shape, (impCs_get hc).1], rfl, rfl, .inr (.inr ⟨cs, cs', rfl, rfl, hc⟩)⟩
      · cases h
    · cases h
  have hback : ∀ b fb B, (b, fb) ∈ m0 → backB (sw r1) H h1 (b, fb) = some B → ∃ B0 B1, H b = some B0 ∧ lookH h1 fb = some B1 ∧ B0.shape = B.shape ∧ B0.wd = B.wd ∧ B0.wr = true ∧ B1.wr = true ∧ B0.isN = B.isN ∧ B1.isN = B.isN ∧
      ((∃ cs cs1 cs', B0 = .box cs ∧ B1 = .box cs1 ∧ impBox (sw r1) (100 * fb) cs1 cs = some cs' ∧ B = .box cs') ∨ (∃ wd e rows, B1 = .row wd e rows false true ∧ B = .row wd e rows false true) ∨ ∃ wd e co rows, B1 = .nst wd e co rows [] ∧ B = .nst wd e co rows []) := by
    intro b fb B hm h
    unfold backB at h
    split at h
    · rename_i cs cs1 q1 q2
      split at h
      · rename_i cs' q3
        cases h
        exact ⟨_, _, q1, q2, by simp [Blk.shape, (impBox_get q3).1], rfl, rfl, rfl, rfl, rfl, .inl ⟨cs, cs1, cs', rfl, rfl, q3, rfl⟩⟩
      · cases h
    · rename_i wd0 e0 rows0 nf0 wd e rows q1 q2
      cases h
      obtain ⟨rfl, hl⟩ := hrb.1 (b, fb) hm _ _ _ _ _ _ _ q1 q2
      exact ⟨_, _, q1, q2, by simp [Blk.shape, hl], rfl, rfl, rfl, rfl, rfl, .inr (.inl ⟨_, _, _, rfl, rfl⟩)⟩
    · rename_i wd0 e0 co0 rows0 wd e co rows q1 q2
      cases h
      obtain ⟨rfl, hl⟩ := hrb.2 (b, fb) hm _ _ _ _ _ _ _ _ q1 q2
      exact ⟨_, _, q1, q2, by simp [Blk.shape, hl], rfl, rfl, rfl, rfl, rfl, .inr (.inr ⟨_, _, _, _, rfl, rfl⟩)⟩
    · cases h
  have hM : ∀ k, OwnN ιc (lookH h0) k → ∃ cb fb B x, (cb, fb) ∈ m0 ∧ H cb = some B ∧ B.wr = true ∧ ι cb = some x ∧ Owns B x k := by
    rintro k ⟨fb, B, c, e1, e2, e3⟩
    obtain ⟨cb, hm, hv⟩ := hA fb B e1
    obtain ⟨Bc, q1, q2, _, _, q3⟩ := hwr cb fb B hv
    rw [hιc cb fb hm] at e2
    exact ⟨cb, fb, Bc, c, hm, q1, q2, e2, e3.up fun h => q3 ▸ h⟩
  have hlt : ∀ b B x k, H b = some B → ι b = some x → Owns B x k → k < w.heap.size := fun b B x k q1 q2 q3 => hr.ownLt q1 q2 q3
  have hιb : ∀ b fb, look m0 b = some fb → key (ι1 fb) = key (ι b) := fun b fb h => by
    rw [hio1 fb (hm64 b fb h), hιc b fb (look_mem h)]
  -- three kinds of names
  have kinds : ∀ b B, appL H (hsOf H m0 r1 h1) b = some B → (∃ r B1, look r1 b = some r ∧ lookH h1 r = some B1 ∧ (B1.shape = B.shape ∧ B1.wr = true ∧ B1.isN = B.isN ∧ ((∃ wd e rows, B1 = .row wd e rows false true ∧ B = .row wd e rows false true) ∨ (∃ wd e co rows, B1 = .nst wd e co rows [] ∧ B = .nst wd e co rows []) ∨ ∃ cs cs', B1 = .box cs ∧ B = .box cs' ∧ impCs (sw r1) cs = some cs')) ∧ ι' b = ι1 r) ∨
      (∃ fb B0 B1, look r1 b = none ∧ look m0 b = some fb ∧ H b = some B0 ∧ lookH h1 fb = some B1 ∧ B0.shape = B.shape ∧ B0.wd = B.wd ∧ B0.wr = true ∧ B1.wr = true ∧ ι' b = ι1 fb ∧ key (ι1 fb) = key (ι b) ∧ B0.isN = B.isN ∧ B1.isN = B.isN ∧ ((∃ cs cs1 cs', B0 = .box cs ∧ B1 = .box cs1 ∧ impBox (sw r1) (100 * fb) cs1 cs = some cs' ∧ B = .box cs') ∨ (∃ wd e rows, B1 = .row wd e rows false true ∧ B = .row wd e rows false true) ∨ ∃ wd e co rows, B1 = .nst wd e co rows [] ∧ B = .nst wd e co rows [])) ∨
      (look r1 b = none ∧ look m0 b = none ∧ H b = some B ∧ ι' b = ι b) := by
    intro b B h
    rw [hHn b] at h
    cases h1' : look r1 b with
    | some r =>
      rw [h1'] at h
      obtain ⟨B1, q1, q2⟩ := hrow r B h
      exact .inl ⟨r, B1, rfl, q1, q2, by simp only [ι', h1']⟩
    | none =>
      rw [h1'] at h
      cases h2' : look m0 b with
      | some fb =>
        rw [h2'] at h
        obtain ⟨B0, B1, q1, q2, q3, q4, q5, q6, q8, q9, q7⟩ := hback b fb B (look_mem h2') h
        exact .inr (.inl ⟨fb, B0, B1, rfl, rfl, q1, q2, q3, q4, q5, q6, by simp only [ι', h1', h2'], hιb b fb h2', q8, q9, q7⟩)
      | none =>
        rw [h2'] at h
        exact .inr (.inr ⟨rfl, rfl, h, by simp only [ι', h1', h2']⟩)
  have okN : ∀ k, Ok ι1 (lookH h1) w' k → fr' k → Ok ι' (appL H (hsOf H m0 r1 h1)) w' k := by
    intro k hk1 hk2
    refine ⟨hk1.1, fun b B c hB' hw hi ho => ?_⟩
    rcases kinds b B hB' with ⟨r, B1, _, q2, q3, q4⟩ | ⟨fb, B0, B1, _, _, q3, q4, _, _, _, wr1, q7, _, _, n1, _⟩ | ⟨_, q2, q3, q4⟩
    · rw [q4] at hi
      exact hk1.2 r B1 c q2 q3.2.1 hi (ho.up fun h => q3.2.2.1 ▸ h)
    · rw [q7] at hi
      exact hk1.2 fb _ c q4 wr1 hi (ho.up fun h => n1 ▸ h)
    · rw [q4] at hi
      have := hlt b B c k q3 hi ho
      rcases hk2 with hk2 | ⟨_, hk2 | ⟨cb, fb, B2, c2, hm, s1, s3, s4⟩⟩
      · omega
      · exact hk2.2 b B c q3 hw hi ho
      · have := hr.injO cb b B2 B c2 c k s1 q3 s3 hi s4 ho
        subst this
        rw [hC cb fb hm] at q2
        cases q2
  have hfr : ∀ k, fr' k → S.fr k := fun k h => h.elim (fun h => hr.new _ (Nat.le_trans hr.kept.size h)) (fun h => h.1)
  have hTn : ∀ d v, TR w' (OkF ⟨κ', fr'⟩ true ι1 (lookH h1) w') d v → TR w' (OkF ⟨κ, S.fr⟩ true ι' (appL H (hsOf H m0 r1 h1)) w') d v := fun d v t => t.move fun k hq => ⟨⟨okN k hq.1 (hq.2 rfl), fun _ => hfr k (hq.2 rfl)⟩, rfl⟩
  have hρ : ∀ b c B, look (sw r1) b = some c → appL H (hsOf H m0 r1 h1) c = some B → ∃ B1, lookH h1 b = some B1 ∧ B1.shape = B.shape ∧ key (ι' c) = key (ι1 b) := by
    intro b c B hl hB'
    have hm := look_sw_mem hl
    have hlc := look_of hn3 hm
    rcases kinds c B hB' with ⟨r, B1, q1, q2, q3, q4⟩ | ⟨fb, B0, B1, q1, _⟩ | ⟨q1, _⟩
    · rw [hlc] at q1
      cases q1
      exact ⟨B1, q2, q3.1, congrArg key q4⟩
    · rw [hlc] at q1; cases q1
    · rw [hlc] at q1; cases q1
  have hid : ∀ b, Same ι H ι' (appL H (hsOf H m0 r1 h1)) b ∨ Fresh T H b := by
    intro b
    cases h1' : look r1 b with
    | some r => exact .inr (hr1F b r h1').1
    | none =>
      refine .inl fun B hB' => ?_
      rcases kinds b B hB' with ⟨r, _, q1, _⟩ | ⟨fb, B0, B1, _, _, q3, _, sh, wd', _, _, q7, q8, _⟩ | ⟨_, _, q3, q4⟩
      · rw [h1'] at q1; cases q1
      · exact ⟨_, q3, sh, wd', q7 ▸ q8⟩
      · exact ⟨B, q3, rfl, rfl, congrArg key q4⟩
  refine ⟨v, ι', rfl, ?_, impA_ok hTn hρ hvr hx⟩
  have own' : ∀ b B x k, appL H (hsOf H m0 r1 h1) b = some B → ι' b = some x → Owns B x k → (w.heap.size ≤ k ∨ OwnN ιc (lookH h0) k) ∨ look r1 b = none ∧ look m0 b = none ∧ H b = some B ∧ ι b = some x := by
    intro b B x k hB' hi ho
    rcases kinds b B hB' with ⟨r, B1, q1, q2, q3, q4⟩ | ⟨fb, B0, B1, _, _, q3, q4, _, _, _, _, q7, _, _, n1, _⟩ | ⟨p1, p2, q3, q4⟩
    · rw [q4] at hi
      exact .inl (hown1 k ⟨r, B1, x, q2, hi, ho.up fun h => q3.2.2.1 ▸ h⟩)
    · rw [q7] at hi
      exact .inl (hown1 k ⟨fb, B1, x, q4, hi, ho.up fun h => n1 ▸ h⟩)
    · exact .inr ⟨p1, p2, q3, q4 ▸ hi⟩
  have new_old : ∀ b' B x' k, H b' = some B → look m0 b' = none → ι b' = some x' → Owns B x' k → (w.heap.size ≤ k ∨ OwnN ιc (lookH h0) k) → False := by
    intro b' B x' k q1 q2 q3 q4 h
    rcases h with h | h
    · have := hlt b' B x' k q1 q3 q4; omega
    · obtain ⟨cb, fb, B2, c2, hm, s1, _, s3, s4⟩ := hM k h
      have := hr.injO cb b' B2 B c2 x' k s1 q1 s3 q3 s4 q4
      subst this
      rw [hC cb fb hm] at q2
      cases q2
  have nm1 : ∀ b B, appL H (hsOf H m0 r1 h1) b = some B → ¬ (look r1 b = none ∧ look m0 b = none) → ∃ r B1, lookH h1 r = some B1 ∧ ι' b = ι1 r ∧ B1.isN = B.isN ∧ (look r1 b = some r ∨ look r1 b = none ∧ look m0 b = some r) := by
    intro b B hB' hn
    rcases kinds b B hB' with ⟨r, B1, q1, q2, q3, q4⟩ | ⟨fb, B0, B1, q1, q2, q3, q4, _, _, _, _, q7, _, _, n1, _⟩ | ⟨p1, p2, _⟩
    · exact ⟨r, B1, q2, q4, q3.2.2.1, .inl q1⟩
    · exact ⟨fb, B1, q4, q7, n1, .inr ⟨q1, q2⟩⟩
    · exact absurd ⟨p1, p2⟩ hn
  refine (hr.nextO _ hkept (fun k hk' _ => ?_) hid (fun b B x k hB' hi ho => ?_) (fun b b' B B' x x' k e1 e2 e3 e4 o1 o2 => ?_) (fun hok b B hB' => ?_) (fun b hb => ?_)).1
  · obtain ⟨cb, fb, B, c, _, q1, q2, q3, q4⟩ := hM k hk'
    exact ⟨cb, B, c, q1, q2, q3, q4⟩
  · rcases own' b B x k hB' hi ho with h | ⟨_, _, q3, q4⟩
    · refine .inr ⟨h.symm, ?_⟩
      rcases h with h | h
      · exact .inl (Nat.le_trans hr.kept.size h)
      · obtain ⟨cb, fb, B', c', _, p1, p2, p3, p4⟩ := hM k h
        exact hr.ownO cb B' c' k p1 p3 p4
    · exact .inl ⟨b, B, x, q3, fun h => h, q4, ho⟩
  · -- no two names for one block
    by_cases f1 : look r1 b = none ∧ look m0 b = none
    · by_cases f2 : look r1 b' = none ∧ look m0 b' = none
      · rcases own' b B x k e1 e3 o1 with h | ⟨_, _, q3, q4⟩
        · rcases kinds b B e1 with ⟨r, B1, q1, _⟩ | ⟨fb, B0, B1, _, q2, _⟩ | ⟨p1, p2, q3, q4⟩
          · rw [f1.1] at q1; cases q1
          · rw [f1.2] at q2; cases q2
          · exact (new_old b B x k q3 f1.2 (q4 ▸ e3) o1 h).elim
        · rcases own' b' B' x' k e2 e4 o2 with h | ⟨_, _, s3, s4⟩
          · exact (new_old b B x k q3 f1.2 q4 o1 h).elim
          · exact hr.injO b b' B B' x x' k q3 s3 q4 s4 o1 o2
      · rcases kinds b B e1 with ⟨r, B1, q1, _⟩ | ⟨fb, B0, B1, _, q2, _⟩ | ⟨p1, p2, q3, q4⟩
        · rw [f1.1] at q1; cases q1
        · rw [f1.2] at q2; cases q2
        · rcases own' b' B' x' k e2 e4 o2 with h | ⟨s1, s2, _⟩
          · exact (new_old b B x k q3 f1.2 (q4 ▸ e3) o1 h).elim
          · exact absurd ⟨s1, s2⟩ f2
    · by_cases f2 : look r1 b' = none ∧ look m0 b' = none
      · rcases kinds b' B' e2 with ⟨r, B1, q1, _⟩ | ⟨fb, B0, B1, _, q2, _⟩ | ⟨p1, p2, q3, q4⟩
        · rw [f2.1] at q1; cases q1
        · rw [f2.2] at q2; cases q2
        · rcases own' b B x k e1 e3 o1 with h | ⟨s1, s2, _⟩
          · exact (new_old b' B' x' k q3 f2.2 (q4 ▸ e4) o2 h).elim
          · exact absurd ⟨s1, s2⟩ f1
      · obtain ⟨r, B1, p1, p2, p3, p4⟩ := nm1 b B e1 f1
        obtain ⟨r', B1', s1, s2, s3, s4⟩ := nm1 b' B' e2 f2
        rw [p2] at e3
        rw [s2] at e4
        have := hinj1 r r' B1 B1' x x' k p1 s1 e3 e4 (o1.up fun h => p3 ▸ h) (o2.up fun h => s3 ▸ h)
        subst this
        rcases p4 with p4 | ⟨p4, p5⟩ <;> rcases s4 with s4 | ⟨s4, s5⟩
        · have h1 := look_sw hn4 (look_mem p4)
          have h2 := look_sw hn4 (look_mem s4)
          exact Option.some.inj (h1.symm.trans h2)
        · have h1 := (hr1F b r p4).2.2
          have h2 := hm64 b' r s5
          omega
        · have h1 := (hr1F b' r s4).2.2
          have h2 := hm64 b r p5
          omega
        · have h1 := hB b r (look_mem p5)
          have h2 := hB b' r (look_mem s5)
          exact Option.some.inj (h1.symm.trans h2)
  · rcases kinds b B hB' with ⟨r, B1, q1, q2, ⟨_, _, _, ⟨wd, e, rows, qa, q3⟩ | ⟨wd, e, co, rows, qa, q3⟩ | ⟨cs, cs', qa, q3, qc⟩⟩, q4⟩ | ⟨fb, _, _, _, q2, q3, q4, _, _, _, _, q7, q8, _, _, ⟨cs, cs1, cs', rfl, rfl, q5, q6⟩ | ⟨wd, e, rows, rfl, rfl⟩ | ⟨wd, e, co, rows, rfl, rfl⟩⟩ | ⟨_, q2, q3, q4⟩
    · refine .inr ?_
      rw [q4, q3]
      have hbr := hbr1 r B1 q2
      rw [qa] at hbr
      refine ⟨hbr.1, hbr.2.1, ?_⟩
      have h3 := hbr.2.2
      cases hi : ι1 r with
      | none => rw [hi] at h3; exact h3
      | some q =>
        obtain ⟨k, cc⟩ := q
        rw [hi] at h3
        obtain ⟨cells, e1, e2, e3, e4, e5, e6⟩ := h3
        exact ⟨cells, e1, e2, e3, e4, fun _ => hfr _ (e5 rfl), fun i rr j d hi' hj => let ⟨u, hu, ht⟩ := e6 i rr j d hi' hj; ⟨u, hu, hTn d u ht⟩⟩
    · refine .inr ?_
      rw [q4, q3]
      have hbr := hbr1 r B1 q2
      rw [qa] at hbr
      refine ⟨hbr.1, hbr.2.1, ?_⟩
      have h3 := hbr.2.2
      cases hi : ι1 r with
      | none => rw [hi] at h3; exact h3
      | some q =>
        obtain ⟨k, cc⟩ := q
        rw [hi] at h3
        obtain ⟨cells, e1, e2, e3, e4, e5, e6, e7, e8⟩ := h3
        exact ⟨cells, e1, e2, e3, e4, hfr _ e5, e6, fun i rr j d hi' hj => let ⟨u, hu, ht⟩ := e7 i rr j d hi' hj; ⟨u, hu, ND.env (fun k' _ hf => hfr k' hf) ht⟩, e8⟩
    · refine .inr ?_
      rw [q4, q3]
      have hbr := hbr1 r B1 q2
      rw [qa] at hbr
      obtain ⟨k, cc, s1, vs, ty, s2, s3, s4⟩ := hbr
      obtain ⟨g1, g2⟩ := impCs_get qc
      refine ⟨k, cc, s1, vs, ty, s2, by rw [s3, g1], fun j cell hj => ?_⟩
      obtain ⟨cell1, t1, t2⟩ := g2 j cell hj
      obtain ⟨u, hu, hcr⟩ := s4 j cell1 t1
      exact ⟨u, hu, impC_ok hTn hρ hcr t2⟩
    · refine .inr ?_
      rw [q7, q6]
      obtain ⟨k, c, p1, vs, ty, p2, p3, p4⟩ := hr.blk b _ q3
      have hb1 := hbr1 fb _ q4
      obtain ⟨k1, c1, s1, vs1, ty1, s2, s3, s4⟩ := hb1
      obtain ⟨c2, hc2⟩ := key_at q8 p1
      rw [hc2] at s1
      cases s1
      obtain ⟨g1, g2, g3⟩ := impBox_get q5
      refine ⟨k, c1, hc2, vs1, ty1, s2, by rw [s3, g1, g2], fun j cell hj => ?_⟩
      rcases g3 j cell hj with ⟨d, t1, t2⟩ | ⟨cell1, t1, t2⟩
      · obtain ⟨u, hu, hcr⟩ := s4 j _ t1
        obtain ⟨u0, hu0, hcr0⟩ := p4 j cell t2
        have hjl : j < 100 := by
          have hj1 := (List.getElem?_eq_some_iff.1 t2).1
          have h1 := List.all_eq_true.1 hbox (b, fb) (look_mem q2)
          simp only [q3, Bool.and_eq_true] at h1
          have : cs.length < 100 := by simpa [Nat.blt_eq] using h1.1
          omega
        have : u = u0 := by
          rw [hcr.1]
          exact hκ b fb k c j u0 (look_mem q2) p1 hjl (cell_in p2 hu0)
        subst this
        exact ⟨u, hu, hcr0.move (Moves.of hok) fun b' hb' => (hid b').resolve_right fun hf => hf.2.1 b _ q3 (List.mem_flatMap.2 ⟨cell, List.mem_of_getElem? t2, hb'⟩)⟩
      · obtain ⟨u, hu, hcr⟩ := s4 j cell1 t1
        exact ⟨u, hu, impC_ok hTn hρ hcr t2⟩
    · refine .inr ?_
      rw [q7]
      have hbr := hbr1 fb _ q4
      refine ⟨hbr.1, hbr.2.1, ?_⟩
      have h3 := hbr.2.2
      cases hi : ι1 fb with
      | none => rw [hi] at h3; exact h3
      | some q =>
        obtain ⟨k, cc⟩ := q
        rw [hi] at h3
        obtain ⟨cells, e1, e2, e3, e4, e5, e6⟩ := h3
        exact ⟨cells, e1, e2, e3, e4, fun _ => hfr _ (e5 rfl), fun i rr j d hi' hj => let ⟨u, hu, ht⟩ := e6 i rr j d hi' hj; ⟨u, hu, hTn d u ht⟩⟩
    · refine .inr ?_
      rw [q7]
      have hbr := hbr1 fb _ q4
      refine ⟨hbr.1, hbr.2.1, ?_⟩
      have h3 := hbr.2.2
      cases hi : ι1 fb with
      | none => rw [hi] at h3; exact h3
      | some q =>
        obtain ⟨k, cc⟩ := q
        rw [hi] at h3
        obtain ⟨cells, e1, e2, e3, e4, e5, e6, e7, e8⟩ := h3
        exact ⟨cells, e1, e2, e3, e4, hfr _ e5, e6, fun i rr j d hi' hj => let ⟨u, hu, ht⟩ := e7 i rr j d hi' hj; ⟨u, hu, ND.env (fun k' _ hf => hfr k' hf) ht⟩, e8⟩
    · refine .inl ⟨q3, q4, hr.keeps hkept q3 fun x hi k ho hMk => ?_⟩
      exact new_old b B x k q3 q2 hi ho (.inr hMk)
  · show key (match look r1 b with | some r => ι1 r | none => match look m0 b with | some fb => ι1 fb | none => ι b) = key (ι b)
    cases h1' : look r1 b with
    | none =>
      cases h2' : look m0 b with
      | none => rfl
      | some fb => exact hιb b fb h2'
    | some r =>
      have := (hr1F b r h1').1.2.2
      omega
end
end Go.Proofs.Ytggmeldoecnkaaa.Av
