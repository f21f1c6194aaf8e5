/-
Walks over code: states told by lists, and what each statement comes to.
Conditions: none beside those that each theorem names.
-/
import Derived.Test.YtggmeldoecnkaaaAv11
import Derived.Deep.LoopGhost
set_option linter.unusedVariables false
set_option linter.unusedSimpArgs false
namespace Go.Proofs.Ytggmeldoecnkaaa.Av
open Go.RowKit Go.Proofs.YtggmeldoecnkaaaW.PrintLast

theorem nbf {n k : Nat} (h : n ≠ k) : Nat.beq n k = false := by
  cases hb : Nat.beq n k with
  | false => rfl
  | true => exact absurd (Nat.eq_of_beq_eq_true hb) h
def look {β : Type} : List (Nat × β) → Nat → Option β
  | [], _ => none
  | (k, v) :: l, n => match Nat.beq n k with
    | true => some v
    | false => look l n
def lookH : List (Nat × Option Blk) → Nat → Option Blk
  | [], _ => none
  | (k, v) :: l, n => match Nat.beq n k with
    | true => v
    | false => lookH l n
theorem look_cons {l : List (Nat × AV)} {t : Nat} {x : AV} : look ((t, x) :: l) = Tm.put (look l) t x := by
  funext n
  unfold Tm.put
  simp only [look]
  by_cases h : n = t
  · subst h; simp
  · rw [if_neg h, nbf h]
theorem lookH_append : ∀ (a b : List (Nat × Option Blk)), lookH (a ++ b) = appL (lookH b) a
  | [], b => rfl
  | (k, v) :: a, b => by
    funext n
    simp only [List.cons_append, lookH, appL]
    by_cases h : n = k
    · subst h; simp
    · rw [if_neg h, nbf h, lookH_append a b]
theorem look_mem {β : Type} : ∀ {l : List (Nat × β)} {n : Nat} {x : β}, look l n = some x → (n, x) ∈ l
  | (k, v) :: l, n, x, h => by
    simp only [look] at h
    split at h
    · rename_i hb
      cases h
      rw [Nat.eq_of_beq_eq_true hb]
      exact List.mem_cons_self
    · exact List.mem_cons_of_mem _ (look_mem h)
theorem lookH_mem : ∀ {l : List (Nat × Option Blk)} {n : Nat} {x : Blk}, lookH l n = some x → (n, some x) ∈ l
  | (k, v) :: l, n, x, h => by
    simp only [lookH] at h
    split at h
    · rename_i hb
      rw [Nat.eq_of_beq_eq_true hb, h]
      exact List.mem_cons_self
    · exact List.mem_cons_of_mem _ (lookH_mem h)
/-- A state: what slots hold, our blocks, the next free name. -/
structure St where
  T : List (Nat × AV)
  H : List (Nat × Option Blk)
  nx : Nat
def St.tm (s : St) : Tm := look s.T
def St.hp (s : St) : Hp := lookH s.H
def ltAll (m : Nat) (l : List Nat) : Bool := l.all fun b => Nat.blt b m
def okB (s : St) (m : Nat) : Bool := (s.T.all fun p => ltAll m p.2.ids) && s.H.all fun p => match p.2 with
  | some B => ltAll m B.ids
  | none => true
/-- Whom a walk is for. -/
structure Cn where
  P : Program
  N : Nat
  κ : Nat → Value
  w0 : World
  S : Wr
def RelS (c : Cn) (s : St) (a : Act) (w : World) : Prop := ∃ ι, Rel c.N c.κ c.w0 c.S ι s.tm s.hp a w
def W (c : Cn) (x : Code) (Q : Exit → St → Prop) (s : St) : Prop :=
  okB s s.nx = true → ∀ a w, RelS c s a w → x.wp c.P (fun e a' w' => ∃ s', okB s' s'.nx = true ∧ Q e s' ∧ RelS c s' a' w') a w
def thn (Q1 : St → Prop) (Q : Exit → St → Prop) : Exit → St → Prop
  | .normal, s => Q1 s
  | e, s => Q e s
def inB (id : Nat) (Q : Exit → St → Prop) : Exit → St → Prop
  | .exit j, s => match Nat.beq j id with
    | true => Q .normal s
    | false => Q (.exit j) s
  | e, s => Q e s
section
variable {c : Cn} {s : St} {Q : Exit → St → Prop}
theorem W.seq {x y : Code} (h : W c x (thn (W c y Q) Q) s) : W c (.seq x y) Q s := fun hs a w hr => by
  refine wp_seq (wp_mono (h hs a w hr) fun e a' w' ⟨s', h1, h2, h3⟩ => ?_)
  cases e <;> first | exact h2 h1 a' w' h3 | exact ⟨s', h1, h2, h3⟩
theorem W.block {id : Nat} {x : Code} (h : W c x (inB id Q) s) : W c (.block id x) Q s := fun hs a w hr => by
  refine wp_block (wp_mono (h hs a w hr) fun e a' w' ⟨s', h1, h2, h3⟩ => ?_)
  cases e with
  | exit j =>
    show if j = id then _ else _
    by_cases hj : j = id
    · subst hj
      rw [if_pos rfl]
      exact ⟨s', h1, by simpa [inB] using h2, h3⟩
    · rw [if_neg hj]
      refine ⟨s', h1, ?_, h3⟩
      have : Nat.beq j id = false := nbf hj
      simpa [inB, this] using h2
  | _ => exact ⟨s', h1, h2, h3⟩
theorem W.skip (h : Q .normal s) : W c .skip Q s := fun hs a w hr => wp_skip ⟨s, hs, h, hr⟩
theorem W.exit {id : Nat} (h : Q (.exit id) s) : W c (.exit id) Q s := fun hs a w hr => wp_exit ⟨s, hs, h, hr⟩
theorem W.ret (h : Q .ret s) : W c .ret Q s := fun hs a w hr => wp_ret ⟨s, hs, h, hr⟩
theorem W.cond {o : Operand} {b : Bool} {x y : Code} (hb : (evO s.tm o).bind sc = some (.bool b)) (h : W c (if b then x else y) Q s) : W c (.cond o x y) Q s := fun hs a w hr => by
  obtain ⟨ι, hr'⟩ := hr
  obtain ⟨v, h1, h2⟩ := Option.bind_eq_some_iff.1 hb
  exact wp_cond (sc_ok (evO_ok hr' h1) h2).1 (h hs a w ⟨ι, hr'⟩)
theorem W.mono {x : Code} {Q' : Exit → St → Prop} (h : W c x Q s) (hq : ∀ e s, Q e s → Q' e s) : W c x Q' s := fun hs a w hr => wp_mono (h hs a w hr) fun e a' w' ⟨s', h1, h2, h3⟩ => ⟨s', h1, hq e s' h2, h3⟩
/-! ### less known, other names -/
def rn (l : List (Nat × Nat)) (b : Nat) : Nat := (look l b).getD b
def nodupB : List Nat → Bool
  | [] => true
  | x :: l => !(l.any fun y => Nat.beq x y) && nodupB l
theorem nodupB_ok : ∀ {l : List Nat}, nodupB l = true → l.Nodup
  | [], _ => List.nodup_nil
  | x :: l, h => by
    simp only [nodupB, Bool.and_eq_true, Bool.not_eq_true', List.any_eq_false] at h
    refine List.nodup_cons.2 ⟨fun hx => ?_, nodupB_ok h.2⟩
    have := h.1 x hx
    simp at this
/-- s' tells no more than s, our blocks named anew: ρ gives each name of s' its elder one. -/
structure Wk0 (s s' : St) : Prop where
  ex : ∃ ρ : List (Nat × Nat), (∀ t x, s'.tm t = some x → s.tm t = some (x.mp (rn ρ))) ∧ Pulls (rn ρ) s.hp s'.hp ∧
    nodupB (s'.H.map fun p => rn ρ p.1) = true ∧ (ρ.all fun p => Nat.ble 64 p.1) = true ∧ okB s' s'.nx = true
theorem map_eq_mem {α β : Type} {f g : α → β} : ∀ {l : List α}, l.map f = l.map g → ∀ x, x ∈ l → f x = g x
  | y :: l, h, x, hx => by
    simp only [List.map_cons, List.cons.injEq] at h
    rcases List.mem_cons.1 hx with rfl | hx
    · exact h.1
    · exact map_eq_mem h.2 x hx
theorem Wk0.rel {s s' : St} (h : Wk0 s s') {a : Act} {w : World} (hr : RelS c s a w) : RelS c s' a w ∧ okB s' s'.nx = true := by
  obtain ⟨ρ, h1, h2, h3, h4, h5⟩ := h.ex
  obtain ⟨ι, hr⟩ := hr
  have hP : Pulls (rn ρ) s.hp s'.hp := h2
  refine ⟨⟨_, hr.pull (rn ρ) h1 hP (fun b b' B B' hb hb' he => ?_) fun b hb => ?_⟩, h5⟩
  · have hn := nodupB_ok h3
    have m1 := lookH_mem hb
    have m2 := lookH_mem hb'
    clear h1 h2 h3 h4 h5 hP hr hb hb'
    generalize s'.H = l at *
    induction l with
    | nil => cases m1
    | cons p l ih =>
      simp only [List.map_cons, List.nodup_cons] at hn
      rcases List.mem_cons.1 m1 with e1 | e1 <;> rcases List.mem_cons.1 m2 with e2 | e2
      · rw [← e1] at e2; cases e2; rfl
      · rw [← e1] at hn
        exact absurd (List.mem_map.2 ⟨_, e2, he.symm⟩) hn.1
      · rw [← e2] at hn
        exact absurd (List.mem_map.2 ⟨_, e1, he⟩) hn.1
      · exact ih hn.2 e1 e2
  · unfold rn
    cases hl : look ρ b with
    | none => rfl
    | some v =>
      have := List.all_eq_true.1 h4 _ (look_mem hl)
      have := Nat.le_of_ble_eq_true this
      omega
/-! ### told more loosely -/
/-- A cell told as the other one is, where that says less. -/
def cvC (H : Hp) : Cell → Cell → Cell
  | .f _, .ref b => match H b with
    | some (.row _ _ rows true true) => .f (.sl rows)
    | _ => .ref b
  | .d _, .ref b => match H b with
    | some (.row _ _ rows true _) => .d (.sl rows)
    | _ => .ref b
  | .d _, .k _ x => .d x
  | .d _, .f x => .d x
  | .d _, .nil => .d (.sl [])
  | .f _, .nil => .f (.sl [])
  | .f _, .d (.v x) => .f (.v x)
  | .f _, .k _ (.v x) => .f (.v x)
  | _, c => c
def cvCs (H : Hp) : List Cell → List Cell → List Cell
  | t :: ts, c :: cs => cvC H t c :: cvCs H ts cs
  | _, cs => cs
def cvE (H : Hp) : E → E → E
  | .c t, .c c => .c (cvC H t c)
  | .agg ts, .agg cs => .agg (cvCs H ts cs)
  | _, x => x
def cvA (H : Hp) : AV → AV → AV
  | .e t, .e x => .e (cvE H t x)
  | .un, _ => .un
  | _, x => x
def cvB (H : Hp) : Blk → Blk → Blk
  | .box ts, .box cs => .box (cvCs H ts cs)
  | .row _ _ _ true _, .row wd e rows _ nf => .row wd e rows true nf
  | _, x => x
def cvO (H : Hp) : Option Blk → Option Blk → Option Blk
  | some t, some x => some (cvB H t x)
  | _, x => x
theorem TR.flat {w : World} {ok ok' : Nat → Prop} {x u : Value} (h : TR w ok (.v x) u) : TR w ok' (.v x) u := by
  cases h with | v _ hx => exact .v x hx
section
variable {g : Env} {ι : Nm} {H : Hp} {w : World} (hblk : ∀ b B, H b = some B → BR g ι H w (ι b) B) (hinj : InjN ι H)
include hblk hinj
/-- A row that nobody writes any more reads as data. -/
theorem frozen_TR {b wd : Nat} {e : TypeId} {rows : List (List D)} {nf : Bool} {u : Value} (h : CR g ι H w (.ref b) u) (hb : H b = some (.row wd e rows true nf)) : TR w (OkF g nf ι H w) (.sl rows) u := by
  obtain ⟨wd', n, hsh, hrf⟩ := h _ hb
  simp only [Blk.shape, Prod.mk.injEq, true_and] at hsh
  obtain ⟨rfl, rfl⟩ := hsh
  have hbr := hblk b _ hb
  cases hi : ι b with
  | none =>
    rw [hi] at hrf hbr
    obtain ⟨_, _, rfl⟩ := hbr
    rw [hrf.2]
    exact .nil _ _
  | some q =>
    obtain ⟨k, cc⟩ := q
    rw [hi] at hrf hbr
    have hlt := hbr.lt
    obtain ⟨hw0, hw, cs, hh, hlc, hmx, hsz, hn0, hcells⟩ := hbr
    rw [show u = _ from hrf]
    refine .row rows wd k 0 cc cs e (0, 0) (fun i j => (cs[0 + (i * wd + j)]?).getD undef) hlc ⟨⟨hlt, fun b' B c h1 h2 h3 h4 => ?_⟩, hn0⟩ hh (fun i j hi' hj' => ?_) hw (fun i r j dd hi' hj' => ?_)
    · obtain rfl := hinj b b' _ B _ c k hb h1 hi h3 (.inl rfl) h4
      rw [hb] at h1
      cases h1
      cases h2
    · have hlen := hw i _ (List.getElem?_eq_getElem hi')
      obtain ⟨x, hx, _⟩ := hcells i _ j _ (List.getElem?_eq_getElem hi') (List.getElem?_eq_getElem (by omega))
      rw [Nat.zero_add, hx]
      rfl
    · obtain ⟨x, hx, hxt⟩ := hcells i r j dd hi' hj'
      rw [Nat.zero_add, hx]
      exact hxt
theorem cvC_ok (t : Cell) {c : Cell} {u : Value} (h : CR g ι H w c u) : CR g ι H w (cvC H t c) u := by
  have e : ∀ {x : D} {nf : Bool} {u : Value}, TR w (OkF g nf ι H w) x u → TR w (OkF g false ι H w) x u := fun t => t.move fun k hk => ⟨⟨hk.1, fun h => by cases h⟩, rfl⟩
  unfold cvC
  split
  · split
    · rename_i hb; exact frozen_TR hblk hinj h hb
    · exact h
  · split
    · rename_i hb; exact e (frozen_TR hblk hinj h hb)
    · exact h
  · exact h.2
  · exact e h
  · cases h; exact .nil _ _
  · cases h; exact .nil _ _
  · exact TR.flat h
  · exact TR.flat h.2
  · exact h
omit hblk hinj in
theorem cvCs_get {H : Hp} : ∀ {ts cs : List Cell} {j : Nat} {c : Cell}, (cvCs H ts cs)[j]? = some c → ∃ t c0, cs[j]? = some c0 ∧ (c = cvC H t c0 ∨ c = c0)
  | [], cs, j, c, h => by
    have h : cs[j]? = some c := by cases cs <;> exact h
    exact ⟨.nil, c, h, .inr rfl⟩
  | t :: ts, [], j, c, h => ⟨.nil, c, h, .inr rfl⟩
  | t :: ts, c0 :: cs, j, c, h => by
    cases j with
    | zero => cases h; exact ⟨t, c0, rfl, .inl rfl⟩
    | succ j => exact cvCs_get (ts := ts) (cs := cs) h
omit hblk hinj in
theorem cvCs_length {H : Hp} : ∀ (ts cs : List Cell), (cvCs H ts cs).length = cs.length
  | [], cs => by cases cs <;> rfl
  | t :: ts, [] => rfl
  | t :: ts, c :: cs => by simp [cvCs, cvCs_length ts cs]
theorem cvCs_ok (ts : List Cell) {cs : List Cell} {vs : Nat → Option Value} (h : CsR g ι H w cs vs) : CsR g ι H w (cvCs H ts cs) vs := fun j c hj => by
  obtain ⟨t, c0, h1, h2⟩ := cvCs_get hj
  obtain ⟨u, hu, hc⟩ := h j c0 h1
  rcases h2 with rfl | rfl
  · exact ⟨u, hu, cvC_ok hblk hinj t hc⟩
  · exact ⟨u, hu, hc⟩
theorem cvE_ok (t : E) {x : E} {u : Value} (h : ER g ι H w x u) : ER g ι H w (cvE H t x) u := by
  unfold cvE
  split
  · exact cvC_ok hblk hinj _ h
  · obtain ⟨vs, e, hl, hc⟩ := h
    exact ⟨vs, e, by rw [cvCs_length]; exact hl, cvCs_ok hblk hinj _ hc⟩
  · exact h
theorem cvA_ok (t : AV) {x : AV} {u : Value} (h : VR g ι H w x u) : VR g ι H w (cvA H t x) u := by
  unfold cvA
  split
  · exact cvE_ok hblk hinj _ h
  · trivial
  · exact h
end
/-- Blocks told more loosely (their rows first). -/
structure Cv1 (H H0 : Hp) : Prop where
  b : ∀ b B', H0 b = some B' → ∃ B, H b = some B ∧ (B' = B ∨ ∃ wd e rows nf f, B = .row wd e rows f nf ∧ B' = .row wd e rows true nf)
theorem Cv1.rel {N : Nat} {κ : Nat → Value} {w0 : World} {S : Wr} {ι : Nm} {T : Tm} {H H0 : Hp} {a : Act} {w : World} (h : Cv1 H H0) (hr : Rel N κ w0 S ι T H a w) : Rel N κ w0 S ι T H0 a w := by
  have hw : ∀ b B', H0 b = some B' → ∃ B, H b = some B ∧ B.shape = B'.shape ∧ B.wd = B'.wd ∧ (B'.wr = true → B.wr = true) ∧ (B'.isN = true → B.isN = true) := fun b B' hB => by
    obtain ⟨B, h1, rfl | ⟨wd, e, rows, nf, f, rfl, rfl⟩⟩ := h.b b B' hB
    · exact ⟨_, h1, rfl, rfl, id, id⟩
    · exact ⟨_, h1, rfl, rfl, (fun h => by cases h), fun h => by cases h⟩
  have hok : ∀ k, Ok ι H w k → Ok ι H0 w k ∧ w.heap[k]? = w.heap[k]? := fun k hk => ⟨⟨hk.1, fun b B cc hB hw' hi ho => by
    obtain ⟨B0, h1, _, _, h2, h3⟩ := hw b B hB
    exact hk.2 b B0 cc h1 (h2 hw') hi (ho.up h3)⟩, rfl⟩
  have hs : ∀ b, Same ι H ι H0 b := fun b B hB => by
    obtain ⟨B0, h1, h2, h3, _⟩ := hw b B hB
    exact ⟨B0, h1, h2, h3, rfl⟩
  refine ⟨hr.kept, hr.new, fun b B hB => ?_, fun b b' B B' x x' k h1 h2 h3 h4 o1 o2 => ?_, fun b B x k h1 hi ho => ?_, hr.size, hr.dfr, hr.io, fun t y hy => VR.move hok (fun b _ => hs b) (hr.tmp t y hy)⟩
  · obtain ⟨B0, h1, h2⟩ := h.b b B hB
    have h3 := BR.move hok (fun b _ => hs b) (fun _ _ _ _ => rfl) (hr.blk b B0 h1)
    rcases h2 with rfl | ⟨wd, e, rows, nf, f, rfl, rfl⟩
    · exact h3
    · exact h3
  · obtain ⟨B0, q1, _, _, _, n1⟩ := hw b B h1
    obtain ⟨B1, q2, _, _, _, n2⟩ := hw b' B' h2
    exact hr.injO b b' B0 B1 x x' k q1 q2 h3 h4 (o1.up n1) (o2.up n2)
  · obtain ⟨B0, q1, _, _, _, n1⟩ := hw b B h1
    exact hr.ownO b B0 x k q1 hi (ho.up n1)
/-- The rows of H, frozen as those of H0 are. -/
def frzH (H H0 : Hp) : Hp := fun b => match H0 b with
  | some (.row _ _ _ true _) => match H b with
    | some (.row wd e rows _ nf) => some (.row wd e rows true nf)
    | x => x
  | some _ => H b
  | none => none
theorem frzH_ok (H H0 : Hp) : Cv1 H (frzH H H0) := ⟨fun b B' h => by
  unfold frzH at h
  split at h
  · split at h
    · rename_i hb; cases h; exact ⟨_, hb, .inr ⟨_, _, _, _, _, rfl, rfl⟩⟩
    · exact ⟨_, h, .inl rfl⟩
  · exact ⟨_, h, .inl rfl⟩
  · cases h⟩
theorem cvB_shape (H : Hp) (t B : Blk) : (cvB H t B).shape = B.shape ∧ (cvB H t B).wd = B.wd := by
  unfold cvB
  split
  · simp [Blk.shape, Blk.wd, cvCs_length]
  · exact ⟨rfl, rfl⟩
  · exact ⟨rfl, rfl⟩
/-- The same slots and blocks, told more loosely. -/
structure Cv (s s0 : St) : Prop where
  t : ∀ t y, s0.tm t = some y → ∃ x, s.tm t = some x ∧ cvA (frzH s.hp s0.hp) y x = y
  b : ∀ b B', s0.hp b = some B' → ∃ B, frzH s.hp s0.hp b = some B ∧ cvB (frzH s.hp s0.hp) B' B = B'
theorem Cv.rel {s s0 : St} (h : Cv s s0) {a : Act} {w : World} (hr : RelS c s a w) : RelS c s0 a w := by
  obtain ⟨ι, hr⟩ := hr
  replace hr := (frzH_ok s.hp s0.hp).rel hr
  have hb := h.b
  have ht := h.t
  generalize frzH s.hp s0.hp = H1 at hr hb ht
  have hwr : ∀ (b : Nat) (B B0 : Blk), cvB H1 B B0 = B → B.wr = true → B0.wr = true := fun b B B0 e hw => by
    unfold cvB at e
    split at e
    · rfl
    · rw [← e] at hw; cases hw
    · rw [e]; exact hw
  have hnn : ∀ (b : Nat) (B B0 : Blk), cvB H1 B B0 = B → B.isN = true → B0.isN = true := fun b B B0 e hw => by
    unfold cvB at e
    split at e
    · rw [← e] at hw; cases hw
    · rw [← e] at hw; cases hw
    · rw [e]; exact hw
  have hok : ∀ k, Ok ι H1 w k → Ok ι s0.hp w k ∧ w.heap[k]? = w.heap[k]? := fun k hk => ⟨⟨hk.1, fun b B cc hB hw hi ho => by
    obtain ⟨B0, h1, h2⟩ := hb b B hB
    exact hk.2 b B0 cc h1 (hwr b B B0 h2 hw) hi (ho.up (hnn b B B0 h2))⟩, rfl⟩
  have hs : ∀ b, Same ι H1 ι s0.hp b := fun b B hB => by
    obtain ⟨B0, h1, h2⟩ := hb b B hB
    exact ⟨B0, h1, by rw [← (cvB_shape H1 B B0).1, h2], by rw [← (cvB_shape H1 B B0).2, h2], rfl⟩
  refine ⟨ι, hr.kept, hr.new, fun b B hB => ?_, fun b b' B B' x x' k h1 h2 h3 h4 o1 o2 => ?_, fun b B x k h1 hi ho => ?_, hr.size, hr.dfr, hr.io, fun t y hy => ?_⟩
  · obtain ⟨B0, h1, h2⟩ := hb b B hB
    rw [← h2]
    refine BR.move hok (fun b _ => hs b) (fun _ _ _ _ => rfl) ?_
    have h3 := hr.blk b B0 h1
    unfold cvB
    split
    · obtain ⟨k, cc, e, vs, ty, q1, q2, q3⟩ := h3
      exact ⟨k, cc, e, vs, ty, q1, by rw [cvCs_length]; exact q2, cvCs_ok hr.blk hr.injO _ q3⟩
    · exact h3
    · exact h3
  · obtain ⟨B0, q1, n1⟩ := hb b B h1
    obtain ⟨B1, q2, n2⟩ := hb b' B' h2
    exact hr.injO b b' B0 B1 x x' k q1 q2 h3 h4 (o1.up (hnn b B B0 n1)) (o2.up (hnn b' B' B1 n2))
  · obtain ⟨B0, q1, n1⟩ := hb b B h1
    exact hr.ownO b B0 x k q1 hi (ho.up (hnn b B B0 n1))
  · obtain ⟨x, h1, h2⟩ := ht t y hy
    rw [← h2]
    exact VR.move hok (fun b _ => hs b) (cvA_ok hr.blk hr.injO y (hr.tmp t x h1))
/-- s' tells no more than s: told more loosely, our blocks named anew. -/
structure Wk (s s' : St) : Prop where
  rl : ∀ (c : Cn) (a : Act) (w : World), RelS c s a w → RelS c s' a w
  ok : okB s' s'.nx = true
theorem Wk.of0 {s s0 s' : St} (h1 : Cv s s0) (h2 : Wk0 s0 s') : Wk s s' := ⟨fun c a w hr => (h2.rel (h1.rel hr)).1, let ⟨_, _, _, _, _, h⟩ := h2.ex; h⟩
theorem Wk.trans {s s1 s2 : St} (h1 : Wk s s1) (h2 : Wk s1 s2) : Wk s s2 := ⟨fun c a w hr => h2.rl c a w (h1.rl c a w hr), h2.ok⟩
theorem look_map {β γ : Type} (f : β → γ) : ∀ (l : List (Nat × β)) (t : Nat), look (l.map fun p => (p.1, f p.2)) t = (look l t).map f
  | [], t => rfl
  | (k, v) :: l, t => by
    simp only [List.map_cons, look]
    cases Nat.beq t k with
    | true => rfl
    | false => exact look_map f l t
theorem lookH_of {l : List (Nat × Option Blk)} (hn : (l.map (·.1)).Nodup) {b : Nat} {B : Option Blk} (h : (b, B) ∈ l) : lookH l b = B := by
  induction l with
  | nil => cases h
  | cons p l ih =>
    obtain ⟨k, v⟩ := p
    simp only [List.map_cons, List.nodup_cons] at hn
    simp only [lookH]
    rcases List.mem_cons.1 h with e | e
    · cases e; simp
    · have hne : b ≠ k := fun e' => hn.1 (e' ▸ List.mem_map.2 ⟨(b, B), e, rfl⟩)
      rw [nbf hne]
      exact ih hn.2 e
/-- The blocks of s' under their elder names. -/
def upH (ρ : List (Nat × Nat)) (s' : St) : Hp := lookH (s'.H.map fun p => (rn ρ p.1, p.2.map (Blk.mp (rn ρ))))
theorem Wk.mk' (ρ : List (Nat × Nat)) {s' : St} (h1 : (s'.T.map fun p => (s.tm p.1).map (cvA (frzH s.hp (upH ρ s')) (p.2.mp (rn ρ)))) = (s'.T.map fun p => some (p.2.mp (rn ρ))))
    (h2 : (s'.H.map fun p => cvO (frzH s.hp (upH ρ s')) (p.2.map (Blk.mp (rn ρ))) (frzH s.hp (upH ρ s') (rn ρ p.1))) = (s'.H.map fun p => p.2.map (Blk.mp (rn ρ))))
    (h3 : (nodupB (s'.H.map fun p => rn ρ p.1) && (ρ.all fun p => Nat.ble 64 p.1) && okB s' s'.nx) = true) : Wk s s' := by
  simp only [Bool.and_eq_true] at h3
  have hH : ∀ p, p ∈ s'.H → lookH (s'.H.map fun p => (rn ρ p.1, p.2.map (Blk.mp (rn ρ)))) (rn ρ p.1) = p.2.map (Blk.mp (rn ρ)) := fun p hp =>
    lookH_of (by simpa [List.map_map, Function.comp_def] using nodupB_ok h3.1.1) (List.mem_map.2 ⟨p, hp, rfl⟩)
  refine Wk.of0 (s0 := ⟨s'.T.map fun p => (p.1, p.2.mp (rn ρ)), s'.H.map fun p => (rn ρ p.1, p.2.map (Blk.mp (rn ρ))), s'.nx⟩) ⟨fun t y hy => ?_, fun b B hB => ?_⟩ ⟨ρ, ?_, ?_, h3.1.1, h3.1.2, h3.2⟩
  · have hy' : look (s'.T.map fun p => (p.1, p.2.mp (rn ρ))) t = some y := hy
    rw [look_map (fun x : AV => x.mp (rn ρ))] at hy'
    obtain ⟨x, hx, rfl⟩ := Option.map_eq_some_iff.1 hy'
    have := map_eq_mem h1 (t, x) (look_mem hx)
    simp only at this
    exact Option.map_eq_some_iff.1 this
  · have hm := lookH_mem (show lookH (s'.H.map fun p => (rn ρ p.1, p.2.map (Blk.mp (rn ρ)))) b = some B from hB)
    obtain ⟨p, hp, e⟩ := List.mem_map.1 hm
    have := map_eq_mem h2 p hp
    simp only [Prod.mk.injEq] at e
    obtain ⟨e1, e2⟩ := e
    rw [e1, e2] at this
    show ∃ B0, frzH s.hp (upH ρ s') b = some B0 ∧ cvB (frzH s.hp (upH ρ s')) B B0 = B
    cases hb : frzH s.hp (upH ρ s') b with
    | none => rw [hb] at this; cases this
    | some B0 => rw [hb] at this; exact ⟨B0, rfl, Option.some.inj this⟩
  · intro t x hx
    show look (s'.T.map fun p => (p.1, p.2.mp (rn ρ))) t = _
    rw [look_map (fun x : AV => x.mp (rn ρ)), show look s'.T t = some x from hx]
    rfl
  · intro b B hB
    exact hH (b, some B) (lookH_mem hB)
theorem Wk.rel {s s' : St} (h : Wk s s') {a : Act} {w : World} (hr : RelS c s a w) : RelS c s' a w ∧ okB s' s'.nx = true := ⟨h.rl c a w hr, h.ok⟩
theorem Wk.okB {s s' : St} (h : Wk s s') : okB s' s'.nx = true := h.ok
theorem W.weak {x : Code} {s' : St} (h : Wk s s') (k : W c x Q s') : W c x Q s := fun _ a w hr => let ⟨h1, h2⟩ := h.rel hr; k h2 a w h1
theorem W.loop {σ : Type} (I : σ → St) (μ : σ → Nat) (g0 : σ) (h0 : Wk s (I g0)) {x : Code} (h : ∀ g, W c x (thn (fun s' => ∃ g', μ g' < μ g ∧ Wk s' (I g')) Q) (I g)) : W c (.loop x) Q s := by
  intro hs a w hr
  obtain ⟨r0, o0⟩ := h0.rel hr
  have key : ∀ (n : Nat) (g : σ) (a : Act) (w : World), μ g = n → RelS c (I g) a w → okB (I g) (I g).nx = true → ∀ (b : Frame) (k : List Item) (cs : List Frame),
      ∃ e a' w', (∃ s', okB s' s'.nx = true ∧ Q e s' ∧ RelS c s' a' w') ∧ Arrives c.P (lone (b.at a (.code x :: .inLoop x :: k)) cs w) b k cs e a' w' := by
    intro n
    induction n using Nat.strongRecOn with
    | _ n ih =>
      intro g a w hn hg hog b k cs
      obtain ⟨e, a1, w1, ⟨s1, ho1, hq, hr1⟩, harr⟩ := h g hog a w hg b (.inLoop x :: k) cs
      cases e with
      | normal =>
        obtain ⟨g', hlt, hw⟩ := hq
        obtain ⟨r2, o2⟩ := hw.rel hr1
        obtain ⟨e2, a2, w2, hq2, harr2⟩ := ih (μ g') (hn ▸ hlt) g' a1 w1 rfl r2 o2 b k cs
        exact ⟨e2, a2, w2, hq2, .of_steps (Steps.trans harr (.one step_inLoop)) harr2⟩
      | exit id => exact ⟨_, a1, w1, ⟨s1, ho1, hq, hr1⟩, .pass (x := .inLoop x) rfl (fun _ _ => .inl (by simp)) harr⟩
      | goto l => exact ⟨_, a1, w1, ⟨s1, ho1, hq, hr1⟩, .pass (x := .inLoop x) rfl (fun _ _ => .inl (by simp)) harr⟩
      | ret => exact ⟨_, a1, w1, ⟨s1, ho1, hq, hr1⟩, .pass (x := .inLoop x) rfl (fun _ _ => .inl (by simp)) harr⟩
      | panic ch => exact ⟨_, a1, w1, ⟨s1, ho1, hq, hr1⟩, .pass (x := .inLoop x) rfl (fun _ _ => .inl (by simp)) harr⟩
      | outgrown => exact ⟨_, a1, w1, ⟨s1, ho1, hq, hr1⟩, .pass (x := .inLoop x) rfl (fun _ _ => .inl (by simp)) harr⟩
  intro b k cs
  obtain ⟨e, a', w', hq, harr⟩ := key _ g0 a w rfl r0 o0 b k cs
  exact ⟨e, a', w', hq, .of_steps (.one step_loop) harr⟩
end
end Go.Proofs.Ytggmeldoecnkaaa.Av
