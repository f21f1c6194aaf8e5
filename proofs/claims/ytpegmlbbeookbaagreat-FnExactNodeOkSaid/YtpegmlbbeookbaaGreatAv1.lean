/-
What a walk knows, told without memory: values as trees of data, the blocks of the call's own by names of ours; and the relation of that to frames and worlds.
Conditions: none beside those that each theorem names.
-/
import Derived.WalkKit
import Derived.Deep.MidRow
set_option linter.unusedVariables false
namespace Go.Proofs.YtpegmlbbeookbaaGreat.Av
open Go.RowKit

/-- Data: a number, a text, a bool; a slice as its rows of cells. -/
inductive D where
  | v (x : Value)
  | sl (rows : List (List D))
/-- What a value reads as; its blocks are ok ones. -/
inductive TR (w : World) (ok : Nat → Prop) : D → Value → Prop
  | v (x : Value) (h : x.oneCell' = true) : TR w ok (.v x) x
  | nil (A : Option Addr) (c : Nat) : TR w ok (.sl []) (.slice A 0 c)
  | row (rows : List (List D)) (wd k o c : Nat) (cs : Array Value) (ty : TypeId) (fr : Nat × Nat) (u : Nat → Nat → Value)
      (hc : rows.length ≤ c) (hk : ok k) (hb : w.heap[k]? = some (.cells cs ty fr))
      (hu : ∀ i j, i < rows.length → j < wd → cs[o + (i * wd + j)]? = some (u i j))
      (hw : ∀ (i : Nat) (r : List D), rows[i]? = some r → r.length = wd)
      (hv : ∀ (i : Nat) (r : List D) (j : Nat) (d : D), rows[i]? = some r → r[j]? = some d → TR w ok d (u i j)) : TR w ok (.sl rows) (.slice (some ⟨k, o, none⟩) rows.length c)
theorem TR.move {w w' : World} {ok ok' : Nat → Prop} (h : ∀ k, ok k → ok' k ∧ w'.heap[k]? = w.heap[k]?) {d : D} {v : Value} (t : TR w ok d v) : TR w' ok' d v := by
  induction t with
  | v x hx => exact .v x hx
  | nil A c => exact .nil A c
  | row rows wd k o c cs ty fr u hc hk hb hu hw hv ih => exact .row rows wd k o c cs ty fr u hc (h k hk).1 ((h k hk).2.trans hb) hu hw ih
theorem TR.slice {w : World} {ok : Nat → Prop} {rows : List (List D)} {v : Value} (t : TR w ok (.sl rows) v) : ∃ A c, v = .slice A rows.length c ∧ rows.length ≤ c := by
  cases t with
  | nil A c => exact ⟨A, c, rfl, Nat.zero_le _⟩
  | row _ wd k o c cs ty fr u hc hk hb hu hw hv => exact ⟨_, c, rfl, hc⟩
/-- A run of cells in a block that is only read. -/
def Run (w : World) (ok : Nat → Prop) (k o : Nat) (r : List D) : Prop := ok k ∧ ∃ cs ty fr, w.heap[k]? = some (.cells cs ty fr) ∧ ∀ (j : Nat) (d : D), r[j]? = some d → ∃ x, cs[o + j]? = some x ∧ TR w ok d x
theorem TR.at_ {w : World} {ok : Nat → Prop} {rows : List (List D)} {A : Option Addr} {n c : Nat} (t : TR w ok (.sl rows) (.slice A n c)) {i : Nat} {r : List D} (h : rows[i]? = some r) :
    ∃ k o, A = some ⟨k, o, none⟩ ∧ Run w ok k (o + i * r.length) r := by
  cases t with
  | nil A c => cases h
  | row _ wd k o c cs ty fr u hc hk hb hu hw hv =>
    have hi : i < rows.length := (List.getElem?_eq_some_iff.1 h).1
    refine ⟨k, o, rfl, hk, cs, ty, fr, hb, fun j d hj => ⟨u i j, ?_, hv i r j d h hj⟩⟩
    have hl := hw i r h
    have hjl : j < r.length := (List.getElem?_eq_some_iff.1 hj).1
    rw [hl, Nat.add_assoc]
    exact hu i j hi (by omega)
theorem Run.move {w w' : World} {ok ok' : Nat → Prop} (h : ∀ k, ok k → ok' k ∧ w'.heap[k]? = w.heap[k]?) {k o : Nat} {r : List D} (t : Run w ok k o r) : Run w' ok' k o r := by
  obtain ⟨hk, cs, ty, fr, hb, hc⟩ := t
  exact ⟨(h k hk).1, cs, ty, fr, (h k hk).2.trans hb, fun j d hj => let ⟨x, hx, ht⟩ := hc j d hj; ⟨x, hx, ht.move h⟩⟩

/-- A cell: data; data in blocks of the call's own; data whose value itself has a name; a slice of the call's own, by its block's name; the slice without a block. -/
inductive Cell where
  | d (x : D)
  | f (x : D)
  | k (j : Nat) (x : D)
  | ref (b : Nat)
  | nil
inductive E where
  | c (x : Cell)
  | agg (cs : List Cell)
/-- What a slot of the frame holds. -/
inductive AV where
  | e (x : E)
  | pt (b i o : Nat)
  | ip (r : List D) (o : Nat)
  | tup (xs : List E)
  | fv (f b : Nat)
  | bo (p q : Prop)
  | un
inductive Blk where
  | box (cs : List Cell)
  | row (wd : Nat) (e : TypeId) (rows : List (List D)) (frz nf : Bool)
def Blk.wr : Blk → Bool
  | .box _ => true
  | .row _ _ _ f _ => !f
def Blk.shape : Blk → Bool × Nat × Nat
  | .box cs => (true, cs.length, 1)
  | .row wd _ rows _ _ => (false, wd, rows.length)
def Blk.wd : Blk → Nat
  | .box cs => 0
  | .row wd _ _ _ _ => wd
def Cell.ids : Cell → List Nat
  | .ref b => [b]
  | _ => []
def E.ids : E → List Nat
  | .c x => x.ids
  | .agg cs => cs.flatMap Cell.ids
def AV.ids : AV → List Nat
  | .e x => x.ids
  | .pt b _ _ => [b]
  | .fv _ b => [b]
  | .tup xs => xs.flatMap E.ids
  | _ => []
def Blk.ids : Blk → List Nat
  | .box cs => cs.flatMap Cell.ids
  | _ => []
abbrev Tm := Nat → Option AV
abbrev Hp := Nat → Option Blk
abbrev Nm := Nat → Option (Nat × Nat)
/-- Blocks that nobody writes: what is read lies in these. -/
def Ok (ι : Nm) (H : Hp) (w : World) (k : Nat) : Prop := k < w.heap.size ∧ ∀ b B c, H b = some B → B.wr = true → ι b ≠ some (k, c)
def RefV (g : Option (Nat × Nat)) (n : Nat) (u : Value) : Prop := match g with | none => n = 0 ∧ u = .slice none 0 0 | some (g, c) => u = .slice (some ⟨g, 0, none⟩) n c
/-- What the walk's names stand for: kept values, and where the call's own blocks begin. -/
structure Env where
  κ : Nat → Value
  fr : Nat → Prop
def OkF (g : Env) (nf : Bool) (ι : Nm) (H : Hp) (w : World) (k : Nat) : Prop := Ok ι H w k ∧ (nf = true → g.fr k)
def CR (g : Env) (ι : Nm) (H : Hp) (w : World) : Cell → Value → Prop
  | .d x, u => TR w (OkF g false ι H w) x u
  | .f x, u => TR w (OkF g true ι H w) x u
  | .k j x, u => u = g.κ j ∧ TR w (OkF g false ι H w) x u
  | .nil, u => u = .slice none 0 0
  | .ref b, u => ∀ B, H b = some B → ∃ wd n, B.shape = (false, wd, n) ∧ RefV (ι b) n u
def CsR (g : Env) (ι : Nm) (H : Hp) (w : World) (cs : List Cell) (vs : Nat → Option Value) : Prop := ∀ (j : Nat) (c : Cell), cs[j]? = some c → ∃ u, vs j = some u ∧ CR g ι H w c u
def ER (g : Env) (ι : Nm) (H : Hp) (w : World) : E → Value → Prop
  | .c x, u => CR g ι H w x u
  | .agg cs, u => ∃ vs : Array Value, u = .agg vs ∧ vs.size = cs.length ∧ CsR g ι H w cs (fun j => vs[j]?)
def VR (g : Env) (ι : Nm) (H : Hp) (w : World) : AV → Value → Prop
  | .e x, u => ER g ι H w x u
  | .pt b i o, u => ∀ B, H b = some B → ∃ k c, ι b = some (k, c) ∧ u = .pointer (some ⟨k, i * B.wd + o, none⟩)
  | .ip r o, u => ∃ k p, Run w (OkF g false ι H w) k p r ∧ u = .pointer (some ⟨k, p + o, none⟩)
  | .fv f b, u => ∀ B, H b = some B → ∃ k c, ι b = some (k, c) ∧ u = .func (.func f) #[] #[.pointer (some ⟨k, 0, none⟩)]
  | .bo p q, u => ∃ b : Bool, u = .bool b ∧ (b = true → p) ∧ (b = false → q)
  | .tup xs, u => ∃ vs : Array Value, u = .tuple vs ∧ vs.size = xs.length ∧ ∀ (j : Nat) (x : E), xs[j]? = some x → ∃ y, vs[j]? = some y ∧ ER g ι H w x y
  | .un, _ => True
/-- What a block of ours holds. -/
def BR (g : Env) (ι : Nm) (H : Hp) (w : World) (at_ : Option (Nat × Nat)) : Blk → Prop
  | .box cs => ∃ k c, at_ = some (k, c) ∧ ∃ vs ty, w.heap[k]? = some (.cells vs ty (0, 0)) ∧ vs.size = cs.length ∧ CsR g ι H w cs (fun j => vs[j]?)
  | .row wd e rows f nf => 0 < wd ∧ (∀ (i : Nat) (r : List D), rows[i]? = some r → r.length = wd) ∧
    match at_ with
    | none => rows = []
    | some (k, c) => ∃ cs, w.heap[k]? = some (.cells cs e (0, 0)) ∧ rows.length ≤ c ∧ c ≤ maxLen ∧ cs.size = c * wd ∧ (nf = true → g.fr k) ∧
        ∀ (i : Nat) (r : List D) (j : Nat) (d : D), rows[i]? = some r → r[j]? = some d → ∃ u, cs[i * wd + j]? = some u ∧ TR w (OkF g nf ι H w) d u
/-- What a world keeps: all but the blocks M. -/
structure Kept (M : Nat → Prop) (w w' : World) : Prop where
  os : w'.os = w.os
  tape : w'.tape = w.tape
  output : w'.output = w.output
  size : w.heap.size ≤ w'.heap.size
  block : ∀ k, k < w.heap.size → ¬ M k → w'.heap[k]? = w.heap[k]?
theorem Kept.refl (M : Nat → Prop) (w : World) : Kept M w w := ⟨rfl, rfl, rfl, Nat.le_refl _, fun _ _ _ => rfl⟩
theorem Kept.trans {M M' : Nat → Prop} {w w1 w2 : World} (h : Kept M w w1) (k : Kept M' w1 w2) (hM : ∀ k, M' k → M k ∨ w.heap.size ≤ k) : Kept M w w2 :=
  ⟨k.os.trans h.os, k.tape.trans h.tape, k.output.trans h.output, Nat.le_trans h.size k.size, fun i hi hn => (k.block i (Nat.lt_of_lt_of_le hi h.size) (fun hm => (hM i hm).elim hn (by omega))).trans (h.block i hi hn)⟩
theorem Kept.below {w w' : World} (h : Kept (fun _ => False) w w') : Below w.heap.size w w' := ⟨h.os, h.tape, h.output, h.size, fun k hk => h.block k hk id⟩
theorem Kept.ofBelow {w w' : World} (h : Below w.heap.size w w') (M : Nat → Prop) : Kept M w w' := ⟨h.os, h.tape, h.output, h.size, fun k hk _ => h.block k hk⟩
theorem Kept.mono {M M' : Nat → Prop} {w w' : World} (h : Kept M w w') (hM : ∀ k, M k → M' k) : Kept M' w w' := ⟨h.os, h.tape, h.output, h.size, fun k hk hn => h.block k hk fun hm => hn (hM k hm)⟩

/-- The blocks of the call's begin that may be written, and the names that stay as they are (those below 64). -/
structure Wr where
  p : Nat → Prop
  ι0 : Nm
  fr : Nat → Prop
/-- THE RELATION: N slots, the world w0 at the call's begin, S the blocks of w0 that may be written. -/
structure Rel (N : Nat) (κ : Nat → Value) (w0 : World) (S : Wr) (ι : Nm) (T : Tm) (H : Hp) (a : Act) (w : World) : Prop where
  kept : Kept S.p w0 w
  new : ∀ k, w0.heap.size ≤ k → S.fr k
  blk : ∀ b B, H b = some B → BR ⟨κ, S.fr⟩ ι H w (ι b) B
  inj : ∀ b b' B B' k c c', H b = some B → H b' = some B' → ι b = some (k, c) → ι b' = some (k, c') → b = b'
  own : ∀ b B k c, H b = some B → ι b = some (k, c) → w0.heap.size ≤ k ∨ S.p k
  size : a.tmps.size = N
  dfr : a.defers = []
  io : ∀ b, b < 64 → ι b = S.ι0 b
  tmp : ∀ t x, T t = some x → VR ⟨κ, S.fr⟩ ι H w x (a.tmps.getD t undef)

theorem BR.lt {g : Env} {ι : Nm} {H : Hp} {w : World} {B : Blk} {k c : Nat} (h : BR g ι H w (some (k, c)) B) : k < w.heap.size := by
  cases B with
  | box cs =>
    obtain ⟨k', c', e, vs, ty, hb, _⟩ := h
    cases e
    exact (Array.getElem?_eq_some_iff.1 hb).1
  | row wd e rows f nf =>
    obtain ⟨_, _, cs, hb, _⟩ := h
    exact (Array.getElem?_eq_some_iff.1 hb).1
/-- The name b stands for what it stood for, or for nothing any more. -/
def Same (ι : Nm) (H : Hp) (ι' : Nm) (H' : Hp) (b : Nat) : Prop := ∀ B', H' b = some B' → ∃ B, H b = some B ∧ B.shape = B'.shape ∧ B.wd = B'.wd ∧ ι' b = ι b
section move
variable {g : Env} {ι ι' : Nm} {H H' : Hp} {w w' : World}
abbrev Moves (g : Env) (ι : Nm) (H : Hp) (w : World) (ι' : Nm) (H' : Hp) (w' : World) : Prop := ∀ nf d v, TR w (OkF g nf ι H w) d v → TR w' (OkF g nf ι' H' w') d v
theorem OkF.up (hk : ∀ k, Ok ι H w k → Ok ι' H' w' k ∧ w'.heap[k]? = w.heap[k]?) (nf : Bool) : ∀ k, OkF g nf ι H w k → OkF g nf ι' H' w' k ∧ w'.heap[k]? = w.heap[k]? := fun k h => ⟨⟨(hk k h.1).1, h.2⟩, (hk k h.1).2⟩
theorem Moves.of (hk : ∀ k, Ok ι H w k → Ok ι' H' w' k ∧ w'.heap[k]? = w.heap[k]?) : Moves g ι H w ι' H' w' := fun nf d v t => t.move (OkF.up hk nf)
theorem CR.move (hm : Moves g ι H w ι' H' w') {c : Cell} {u : Value} (hs : ∀ b, b ∈ c.ids → Same ι H ι' H' b) (h : CR g ι H w c u) : CR g ι' H' w' c u := by
  cases c with
  | d x => exact hm _ _ _ h
  | f x => exact hm _ _ _ h
  | k j x => exact ⟨h.1, hm _ _ _ h.2⟩
  | nil => exact h
  | ref b =>
    intro B' hB'
    obtain ⟨B, hB, hsh, _, hi⟩ := hs b (by simp [Cell.ids]) B' hB'
    obtain ⟨wd, n, h1, h2⟩ := h B hB
    exact ⟨wd, n, hsh ▸ h1, hi ▸ h2⟩
theorem CsR.move (hm : Moves g ι H w ι' H' w') {cs : List Cell} {vs : Nat → Option Value} (hs : ∀ b, b ∈ cs.flatMap Cell.ids → Same ι H ι' H' b) (h : CsR g ι H w cs vs) : CsR g ι' H' w' cs vs := fun j c hj =>
  let ⟨u, hu, hc⟩ := h j c hj
  ⟨u, hu, hc.move hm fun b hb => hs b (List.mem_flatMap.2 ⟨c, List.mem_of_getElem? hj, hb⟩)⟩
theorem ER.move (hm : Moves g ι H w ι' H' w') {x : E} {u : Value} (hs : ∀ b, b ∈ x.ids → Same ι H ι' H' b) (h : ER g ι H w x u) : ER g ι' H' w' x u := by
  cases x with
  | c x => exact CR.move hm hs h
  | agg cs =>
    obtain ⟨vs, e, hl, h⟩ := h
    exact ⟨vs, e, hl, CsR.move hm hs h⟩
theorem VR.move (hk : ∀ k, Ok ι H w k → Ok ι' H' w' k ∧ w'.heap[k]? = w.heap[k]?) {x : AV} {u : Value} (hs : ∀ b, b ∈ x.ids → Same ι H ι' H' b) (h : VR g ι H w x u) : VR g ι' H' w' x u := by
  have hm : Moves g ι H w ι' H' w' := Moves.of hk
  cases x with
  | e x => exact ER.move hm hs h
  | pt b i o =>
    intro B' hB'
    obtain ⟨B, hB, _, hwd, hi⟩ := hs b (by simp [AV.ids]) B' hB'
    obtain ⟨g, c, h1, h2⟩ := h B hB
    exact ⟨g, c, hi ▸ h1, hwd ▸ h2⟩
  | bo p q => exact h
  | fv f b =>
    intro B' hB'
    obtain ⟨B, hB, _, _, hi⟩ := hs b (by simp [AV.ids]) B' hB'
    obtain ⟨g, c, h1, h2⟩ := h B hB
    exact ⟨g, c, hi ▸ h1, h2⟩
  | ip r o =>
    obtain ⟨k, p, hr, e⟩ := h
    exact ⟨k, p, hr.move (OkF.up hk false), e⟩
  | tup xs =>
    obtain ⟨vs, e, hl, h⟩ := h
    exact ⟨vs, e, hl, fun j x hj => let ⟨y, hy, hx⟩ := h j x hj; ⟨y, hy, hx.move hm fun b hb => hs b (List.mem_flatMap.2 ⟨x, List.mem_of_getElem? hj, hb⟩)⟩⟩
  | un => trivial
theorem BR.move (hk : ∀ k, Ok ι H w k → Ok ι' H' w' k ∧ w'.heap[k]? = w.heap[k]?) {B : Blk} {at_ : Option (Nat × Nat)} (hs : ∀ b, b ∈ B.ids → Same ι H ι' H' b) (hb : ∀ k c, at_ = some (k, c) → w'.heap[k]? = w.heap[k]?) (h : BR g ι H w at_ B) : BR g ι' H' w' at_ B := by
  have hm : Moves g ι H w ι' H' w' := Moves.of hk
  cases B with
  | box cs =>
    obtain ⟨k, c, e, vs, ty, hh, hl, hc⟩ := h
    exact ⟨k, c, e, vs, ty, (hb k c e).trans hh, hl, hc.move hm hs⟩
  | row wd e rows f nf =>
    obtain ⟨h0, h1, h⟩ := h
    refine ⟨h0, h1, ?_⟩
    match at_, h, hb with
    | none, h, _ => exact h
    | some (k, c), ⟨cs, hh, h2, h3, h4, hn, h5⟩, hb => exact ⟨cs, (hb k c rfl).trans hh, h2, h3, h4, hn, fun i r j d hi hj => let ⟨u, hu, ht⟩ := h5 i r j d hi hj; ⟨u, hu, hm _ _ _ ht⟩⟩
end move
def Fresh (T : Tm) (H : Hp) (b : Nat) : Prop := (∀ t x, T t = some x → b ∉ x.ids) ∧ (∀ b' B, H b' = some B → b ∉ B.ids) ∧ 64 ≤ b
/-- A STEP OF THE WORLD: the blocks M (writable ones of ours) may turn, new ones may come. -/
theorem Rel.next {N : Nat} {κ : Nat → Value} {w0 : World} {S : Wr} {ι : Nm} {T : Tm} {H : Hp} {a : Act} {w : World} (h : Rel N κ w0 S ι T H a w) {w' : World} {ι' : Nm} {H' : Hp} (M : Nat → Prop) (hk : Kept M w w')
    (hM : ∀ k, M k → k < w.heap.size → ∃ b B c, H b = some B ∧ B.wr = true ∧ ι b = some (k, c))
    (hid : ∀ b, Same ι H ι' H' b ∨ Fresh T H b)
    (hcl : ∀ b B k c, H' b = some B → ι' b = some (k, c) → (∃ B0 c0, H b = some B0 ∧ (B.wr = true → B0.wr = true) ∧ ι b = some (k, c0)) ∨ (M k ∨ w.heap.size ≤ k) ∧ (w0.heap.size ≤ k ∨ S.p k))
    (hinj : ∀ b b' B B' k c c', H' b = some B → H' b' = some B' → ι' b = some (k, c) → ι' b' = some (k, c') → b = b')
    (hnew : (∀ k, Ok ι H w k → Ok ι' H' w' k ∧ w'.heap[k]? = w.heap[k]?) → ∀ b B, H' b = some B → (H b = some B ∧ ι' b = ι b ∧ ∀ k c, ι b = some (k, c) → ¬ M k) ∨ BR ⟨κ, S.fr⟩ ι' H' w' (ι' b) B) (hio : ∀ b, b < 64 → ι' b = ι b := by intro b hb; rfl) :
    Rel N κ w0 S ι' T H' a w' ∧ ∀ k, Ok ι H w k → Ok ι' H' w' k ∧ w'.heap[k]? = w.heap[k]? := by
  have hown : ∀ k, M k → k < w.heap.size → w0.heap.size ≤ k ∨ S.p k := fun k hm hl => let ⟨b, B, c, h1, _, h2⟩ := hM k hm hl; h.own b B k c h1 h2
  have hok : ∀ k, Ok ι H w k → Ok ι' H' w' k ∧ w'.heap[k]? = w.heap[k]? := by
    intro k ⟨hl, hw⟩
    have hnm : ¬ M k := fun hm => let ⟨b, B, c, h1, h2, h3⟩ := hM k hm hl; hw b B c h1 h2 h3
    refine ⟨⟨Nat.lt_of_lt_of_le hl hk.size, fun b B c hB hwr hi => ?_⟩, hk.block k hl hnm⟩
    rcases hcl b B k c hB hi with ⟨B0, c0, h1, h2, h3⟩ | ⟨hm | hn, _⟩
    · exact hw b B0 c0 h1 (h2 hwr) h3
    · exact hnm hm
    · omega
  refine ⟨⟨?_, h.new, ?_, hinj, ?_, h.size, h.dfr, fun b hb => (hio b hb).trans (h.io b hb), ?_⟩, hok⟩
  · refine h.kept.trans hk fun k hm => ?_
    rcases Nat.lt_or_ge k w.heap.size with hl | hl
    · rcases hown k hm hl with h1 | h1
      · exact .inr h1
      · exact .inl h1
    · exact .inr (Nat.le_trans h.kept.size hl)
  · intro b B hB
    rcases hnew hok b B hB with ⟨h1, h2, h3⟩ | hn
    · rw [h2]
      refine BR.move hok (fun b' hb' => (hid b').resolve_right fun hf => hf.2.1 b B h1 hb') (fun k c hi => ?_) (h.blk b B h1)
      have hbr := h.blk b B h1
      rw [hi] at hbr
      exact hk.block k hbr.lt (h3 k c hi)
    · exact hn
  · intro b B k c hB hi
    rcases hcl b B k c hB hi with ⟨B0, c0, h1, _, h3⟩ | ⟨_, h2⟩
    · exact h.own b B0 k c0 h1 h3
    · exact h2
  · intro t x hx
    exact VR.move hok (fun b hb => (hid b).resolve_right fun hf => hf.1 t x hx hb) (h.tmp t x hx)
def Tm.put (T : Tm) (t : Nat) (x : AV) : Tm := fun n => if n = t then some x else T n
def Hp.put (H : Hp) (b : Nat) (B : Option Blk) : Hp := fun n => if n = b then B else H n
def Nm.put (ι : Nm) (b : Nat) (g : Option (Nat × Nat)) : Nm := fun n => if n = b then g else ι n
theorem Rel.put {N : Nat} {κ : Nat → Value} {w0 : World} {S : Wr} {ι : Nm} {T : Tm} {H : Hp} {a : Act} {w : World} (h : Rel N κ w0 S ι T H a w) {t : Nat} {x : AV} {v : Value} (ht : t < N) (hx : VR ⟨κ, S.fr⟩ ι H w x v) : Rel N κ w0 S ι (T.put t x) H (a.put (some t) v) w := by
  refine ⟨h.kept, h.new, h.blk, h.inj, h.own, by simpa [Act.put] using h.size, h.dfr, h.io, fun s y hs => ?_⟩
  unfold Tm.put at hs
  have ht' : t < a.tmps.size := by rw [h.size]; exact ht
  by_cases he : s = t
  · subst he
    rw [if_pos rfl] at hs
    cases hs
    simpa [Act.put, Array.getD_eq_getD_getElem?, ht'] using hx
  · rw [if_neg he] at hs
    have := h.tmp s y hs
    simpa [Act.put, Array.getD_eq_getD_getElem?, Array.getElem?_setIfInBounds_ne (Ne.symm he)] using this
/-- What is known may be forgotten. -/
theorem Rel.less {N : Nat} {κ : Nat → Value} {w0 : World} {S : Wr} {ι : Nm} {T T' : Tm} {H H' : Hp} {a : Act} {w : World} (h : Rel N κ w0 S ι T H a w) (hT : ∀ t x, T' t = some x → T t = some x) (hH : ∀ b B, H' b = some B → H b = some B) : Rel N κ w0 S ι T' H' a w := by
  have hok : ∀ k, Ok ι H w k → Ok ι H' w k ∧ w.heap[k]? = w.heap[k]? := fun k hk => ⟨⟨hk.1, fun b B c hB hw => hk.2 b B c (hH b B hB) hw⟩, rfl⟩
  have hs : ∀ b, Same ι H ι H' b := fun b B hB => ⟨B, hH b B hB, rfl, rfl, rfl⟩
  exact ⟨h.kept, h.new, fun b B hB => BR.move hok (fun b _ => hs b) (fun _ _ _ => rfl) (h.blk b B (hH b B hB)), fun b b' B B' k c c' h1 h2 => h.inj b b' B B' k c c' (hH _ _ h1) (hH _ _ h2), fun b B k c h1 => h.own b B k c (hH _ _ h1), h.size, h.dfr, h.io,
    fun t x hx => VR.move hok (fun b _ => hs b) (h.tmp t x (hT t x hx))⟩
end Go.Proofs.YtpegmlbbeookbaaGreat.Av
