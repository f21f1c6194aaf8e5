/-
What a walk knows, told without memory: values as trees of data, the blocks of the call's own by names of ours; and the relation of that to frames and worlds.
Conditions: none beside those that each theorem names.
-/
import Derived.WalkKit
import Derived.Deep.MidRow
set_option linter.unusedVariables false
namespace Go.Proofs.Ytggmeldoecnkaaa.Av
open Go.RowKit

/-- Data: a number, a text, a bool; a slice as its rows of cells. -/
inductive D where
  | v (x : Value)
  | sl (rows : List (List D))
/-- What a value reads as; its blocks are ok ones. -/
inductive TR (w : World) (ok : Nat → Prop) : D → Value → Prop
  | v (x : Value) (h : x.oneCell' = true) : TR w ok (.v x) x
  | nil (A : Option Addr) (c : Nat) : TR w ok (.sl []) (.slice A 0 c)
  | row (rows : List (List D)) (wd k o c : Nat) (cs : Array Value) (ty : TypeId) (fr : Nat × Nat) (u : Nat → Nat → Value)
      (hc : rows.length ≤ c) (hk : ok k) (hb : w.heap[k]? = some (.cells cs ty fr))
      (hu : ∀ i j, i < rows.length → j < wd → cs[o + (i * wd + j)]? = some (u i j))
      (hw : ∀ (i : Nat) (r : List D), rows[i]? = some r → r.length = wd)
      (hv : ∀ (i : Nat) (r : List D) (j : Nat) (d : D), rows[i]? = some r → r[j]? = some d → TR w ok d (u i j)) : TR w ok (.sl rows) (.slice (some ⟨k, o, none⟩) rows.length c)
theorem TR.move {w w' : World} {ok ok' : Nat → Prop} (h : ∀ k, ok k → ok' k ∧ w'.heap[k]? = w.heap[k]?) {d : D} {v : Value} (t : TR w ok d v) : TR w' ok' d v := by
  induction t with
  | v x hx => exact .v x hx
  | nil A c => exact .nil A c
  | row rows wd k o c cs ty fr u hc hk hb hu hw hv ih => exact .row rows wd k o c cs ty fr u hc (h k hk).1 ((h k hk).2.trans hb) hu hw ih
theorem TR.slice {w : World} {ok : Nat → Prop} {rows : List (List D)} {v : Value} (t : TR w ok (.sl rows) v) : ∃ A c, v = .slice A rows.length c ∧ rows.length ≤ c := by
  cases t with
  | nil A c => exact ⟨A, c, rfl, Nat.zero_le _⟩
  | row _ wd k o c cs ty fr u hc hk hb hu hw hv => exact ⟨_, c, rfl, hc⟩
/-- A run of cells in a block that is only read. -/
def Run (w : World) (ok : Nat → Prop) (k o : Nat) (r : List D) : Prop := ok k ∧ ∃ cs ty fr, w.heap[k]? = some (.cells cs ty fr) ∧ ∀ (j : Nat) (d : D), r[j]? = some d → ∃ x, cs[o + j]? = some x ∧ TR w ok d x
theorem TR.at_ {w : World} {ok : Nat → Prop} {rows : List (List D)} {A : Option Addr} {n c : Nat} (t : TR w ok (.sl rows) (.slice A n c)) {i : Nat} {r : List D} (h : rows[i]? = some r) :
    ∃ k o, A = some ⟨k, o, none⟩ ∧ Run w ok k (o + i * r.length) r := by
  cases t with
  | nil A c => cases h
  | row _ wd k o c cs ty fr u hc hk hb hu hw hv =>
    have hi : i < rows.length := (List.getElem?_eq_some_iff.1 h).1
    refine ⟨k, o, rfl, hk, cs, ty, fr, hb, fun j d hj => ⟨u i j, ?_, hv i r j d h hj⟩⟩
    have hl := hw i r h
    have hjl : j < r.length := (List.getElem?_eq_some_iff.1 hj).1
    rw [hl, Nat.add_assoc]
    exact hu i j hi (by omega)
theorem Run.move {w w' : World} {ok ok' : Nat → Prop} (h : ∀ k, ok k → ok' k ∧ w'.heap[k]? = w.heap[k]?) {k o : Nat} {r : List D} (t : Run w ok k o r) : Run w' ok' k o r := by
  obtain ⟨hk, cs, ty, fr, hb, hc⟩ := t
  exact ⟨(h k hk).1, cs, ty, fr, (h k hk).2.trans hb, fun j d hj => let ⟨x, hx, ht⟩ := hc j d hj; ⟨x, hx, ht.move h⟩⟩

/-- A cell: data; data in blocks of the call's own; data whose value itself has a name; a slice of the call's own, by its block's name; the slice without a block. -/
inductive Cell where
  | d (x : D)
  | f (x : D)
  | k (j : Nat) (x : D)
  | ref (b : Nat)
  | nil
inductive E where
  | c (x : Cell)
  | agg (cs : List Cell)
/-- What a slot of the frame holds. -/
inductive AV where
  | e (x : E)
  | pt (b i o : Nat)
  | ip (r : List D) (o : Nat)
  | tup (xs : List E)
  | fv (f b : Nat)
  | bo (p q : Prop)
  | un
/-- A box; a row of data; a row whose inner slices are its own (nst: of column j the inner rows' width and type; and which cells hold a slice that has a name itself). -/
inductive Blk where
  | box (cs : List Cell)
  | row (wd : Nat) (e : TypeId) (rows : List (List D)) (frz nf : Bool)
  | nst (wd : Nat) (e : TypeId) (co : List (Nat × Nat × TypeId)) (rows : List (List D)) (op : List (Nat × Nat × Nat))
def Blk.wr : Blk → Bool
  | .box _ => true
  | .row _ _ _ f _ => !f
  | .nst _ _ _ _ _ => true
def Blk.shape : Blk → Bool × Nat × Nat
  | .box cs => (true, cs.length, 1)
  | .row wd _ rows _ _ => (false, wd, rows.length)
  | .nst wd _ _ rows _ => (false, wd, rows.length)
def Blk.wd : Blk → Nat
  | .box cs => 0
  | .row wd _ _ _ _ => wd
  | .nst wd _ _ _ _ => wd
def Cell.ids : Cell → List Nat
  | .ref b => [b]
  | _ => []
def E.ids : E → List Nat
  | .c x => x.ids
  | .agg cs => cs.flatMap Cell.ids
def AV.ids : AV → List Nat
  | .e x => x.ids
  | .pt b _ _ => [b]
  | .fv _ b => [b]
  | .tup xs => xs.flatMap E.ids
  | _ => []
def Blk.ids : Blk → List Nat
  | .box cs => cs.flatMap Cell.ids
  | .nst _ _ _ _ op => op.map (·.2.2)
  | _ => []
abbrev Tm := Nat → Option AV
abbrev Hp := Nat → Option Blk
/-- How many a block has room for, and which further blocks are its own. -/
structure Cp where
  n : Nat
  m : Nat → Prop
instance : Coe Cp Nat := ⟨Cp.n⟩
def cp (n : Nat) : Cp := ⟨n, fun _ => False⟩
abbrev Nm := Nat → Option (Nat × Cp)
def Blk.isN : Blk → Bool
  | .nst _ _ _ _ _ => true
  | _ => false
def Owns (B : Blk) (x : Nat × Cp) (k : Nat) : Prop := k = x.1 ∨ B.isN = true ∧ x.2.m k
theorem Owns.one {B : Blk} (h : B.isN = false) {x : Nat × Cp} {k : Nat} (ho : Owns B x k) : k = x.1 := ho.elim id fun h' => by rw [h] at h'; cases h'.1
theorem Owns.pair {B : Blk} (h : B.isN = false) {k0 : Nat} {c : Cp} {k : Nat} (ho : Owns B (k0, c) k) : k = k0 := ho.one h
theorem Owns.up {B B' : Blk} (h : B'.isN = true → B.isN = true) {x : Nat × Cp} {k : Nat} (ho : Owns B' x k) : Owns B x k := ho.imp id fun p => ⟨h p.1, p.2⟩
/-- The block alone. -/
def key (x : Option (Nat × Cp)) : Option (Nat × Nat) := x.map fun p => (p.1, p.2.n)
theorem key_at {x y : Option (Nat × Cp)} (h : key y = key x) {k : Nat} {c : Cp} (hx : x = some (k, c)) : ∃ c', y = some (k, c') := by
  subst hx
  cases y with
  | none => cases h
  | some p =>
    obtain ⟨k', c'⟩ := p
    simp [key] at h
    exact ⟨c', by rw [h.1]⟩
/-- Blocks that nobody writes: what is read lies in these. -/
def Ok (ι : Nm) (H : Hp) (w : World) (k : Nat) : Prop := k < w.heap.size ∧ ∀ b B x, H b = some B → B.wr = true → ι b = some x → ¬ Owns B x k
theorem Ok.ne {ι : Nm} {H : Hp} {w : World} {k : Nat} (h : Ok ι H w k) {b : Nat} {B : Blk} {c : Cp} (hB : H b = some B) (hw : B.wr = true) (hi : ι b = some (k, c)) : False := h.2 b B _ hB hw hi (.inl rfl)
def RefV (g : Option (Nat × Nat)) (n : Nat) (u : Value) : Prop := match g with | none => n = 0 ∧ u = .slice none 0 0 | some (g, c) => u = .slice (some ⟨g, 0, none⟩) n c
/-- What the walk's names stand for: kept values, and where the call's own blocks begin. -/
structure Env where
  κ : Nat → Value
  fr : Nat → Prop
def OkF (g : Env) (nf : Bool) (ι : Nm) (H : Hp) (w : World) (k : Nat) : Prop := Ok ι H w k ∧ (nf = true → g.fr k)
def CR (g : Env) (ι : Nm) (H : Hp) (w : World) : Cell → Value → Prop
  | .d x, u => TR w (OkF g false ι H w) x u
  | .f x, u => TR w (OkF g true ι H w) x u
  | .k j x, u => u = g.κ j ∧ TR w (OkF g false ι H w) x u
  | .nil, u => u = .slice none 0 0
  | .ref b, u => ∀ B, H b = some B → ∃ wd n, B.shape = (false, wd, n) ∧ RefV (key (ι b)) n u
def CsR (g : Env) (ι : Nm) (H : Hp) (w : World) (cs : List Cell) (vs : Nat → Option Value) : Prop := ∀ (j : Nat) (c : Cell), cs[j]? = some c → ∃ u, vs j = some u ∧ CR g ι H w c u
def ER (g : Env) (ι : Nm) (H : Hp) (w : World) : E → Value → Prop
  | .c x, u => CR g ι H w x u
  | .agg cs, u => ∃ vs : Array Value, u = .agg vs ∧ vs.size = cs.length ∧ CsR g ι H w cs (fun j => vs[j]?)
def VR (g : Env) (ι : Nm) (H : Hp) (w : World) : AV → Value → Prop
  | .e x, u => ER g ι H w x u
  | .pt b i o, u => ∀ B, H b = some B → ∃ k c, ι b = some (k, c) ∧ u = .pointer (some ⟨k, i * B.wd + o, none⟩)
  | .ip r o, u => ∃ k p, Run w (OkF g false ι H w) k p r ∧ u = .pointer (some ⟨k, p + o, none⟩)
  | .fv f b, u => ∀ B, H b = some B → ∃ k c, ι b = some (k, c) ∧ u = .func (.func f) #[] #[.pointer (some ⟨k, 0, none⟩)]
  | .bo p q, u => ∃ b : Bool, u = .bool b ∧ (b = true → p) ∧ (b = false → q)
  | .tup xs, u => ∃ vs : Array Value, u = .tuple vs ∧ vs.size = xs.length ∧ ∀ (j : Nat) (x : E), xs[j]? = some x → ∃ y, vs[j]? = some y ∧ ER g ι H w x y
  | .un, _ => True
/-- An inner slice of its owner's own: flat rows in a block by itself. -/
structure InR (g : Env) (w : World) (k : Nat) (c : Cp) (wd : Nat) (ty : TypeId) (q : List (List D)) (k' cap : Nat) : Prop where
  pos : 0 < wd
  len : ∀ (i : Nat) (r : List D), q[i]? = some r → r.length = wd
  own : c.m k'
  ne : k' ≠ k
  fr : g.fr k'
  le : q.length ≤ cap
  max : cap ≤ maxLen
  blk : ∃ cs, w.heap[k']? = some (.cells cs ty (0, 0)) ∧ cs.size = cap * wd ∧ ∀ (i : Nat) (r : List D) (j : Nat) (d : D), q[i]? = some r → r[j]? = some d → ∃ x, d = .v x ∧ x.oneCell' = true ∧ cs[i * wd + j]? = some x
def lk {β : Type} : List (Nat × β) → Nat → Option β
  | [], _ => none
  | (k, v) :: l, n => match Nat.beq n k with
    | true => some v
    | false => lk l n
/-- A cell of such a row, what a hole of it holds. -/
def ND (g : Env) (w : World) (k : Nat) (c : Cp) (co : List (Nat × Nat × TypeId)) (j : Nat) : D → Value → Prop
  | .v x, u => u = x ∧ x.oneCell' = true
  | .sl q, u => (u = .slice none 0 0 ∧ q = []) ∨ ∃ wd ty k' cap, lk co j = some (wd, ty) ∧ u = .slice (some ⟨k', 0, none⟩) q.length cap ∧ InR g w k c wd ty q k' cap
def hole : List (Nat × Nat × Nat) → Nat → Nat → Option Nat
  | [], _, _ => none
  | (i', j', b) :: l, i, j => match Nat.beq j' j with
    | true => match Nat.beq i' i with
      | true => some b
      | false => hole l i j
    | false => hole l i j
theorem nbf0 {n k : Nat} (h : n ≠ k) : Nat.beq n k = false := by
  cases hb : Nat.beq n k with
  | false => rfl
  | true => exact absurd (Nat.eq_of_beq_eq_true hb) h
theorem hole_cons {i' j' b : Nat} {l : List (Nat × Nat × Nat)} {i j : Nat} : hole ((i', j', b) :: l) i j = if i' = i ∧ j' = j then some b else hole l i j := by
  show (match Nat.beq j' j with | true => (match Nat.beq i' i with | true => some b | false => hole l i j) | false => hole l i j) = _
  by_cases hj : j' = j
  · subst hj
    rw [Nat.beq_refl]
    by_cases hi : i' = i
    · subst hi
      rw [Nat.beq_refl, if_pos ⟨rfl, rfl⟩]
    · rw [nbf0 hi, if_neg (fun h => hi h.1)]
  · rw [nbf0 hj, if_neg (fun h => hj h.2)]
theorem hole_mem {i j b : Nat} : ∀ {op : List (Nat × Nat × Nat)}, hole op i j = some b → (i, j, b) ∈ op
  | (i', j', b') :: l, h => by
    rw [hole_cons] at h
    split at h
    · rename_i hh
      obtain ⟨rfl, rfl⟩ := hh
      cases h
      exact List.mem_cons_self
    · exact List.mem_cons_of_mem _ (hole_mem h)
def NC (g : Env) (ι : Nm) (H : Hp) (w : World) (k : Nat) (c : Cp) (co : List (Nat × Nat × TypeId)) (j : Nat) (h : Option Nat) (d : D) (u : Value) : Prop := match h with
  | some b => CR g ι H w (.ref b) u
  | none => ND g w k c co j d u
/-- What a block of ours holds. -/
def BR (g : Env) (ι : Nm) (H : Hp) (w : World) (at_ : Option (Nat × Cp)) : Blk → Prop
  | .box cs => ∃ k c, at_ = some (k, c) ∧ ∃ vs ty, w.heap[k]? = some (.cells vs ty (0, 0)) ∧ vs.size = cs.length ∧ CsR g ι H w cs (fun j => vs[j]?)
  | .row wd e rows f nf => 0 < wd ∧ (∀ (i : Nat) (r : List D), rows[i]? = some r → r.length = wd) ∧
    match at_ with
    | none => rows = []
    | some (k, c) => ∃ cs, w.heap[k]? = some (.cells cs e (0, 0)) ∧ rows.length ≤ c ∧ c ≤ maxLen ∧ cs.size = c * wd ∧ (nf = true → g.fr k) ∧
        ∀ (i : Nat) (r : List D) (j : Nat) (d : D), rows[i]? = some r → r[j]? = some d → ∃ u, cs[i * wd + j]? = some u ∧ TR w (OkF g nf ι H w) d u
  | .nst wd e co rows op => 0 < wd ∧ (∀ (i : Nat) (r : List D), rows[i]? = some r → r.length = wd) ∧
    match at_ with
    | none => rows = []
    | some (k, c) => ∃ cs, w.heap[k]? = some (.cells cs e (0, 0)) ∧ rows.length ≤ c ∧ c ≤ maxLen ∧ cs.size = c * wd ∧ g.fr k ∧ (∀ k', c.m k' → k' < w.heap.size) ∧
        (∀ (i : Nat) (r : List D) (j : Nat) (d : D), rows[i]? = some r → r[j]? = some d → ∃ u, cs[i * wd + j]? = some u ∧ NC g ι H w k c co j (hole op i j) d u) ∧
        ∀ (i j i' j' : Nat) (r r' : List D) (q q' : List (List D)) (k' n n' z z' : Nat), rows[i]? = some r → r[j]? = some (.sl q) → hole op i j = none → rows[i']? = some r' → r'[j']? = some (.sl q') → hole op i' j' = none →
          cs[i * wd + j]? = some (.slice (some ⟨k', 0, none⟩) n z) → cs[i' * wd + j']? = some (.slice (some ⟨k', 0, none⟩) n' z') → i = i' ∧ j = j'
/-- What a world keeps: all but the blocks M. -/
structure Kept (M : Nat → Prop) (w w' : World) : Prop where
  os : w'.os = w.os
  tape : w'.tape = w.tape
  output : w'.output = w.output
  size : w.heap.size ≤ w'.heap.size
  block : ∀ k, k < w.heap.size → ¬ M k → w'.heap[k]? = w.heap[k]?
theorem Kept.refl (M : Nat → Prop) (w : World) : Kept M w w := ⟨rfl, rfl, rfl, Nat.le_refl _, fun _ _ _ => rfl⟩
theorem Kept.trans {M M' : Nat → Prop} {w w1 w2 : World} (h : Kept M w w1) (k : Kept M' w1 w2) (hM : ∀ k, M' k → M k ∨ w.heap.size ≤ k) : Kept M w w2 :=
  ⟨k.os.trans h.os, k.tape.trans h.tape, k.output.trans h.output, Nat.le_trans h.size k.size, fun i hi hn => (k.block i (Nat.lt_of_lt_of_le hi h.size) (fun hm => (hM i hm).elim hn (by omega))).trans (h.block i hi hn)⟩
theorem Kept.below {w w' : World} (h : Kept (fun _ => False) w w') : Below w.heap.size w w' := ⟨h.os, h.tape, h.output, h.size, fun k hk => h.block k hk id⟩
theorem Kept.ofBelow {w w' : World} (h : Below w.heap.size w w') (M : Nat → Prop) : Kept M w w' := ⟨h.os, h.tape, h.output, h.size, fun k hk _ => h.block k hk⟩
theorem Kept.mono {M M' : Nat → Prop} {w w' : World} (h : Kept M w w') (hM : ∀ k, M k → M' k) : Kept M' w w' := ⟨h.os, h.tape, h.output, h.size, fun k hk hn => h.block k hk fun hm => hn (hM k hm)⟩

/-- No block has two owners; whose a block is. -/
def InjN (ι : Nm) (H : Hp) : Prop := ∀ b b' B B' x x' k, H b = some B → H b' = some B' → ι b = some x → ι b' = some x' → Owns B x k → Owns B' x' k → b = b'
def OwnN (ι : Nm) (H : Hp) (k : Nat) : Prop := ∃ b B x, H b = some B ∧ ι b = some x ∧ Owns B x k
/-- The blocks of the call's begin that may be written, and the names that stay as they are (those below 64). -/
structure Wr where
  p : Nat → Prop
  ι0 : Nm
  fr : Nat → Prop
/-- THE RELATION: N slots, the world w0 at the call's begin, S the blocks of w0 that may be written. -/
structure Rel (N : Nat) (κ : Nat → Value) (w0 : World) (S : Wr) (ι : Nm) (T : Tm) (H : Hp) (a : Act) (w : World) : Prop where
  kept : Kept S.p w0 w
  new : ∀ k, w0.heap.size ≤ k → S.fr k
  blk : ∀ b B, H b = some B → BR ⟨κ, S.fr⟩ ι H w (ι b) B
  injO : InjN ι H
  ownO : ∀ b B x k, H b = some B → ι b = some x → Owns B x k → w0.heap.size ≤ k ∨ S.p k
  size : a.tmps.size = N
  dfr : a.defers = []
  io : ∀ b, b < 64 → key (ι b) = key (S.ι0 b)
  tmp : ∀ t x, T t = some x → VR ⟨κ, S.fr⟩ ι H w x (a.tmps.getD t undef)

theorem Rel.inj {N : Nat} {κ : Nat → Value} {w0 : World} {S : Wr} {ι : Nm} {T : Tm} {H : Hp} {a : Act} {w : World} (h : Rel N κ w0 S ι T H a w) (b b' : Nat) (B B' : Blk) (k : Nat) (c c' : Cp) (h1 : H b = some B) (h2 : H b' = some B') (h3 : ι b = some (k, c)) (h4 : ι b' = some (k, c')) : b = b' := h.injO b b' B B' _ _ k h1 h2 h3 h4 (.inl rfl) (.inl rfl)
theorem Rel.own {N : Nat} {κ : Nat → Value} {w0 : World} {S : Wr} {ι : Nm} {T : Tm} {H : Hp} {a : Act} {w : World} (h : Rel N κ w0 S ι T H a w) (b : Nat) (B : Blk) (k : Nat) (c : Cp) (h1 : H b = some B) (h2 : ι b = some (k, c)) : w0.heap.size ≤ k ∨ S.p k := h.ownO b B _ k h1 h2 (.inl rfl)
theorem BR.lt {g : Env} {ι : Nm} {H : Hp} {w : World} {B : Blk} {k : Nat} {c : Cp} (h : BR g ι H w (some (k, c)) B) : k < w.heap.size := by
  cases B with
  | box cs =>
    obtain ⟨k', c', e, vs, ty, hb, _⟩ := h
    cases e
    exact (Array.getElem?_eq_some_iff.1 hb).1
  | row wd e rows f nf =>
    obtain ⟨_, _, cs, hb, _⟩ := h
    exact (Array.getElem?_eq_some_iff.1 hb).1
  | nst wd e co rows op =>
    obtain ⟨_, _, cs, hb, _⟩ := h
    exact (Array.getElem?_eq_some_iff.1 hb).1
/-- The name b stands for what it stood for, or for nothing any more. -/
def Same (ι : Nm) (H : Hp) (ι' : Nm) (H' : Hp) (b : Nat) : Prop := ∀ B', H' b = some B' → ∃ B, H b = some B ∧ B.shape = B'.shape ∧ B.wd = B'.wd ∧ key (ι' b) = key (ι b)
section move
variable {g : Env} {ι ι' : Nm} {H H' : Hp} {w w' : World}
abbrev Moves (g : Env) (ι : Nm) (H : Hp) (w : World) (ι' : Nm) (H' : Hp) (w' : World) : Prop := ∀ nf d v, TR w (OkF g nf ι H w) d v → TR w' (OkF g nf ι' H' w') d v
theorem OkF.up (hk : ∀ k, Ok ι H w k → Ok ι' H' w' k ∧ w'.heap[k]? = w.heap[k]?) (nf : Bool) : ∀ k, OkF g nf ι H w k → OkF g nf ι' H' w' k ∧ w'.heap[k]? = w.heap[k]? := fun k h => ⟨⟨(hk k h.1).1, h.2⟩, (hk k h.1).2⟩
theorem Moves.of (hk : ∀ k, Ok ι H w k → Ok ι' H' w' k ∧ w'.heap[k]? = w.heap[k]?) : Moves g ι H w ι' H' w' := fun nf d v t => t.move (OkF.up hk nf)
theorem CR.move (hm : Moves g ι H w ι' H' w') {c : Cell} {u : Value} (hs : ∀ b, b ∈ c.ids → Same ι H ι' H' b) (h : CR g ι H w c u) : CR g ι' H' w' c u := by
  cases c with
  | d x => exact hm _ _ _ h
  | f x => exact hm _ _ _ h
  | k j x => exact ⟨h.1, hm _ _ _ h.2⟩
  | nil => exact h
  | ref b =>
    intro B' hB'
    obtain ⟨B, hB, hsh, _, hi⟩ := hs b (by simp [Cell.ids]) B' hB'
    obtain ⟨wd, n, h1, h2⟩ := h B hB
    exact ⟨wd, n, hsh ▸ h1, hi ▸ h2⟩
theorem CsR.move (hm : Moves g ι H w ι' H' w') {cs : List Cell} {vs : Nat → Option Value} (hs : ∀ b, b ∈ cs.flatMap Cell.ids → Same ι H ι' H' b) (h : CsR g ι H w cs vs) : CsR g ι' H' w' cs vs := fun j c hj =>
  let ⟨u, hu, hc⟩ := h j c hj
  ⟨u, hu, hc.move hm fun b hb => hs b (List.mem_flatMap.2 ⟨c, List.mem_of_getElem? hj, hb⟩)⟩
theorem ER.move (hm : Moves g ι H w ι' H' w') {x : E} {u : Value} (hs : ∀ b, b ∈ x.ids → Same ι H ι' H' b) (h : ER g ι H w x u) : ER g ι' H' w' x u := by
  cases x with
  | c x => exact CR.move hm hs h
  | agg cs =>
    obtain ⟨vs, e, hl, h⟩ := h
    exact ⟨vs, e, hl, CsR.move hm hs h⟩
theorem VR.move (hk : ∀ k, Ok ι H w k → Ok ι' H' w' k ∧ w'.heap[k]? = w.heap[k]?) {x : AV} {u : Value} (hs : ∀ b, b ∈ x.ids → Same ι H ι' H' b) (h : VR g ι H w x u) : VR g ι' H' w' x u := by
  have hm : Moves g ι H w ι' H' w' := Moves.of hk
  cases x with
  | e x => exact ER.move hm hs h
  | pt b i o =>
    intro B' hB'
    obtain ⟨B, hB, _, hwd, hi⟩ := hs b (by simp [AV.ids]) B' hB'
    obtain ⟨g, c, h1, h2⟩ := h B hB
    obtain ⟨c', hc'⟩ := key_at hi h1
    exact ⟨g, c', hc', hwd ▸ h2⟩
  | bo p q => exact h
  | fv f b =>
    intro B' hB'
    obtain ⟨B, hB, _, _, hi⟩ := hs b (by simp [AV.ids]) B' hB'
    obtain ⟨g, c, h1, h2⟩ := h B hB
    obtain ⟨c', hc'⟩ := key_at hi h1
    exact ⟨g, c', hc', h2⟩
  | ip r o =>
    obtain ⟨k, p, hr, e⟩ := h
    exact ⟨k, p, hr.move (OkF.up hk false), e⟩
  | tup xs =>
    obtain ⟨vs, e, hl, h⟩ := h
    exact ⟨vs, e, hl, fun j x hj => let ⟨y, hy, hx⟩ := h j x hj; ⟨y, hy, hx.move hm fun b hb => hs b (List.mem_flatMap.2 ⟨x, List.mem_of_getElem? hj, hb⟩)⟩⟩
  | un => trivial
theorem heap_lt {w w' : World} {k : Nat} (h : w'.heap[k]? = w.heap[k]?) (hl : k < w.heap.size) : k < w'.heap.size := by
  rw [Array.getElem?_eq_getElem hl] at h
  exact (Array.getElem?_eq_some_iff.1 h).1
theorem InR.move {g : Env} {w w' : World} {k wd : Nat} {c : Cp} {ty : TypeId} {q : List (List D)} {k' cap : Nat} (h : InR g w k c wd ty q k' cap) (e : w'.heap[k']? = w.heap[k']?) : InR g w' k c wd ty q k' cap :=
  ⟨h.pos, h.len, h.own, h.ne, h.fr, h.le, h.max, let ⟨cs, h1, h2⟩ := h.blk; ⟨cs, e.trans h1, h2⟩⟩
theorem ND.move {k : Nat} {c : Cp} {co : List (Nat × Nat × TypeId)} {j : Nat} (hb : ∀ k', c.m k' → w'.heap[k']? = w.heap[k']?) {d : D} {u : Value} (h : ND g w k c co j d u) : ND g w' k c co j d u := by
  match d, h with
  | .v x, h => exact h
  | .sl q, .inl h => exact .inl h
  | .sl q, .inr ⟨wd, ty, k', cap, h1, h2, h3⟩ => exact .inr ⟨wd, ty, k', cap, h1, h2, h3.move (hb k' h3.own)⟩
theorem ND.env {g' : Env} {k : Nat} {c : Cp} {co : List (Nat × Nat × TypeId)} {j : Nat} (hf : ∀ k', c.m k' → g.fr k' → g'.fr k') {d : D} {u : Value} (h : ND g w k c co j d u) : ND g' w k c co j d u := by
  match d, h with
  | .v x, h => exact h
  | .sl q, .inl h => exact .inl h
  | .sl q, .inr ⟨wd, ty, k', cap, h1, h2, h3⟩ => exact .inr ⟨wd, ty, k', cap, h1, h2, h3.pos, h3.len, h3.own, h3.ne, hf k' h3.own h3.fr, h3.le, h3.max, h3.blk⟩
theorem NC.move (hm : Moves g ι H w ι' H' w') {k : Nat} {c : Cp} {co : List (Nat × Nat × TypeId)} {j : Nat} (hb : ∀ k', c.m k' → w'.heap[k']? = w.heap[k']?) {x : Option Nat} {d : D} {u : Value} (hs : ∀ b, x = some b → Same ι H ι' H' b) (h : NC g ι H w k c co j x d u) : NC g ι' H' w' k c co j x d u := by
  match x, h with
  | none, h => exact ND.move hb h
  | some b, h => exact CR.move (c := .ref b) hm (fun b' hb' => by simp [Cell.ids] at hb'; exact hs b' (by rw [hb'])) h
theorem BR.move (hk : ∀ k, Ok ι H w k → Ok ι' H' w' k ∧ w'.heap[k]? = w.heap[k]?) {B : Blk} {at_ : Option (Nat × Cp)} (hs : ∀ b, b ∈ B.ids → Same ι H ι' H' b) (hb : ∀ x, at_ = some x → ∀ k, Owns B x k → w'.heap[k]? = w.heap[k]?) (h : BR g ι H w at_ B) : BR g ι' H' w' at_ B := by
  have hm : Moves g ι H w ι' H' w' := Moves.of hk
  cases B with
  | box cs =>
    obtain ⟨k, c, e, vs, ty, hh, hl, hc⟩ := h
    exact ⟨k, c, e, vs, ty, (hb _ e k (.inl rfl)).trans hh, hl, hc.move hm hs⟩
  | row wd e rows f nf =>
    obtain ⟨h0, h1, h⟩ := h
    refine ⟨h0, h1, ?_⟩
    match at_, h, hb with
    | none, h, _ => exact h
    | some (k, c), ⟨cs, hh, h2, h3, h4, hn, h5⟩, hb => exact ⟨cs, (hb _ rfl k (.inl rfl)).trans hh, h2, h3, h4, hn, fun i r j d hi hj => let ⟨u, hu, ht⟩ := h5 i r j d hi hj; ⟨u, hu, hm _ _ _ ht⟩⟩
  | nst wd e co rows op =>
    obtain ⟨h0, h1, h⟩ := h
    refine ⟨h0, h1, ?_⟩
    match at_, h, hb with
    | none, h, _ => exact h
    | some (k, c), ⟨cs, hh, h2, h3, h4, hn, hl, h5, h6⟩, hb =>
      exact ⟨cs, (hb _ rfl k (.inl rfl)).trans hh, h2, h3, h4, hn, fun k' hk' => heap_lt (hb _ rfl k' (.inr ⟨rfl, hk'⟩)) (hl k' hk'), fun i r j x hi hj => let ⟨u, hu, ht⟩ := h5 i r j x hi hj
        ⟨u, hu, ht.move hm (fun k' hk' => hb _ rfl k' (.inr ⟨rfl, hk'⟩)) fun b hb' => hs b (List.mem_map.2 ⟨_, hole_mem hb', rfl⟩)⟩, h6⟩
end move
def Fresh (T : Tm) (H : Hp) (b : Nat) : Prop := (∀ t x, T t = some x → b ∉ x.ids) ∧ (∀ b' B, H b' = some B → b ∉ B.ids) ∧ 64 ≤ b
/-- A STEP OF THE WORLD: the blocks M (writable ones of ours) may turn, new ones may come. -/
theorem Rel.nextO {N : Nat} {κ : Nat → Value} {w0 : World} {S : Wr} {ι : Nm} {T : Tm} {H : Hp} {a : Act} {w : World} (h : Rel N κ w0 S ι T H a w) {w' : World} {ι' : Nm} {H' : Hp} (M : Nat → Prop) (hk : Kept M w w')
    (hM : ∀ k, M k → k < w.heap.size → ∃ b B x, H b = some B ∧ B.wr = true ∧ ι b = some x ∧ Owns B x k)
    (hid : ∀ b, Same ι H ι' H' b ∨ Fresh T H b)
    (hcl : ∀ b B x k, H' b = some B → ι' b = some x → Owns B x k → (∃ b0 B0 x0, H b0 = some B0 ∧ (B.wr = true → B0.wr = true) ∧ ι b0 = some x0 ∧ Owns B0 x0 k) ∨ (M k ∨ w.heap.size ≤ k) ∧ (w0.heap.size ≤ k ∨ S.p k))
    (hinj : ∀ b b' B B' x x' k, H' b = some B → H' b' = some B' → ι' b = some x → ι' b' = some x' → Owns B x k → Owns B' x' k → b = b')
    (hnew : (∀ k, Ok ι H w k → Ok ι' H' w' k ∧ w'.heap[k]? = w.heap[k]?) → ∀ b B, H' b = some B → (H b = some B ∧ ι' b = ι b ∧ ∀ x, ι b = some x → ∀ k, Owns B x k → w'.heap[k]? = w.heap[k]?) ∨ BR ⟨κ, S.fr⟩ ι' H' w' (ι' b) B) (hio : ∀ b, b < 64 → key (ι' b) = key (ι b) := by intro b hb; rfl) :
    Rel N κ w0 S ι' T H' a w' ∧ ∀ k, Ok ι H w k → Ok ι' H' w' k ∧ w'.heap[k]? = w.heap[k]? := by
  have hown : ∀ k, M k → k < w.heap.size → w0.heap.size ≤ k ∨ S.p k := fun k hm hl => let ⟨b, B, x, h1, _, h2, h3⟩ := hM k hm hl; h.ownO b B x k h1 h2 h3
  have hok : ∀ k, Ok ι H w k → Ok ι' H' w' k ∧ w'.heap[k]? = w.heap[k]? := by
    intro k ⟨hl, hw⟩
    have hnm : ¬ M k := fun hm => let ⟨b, B, x, h1, h2, h3, h4⟩ := hM k hm hl; hw b B x h1 h2 h3 h4
    refine ⟨⟨Nat.lt_of_lt_of_le hl hk.size, fun b B x hB hwr hi ho => ?_⟩, hk.block k hl hnm⟩
    rcases hcl b B x k hB hi ho with ⟨b0, B0, x0, h1, h2, h3, h4⟩ | ⟨hm | hn, _⟩
    · exact hw b0 B0 x0 h1 (h2 hwr) h3 h4
    · exact hnm hm
    · omega
  refine ⟨⟨?_, h.new, ?_, hinj, ?_, h.size, h.dfr, fun b hb => (hio b hb).trans (h.io b hb), ?_⟩, hok⟩
  · refine h.kept.trans hk fun k hm => ?_
    rcases Nat.lt_or_ge k w.heap.size with hl | hl
    · rcases hown k hm hl with h1 | h1
      · exact .inr h1
      · exact .inl h1
    · exact .inr (Nat.le_trans h.kept.size hl)
  · intro b B hB
    rcases hnew hok b B hB with ⟨h1, h2, h3⟩ | hn
    · rw [h2]
      exact BR.move hok (fun b' hb' => (hid b').resolve_right fun hf => hf.2.1 b B h1 hb') h3 (h.blk b B h1)
    · exact hn
  · intro b B x k hB hi ho
    rcases hcl b B x k hB hi ho with ⟨b0, B0, x0, h1, _, h3, h4⟩ | ⟨_, h2⟩
    · exact h.ownO b0 B0 x0 k h1 h3 h4
    · exact h2
  · intro t x hx
    exact VR.move hok (fun b hb => (hid b).resolve_right fun hf => hf.1 t x hx hb) (h.tmp t x hx)
/-- What a block of ours has is there. -/
theorem BR.owns {g : Env} {ι : Nm} {H : Hp} {w : World} {B : Blk} {x : Nat × Cp} (h : BR g ι H w (some x) B) {k : Nat} (ho : Owns B x k) : k < w.heap.size := by
  rcases ho with rfl | ⟨ho, hm⟩
  · exact BR.lt (k := x.1) (c := x.2) h
  · cases B with
    | box cs => cases ho
    | row wd e rows f nf => cases ho
    | nst wd e co rows op => obtain ⟨k, c⟩ := x; obtain ⟨_, _, cs, _, _, _, _, _, hl, _⟩ := h; exact hl _ hm
theorem BR.has {g : Env} {ι : Nm} {H : Hp} {w : World} {B : Blk} {x : Nat × Cp} (h : BR g ι H w (some x) B) : x.1 < w.heap.size := BR.lt (k := x.1) (c := x.2) h
theorem Rel.keeps {N : Nat} {κ : Nat → Value} {w0 : World} {S : Wr} {ι : Nm} {T : Tm} {H : Hp} {a : Act} {w : World} (h : Rel N κ w0 S ι T H a w) {w' : World} {M : Nat → Prop} (hk : Kept M w w') {b : Nat} {B : Blk} (hB : H b = some B)
    (hn : ∀ x, ι b = some x → ∀ k, Owns B x k → ¬ M k) : ∀ x, ι b = some x → ∀ k, Owns B x k → w'.heap[k]? = w.heap[k]? := fun x hx k ho => hk.block k (by
  have := h.blk b B hB
  rw [hx] at this
  exact this.owns ho) (hn x hx k ho)
theorem Rel.ownLt {N : Nat} {κ : Nat → Value} {w0 : World} {S : Wr} {ι : Nm} {T : Tm} {H : Hp} {a : Act} {w : World} (h : Rel N κ w0 S ι T H a w) {b : Nat} {B : Blk} {x : Nat × Cp} {k : Nat} (hB : H b = some B) (hx : ι b = some x) (ho : Owns B x k) : k < w.heap.size := by
  have := h.blk b B hB
  rw [hx] at this
  exact this.owns ho
theorem Rel.next {N : Nat} {κ : Nat → Value} {w0 : World} {S : Wr} {ι : Nm} {T : Tm} {H : Hp} {a : Act} {w : World} (h : Rel N κ w0 S ι T H a w) {w' : World} {ι' : Nm} {H' : Hp} (M : Nat → Prop) (hk : Kept M w w')
    (hM : ∀ k, M k → k < w.heap.size → ∃ b B c, H b = some B ∧ B.wr = true ∧ ι b = some (k, c))
    (hid : ∀ b, Same ι H ι' H' b ∨ Fresh T H b)
    (hcl : ∀ b B k c, H' b = some B → ι' b = some (k, c) → (∃ B0 c0, H b = some B0 ∧ (B.wr = true → B0.wr = true) ∧ ι b = some (k, c0) ∧ (B.isN = true → B0 = B ∧ c0 = c)) ∨ B.isN = false ∧ (M k ∨ w.heap.size ≤ k) ∧ (w0.heap.size ≤ k ∨ S.p k))
    (hinj : ∀ b b' B B' x x' k, H' b = some B → H' b' = some B' → ι' b = some x → ι' b' = some x' → Owns B x k → Owns B' x' k → b = b')
    (hnew : (∀ k, Ok ι H w k → Ok ι' H' w' k ∧ w'.heap[k]? = w.heap[k]?) → ∀ b B, H' b = some B → (H b = some B ∧ ι' b = ι b ∧ ∀ x, ι b = some x → ∀ k, Owns B x k → ¬ M k) ∨ BR ⟨κ, S.fr⟩ ι' H' w' (ι' b) B) (hio : ∀ b, b < 64 → key (ι' b) = key (ι b) := by intro b hb; rfl) :
    Rel N κ w0 S ι' T H' a w' ∧ ∀ k, Ok ι H w k → Ok ι' H' w' k ∧ w'.heap[k]? = w.heap[k]? :=
  h.nextO M hk (fun k hm hl => let ⟨b, B, c, h1, h2, h3⟩ := hM k hm hl; ⟨b, B, _, h1, h2, h3, .inl rfl⟩) hid (fun b B x k hB hi ho => by
    obtain ⟨k0, c⟩ := x
    rcases hcl b B k0 c hB hi with ⟨B0, c0, h1, h2, h3, h4⟩ | ⟨h1, h2⟩
    · rcases ho with ho | ho
      · exact .inl ⟨b, B0, _, h1, h2, h3, .inl ho⟩
      · obtain ⟨e1, e2⟩ := h4 ho.1
        subst e1
        subst e2
        exact .inl ⟨b, B0, _, h1, h2, h3, .inr ho⟩
    · exact .inr ((ho.pair h1) ▸ h2)) hinj (fun hok b B hB => (hnew hok b B hB).imp (fun ⟨h1, h2, h3⟩ => ⟨h1, h2, h.keeps hk h1 h3⟩) id) hio
def Tm.put (T : Tm) (t : Nat) (x : AV) : Tm := fun n => if n = t then some x else T n
def Hp.put (H : Hp) (b : Nat) (B : Option Blk) : Hp := fun n => if n = b then B else H n
def Nm.put (ι : Nm) (b : Nat) (g : Option (Nat × Cp)) : Nm := fun n => if n = b then g else ι n
theorem Rel.put {N : Nat} {κ : Nat → Value} {w0 : World} {S : Wr} {ι : Nm} {T : Tm} {H : Hp} {a : Act} {w : World} (h : Rel N κ w0 S ι T H a w) {t : Nat} {x : AV} {v : Value} (ht : t < N) (hx : VR ⟨κ, S.fr⟩ ι H w x v) : Rel N κ w0 S ι (T.put t x) H (a.put (some t) v) w := by
  refine ⟨h.kept, h.new, h.blk, h.injO, h.ownO, by simpa [Act.put] using h.size, h.dfr, h.io, fun s y hs => ?_⟩
  unfold Tm.put at hs
  have ht' : t < a.tmps.size := by rw [h.size]; exact ht
  by_cases he : s = t
  · subst he
    rw [if_pos rfl] at hs
    cases hs
    simpa [Act.put, Array.getD_eq_getD_getElem?, ht'] using hx
  · rw [if_neg he] at hs
    have := h.tmp s y hs
    simpa [Act.put, Array.getD_eq_getD_getElem?, Array.getElem?_setIfInBounds_ne (Ne.symm he)] using this
/-- What is known may be forgotten. -/
theorem Rel.less {N : Nat} {κ : Nat → Value} {w0 : World} {S : Wr} {ι : Nm} {T T' : Tm} {H H' : Hp} {a : Act} {w : World} (h : Rel N κ w0 S ι T H a w) (hT : ∀ t x, T' t = some x → T t = some x) (hH : ∀ b B, H' b = some B → H b = some B) : Rel N κ w0 S ι T' H' a w := by
  have hok : ∀ k, Ok ι H w k → Ok ι H' w k ∧ w.heap[k]? = w.heap[k]? := fun k hk => ⟨⟨hk.1, fun b B c hB hw => hk.2 b B c (hH b B hB) hw⟩, rfl⟩
  have hs : ∀ b, Same ι H ι H' b := fun b B hB => ⟨B, hH b B hB, rfl, rfl, rfl⟩
  exact ⟨h.kept, h.new, fun b B hB => BR.move hok (fun b _ => hs b) (fun _ _ _ _ => rfl) (h.blk b B (hH b B hB)), fun b b' B B' x x' k h1 h2 => h.injO b b' B B' x x' k (hH _ _ h1) (hH _ _ h2), fun b B x k h1 => h.ownO b B x k (hH _ _ h1), h.size, h.dfr, h.io,
    fun t x hx => VR.move hok (fun b _ => hs b) (h.tmp t x (hT t x hx))⟩
end Go.Proofs.Ytggmeldoecnkaaa.Av
