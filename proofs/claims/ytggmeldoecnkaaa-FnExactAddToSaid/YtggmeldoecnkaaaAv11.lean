/-
Other names for the blocks; what a function comes to, told by what it is handed and what it hands back.
Conditions: none beside those that each theorem names.
-/
import Derived.Test.YtggmeldoecnkaaaAv10
set_option linter.unusedVariables false
set_option linter.unusedSimpArgs false
namespace Go.Proofs.Ytggmeldoecnkaaa.Av
open Go.RowKit Go.Proofs.YtggmeldoecnkaaaW.PrintLast

def Cell.mp (ρ : Nat → Nat) : Cell → Cell
  | .ref b => .ref (ρ b)
  | c => c
def E.mp (ρ : Nat → Nat) : E → E
  | .c x => .c (x.mp ρ)
  | .agg cs => .agg (cs.map (Cell.mp ρ))
def AV.mp (ρ : Nat → Nat) : AV → AV
  | .e x => .e (x.mp ρ)
  | .pt b i o => .pt (ρ b) i o
  | .fv f b => .fv f (ρ b)
  | .tup xs => .tup (xs.map (E.mp ρ))
  | x => x
def Blk.mp (ρ : Nat → Nat) : Blk → Blk
  | .box cs => .box (cs.map (Cell.mp ρ))
  | .nst wd e co rows op => .nst wd e co rows (op.map fun p => (p.1, p.2.1, ρ p.2.2))
  | B => B
theorem Blk.mp_facts (ρ : Nat → Nat) (B : Blk) : (B.mp ρ).shape = B.shape ∧ (B.mp ρ).wd = B.wd ∧ (B.mp ρ).wr = B.wr := by
  cases B <;> simp [Blk.mp, Blk.shape, Blk.wd, Blk.wr]
section
variable {g : Env} {ι : Nm} {H H' : Hp} {w : World} {ρ : Nat → Nat}
def Pulls (ρ : Nat → Nat) (H H' : Hp) : Prop := ∀ b B, H' b = some B → H (ρ b) = some (B.mp ρ)
theorem Owns.mp {ρ : Nat → Nat} {B : Blk} {x : Nat × Cp} {k : Nat} : Owns (B.mp ρ) x k ↔ Owns B x k := by cases B <;> exact Iff.rfl
theorem Ok.pull (h : Pulls ρ H H') : ∀ k, Ok ι H w k → Ok (fun b => ι (ρ b)) H' w k ∧ w.heap[k]? = w.heap[k]? := fun k hk => ⟨⟨hk.1, fun b B c hB hw hi ho => hk.2 (ρ b) (B.mp ρ) c (h b B hB) (by rw [(Blk.mp_facts ρ B).2.2]; exact hw) hi (Owns.mp.2 ho)⟩, rfl⟩
theorem CR.pull (h : Pulls ρ H H') {c : Cell} {u : Value} (hc : CR g ι H w (c.mp ρ) u) : CR g (fun b => ι (ρ b)) H' w c u := by
  have hm : ∀ nf d v, TR w (OkF g nf ι H w) d v → TR w (OkF g nf (fun b => ι (ρ b)) H' w) d v := fun nf d v t => t.move fun k hk => ⟨⟨(Ok.pull h k hk.1).1, hk.2⟩, rfl⟩
  cases c with
  | d x => exact hm _ _ _ hc
  | f x => exact hm _ _ _ hc
  | k j x => exact ⟨hc.1, hm _ _ _ hc.2⟩
  | nil => exact hc
  | ref b =>
    intro B hB
    obtain ⟨wd, n, h1, h2⟩ := hc _ (h b B hB)
    exact ⟨wd, n, by rw [← (Blk.mp_facts ρ B).1]; exact h1, h2⟩
theorem CsR.pull (h : Pulls ρ H H') {cs : List Cell} {vs : Nat → Option Value} (hc : CsR g ι H w (cs.map (Cell.mp ρ)) vs) : CsR g (fun b => ι (ρ b)) H' w cs vs := fun j c hj =>
  let ⟨u, hu, hcr⟩ := hc j (c.mp ρ) (by rw [List.getElem?_map, hj]; rfl)
  ⟨u, hu, hcr.pull h⟩
theorem ER.pull (h : Pulls ρ H H') {x : E} {u : Value} (hx : ER g ι H w (x.mp ρ) u) : ER g (fun b => ι (ρ b)) H' w x u := by
  cases x with
  | c x => exact CR.pull h hx
  | agg cs =>
    obtain ⟨vs, e, hl, hc⟩ := hx
    exact ⟨vs, e, by simpa using hl, CsR.pull h hc⟩
theorem VR.pull (h : Pulls ρ H H') {x : AV} {u : Value} (hx : VR g ι H w (x.mp ρ) u) : VR g (fun b => ι (ρ b)) H' w x u := by
  cases x with
  | e x => exact ER.pull h hx
  | pt b i o =>
    intro B hB
    obtain ⟨k, c, h1, h2⟩ := hx _ (h b B hB)
    exact ⟨k, c, h1, by rw [← (Blk.mp_facts ρ B).2.1]; exact h2⟩
  | bo p q => exact hx
  | fv f b =>
    intro B hB
    exact hx _ (h b B hB)
  | ip r o =>
    obtain ⟨k, p, h1, h2⟩ := hx
    exact ⟨k, p, h1.move fun k hk => ⟨⟨(Ok.pull h k hk.1).1, hk.2⟩, rfl⟩, h2⟩
  | tup xs =>
    obtain ⟨vs, e, hl, hc⟩ := hx
    exact ⟨vs, e, by simpa using hl, fun j x hj => let ⟨y, hy, hxy⟩ := hc j (x.mp ρ) (by rw [List.getElem?_map, hj]; rfl); ⟨y, hy, hxy.pull h⟩⟩
  | un => trivial
theorem hole_mp {op : List (Nat × Nat × Nat)} {i j : Nat} : hole (op.map fun p => (p.1, p.2.1, ρ p.2.2)) i j = (hole op i j).map ρ := by
  induction op with
  | nil => rfl
  | cons p l ih =>
    obtain ⟨i', j', b⟩ := p
    simp only [List.map_cons, hole_cons]
    split
    · rfl
    · exact ih
theorem NC.pull (h : Pulls ρ H H') {k : Nat} {c : Cp} {co : List (Nat × Nat × TypeId)} {j : Nat} {x : Option Nat} {d : D} {u : Value} (hc : NC g ι H w k c co j (x.map ρ) d u) : NC g (fun b => ι (ρ b)) H' w k c co j x d u := by
  match x, hc with
  | none, hc => exact hc
  | some b, hc => exact CR.pull (g := g) (w := w) (c := .ref b) h hc
theorem BR.pull (h : Pulls ρ H H') {B : Blk} {at_ : Option (Nat × Cp)} (hb : BR g ι H w at_ (B.mp ρ)) : BR g (fun b => ι (ρ b)) H' w at_ B := by
  cases B with
  | box cs =>
    obtain ⟨k, c, e, vs, ty, h1, h2, h3⟩ := hb
    exact ⟨k, c, e, vs, ty, h1, by simpa using h2, CsR.pull h h3⟩
  | row wd e rows f nf =>
    obtain ⟨h0, h1, h2⟩ := hb
    refine ⟨h0, h1, ?_⟩
    match at_, h2 with
    | none, h2 => exact h2
    | some (k, c), ⟨cs, e1, e2, e3, e4, e5, e6⟩ => exact ⟨cs, e1, e2, e3, e4, e5, fun i r j d hi hj => let ⟨u, hu, ht⟩ := e6 i r j d hi hj; ⟨u, hu, ht.move fun k hk => ⟨⟨(Ok.pull h k hk.1).1, hk.2⟩, rfl⟩⟩⟩
  | nst wd e co rows op =>
    obtain ⟨h0, h1, h2⟩ := hb
    refine ⟨h0, h1, ?_⟩
    match at_, h2 with
    | none, h2 => exact h2
    | some (k, c), ⟨cs, e1, e2, e3, e4, e5, e6, e7, e8⟩ =>
      exact ⟨cs, e1, e2, e3, e4, e5, e6, fun i r j x hi hj => let ⟨u, hu, ht⟩ := e7 i r j x hi hj; ⟨u, hu, NC.pull h (hole_mp ▸ ht)⟩,
        fun i j i' j' r r' q q' k' n n' z z' f1 f2 f3 f4 f5 f6 => e8 i j i' j' r r' q q' k' n n' z z' f1 f2 (by rw [hole_mp, f3]; rfl) f4 f5 (by rw [hole_mp, f6]; rfl)⟩
end
theorem Rel.pull {N : Nat} {κ : Nat → Value} {w0 : World} {S : Wr} {ι : Nm} {T T' : Tm} {H H' : Hp} {a : Act} {w : World} (h : Rel N κ w0 S ι T H a w) (ρ : Nat → Nat) (hT : ∀ t x, T' t = some x → T t = some (x.mp ρ)) (hH : Pulls ρ H H')
    (hinj : ∀ b b' B B', H' b = some B → H' b' = some B' → ρ b = ρ b' → b = b') (h64 : ∀ b, b < 64 → ρ b = b) : Rel N κ w0 S (fun b => ι (ρ b)) T' H' a w :=
  ⟨h.kept, h.new, fun b B hB => BR.pull hH (h.blk (ρ b) _ (hH b B hB)), fun b b' B B' x x' k h1 h2 h3 h4 o1 o2 => hinj b b' B B' h1 h2 (h.injO _ _ _ _ x x' k (hH _ _ h1) (hH _ _ h2) h3 h4 (Owns.mp.2 o1) (Owns.mp.2 o2)), fun b B x k h1 h2 ho => h.ownO _ _ x k (hH _ _ h1) h2 (Owns.mp.2 ho), h.size, h.dfr, fun b hb => (congrArg (fun b => key (ι b)) (h64 b hb)).trans (h.io b hb),
    fun t x hx => VR.pull hH (h.tmp t _ (hT t x hx))⟩

/-- WHAT A FUNCTION COMES TO: handed args over the blocks H0 it hands back x, over the blocks H1; of what was there nothing but H0's blocks turns; the boxes stay where they are. -/
def Fn (P : Program) (f : FuncId) (args : List AV) (H0 : Hp) (x : AV) (H1 : Hp) : Prop :=
  ∀ (κ : Nat → Value) (fr : Nat → Prop) (w : World) (ι : Nm) (vs : Array Value), (∀ k, w.heap.size ≤ k → fr k) → (∀ b B, H0 b = some B → BR ⟨κ, fr⟩ ι H0 w (ι b) B) → InjN ι H0 →
    vs.size = args.length → (∀ (j : Nat) (a : AV), args[j]? = some a → ∃ v, vs[j]? = some v ∧ VR ⟨κ, fr⟩ ι H0 w a v) →
    Calls P f vs w fun e w' => ∃ v ι', e = .returned v ∧ Kept (OwnN ι H0) w w' ∧ (∀ b B, H1 b = some B → BR ⟨κ, fr⟩ ι' H1 w' (ι' b) B) ∧
      InjN ι' H1 ∧ (∀ k, OwnN ι' H1 k → w.heap.size ≤ k ∨ OwnN ι H0 k) ∧
      (∀ b, b < 64 → key (ι' b) = key (ι b)) ∧ VR ⟨κ, fr⟩ ι' H1 w' x v
/-! ### a function's body -/
section
variable {P : Program} {N : Nat}
/-- The results. -/
def retE (τ : Ty) (T : Tm) (H : Hp) : ResultVar → Option E
  | .tmp t => match T t with
    | some (.e e) => some e
    | _ => none
  | .cell p ty => match T p with
    | some (.pt b 0 0) => match H b with
      | some (.box cs) => match τ ty with
        | some i => ldE i cs 0
        | none => none
      | _ => none
    | _ => none
def retL (τ : Ty) (T : Tm) (H : Hp) : List ResultVar → Option (List E)
  | [] => some []
  | r :: l => match retE τ T H r, retL τ T H l with
    | some e, some es => some (e :: es)
    | _, _ => none
def retV : List E → AV
  | [] => .tup []
  | [e] => .e e
  | es => .tup es
end
end Go.Proofs.Ytggmeldoecnkaaa.Av
