/-
Other names for the blocks; what a function comes to, told by what it is handed and what it hands back.
Conditions: none beside those that each theorem names.
-/
import Derived.Test.YtpegmlbbeookbaaGreatAv10
set_option linter.unusedVariables false
set_option linter.unusedSimpArgs false
namespace Go.Proofs.YtpegmlbbeookbaaGreat.Av
open Go.RowKit Go.Proofs.YtpegmlbbeookbaaGreatW.PrintLast

def Cell.mp (ρ : Nat → Nat) : Cell → Cell
  | .ref b => .ref (ρ b)
  | c => c
def E.mp (ρ : Nat → Nat) : E → E
  | .c x => .c (x.mp ρ)
  | .agg cs => .agg (cs.map (Cell.mp ρ))
def AV.mp (ρ : Nat → Nat) : AV → AV
  | .e x => .e (x.mp ρ)
  | .pt b i o => .pt (ρ b) i o
  | .fv f b => .fv f (ρ b)
  | .tup xs => .tup (xs.map (E.mp ρ))
  | x => x
def Blk.mp (ρ : Nat → Nat) : Blk → Blk
  | .box cs => .box (cs.map (Cell.mp ρ))
  | B => B
theorem Blk.mp_facts (ρ : Nat → Nat) (B : Blk) : (B.mp ρ).shape = B.shape ∧ (B.mp ρ).wd = B.wd ∧ (B.mp ρ).wr = B.wr := by
  cases B <;> simp [Blk.mp, Blk.shape, Blk.wd, Blk.wr]
section
variable {g : Env} {ι : Nm} {H H' : Hp} {w : World} {ρ : Nat → Nat}
def Pulls (ρ : Nat → Nat) (H H' : Hp) : Prop := ∀ b B, H' b = some B → H (ρ b) = some (B.mp ρ)
theorem Ok.pull (h : Pulls ρ H H') : ∀ k, Ok ι H w k → Ok (fun b => ι (ρ b)) H' w k ∧ w.heap[k]? = w.heap[k]? := fun k hk => ⟨⟨hk.1, fun b B c hB hw hi => hk.2 (ρ b) (B.mp ρ) c (h b B hB) (by rw [(Blk.mp_facts ρ B).2.2]; exact hw) hi⟩, rfl⟩
theorem CR.pull (h : Pulls ρ H H') {c : Cell} {u : Value} (hc : CR g ι H w (c.mp ρ) u) : CR g (fun b => ι (ρ b)) H' w c u := by
  have hm : ∀ nf d v, TR w (OkF g nf ι H w) d v → TR w (OkF g nf (fun b => ι (ρ b)) H' w) d v := fun nf d v t => t.move fun k hk => ⟨⟨(Ok.pull h k hk.1).1, hk.2⟩, rfl⟩
  cases c with
  | d x => exact hm _ _ _ hc
  | f x => exact hm _ _ _ hc
  | k j x => exact ⟨hc.1, hm _ _ _ hc.2⟩
  | nil => exact hc
  | ref b =>
    intro B hB
    obtain ⟨wd, n, h1, h2⟩ := hc _ (h b B hB)
    exact ⟨wd, n, by rw [← (Blk.mp_facts ρ B).1]; exact h1, h2⟩
theorem CsR.pull (h : Pulls ρ H H') {cs : List Cell} {vs : Nat → Option Value} (hc : CsR g ι H w (cs.map (Cell.mp ρ)) vs) : CsR g (fun b => ι (ρ b)) H' w cs vs := fun j c hj =>
  let ⟨u, hu, hcr⟩ := hc j (c.mp ρ) (by rw [List.getElem?_map, hj]; rfl)
  ⟨u, hu, hcr.pull h⟩
theorem ER.pull (h : Pulls ρ H H') {x : E} {u : Value} (hx : ER g ι H w (x.mp ρ) u) : ER g (fun b => ι (ρ b)) H' w x u := by
  cases x with
  | c x => exact CR.pull h hx
  | agg cs =>
    obtain ⟨vs, e, hl, hc⟩ := hx
    exact ⟨vs, e, by simpa using hl, CsR.pull h hc⟩
theorem VR.pull (h : Pulls ρ H H') {x : AV} {u : Value} (hx : VR g ι H w (x.mp ρ) u) : VR g (fun b => ι (ρ b)) H' w x u := by
  cases x with
  | e x => exact ER.pull h hx
  | pt b i o =>
    intro B hB
    obtain ⟨k, c, h1, h2⟩ := hx _ (h b B hB)
    exact ⟨k, c, h1, by rw [← (Blk.mp_facts ρ B).2.1]; exact h2⟩
  | bo p q => exact hx
  | fv f b =>
    intro B hB
    exact hx _ (h b B hB)
  | ip r o =>
    obtain ⟨k, p, h1, h2⟩ := hx
    exact ⟨k, p, h1.move fun k hk => ⟨⟨(Ok.pull h k hk.1).1, hk.2⟩, rfl⟩, h2⟩
  | tup xs =>
    obtain ⟨vs, e, hl, hc⟩ := hx
    exact ⟨vs, e, by simpa using hl, fun j x hj => let ⟨y, hy, hxy⟩ := hc j (x.mp ρ) (by rw [List.getElem?_map, hj]; rfl); ⟨y, hy, hxy.pull h⟩⟩
  | un => trivial
theorem BR.pull (h : Pulls ρ H H') {B : Blk} {at_ : Option (Nat × Nat)} (hb : BR g ι H w at_ (B.mp ρ)) : BR g (fun b => ι (ρ b)) H' w at_ B := by
  cases B with
  | box cs =>
    obtain ⟨k, c, e, vs, ty, h1, h2, h3⟩ := hb
    exact ⟨k, c, e, vs, ty, h1, by simpa using h2, CsR.pull h h3⟩
  | row wd e rows f nf =>
    obtain ⟨h0, h1, h2⟩ := hb
    refine ⟨h0, h1, ?_⟩
    match at_, h2 with
    | none, h2 => exact h2
    | some (k, c), ⟨cs, e1, e2, e3, e4, e5, e6⟩ => exact ⟨cs, e1, e2, e3, e4, e5, fun i r j d hi hj => let ⟨u, hu, ht⟩ := e6 i r j d hi hj; ⟨u, hu, ht.move fun k hk => ⟨⟨(Ok.pull h k hk.1).1, hk.2⟩, rfl⟩⟩⟩
end
theorem Rel.pull {N : Nat} {κ : Nat → Value} {w0 : World} {S : Wr} {ι : Nm} {T T' : Tm} {H H' : Hp} {a : Act} {w : World} (h : Rel N κ w0 S ι T H a w) (ρ : Nat → Nat) (hT : ∀ t x, T' t = some x → T t = some (x.mp ρ)) (hH : Pulls ρ H H')
    (hinj : ∀ b b' B B', H' b = some B → H' b' = some B' → ρ b = ρ b' → b = b') (h64 : ∀ b, b < 64 → ρ b = b) : Rel N κ w0 S (fun b => ι (ρ b)) T' H' a w :=
  ⟨h.kept, h.new, fun b B hB => BR.pull hH (h.blk (ρ b) _ (hH b B hB)), fun b b' B B' k c c' h1 h2 h3 h4 => hinj b b' B B' h1 h2 (h.inj _ _ _ _ k c c' (hH _ _ h1) (hH _ _ h2) h3 h4), fun b B k c h1 h2 => h.own _ _ k c (hH _ _ h1) h2, h.size, h.dfr, fun b hb => (congrArg ι (h64 b hb)).trans (h.io b hb),
    fun t x hx => VR.pull hH (h.tmp t _ (hT t x hx))⟩

/-- WHAT A FUNCTION COMES TO: handed args over the blocks H0 it hands back x, over the blocks H1; of what was there nothing but H0's blocks turns; the boxes stay where they are. -/
def Fn (P : Program) (f : FuncId) (args : List AV) (H0 : Hp) (x : AV) (H1 : Hp) : Prop :=
  ∀ (κ : Nat → Value) (fr : Nat → Prop) (w : World) (ι : Nm) (vs : Array Value), (∀ k, w.heap.size ≤ k → fr k) → (∀ b B, H0 b = some B → BR ⟨κ, fr⟩ ι H0 w (ι b) B) → (∀ b b' B B' k c c', H0 b = some B → H0 b' = some B' → ι b = some (k, c) → ι b' = some (k, c') → b = b') →
    vs.size = args.length → (∀ (j : Nat) (a : AV), args[j]? = some a → ∃ v, vs[j]? = some v ∧ VR ⟨κ, fr⟩ ι H0 w a v) →
    Calls P f vs w fun e w' => ∃ v ι', e = .returned v ∧ Kept (fun k => ∃ b B c, H0 b = some B ∧ ι b = some (k, c)) w w' ∧ (∀ b B, H1 b = some B → BR ⟨κ, fr⟩ ι' H1 w' (ι' b) B) ∧
      (∀ b b' B B' k c c', H1 b = some B → H1 b' = some B' → ι' b = some (k, c) → ι' b' = some (k, c') → b = b') ∧ (∀ b B k c, H1 b = some B → ι' b = some (k, c) → w.heap.size ≤ k ∨ ∃ b B c, H0 b = some B ∧ ι b = some (k, c)) ∧
      (∀ b, b < 64 → ι' b = ι b) ∧ VR ⟨κ, fr⟩ ι' H1 w' x v
/-! ### a function's body -/
section
variable {P : Program} {N : Nat}
/-- The results. -/
def retE (τ : Ty) (T : Tm) (H : Hp) : ResultVar → Option E
  | .tmp t => match T t with
    | some (.e e) => some e
    | _ => none
  | .cell p ty => match T p with
    | some (.pt b 0 0) => match H b with
      | some (.box cs) => match τ ty with
        | some i => ldE i cs 0
        | none => none
      | _ => none
    | _ => none
def retL (τ : Ty) (T : Tm) (H : Hp) : List ResultVar → Option (List E)
  | [] => some []
  | r :: l => match retE τ T H r, retL τ T H l with
    | some e, some es => some (e :: es)
    | _, _ => none
def retV : List E → AV
  | [] => .tup []
  | [e] => .e e
  | es => .tup es
end
end Go.Proofs.YtpegmlbbeookbaaGreat.Av
