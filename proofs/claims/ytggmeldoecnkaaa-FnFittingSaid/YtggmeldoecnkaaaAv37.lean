/-
An empty row of the call's own, told as a nest.
Conditions: none beside those that each theorem names.
-/
import Derived.Test.YtggmeldoecnkaaaAv36
set_option linter.unusedVariables false
namespace Go.Proofs.Ytggmeldoecnkaaa.Av
open Go.RowKit
set_option maxRecDepth 20000
section
variable {N : Nat} {κ : Nat → Value} {w0 w : World} {S : Wr} {ι : Nm} {T : Tm} {H : Hp} {a : Act} {s : St}
def emI (ι : Nm) (b : Nat) : Nm := fun x => if x = b then (ι b).map fun p => (p.1, cp p.2.n) else ι x
theorem emI_key (ι : Nm) (b x : Nat) : key (emI ι b x) = key (ι x) := by
  unfold emI
  split
  · rename_i h
    subst h
    cases ι x with
    | none => rfl
    | some p => rfl
  · rfl
theorem Rel.emN (h : Rel N κ w0 S ι T H a w) {b wd : Nat} {e : TypeId} (co : List (Nat × Nat × TypeId)) (hb : H b = some (.row wd e [] false true)) : Rel N κ w0 S (emI ι b) T (H.put b (some (.nst wd e co [] []))) a w := by
  have hHb : (H.put b (some (.nst wd e co [] []))) b = some (.nst wd e co [] []) := by simp [Hp.put]
  have hH : ∀ x, x ≠ b → (H.put b (some (.nst wd e co [] []))) x = H x := fun x hx => by simp [Hp.put, hx]
  have hI : ∀ x, x ≠ b → emI ι b x = ι x := fun x hx => by simp [emI, hx]
  have f : ∀ x B y k, (H.put b (some (.nst wd e co [] []))) x = some B → emI ι b x = some y → Owns B y k → ∃ B0 y0, H x = some B0 ∧ (B.wr = true → B0.wr = true) ∧ ι x = some y0 ∧ Owns B0 y0 k := fun x B y k hx hi ho => by
    by_cases hxb : x = b
    · subst hxb
      rw [hHb] at hx
      cases hx
      unfold emI at hi
      rw [if_pos rfl] at hi
      cases hq : ι x with
      | none => rw [hq] at hi; cases hi
      | some p =>
        rw [hq] at hi
        cases hi
        exact ⟨_, p, hb, fun _ => rfl, rfl, ho.elim (fun h => .inl h) (fun h => h.2.elim)⟩
    · rw [hH x hxb] at hx
      rw [hI x hxb] at hi
      exact ⟨B, y, hx, id, hi, ho⟩
  have hS : ∀ x, Same ι H (emI ι b) (H.put b (some (.nst wd e co [] []))) x := fun x B hx => by
    by_cases hxb : x = b
    · subst hxb
      rw [hHb] at hx
      cases hx
      exact ⟨_, hb, rfl, rfl, emI_key ι x x⟩
    · exact ⟨B, (hH x hxb) ▸ hx, rfl, rfl, emI_key ι b x⟩
  refine (h.nextO (fun _ => False) (Kept.refl _ _) (fun _ hf => hf.elim) (fun x => .inl (hS x)) (fun x B y k' hx hi ho => ?_) (fun x x' B B' y y' k' hx hx' hi hi' ho ho' => ?_) (fun hok x B hx => ?_) (fun x _ => emI_key ι b x)).1
  · obtain ⟨B0, y0, h1, h2, h3, h4⟩ := f x B y k' hx hi ho
    exact .inl ⟨x, B0, y0, h1, h2, h3, h4⟩
  · obtain ⟨B0, y0, h1, _, h3, h4⟩ := f x B y k' hx hi ho
    obtain ⟨B1, y1, g1, _, g3, g4⟩ := f x' B' y' k' hx' hi' ho'
    exact h.injO x x' B0 B1 y0 y1 k' h1 g1 h3 g3 h4 g4
  · by_cases hxb : x = b
    · subst hxb
      rw [hHb] at hx
      cases hx
      refine .inr ?_
      obtain ⟨hw0, hwd, hB3⟩ := h.blk x _ hb
      refine ⟨hw0, hwd, ?_⟩
      unfold emI
      rw [if_pos rfl]
      cases hi : ι x with
      | none => rfl
      | some y =>
        obtain ⟨k, c⟩ := y
        rw [hi] at hB3
        obtain ⟨cs, hh, hle, hmx, hsz, hfr, hcl⟩ := hB3
        exact ⟨cs, hh, hle, hmx, hsz, hfr rfl, fun k' hk => hk.elim, (fun i r j d hi' => by cases hi'), fun i j i' j' r r' q q' k' n n' z z' hi' => by cases hi'⟩
    · rw [hH x hxb] at hx
      exact .inl ⟨hx, hI x hxb, fun _ _ _ _ => rfl⟩
def emS (b wd : Nat) (e : TypeId) (co : List (Nat × Nat × TypeId)) (s : St) : St := ⟨s.T, (b, some (.nst wd e co [] [])) :: s.H, s.nx⟩
theorem Wk.emN (b wd : Nat) (e : TypeId) (co : List (Nat × Nat × TypeId)) (hb : lookH s.H b = some (.row wd e [] false true)) (ho : Av.okB (emS b wd e co s) s.nx = true) : Wk s (emS b wd e co s) := by
  refine ⟨fun c a w ⟨ι, hrel⟩ => ⟨emI ι b, (hrel.emN co hb).less (fun _ _ h => h) fun x B hx => ?_⟩, ho⟩
  have hx : lookH ((b, some (.nst wd e co [] [])) :: s.H) x = some B := hx
  rw [lookH_cons] at hx
  simp only [Hp.put]
  by_cases hxb : x = b
  · rw [if_pos hxb] at hx ⊢
    exact hx
  · rw [if_neg hxb] at hx ⊢
    exact hx
end
end Go.Proofs.Ytggmeldoecnkaaa.Av
