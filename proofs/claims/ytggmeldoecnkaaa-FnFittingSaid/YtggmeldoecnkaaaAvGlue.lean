/-
What a law over bytes comes to, told as its row asks for it.
Conditions: none beside those that each theorem names.
-/
import Derived.Test.YtggmeldoecnkaaaAv22
set_option linter.unusedVariables false
namespace Go.Proofs.Ytggmeldoecnkaaa.Av
open Go.RowKit

theorem cell_spot {w : World} {x : Addr} {u : Value} (h : w.cell? x = some u) : x = ⟨x.block, x.off, none⟩ ∧ ∃ cs ty fr, w.heap[x.block]? = some (.cells cs ty fr) ∧ cs[x.off]? = some u := by
  unfold World.cell? at h
  split at h
  · rename_i c ty fr hb
    split at h
    · cases h
    · rename_i hs
      refine ⟨?_, c, ty, fr, hb, h⟩
      obtain ⟨b, o, s⟩ := x
      cases s with
      | none => rfl
      | some s => simp at hs
  · cases h
theorem bytes_TR {W : World} {ok : Nat → Prop} {a : Option Addr} {len cap : Nat} {zs : List Int} (h : a = none ∧ len = 0 ∨ ∃ x, a = some x ∧ len ≤ cap ∧ len ≤ zs.length ∧ ∀ i, i < zs.length → W.cell? (x.add i) = some (.int .u8 (zs.getD i 0)))
    (hok : ∀ k, k < W.heap.size → ok k) : TR W ok (.sl ((zs.take len).map dB)) (.slice a len cap) := by
  by_cases h0 : len = 0
  · subst h0
    exact .nil a cap
  rcases h with ⟨_, h⟩ | ⟨x, rfl, hl, hz, hc⟩
  · exact absurd h h0
  have c0 := hc 0 (by omega)
  obtain ⟨hx, cs, ty, fr, hb, _⟩ := cell_spot (show W.cell? x = some _ by simpa [Addr.add] using c0)
  have hlen : ((zs.take len).map dB).length = len := by simp; omega
  have hx2 : Value.slice (some x) len cap = .slice (some ⟨x.block, x.off, none⟩) ((zs.take len).map dB).length cap := by rw [hlen, ← hx]
  rw [hx2]
  refine .row _ 1 x.block x.off cap cs ty fr (fun i j => .int .u8 (zs.getD i 0)) (by omega) (hok _ ?_) hb (fun i j hi hj => ?_) (fun i r hr => ?_) (fun i r j d hr hd => ?_)
  · exact (Array.getElem?_eq_some_iff.1 hb).1
  · obtain rfl : j = 0 := by omega
    have h := hc i (by omega)
    by_cases hi0 : i = 0
    · subst hi0
      have h : W.cell? x = some (.int .u8 (zs.getD 0 0)) := by simpa [Addr.add] using h
      obtain ⟨_, cs', ty', fr', hb', e⟩ := cell_spot h
      rw [hb] at hb'
      cases hb'
      simpa using e
    · obtain ⟨_, cs', ty', fr', hb', e⟩ := cell_spot h
      simp only [Addr.add, if_neg hi0] at hb' e
      rw [hb] at hb'
      cases hb'
      simpa using e
  · obtain ⟨n, _, rfl⟩ := List.mem_map.1 (List.mem_of_getElem? hr)
    rfl
  · have hi : i < len := by rw [← hlen]; exact (List.getElem?_eq_some_iff.1 hr).1
    rw [List.getElem?_map, List.getElem?_take, if_pos hi] at hr
    obtain ⟨n, hn, rfl⟩ := Option.map_eq_some_iff.1 hr
    have hg : zs.getD i 0 = n := by rw [List.getD_eq_getElem?_getD, hn]; rfl
    match j, hd with
    | 0, hd => cases hd; rw [hg]; exact .v _ rfl
theorem law_calls {P : Program} {f : FuncId} (hf : ∀ code : List Int, code.length ≤ 4611686018427387904 → ∃ r0 : Bool, (r0 = true) ∧ Fn P f [.e (.c (.d (.sl (code.map dB))))] (lookH []) (.e (.c (.d (.v (.bool r0))))) (lookH []))
    {W : World} {a : Option Addr} {len cap : Nat} {zs : List Int} (h : a = none ∧ len = 0 ∨ ∃ x, a = some x ∧ len ≤ cap ∧ len ≤ zs.length ∧ ∀ i, i < zs.length → W.cell? (x.add i) = some (.int .u8 (zs.getD i 0))) (hlen : len ≤ 4611686018427387904) :
    Calls P f #[.slice a len cap] W fun e w' => e = .returned (.bool true) ∧ Below W.heap.size W w' := by
  obtain ⟨r0, rfl, hfn⟩ := hf (zs.take len) (by simp; omega)
  refine (hfn (fun _ => undef) (fun k => W.heap.size ≤ k) W (fun _ => none) #[.slice a len cap] (fun _ h => h) (fun b B h => by cases h) (fun b b' B B' k c c' h => by cases h) rfl (fun j z hz => ?_)).mono fun e w' ⟨v, ι', hv, hk, _, _, _, _, hvr⟩ => ?_
  · match j, hz with
    | 0, hz =>
      cases hz
      exact ⟨_, rfl, bytes_TR h fun k hk => ⟨⟨hk, fun b B c h => by cases h⟩, fun h => by cases h⟩⟩
  · subst hv
    have hvr : TR w' _ (.v (.bool true)) v := hvr
    cases hvr with | v _ _ =>
    exact ⟨rfl, (hk.mono fun k ⟨b, B, c, h, _⟩ => by cases h).below⟩
end Go.Proofs.Ytggmeldoecnkaaa.Av
