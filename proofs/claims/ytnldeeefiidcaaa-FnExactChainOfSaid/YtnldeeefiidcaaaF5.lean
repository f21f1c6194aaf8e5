/-
Functions of the program, what they come to, and that Go comes to just that: slices_IndexFunc_impl_Block_impl_Block, impl_blockAt_1, impl_blockAt.
Conditions: those that each theorem names.
-/
import Derived.Test.YtnldeeefiidcaaaFAbs
set_option linter.unusedVariables false
set_option linter.unusedSimpArgs false
namespace Go.Proofs.Ytnldeeefiidcaaa.F
open Go.RowKit Go.Proofs.YtnldeeefiidcaaaW.PrintWords Go.Proofs.YtnldeeefiidcaaaW.PrintLast Go.Proofs.Ytnldeeefiidcaaa.Base Go.Proofs.Ytnldeeefiidcaaa.BW

/-! ### slices.IndexFunc of blocks: walked in this session -/
set_option maxHeartbeats 4000000 in
set_option maxRecDepth 100000 in
theorem slices_IndexFunc_impl_Block_impl_Block.does {p : S59 → Bool} {f : Nat} {lb : Array Value} (eg : ∀ args w, (callFunc f args).run Try.prog w = .ok (.enter f args) w) {l : List S59} (hl : l.length ≤ maxLen) {B : Option Addr} {c : Nat} {w : World} (hr : Kd.C k59 w B l.length l) (hc : l.length ≤ c)
    (hp : ∀ (e : On w) (v : S59) (cs : List Value), k59.K e.now v cs → Calls Try.prog f (#[.agg cs.toArray] ++ lb) e.now fun r W => r = .returned (.bool (p v)) ∧ Below e.now.heap.size e.now W) :
    Calls Try.prog 117 #[.slice B l.length c, .func (.func f) #[] lb] w fun e w' => e = .returned (.int .i64 (idxOf p l)) ∧ Below w.heap.size w w' := by
  have hn : (l.length : Int) ≤ 9223372036854775807 := by have : maxLen = 9223372036854775807 := rfl; omega
  have HR := Aside0.mk hr
  have HP := Aside0.mk hp
  clear hr hp hl
  go_enter Try.func117, Try.ntmps117
  go_wp2
  go_loopg [5, 8] l.length (fun g _ v8 w' => ∃ (i : Int) (e : On w), v8 = .int .i64 i ∧ w' = e.now ∧ 0 ≤ i ∧ i ≤ l.length ∧ Aside0 ((l.length : Int) - i ≤ g) ∧ Aside0 (∀ j, j < i.toNat → p (l.getD j z59) = false))
  case atStart => exact ⟨0, On.here w, rfl, rfl, Int.le_refl _, by omega, ⟨by omega⟩, ⟨fun j hj => absurd hj (by simp)⟩⟩
  case round =>
    obtain ⟨i, e, rfl, rfl, hi0, hi1, HG, HA⟩ := hrel
    by_cases c1 : i < (l.length : Int)
    · obtain ⟨ad, A6, u6, A8, u8, A9, u9, A10, u10, A12, u12, e1, h0, h1, h2, h3, h4, h5, h6, h7, h8, h9, h10, h11, h12, h13, l6, g6, l8, g8, l9, g9, l10, g10, l12, g12⟩ := at_T59 HR.out i hi0 c1
      cases e1
      have E1 := Aside0.mk (fun e : On w => HP.out e (rd_T59 l i) _ (On.val (k59_mk w (rd_T59 l i) l6 g6 l8 g8 l9 g9 l10 g10 l12 g12) e))
      have R0 := On.cell h0
      have R1 := On.cell h1
      have R2 := On.cell h2
      have R3 := On.cell h3
      have R4 := On.cell h4
      have R5 := On.cell h5
      have R6 := On.cell h6
      have R7 := On.cell h7
      have R8 := On.cell h8
      have R9 := On.cell h9
      have R10 := On.cell h10
      have R11 := On.cell h11
      have R12 := On.cell h12
      have R13 := On.cell h13
      clear h0 h1 h2 h3 h4 h5 h6 h7 h8 h9 h10 h11 h12 h13 l6 g6 l8 g8 l9 g9 l10 g10 l12 g12
      cases hb1 : p (rd_T59 l i)
      · rw [hb1] at E1
        have HT : Aside0 (p (l.getD i.toNat z59) = false) := ⟨hb1⟩
        clear hb1
        go_wp2_with fail
        refine BW.call (E1.out _) (fun e2 => ?_)
        go_wp2
        go_roundg (l.length - i.toNat - 1)
        case measure => have := HG.out; omega
        case rel => exact ⟨i + 1, e2, rfl, rfl, by omega, by omega, ⟨by omega⟩, ⟨upto_next hi0 HA.out HT.out⟩⟩
      · rw [hb1] at E1
        have HF := Aside0.mk (idxOf_hit (z := z59) (i := i.toNat) (by omega) hb1 HA.out)
        clear hb1
        go_wp2_with fail
        refine BW.call (E1.out _) (fun e2 => ?_)
        go_wp2
        go_ret
        exact ⟨by rw [HF.out, Int.toNat_of_nonneg hi0]; rfl, e2.ok⟩
    · have HF := Aside0.mk (idxOf_miss (z := z59) (l := l) (fun j hj => HA.out j (by omega)))
      go_wp2
      go_ret
      exact ⟨by rw [HF.out]; rfl, e.ok⟩

/-! ### impl_blockAt_1: walked in this session (the function value of blockAt) -/
set_option maxHeartbeats 1000000 in
theorem impl_blockAt_1.does {v : S59} {g : Nat} {id : Int} {cs : List Value} {w : World} (hs : w.cell? ⟨g, 0, none⟩ = some (.int .i64 id)) (hK : k59.K w v cs) :
    Calls Try.prog 118 #[.agg cs.toArray, .pointer (some ⟨g, 0, none⟩)] w fun e w' => e = .returned (.bool (idIs id v)) ∧ Below w.heap.size w w' := by
  obtain ⟨A6, u6, A8, u8, A9, u9, A10, u10, A12, u12, rfl, l6, g6, l8, g8, l9, g9, l10, g10, l12, g12⟩ := k59_open hK
  clear hK l6 g6 l8 g8 l9 g9 l10 g10 l12 g12
  have hb : g < w.heap.size := World.block_lt_of_cell? w _ hs
  have hne : g ≠ w.heap.size := by omega
  have HF : Aside0 ((v.f0 == id) = idIs id v) := ⟨rfl⟩
  go_enter Try.func118, Try.ntmps118
  go_wp2
  go_ret
  exact ⟨by rw [← HF.out]; rfl, below_alloc (Below.refl _ _) _⟩

/-! ### impl_blockAt: walked in this session -/
set_option maxHeartbeats 400000 in
theorem impl_blockAt.does {l : List S59} (hl : l.length ≤ maxLen) {id : Int} {B : Option Addr} {c : Nat} {w : World} (hr : Kd.C k59 w B l.length l) (hc : l.length ≤ c) :
    Calls Try.prog 56 #[.slice B l.length c, .int .i64 id] w fun e w' => e = .returned (.int .i64 (idAt l id)) ∧ Below w.heap.size w w' := by
  have eg : ∀ args w, (callFunc 118 args).run Try.prog w = .ok (.enter 118 args) w := fun args w => enters_ Try.func118 (by kernel_rfl) rfl args w
  have N0 := On.new (e := On.here w) (cs := #[.int .i64 id]) (t := 3) (i := 0) rfl
  have HI := Aside0.mk (slices_IndexFunc_impl_Block_impl_Block.does (p := idIs id) (lb := #[.pointer (some ⟨w.heap.size, 0, none⟩)]) eg hl (w := w.alloc (.cells #[.int .i64 id] 3)) (Kd.C_alloc hr _) hc (fun e v cs hK => impl_blockAt_1.does (N0 e) hK))
  clear hr hl eg N0
  have HF : Aside0 (idxOf (idIs id) l = idAt l id) := ⟨rfl⟩
  generalize idxOf (idIs id) l = b at *
  go_enter Try.func56, Try.ntmps56
  go_wp2_with (go_at_call 117; refine HI.out.mono ?_; rintro e w' ⟨rfl, hb⟩)
  go_ret
  exact ⟨by rw [← HF.out]; rfl, below_then (below_alloc (Below.refl _ _) _) (by simp) hb⟩

/-- What blockAt comes to, told as the printer tells it (the true function is walked by hand above). -/
def impl_blockAt.f (_k : Nat) (l0 : List S59) (a1 : Int) : Option Int := if l0.length ≤ maxLen then some (idAt l0 a1) else none
theorem impl_blockAt.mono : ∀ a0 a1 k, LeO (impl_blockAt.f k a0 a1) (impl_blockAt.f (k + 1) a0 a1) := fun _ _ _ => LeO.refl _
theorem impl_blockAt.calls (k : Nat) (A0 : Option Addr) (c0 : Nat) (l0 : List S59) (a1 : Int) (r : Int) (w : World) (hr0 : Kd.C k59 w A0 l0.length l0) (hc0 : l0.length ≤ c0) (h : impl_blockAt.f k l0 a1 = some r) :
    Calls Try.prog 56 #[.slice A0 l0.length c0, .int .i64 a1] w fun e w' => e = .returned (.int .i64 r) ∧ Below w.heap.size w w' := by
  unfold impl_blockAt.f at h
  split at h
  · next hl =>
    cases h
    exact impl_blockAt.does hl hr0 hc0
  · cases h
theorem impl_blockAt.is {l : List S59} {id : Int} (hl : l.length ≤ maxLen) : Ev (fun k => impl_blockAt.f k l id) (idAt l id) := by
  unfold impl_blockAt.f
  rw [if_pos hl]
  exact Ev.now _

end Go.Proofs.Ytnldeeefiidcaaa.F
