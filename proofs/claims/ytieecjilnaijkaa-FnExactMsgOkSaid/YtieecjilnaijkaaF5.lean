/-
Functions of the program, what they come to, and that Go comes to just that: spec_SetOk, impl_SetOk.
Conditions: those that each theorem names.
-/
import Derived.Test.YtieecjilnaijkaaFAbs
import Derived.Test.YtieecjilnaijkaaF4
set_option linter.unusedVariables false
set_option linter.unusedSimpArgs false
namespace Go.Proofs.Ytieecjilnaijkaa.F
open Go.RowKit Go.Proofs.YtieecjilnaijkaaW.PrintWords Go.Proofs.YtieecjilnaijkaaW.PrintLast Go.Proofs.Ytieecjilnaijkaa.Base Go.Proofs.Ytieecjilnaijkaa.BW

/-! ### spec_SetOk: walked in this session -/
set_option maxHeartbeats 1000000 in
set_option maxRecDepth 100000 in
theorem spec_SetOk.does {l : List S93} (hl : l.length ≤ maxLen) (hw : ∀ v ∈ l, v.f0.size ≤ maxLen) {B : Option Addr} {c : Nat} {w : World} (hr : Kd.C k93 w B l.length l) (hc : l.length ≤ c) :
    Calls Try.prog 20 #[.slice B l.length c] w fun e w' => e = .returned (.bool (setOk l)) ∧ Below w.heap.size w w' := by
  have hn : (l.length : Int) ≤ 9223372036854775807 := by have : maxLen = 9223372036854775807 := rfl; omega
  have HR := Aside0.mk hr
  have HW := Aside0.mk hw
  clear hr hw hl
  go_enter Try.func20, Try.ntmps20
  go_wp2
  go_loopg [3] l.length (fun g v3 w' => ∃ (i : Int) (e : On w), v3 = .int .i64 i ∧ w' = e.now ∧ 0 ≤ i ∧ i ≤ l.length ∧ Aside0 ((l.length : Int) - i ≤ g) ∧ Aside0 (∀ j, j < i.toNat → setAt l j = true))
  case atStart => exact ⟨0, On.here w, rfl, rfl, Int.le_refl _, by omega, ⟨by omega⟩, ⟨fun j hj => absurd hj (by simp)⟩⟩
  case round =>
    obtain ⟨i, e, rfl, rfl, hi0, hi1, HG, HA⟩ := hrel
    by_cases c1 : i < (l.length : Int)
    · obtain ⟨ad, e1, h0, h1⟩ := at_T93 HR.out i hi0 c1
      cases e1
      have R0 := On.cell h0
      have R1 := On.cell h1
      clear h0 h1
      have hsz := HW.out (rd_T93 l i) (getD_mem (by omega) _)
      have E1 := Aside0.mk (fun W => spec_NameOk.does (s := (rd_T93 l i).f0) hsz W)
      have E2 := Aside0.mk (fun W => spec_l1In.does (rd_T93 l i).f1 1 1000000 W)
      have hat : setAt l i.toNat = ((nameOk (rd_T93 l i).f0 && inR (rd_T93 l i).f1 1 1000000) && (decide (i.toNat = 0) || bless (l.getD (i.toNat - 1) z93).f0 (rd_T93 l i).f0)) := rfl
      clear hsz
      cases hb1 : nameOk (rd_T93 l i).f0
      · rw [hb1] at E1
        rw [hb1, Bool.false_and, Bool.false_and] at hat
        have HF := Aside0.mk (setOk_no (by omega) hat)
        clear hat hb1
        go_wp2
        refine BW.region (by kernel_rfl) (by kernel_rfl) ?_
        repeat (go_big_quiet_step (first | exact BW.quietD (E1.out _)))
        refine wpQuiet_nil ?_
        rintro _ ⟨e2, rfl⟩
        go_wp2
        go_ret
        exact ⟨by rw [HF.out]; rfl, e2.ok⟩
      · rw [hb1] at E1
        rw [hb1, Bool.true_and] at hat
        clear hb1
        cases hb2 : inR (rd_T93 l i).f1 1 1000000
        · rw [hb2] at E2
          rw [hb2, Bool.false_and] at hat
          have HF := Aside0.mk (setOk_no (by omega) hat)
          clear hat hb2
          go_wp2
          refine BW.region (by kernel_rfl) (by kernel_rfl) ?_
          repeat (go_big_quiet_step (first | exact BW.quietD (E1.out _) | exact BW.quietD (E2.out _)))
          refine wpQuiet_nil ?_
          rintro _ ⟨e2, rfl⟩
          go_wp2
          go_ret
          exact ⟨by rw [HF.out]; rfl, e2.ok⟩
        · rw [hb2] at E2
          rw [hb2, Bool.true_and] at hat
          clear hb2
          by_cases c3 : 0 < i
          · rw [decide_eq_false (by omega : ¬ i.toNat = 0), Bool.false_or] at hat
            have hp := at_T93 HR.out (i - 1) (by omega) (by omega)
            obtain ⟨y, hy⟩ : ∃ y, rd_T93 l (i - 1) = y := ⟨_, rfl⟩
            rw [hy, show (i - 1).toNat = i.toNat - 1 by omega] at hp
            rw [show l.getD (i.toNat - 1) z93 = y by rw [← hy]; unfold rd_T93; rw [show (i - 1).toNat = i.toNat - 1 by omega]] at hat
            clear hy
            obtain ⟨ad', e1', h0', h1'⟩ := hp
            cases e1'
            have R2 := On.cell h0'
            clear h0' h1'
            have c3' : decide (0 < i) = true := decide_eq_true c3
            cases hb3 : bless y.f0 (rd_T93 l i).f0
            · rw [hb3] at hat
              have HF := Aside0.mk (setOk_no (by omega) hat)
              have c4 : Op.bytesLess y.f0.toList (rd_T93 l i).f0.toList = false := hb3
              clear hat hb3
              go_wp2
              refine BW.region (by kernel_rfl) (by kernel_rfl) ?_
              repeat (go_big_quiet_step (first | exact BW.quietD (E1.out _) | exact BW.quietD (E2.out _)))
              refine wpQuiet_nil ?_
              rintro _ ⟨e2, rfl⟩
              go_wp2
              go_ret
              exact ⟨by rw [HF.out]; rfl, e2.ok⟩
            · rw [hb3] at hat
              have HT := Aside0.mk hat
              have c4 : Op.bytesLess y.f0.toList (rd_T93 l i).f0.toList = true := hb3
              clear hat hb3
              go_wp2
              refine BW.region (by kernel_rfl) (by kernel_rfl) ?_
              repeat (go_big_quiet_step (first | exact BW.quietD (E1.out _) | exact BW.quietD (E2.out _)))
              refine wpQuiet_nil ?_
              rintro _ ⟨e2, rfl⟩
              go_wp2
              go_roundg (l.length - i.toNat - 1)
              case measure => have := HG.out; omega
              case rel => exact ⟨i + 1, e2, rfl, rfl, by omega, by omega, ⟨by omega⟩, ⟨upto_next hi0 HA.out HT.out⟩⟩
          · rw [decide_eq_true (by omega : i.toNat = 0), Bool.true_or] at hat
            have HT := Aside0.mk hat
            have c3' : decide (0 < i) = false := decide_eq_false c3
            clear hat c3
            go_wp2
            refine BW.region (by kernel_rfl) (by kernel_rfl) ?_
            repeat (go_big_quiet_step (first | exact BW.quietD (E1.out _) | exact BW.quietD (E2.out _)))
            refine wpQuiet_nil ?_
            rintro _ ⟨e2, rfl⟩
            go_wp2
            go_roundg (l.length - i.toNat - 1)
            case measure => have := HG.out; omega
            case rel => exact ⟨i + 1, e2, rfl, rfl, by omega, by omega, ⟨by omega⟩, ⟨upto_next hi0 HA.out HT.out⟩⟩
    · have HF := Aside0.mk (setOk_end (l := l) (fun j hj => HA.out j (by omega)))
      go_wp2_with (go_at_call 64; refine BW.callD (spec_l1In.does _ _ _ _) (fun e2 => ?_))
      go_ret
      exact ⟨by rw [HF.out]; rfl, e2.ok⟩

/-- What it comes to, told as the printer tells it (the function is walked by hand above). -/
def spec_SetOk.f (_k : Nat) (l0 : List S93) : Option Bool := if l0.length ≤ maxLen ∧ ∀ v ∈ l0, v.f0.size ≤ maxLen then some (setOk l0) else none
theorem spec_SetOk.mono : ∀ a0 k, LeO (spec_SetOk.f k a0) (spec_SetOk.f (k + 1) a0) := fun _ _ => LeO.refl _
theorem spec_SetOk.calls (k : Nat) (A0 : Option Addr) (c0 : Nat) (l0 : List S93) (r : Bool) (w : World) (hr0 : Kd.C k93 w A0 l0.length l0) (hc0 : l0.length ≤ c0) (h : spec_SetOk.f k l0 = some r) :
    Calls Try.prog 20 #[.slice A0 l0.length c0] w fun e w' => e = .returned (.bool r) ∧ Below w.heap.size w w' := by
  unfold spec_SetOk.f at h
  split at h
  · next hf =>
    cases h
    exact spec_SetOk.does hf.1 hf.2 hr0 hc0
  · cases h
theorem spec_SetOk.is {l : List S93} (hl : l.length ≤ maxLen) (hw : ∀ v ∈ l, v.f0.size ≤ maxLen) : Ev (fun k => spec_SetOk.f k l) (setOk l) := by
  unfold spec_SetOk.f
  rw [if_pos ⟨hl, hw⟩]
  exact Ev.now _

/-! ### impl_SetOk: walked in this session -/
set_option maxHeartbeats 1000000 in
set_option maxRecDepth 100000 in
theorem impl_SetOk.does {l : List S93} (hl : l.length ≤ maxLen) (hw : ∀ v ∈ l, v.f0.size ≤ maxLen) {B : Option Addr} {c : Nat} {w : World} (hr : Kd.C k93 w B l.length l) (hc : l.length ≤ c) :
    Calls Try.prog 21 #[.slice B l.length c] w fun e w' => e = .returned (.bool (setOk l)) ∧ Below w.heap.size w w' := by
  have hn : (l.length : Int) ≤ 9223372036854775807 := by have : maxLen = 9223372036854775807 := rfl; omega
  have HR := Aside0.mk hr
  have HW := Aside0.mk hw
  clear hr hw hl
  go_enter Try.func21, Try.ntmps21
  go_wp2
  go_loopg [7] l.length (fun g v7 w' => ∃ (i : Int) (e : On w), v7 = .int .i64 i ∧ w' = e.now ∧ 0 ≤ i ∧ i ≤ l.length ∧ Aside0 ((l.length : Int) - i ≤ g) ∧ Aside0 (∀ j, j < i.toNat → setAt l j = true))
  case atStart => exact ⟨0, On.here w, rfl, rfl, Int.le_refl _, by omega, ⟨by omega⟩, ⟨fun j hj => absurd hj (by simp)⟩⟩
  case round =>
    obtain ⟨i, e, rfl, rfl, hi0, hi1, HG, HA⟩ := hrel
    by_cases c1 : i < (l.length : Int)
    · obtain ⟨ad, e1, h0, h1⟩ := at_T93 HR.out i hi0 c1
      cases e1
      have R0 := On.cell h0
      have R1 := On.cell h1
      have N0 := On.new (e := e) (cs := #[.string (rd_T93 l i).f0, .int .i64 (rd_T93 l i).f1]) (t := 93) (i := 0) rfl
      have N1 := On.new (e := e) (cs := #[.string (rd_T93 l i).f0, .int .i64 (rd_T93 l i).f1]) (t := 93) (i := 1) rfl
      clear h0 h1
      have hsz := HW.out (rd_T93 l i) (getD_mem (by omega) _)
      have E1 := Aside0.mk (fun W => impl_NameOk.does (s := (rd_T93 l i).f0) hsz W)
      have E2 := Aside0.mk (fun W => impl_inRange.does (rd_T93 l i).f1 1 1000000 W)
      have hat : setAt l i.toNat = ((nameOk (rd_T93 l i).f0 && inR (rd_T93 l i).f1 1 1000000) && (decide (i.toNat = 0) || bless (l.getD (i.toNat - 1) z93).f0 (rd_T93 l i).f0)) := rfl
      clear hsz
      cases hb1 : nameOk (rd_T93 l i).f0
      · rw [hb1] at E1
        rw [hb1, Bool.false_and, Bool.false_and] at hat
        have HF := Aside0.mk (setOk_no (by omega) hat)
        clear hat hb1
        go_wp2
        refine BW.regionAt (by kernel_rfl) (by kernel_rfl) ?_
        repeat (go_big_quiet_step (first | exact BW.quietD (E1.out _)))
        refine wpQuiet_nil ?_
        rintro _ ⟨e2, rfl⟩
        go_wp2
        go_ret
        exact ⟨by rw [HF.out]; rfl, (e.up e2).ok⟩
      · rw [hb1] at E1
        rw [hb1, Bool.true_and] at hat
        clear hb1
        cases hb2 : inR (rd_T93 l i).f1 1 1000000
        · rw [hb2] at E2
          rw [hb2, Bool.false_and] at hat
          have HF := Aside0.mk (setOk_no (by omega) hat)
          clear hat hb2
          go_wp2
          refine BW.regionAt (by kernel_rfl) (by kernel_rfl) ?_
          repeat (go_big_quiet_step (first | exact BW.quietD (E1.out _) | exact BW.quietD (E2.out _)))
          refine wpQuiet_nil ?_
          rintro _ ⟨e2, rfl⟩
          go_wp2
          go_ret
          exact ⟨by rw [HF.out]; rfl, (e.up e2).ok⟩
        · rw [hb2] at E2
          rw [hb2, Bool.true_and] at hat
          clear hb2
          by_cases c3 : 0 < i
          · rw [decide_eq_false (by omega : ¬ i.toNat = 0), Bool.false_or] at hat
            have hp := at_T93 HR.out (i - 1) (by omega) (by omega)
            obtain ⟨y, hy⟩ : ∃ y, rd_T93 l (i - 1) = y := ⟨_, rfl⟩
            rw [hy, show (i - 1).toNat = i.toNat - 1 by omega] at hp
            rw [show l.getD (i.toNat - 1) z93 = y by rw [← hy]; unfold rd_T93; rw [show (i - 1).toNat = i.toNat - 1 by omega]] at hat
            clear hy
            obtain ⟨ad', e1', h0', h1'⟩ := hp
            cases e1'
            have R2 := On.old (e := e) (o := .cells #[.string (rd_T93 l i).f0, .int .i64 (rd_T93 l i).f1] 93) (On.cell h0')
            clear h0' h1'
            have c3' : decide (0 < i) = true := decide_eq_true c3
            cases hb3 : bless y.f0 (rd_T93 l i).f0
            · rw [hb3] at hat
              have HF := Aside0.mk (setOk_no (by omega) hat)
              have c4 : Op.bytesLess y.f0.toList (rd_T93 l i).f0.toList = false := hb3
              clear hat hb3
              go_wp2
              refine BW.regionAt (by kernel_rfl) (by kernel_rfl) ?_
              repeat (go_big_quiet_step (first | exact BW.quietD (E1.out _) | exact BW.quietD (E2.out _)))
              refine wpQuiet_nil ?_
              rintro _ ⟨e2, rfl⟩
              go_wp2
              go_ret
              exact ⟨by rw [HF.out]; rfl, (e.up e2).ok⟩
            · rw [hb3] at hat
              have HT := Aside0.mk hat
              have c4 : Op.bytesLess y.f0.toList (rd_T93 l i).f0.toList = true := hb3
              clear hat hb3
              go_wp2
              refine BW.regionAt (by kernel_rfl) (by kernel_rfl) ?_
              repeat (go_big_quiet_step (first | exact BW.quietD (E1.out _) | exact BW.quietD (E2.out _)))
              refine wpQuiet_nil ?_
              rintro _ ⟨e2, rfl⟩
              go_wp2
              go_roundg (l.length - i.toNat - 1)
              case measure => have := HG.out; omega
              case rel => exact ⟨i + 1, e.up e2, rfl, rfl, by omega, by omega, ⟨by omega⟩, ⟨upto_next hi0 HA.out HT.out⟩⟩
          · rw [decide_eq_true (by omega : i.toNat = 0), Bool.true_or] at hat
            have HT := Aside0.mk hat
            have c3' : decide (0 < i) = false := decide_eq_false c3
            clear hat c3
            go_wp2
            refine BW.regionAt (by kernel_rfl) (by kernel_rfl) ?_
            repeat (go_big_quiet_step (first | exact BW.quietD (E1.out _) | exact BW.quietD (E2.out _)))
            refine wpQuiet_nil ?_
            rintro _ ⟨e2, rfl⟩
            go_wp2
            go_roundg (l.length - i.toNat - 1)
            case measure => have := HG.out; omega
            case rel => exact ⟨i + 1, e.up e2, rfl, rfl, by omega, by omega, ⟨by omega⟩, ⟨upto_next hi0 HA.out HT.out⟩⟩
    · have HF := Aside0.mk (setOk_end (l := l) (fun j hj => HA.out j (by omega)))
      go_wp2_with (go_at_call 66; refine BW.callD (impl_inRange.does _ _ _ _) (fun e2 => ?_))
      go_ret
      exact ⟨by rw [HF.out]; rfl, e2.ok⟩

/-- What it comes to, told as the printer tells it (the function is walked by hand above). -/
def impl_SetOk.f (_k : Nat) (l0 : List S93) : Option Bool := if l0.length ≤ maxLen ∧ ∀ v ∈ l0, v.f0.size ≤ maxLen then some (setOk l0) else none
theorem impl_SetOk.mono : ∀ a0 k, LeO (impl_SetOk.f k a0) (impl_SetOk.f (k + 1) a0) := fun _ _ => LeO.refl _
theorem impl_SetOk.calls (k : Nat) (A0 : Option Addr) (c0 : Nat) (l0 : List S93) (r : Bool) (w : World) (hr0 : Kd.C k93 w A0 l0.length l0) (hc0 : l0.length ≤ c0) (h : impl_SetOk.f k l0 = some r) :
    Calls Try.prog 21 #[.slice A0 l0.length c0] w fun e w' => e = .returned (.bool r) ∧ Below w.heap.size w w' := by
  unfold impl_SetOk.f at h
  split at h
  · next hf =>
    cases h
    exact impl_SetOk.does hf.1 hf.2 hr0 hc0
  · cases h
theorem impl_SetOk.is {l : List S93} (hl : l.length ≤ maxLen) (hw : ∀ v ∈ l, v.f0.size ≤ maxLen) : Ev (fun k => impl_SetOk.f k l) (setOk l) := by
  unfold impl_SetOk.f
  rw [if_pos ⟨hl, hw⟩]
  exact Ev.now _

end Go.Proofs.Ytieecjilnaijkaa.F
