/-
Functions of the program, what they come to, and that Go comes to just that: spec_SetOk, spec_BlockOk, spec_TreeOk.
Conditions: those that each theorem names.
-/
import Derived.Test.YtnldeeefiidcaaaFAbs
import Derived.Test.YtnldeeefiidcaaaF2
import Derived.Test.YtnldeeefiidcaaaF9
set_option linter.unusedVariables false
set_option linter.unusedSimpArgs false
namespace Go.Proofs.Ytnldeeefiidcaaa.F
open Go.RowKit Go.Proofs.YtnldeeefiidcaaaW.PrintWords Go.Proofs.YtnldeeefiidcaaaW.PrintLast Go.Proofs.Ytnldeeefiidcaaa.Base Go.Proofs.Ytnldeeefiidcaaa.BW

/-! ### spec_SetOk: walked in this session -/
set_option maxHeartbeats 1000000 in
set_option maxRecDepth 100000 in
theorem spec_SetOk.does {l : List S122} (hl : l.length ≤ maxLen) (hw : ∀ v ∈ l, v.f0.size ≤ maxLen) {B : Option Addr} {c : Nat} {w : World} (hr : Kd.C k122 w B l.length l) (hc : l.length ≤ c) :
    Calls Try.prog 124 #[.slice B l.length c] w fun e w' => e = .returned (.bool (setOk l)) ∧ Below w.heap.size w w' := by
  have hn : (l.length : Int) ≤ 9223372036854775807 := by have : maxLen = 9223372036854775807 := rfl; omega
  have HR := Aside0.mk hr
  have HW := Aside0.mk hw
  clear hr hw hl
  go_enter Try.func124, Try.ntmps124
  go_wp2
  go_loopg [3] l.length (fun g v3 w' => ∃ (i : Int) (e : On w), v3 = .int .i64 i ∧ w' = e.now ∧ 0 ≤ i ∧ i ≤ l.length ∧ Aside0 ((l.length : Int) - i ≤ g) ∧ Aside0 (∀ j, j < i.toNat → setAt l j = true))
  case atStart => exact ⟨0, On.here w, rfl, rfl, Int.le_refl _, by omega, ⟨by omega⟩, ⟨fun j hj => absurd hj (by simp)⟩⟩
  case round =>
    obtain ⟨i, e, rfl, rfl, hi0, hi1, HG, HA⟩ := hrel
    by_cases c1 : i < (l.length : Int)
    · obtain ⟨ad, e1, h0, h1⟩ := at_T122 HR.out i hi0 c1
      cases e1
      have R0 := On.cell h0
      have R1 := On.cell h1
      clear h0 h1
      have hsz := HW.out (rd_T122 l i) (getD_mem (by omega) _)
      have E1 := Aside0.mk (fun W => spec_NameOk.does (s := (rd_T122 l i).f0) hsz W)
      have E2 := Aside0.mk (fun W => spec_l1In.does (rd_T122 l i).f1 1 1000000 W)
      have hat : setAt l i.toNat = ((nameOk (rd_T122 l i).f0 && inR (rd_T122 l i).f1 1 1000000) && (decide (i.toNat = 0) || bless (l.getD (i.toNat - 1) z122).f0 (rd_T122 l i).f0)) := rfl
      clear hsz
      cases hb1 : nameOk (rd_T122 l i).f0
      · rw [hb1] at E1
        rw [hb1, Bool.false_and, Bool.false_and] at hat
        have HF := Aside0.mk (setOk_no (by omega) hat)
        clear hat hb1
        go_wp2
        refine BW.region (by kernel_rfl) (by kernel_rfl) ?_
        repeat (go_big_quiet_step (first | exact BW.quietD (E1.out _)))
        refine wpQuiet_nil ?_
        rintro _ ⟨e2, rfl⟩
        go_wp2
        go_ret
        exact ⟨by rw [HF.out]; rfl, e2.ok⟩
      · rw [hb1] at E1
        rw [hb1, Bool.true_and] at hat
        clear hb1
        cases hb2 : inR (rd_T122 l i).f1 1 1000000
        · rw [hb2] at E2
          rw [hb2, Bool.false_and] at hat
          have HF := Aside0.mk (setOk_no (by omega) hat)
          clear hat hb2
          go_wp2
          refine BW.region (by kernel_rfl) (by kernel_rfl) ?_
          repeat (go_big_quiet_step (first | exact BW.quietD (E1.out _) | exact BW.quietD (E2.out _)))
          refine wpQuiet_nil ?_
          rintro _ ⟨e2, rfl⟩
          go_wp2
          go_ret
          exact ⟨by rw [HF.out]; rfl, e2.ok⟩
        · rw [hb2] at E2
          rw [hb2, Bool.true_and] at hat
          clear hb2
          by_cases c3 : 0 < i
          · rw [decide_eq_false (by omega : ¬ i.toNat = 0), Bool.false_or] at hat
            have hp := at_T122 HR.out (i - 1) (by omega) (by omega)
            obtain ⟨y, hy⟩ : ∃ y, rd_T122 l (i - 1) = y := ⟨_, rfl⟩
            rw [hy, show (i - 1).toNat = i.toNat - 1 by omega] at hp
            rw [show l.getD (i.toNat - 1) z122 = y by rw [← hy]; unfold rd_T122; rw [show (i - 1).toNat = i.toNat - 1 by omega]] at hat
            clear hy
            obtain ⟨ad', e1', h0', h1'⟩ := hp
            cases e1'
            have R2 := On.cell h0'
            clear h0' h1'
            have c3' : decide (0 < i) = true := decide_eq_true c3
            cases hb3 : bless y.f0 (rd_T122 l i).f0
            · rw [hb3] at hat
              have HF := Aside0.mk (setOk_no (by omega) hat)
              have c4 : Op.bytesLess y.f0.toList (rd_T122 l i).f0.toList = false := hb3
              clear hat hb3
              go_wp2
              refine BW.region (by kernel_rfl) (by kernel_rfl) ?_
              repeat (go_big_quiet_step (first | exact BW.quietD (E1.out _) | exact BW.quietD (E2.out _)))
              refine wpQuiet_nil ?_
              rintro _ ⟨e2, rfl⟩
              go_wp2
              go_ret
              exact ⟨by rw [HF.out]; rfl, e2.ok⟩
            · rw [hb3] at hat
              have HT := Aside0.mk hat
              have c4 : Op.bytesLess y.f0.toList (rd_T122 l i).f0.toList = true := hb3
              clear hat hb3
              go_wp2
              refine BW.region (by kernel_rfl) (by kernel_rfl) ?_
              repeat (go_big_quiet_step (first | exact BW.quietD (E1.out _) | exact BW.quietD (E2.out _)))
              refine wpQuiet_nil ?_
              rintro _ ⟨e2, rfl⟩
              go_wp2
              go_roundg (l.length - i.toNat - 1)
              case measure => have := HG.out; omega
              case rel => exact ⟨i + 1, e2, rfl, rfl, by omega, by omega, ⟨by omega⟩, ⟨upto_next hi0 HA.out HT.out⟩⟩
          · rw [decide_eq_true (by omega : i.toNat = 0), Bool.true_or] at hat
            have HT := Aside0.mk hat
            have c3' : decide (0 < i) = false := decide_eq_false c3
            clear hat c3
            go_wp2
            refine BW.region (by kernel_rfl) (by kernel_rfl) ?_
            repeat (go_big_quiet_step (first | exact BW.quietD (E1.out _) | exact BW.quietD (E2.out _)))
            refine wpQuiet_nil ?_
            rintro _ ⟨e2, rfl⟩
            go_wp2
            go_roundg (l.length - i.toNat - 1)
            case measure => have := HG.out; omega
            case rel => exact ⟨i + 1, e2, rfl, rfl, by omega, by omega, ⟨by omega⟩, ⟨upto_next hi0 HA.out HT.out⟩⟩
    · have HF := Aside0.mk (setOk_end (l := l) (fun j hj => HA.out j (by omega)))
      go_wp2_with (go_at_call 119; refine BW.callD (spec_l1In.does _ _ _ _) (fun e2 => ?_))
      go_ret
      exact ⟨by rw [HF.out]; rfl, e2.ok⟩

/-- What it comes to, told as the printer tells it (the function is walked by hand above). -/
def spec_SetOk.f (_k : Nat) (l0 : List S122) : Option Bool := if l0.length ≤ maxLen ∧ ∀ v ∈ l0, v.f0.size ≤ maxLen then some (setOk l0) else none
theorem spec_SetOk.mono : ∀ a0 k, LeO (spec_SetOk.f k a0) (spec_SetOk.f (k + 1) a0) := fun _ _ => LeO.refl _
theorem spec_SetOk.calls (k : Nat) (A0 : Option Addr) (c0 : Nat) (l0 : List S122) (r : Bool) (w : World) (hr0 : Kd.C k122 w A0 l0.length l0) (hc0 : l0.length ≤ c0) (h : spec_SetOk.f k l0 = some r) :
    Calls Try.prog 124 #[.slice A0 l0.length c0] w fun e w' => e = .returned (.bool r) ∧ Below w.heap.size w w' := by
  unfold spec_SetOk.f at h
  split at h
  · next hf =>
    cases h
    exact spec_SetOk.does hf.1 hf.2 hr0 hc0
  · cases h
theorem spec_SetOk.is {l : List S122} (hl : l.length ≤ maxLen) (hw : ∀ v ∈ l, v.f0.size ≤ maxLen) : Ev (fun k => spec_SetOk.f k l) (setOk l) := by
  unfold spec_SetOk.f
  rw [if_pos ⟨hl, hw⟩]
  exact Ev.now _

/-! ### spec_BlockOk: walked in this session -/
set_option maxHeartbeats 2000000 in
set_option maxRecDepth 100000 in
theorem spec_BlockOk.does {b : S59} (hf : blockFit b) {cs : List Value} {w : World} (hK : k59.K w b cs) : Calls Try.prog 58 #[.agg cs.toArray] w fun e w' => e = .returned (.bool (blockOk b)) ∧ Below w.heap.size w w' := by
  obtain ⟨hby, ⟨hq, hqs⟩, ⟨ht, hts⟩, hh, ⟨hx, hxs⟩, hv, hvs⟩ := hf
  have hK' := hK
  obtain ⟨A6, u6, A8, u8, A9, u9, A10, u10, A12, u12, rfl, l6, g6, l8, g8, l9, g9, l10, g10, l12, g12⟩ := k59_open hK
  have NB := fun e : On (w.alloc (.cells #[.int .i64 b.f0, .int .i64 b.f1, .int .i64 b.f2, .string b.f3, .int .i64 b.f4.f0, .int .i64 b.f4.f1, .slice A6 b.f4.f2.length u6, .int .i64 b.f5.f0, .slice A8 b.f5.f1.length u8, .slice A9 b.f5.f2.length u9, .slice A10 b.f6.length u10, .bool b.f7, .slice A12 b.f8.length u12, .string b.f9] 59)) => cells14 (On.blk e)
  have N0 := fun e => (NB e).1
  have N1 := fun e => (NB e).2.1
  have N2 := fun e => (NB e).2.2.1
  have N3 := fun e => (NB e).2.2.2.1
  have N4 := fun e => (NB e).2.2.2.2.1
  have N5 := fun e => (NB e).2.2.2.2.2.1
  have N6 := fun e => (NB e).2.2.2.2.2.2.1
  have N7 := fun e => (NB e).2.2.2.2.2.2.2.1
  have N8 := fun e => (NB e).2.2.2.2.2.2.2.2.1
  have N9 := fun e => (NB e).2.2.2.2.2.2.2.2.2.1
  have N10 := fun e => (NB e).2.2.2.2.2.2.2.2.2.2.1
  have N11 := fun e => (NB e).2.2.2.2.2.2.2.2.2.2.2.1
  have N12 := fun e => (NB e).2.2.2.2.2.2.2.2.2.2.2.2.1
  have N13 := fun e => (NB e).2.2.2.2.2.2.2.2.2.2.2.2.2
  clear NB
  have E1 := Aside0.mk (fun W => spec_l1In.does b.f0 0 100000 W)
  have E2 := Aside0.mk (fun W => spec_l1In.does b.f1 0 900 W)
  have E3 := Aside0.mk (fun W => spec_l1In.does b.f2 1 10000 W)
  have E4 := Aside0.mk (fun W => spec_NameOk.does hby W)
  have E5 := Aside0.mk (fun e : On (w.alloc (.cells #[.int .i64 b.f0, .int .i64 b.f1, .int .i64 b.f2, .string b.f3, .int .i64 b.f4.f0, .int .i64 b.f4.f1, .slice A6 b.f4.f2.length u6, .int .i64 b.f5.f0, .slice A8 b.f5.f1.length u8, .slice A9 b.f5.f2.length u9, .slice A10 b.f6.length u10, .bool b.f7, .slice A12 b.f8.length u12, .string b.f9] 59)) => spec_l9Qc.does hq hqs (On.val hK' e.boxed))
  have E6 := Aside0.mk (fun e : On (w.alloc (.cells #[.int .i64 b.f0, .int .i64 b.f1, .int .i64 b.f2, .string b.f3, .int .i64 b.f4.f0, .int .i64 b.f4.f1, .slice A6 b.f4.f2.length u6, .int .i64 b.f5.f0, .slice A8 b.f5.f1.length u8, .slice A9 b.f5.f2.length u9, .slice A10 b.f6.length u10, .bool b.f7, .slice A12 b.f8.length u12, .string b.f9] 59)) => spec_l9Tc.does ht hts hh (On.val hK' e.boxed))
  have E9 := Aside0.mk (fun e : On (w.alloc (.cells #[.int .i64 b.f0, .int .i64 b.f1, .int .i64 b.f2, .string b.f3, .int .i64 b.f4.f0, .int .i64 b.f4.f1, .slice A6 b.f4.f2.length u6, .int .i64 b.f5.f0, .slice A8 b.f5.f1.length u8, .slice A9 b.f5.f2.length u9, .slice A10 b.f6.length u10, .bool b.f7, .slice A12 b.f8.length u12, .string b.f9] 59)) => spec_SetOk.does hv hvs (On.row g12 e.boxed) l12)
  simp only [On.boxed_now] at E5 E6 E9
  have hat : blockOk b = (inR b.f0 0 100000 && (inR b.f1 0 900 && (inR b.f2 1 10000 && (nameOk b.f3 && (qcForm b.f4.f0 b.f4.f1 b.f4.f2 (wrap64 (b.f2 - 1)) (wrap64 (b.f0 - 1)) && (tcForm b.f5.f0 b.f5.f1 b.f5.f2 (wrap64 (b.f2 - 1)) && (!decide ((b.f6.length : Int) > 4) && (allUpto b.f6.length (fun i => txOk (rd_T120 b.f6 (i : Int))) && (if b.f7 = true then (setOk b.f8 && ((b.f9.size : Int) == 32)) else (decide ((b.f8.length : Int) = 0) && (b.f9.toList == ([] : List UInt8)))))))))))) := rfl
  have hn : (b.f6.length : Int) ≤ 9223372036854775807 := by have : maxLen = 9223372036854775807 := rfl; omega
  have HR := Aside0.mk g10
  have HX := Aside0.mk hxs
  clear hby hq hqs ht hts hh hx hxs hv hvs hK hK' l6 g6 l8 g8 l9 g9 l10 g10 l12 g12
  generalize inR b.f0 0 100000 = b1 at *
  generalize inR b.f1 0 900 = b2 at *
  generalize inR b.f2 1 10000 = b3 at *
  generalize nameOk b.f3 = b4 at *
  generalize qcForm b.f4.f0 b.f4.f1 b.f4.f2 (wrap64 (b.f2 - 1)) (wrap64 (b.f0 - 1)) = b5 at *
  generalize tcForm b.f5.f0 b.f5.f1 b.f5.f2 (wrap64 (b.f2 - 1)) = b6 at *
  generalize b.f7 = vE at *
  generalize b.f8 = s8 at *
  cases b1
  · skip
    clear HR HX
    go_enter Try.func58, Try.ntmps58
    go_wp2_with fail
    refine BW.callD (e := On.hereOf N0) (E1.out _) (fun e1 => ?_)
    go_wp2
    go_ret
    exact ⟨by first | (rw [hat]; rfl) | rfl, e1.boxed.ok⟩
  · skip
    cases b2
    · skip
      clear HR HX
      go_enter Try.func58, Try.ntmps58
      go_wp2_with fail
      refine BW.callD (e := On.hereOf N0) (E1.out _) (fun e1 => ?_)
      go_wp2_with fail
      refine BW.callD (E2.out _) (fun e2 => ?_)
      go_wp2
      go_ret
      exact ⟨by first | (rw [hat]; rfl) | rfl, e2.boxed.ok⟩
    · skip
      cases b3
      · skip
        clear HR HX
        go_enter Try.func58, Try.ntmps58
        go_wp2_with fail
        refine BW.callD (e := On.hereOf N0) (E1.out _) (fun e1 => ?_)
        go_wp2_with fail
        refine BW.callD (E2.out _) (fun e2 => ?_)
        go_wp2_with fail
        refine BW.callD (E3.out _) (fun e3 => ?_)
        go_wp2
        go_ret
        exact ⟨by first | (rw [hat]; rfl) | rfl, e3.boxed.ok⟩
      · skip
        cases b4
        · skip
          clear HR HX
          go_enter Try.func58, Try.ntmps58
          go_wp2_with fail
          refine BW.callD (e := On.hereOf N0) (E1.out _) (fun e1 => ?_)
          go_wp2_with fail
          refine BW.callD (E2.out _) (fun e2 => ?_)
          go_wp2_with fail
          refine BW.callD (E3.out _) (fun e3 => ?_)
          go_wp2_with fail
          refine BW.callD (E4.out _) (fun e4 => ?_)
          go_wp2
          go_ret
          exact ⟨by first | (rw [hat]; rfl) | rfl, e4.boxed.ok⟩
        · skip
          cases b5
          · skip
            clear HR HX
            go_enter Try.func58, Try.ntmps58
            go_wp2_with fail
            refine BW.callD (e := On.hereOf N0) (E1.out _) (fun e1 => ?_)
            go_wp2_with fail
            refine BW.callD (E2.out _) (fun e2 => ?_)
            go_wp2_with fail
            refine BW.callD (E3.out _) (fun e3 => ?_)
            go_wp2_with fail
            refine BW.callD (E4.out _) (fun e4 => ?_)
            go_wp2_with fail
            refine BW.call (E5.out _) (fun e5 => ?_)
            go_wp2
            go_ret
            exact ⟨by first | (rw [hat]; rfl) | rfl, e5.boxed.ok⟩
          · skip
            cases b6
            · skip
              clear HR HX
              go_enter Try.func58, Try.ntmps58
              go_wp2_with fail
              refine BW.callD (e := On.hereOf N0) (E1.out _) (fun e1 => ?_)
              go_wp2_with fail
              refine BW.callD (E2.out _) (fun e2 => ?_)
              go_wp2_with fail
              refine BW.callD (E3.out _) (fun e3 => ?_)
              go_wp2_with fail
              refine BW.callD (E4.out _) (fun e4 => ?_)
              go_wp2_with fail
              refine BW.call (E5.out _) (fun e5 => ?_)
              go_wp2_with fail
              refine BW.call (E6.out _) (fun e6 => ?_)
              go_wp2
              go_ret
              exact ⟨by first | (rw [hat]; rfl) | rfl, e6.boxed.ok⟩
            · skip
              by_cases c7 : (b.f6.length : Int) > 4
              · skip
                have c7' : decide ((b.f6.length : Int) > 4) = true := decide_eq_true c7
                rw [c7'] at hat
                go_enter Try.func58, Try.ntmps58
                go_wp2_with fail
                refine BW.callD (e := On.hereOf N0) (E1.out _) (fun e1 => ?_)
                go_wp2_with fail
                refine BW.callD (E2.out _) (fun e2 => ?_)
                go_wp2_with fail
                refine BW.callD (E3.out _) (fun e3 => ?_)
                go_wp2_with fail
                refine BW.callD (E4.out _) (fun e4 => ?_)
                go_wp2_with fail
                refine BW.call (E5.out _) (fun e5 => ?_)
                go_wp2_with fail
                refine BW.call (E6.out _) (fun e6 => ?_)
                go_wp2
                go_ret
                exact ⟨by first | (rw [hat]; rfl) | rfl, e6.boxed.ok⟩
              · skip
                have c7' : decide ((b.f6.length : Int) > 4) = false := decide_eq_false c7
                rw [c7'] at hat
                simp only [Bool.not_false, Bool.true_and] at hat
                go_enter Try.func58, Try.ntmps58
                go_wp2_with fail
                refine BW.callD (e := On.hereOf N0) (E1.out _) (fun e1 => ?_)
                go_wp2_with fail
                refine BW.callD (E2.out _) (fun e2 => ?_)
                go_wp2_with fail
                refine BW.callD (E3.out _) (fun e3 => ?_)
                go_wp2_with fail
                refine BW.callD (E4.out _) (fun e4 => ?_)
                go_wp2_with fail
                refine BW.call (E5.out _) (fun e5 => ?_)
                go_wp2_with fail
                refine BW.call (E6.out _) (fun e6 => ?_)
                go_wp2
                go_loopg [3] b.f6.length (fun g v3 w' => ∃ (i : Int) (e : On (w.alloc (.cells #[.int .i64 b.f0, .int .i64 b.f1, .int .i64 b.f2, .string b.f3, .int .i64 b.f4.f0, .int .i64 b.f4.f1, .slice A6 b.f4.f2.length u6, .int .i64 b.f5.f0, .slice A8 b.f5.f1.length u8, .slice A9 b.f5.f2.length u9, .slice A10 b.f6.length u10, .bool vE, .slice A12 s8.length u12, .string b.f9] 59))), v3 = .int .i64 i ∧ w' = e.now ∧ 0 ≤ i ∧ i ≤ b.f6.length ∧ Aside0 ((b.f6.length : Int) - i ≤ g) ∧ Aside0 (∀ j, j < i.toNat → txOk (rd_T120 b.f6 (j : Int)) = true))
                case atStart => exact ⟨0, e6, rfl, rfl, Int.le_refl _, by omega, ⟨by omega⟩, ⟨fun j hj => absurd hj (by simp)⟩⟩
                case round =>
                  obtain ⟨i, e, rfl, rfl, hi0, hi1, HG, HA⟩ := hrel
                  by_cases c1 : i < (b.f6.length : Int)
                  · obtain ⟨ad, q1, r0, r1, r2, r3, r4⟩ := at_T120 HR.out i hi0 c1
                    subst q1
                    have R0 := On.cellBox N0 r0
                    have R1 := On.cellBox N0 r1
                    have R2 := On.cellBox N0 r2
                    have R3 := On.cellBox N0 r3
                    have R4 := On.cellBox N0 r4
                    clear r0 r1 r2 r3 r4
                    have hm := HX.out (rd_T120 b.f6 i) (getD_mem (by omega) _)
                    have F1 := Aside0.mk (fun W => spec_TxOk.does (t := rd_T120 b.f6 i) hm.1 hm.2 W)
                    clear hm
                    cases ht : txOk (rd_T120 b.f6 i)
                    · rw [ht] at F1
                      have HF := Aside0.mk (hat.trans (by rw [allUpto_no (p := fun i => txOk (rd_T120 b.f6 (i : Int))) (by omega : i.toNat < b.f6.length) (by show txOk (rd_T120 b.f6 (i.toNat : Int)) = false; rw [Int.toNat_of_nonneg hi0]; exact ht)]; rfl : _ = false))
                      clear ht hat
                      go_wp2_with fail
                      refine BW.call (F1.out _) (fun e2 => ?_)
                      go_wp2
                      go_ret
                      exact ⟨by first | (rw [HF.out]; rfl) | rfl, e2.boxed.ok⟩
                    · rw [ht] at F1
                      have HT := Aside0.mk ht
                      clear ht
                      go_wp2_with fail
                      refine BW.call (F1.out _) (fun e2 => ?_)
                      go_wp2
                      go_roundg (b.f6.length - i.toNat - 1)
                      case measure => have := HG.out; omega
                      case rel => exact ⟨i + 1, e2, rfl, rfl, by omega, by omega, ⟨by omega⟩, ⟨upto_next hi0 HA.out (by rw [Int.toNat_of_nonneg hi0]; exact HT.out)⟩⟩
                  · skip
                    rw [allUpto_yes (p := fun i => txOk (rd_T120 b.f6 (i : Int))) (fun j hj => HA.out j (by omega)), Bool.true_and] at hat
                    clear HA HG HX HR
                    cases vE
                    case true =>
                      rw [if_pos rfl] at hat
                      generalize setOk s8 = b9 at *
                      cases b9
                      · skip
                        go_wp2_with fail
                        refine BW.call (E9.out _) (fun e9 => ?_)
                        go_wp2
                        go_ret
                        exact ⟨by first | (rw [hat]; rfl) | rfl, e9.boxed.ok⟩
                      · by_cases c9 : (b.f9.size : Int) = 32
                        · skip
                          have c9' : decide ((b.f9.size : Int) = 32) = true := decide_eq_true c9
                          have c9'' : ((b.f9.size : Int) == 32) = true := c9'
                          rw [c9''] at hat
                          clear c9
                          go_wp2_with fail
                          refine BW.call (E9.out _) (fun e9 => ?_)
                          go_wp2
                          go_ret
                          exact ⟨by first | (rw [hat]; rfl) | rfl, e9.boxed.ok⟩
                        · skip
                          have c9' : decide ((b.f9.size : Int) = 32) = false := decide_eq_false c9
                          have c9'' : ((b.f9.size : Int) == 32) = false := c9'
                          rw [c9''] at hat
                          clear c9
                          go_wp2_with fail
                          refine BW.call (E9.out _) (fun e9 => ?_)
                          go_wp2
                          go_ret
                          exact ⟨by first | (rw [hat]; rfl) | rfl, e9.boxed.ok⟩
                    case false =>
                      rw [if_neg (by decide)] at hat
                      by_cases c9 : (s8.length : Int) = 0
                      · skip
                        have c9' : decide ((s8.length : Int) = 0) = true := decide_eq_true c9
                        rw [c9'] at hat
                        obtain rfl : s8 = [] := List.length_eq_zero_iff.1 (by omega)
                        by_cases c8 : b.f9.toList = []
                        · skip
                          have c8' : (b.f9.toList == ([] : List UInt8)) = true := by rw [c8]; rfl
                          rw [c8'] at hat
                          clear c9
                          go_wp2
                          go_ret
                          exact ⟨by first | (rw [hat]; rfl) | rfl, e.boxed.ok⟩
                        · skip
                          have c8' : (b.f9.toList == ([] : List UInt8)) = false := by simp [c8]
                          rw [c8'] at hat
                          clear c9
                          go_wp2
                          go_ret
                          exact ⟨by first | (rw [hat]; rfl) | rfl, e.boxed.ok⟩
                      · skip
                        have c9' : decide ((s8.length : Int) = 0) = false := decide_eq_false c9
                        rw [c9'] at hat
                        have c9e : ¬ s8 = [] := fun h => c9 (by rw [h]; rfl)
                        clear c9
                        go_wp2
                        go_ret
                        exact ⟨by first | (rw [hat]; rfl) | rfl, e.boxed.ok⟩

/-- What it comes to, told as the printer tells it (the function is walked by hand above). -/
def spec_BlockOk.f (_k : Nat) (a0_0 : Int) (a0_1 : Int) (a0_2 : Int) (a0_3 : ByteArray) (a0_4 : Int) (a0_5 : Int) (l0_6 : List ByteArray) (a0_7 : Int) (l0_8 : List ByteArray) (l0_9 : List Int) (l0_10 : List (S120)) (a0_11 : Bool) (l0_12 : List (S122)) (a0_13 : ByteArray) : Option Bool := if blockFit (⟨a0_0, a0_1, a0_2, a0_3, ⟨a0_4, a0_5, l0_6⟩, ⟨a0_7, l0_8, l0_9⟩, l0_10, a0_11, l0_12, a0_13⟩ : S59) then some (blockOk (⟨a0_0, a0_1, a0_2, a0_3, ⟨a0_4, a0_5, l0_6⟩, ⟨a0_7, l0_8, l0_9⟩, l0_10, a0_11, l0_12, a0_13⟩ : S59)) else none
theorem spec_BlockOk.mono : ∀ a0 a1 a2 a3 a4 a5 a6 a7 a8 a9 a10 a11 a12 a13 k, LeO (spec_BlockOk.f k a0 a1 a2 a3 a4 a5 a6 a7 a8 a9 a10 a11 a12 a13) (spec_BlockOk.f (k + 1) a0 a1 a2 a3 a4 a5 a6 a7 a8 a9 a10 a11 a12 a13) := fun _ _ _ _ _ _ _ _ _ _ _ _ _ _ _ => LeO.refl _
theorem spec_BlockOk.calls (k : Nat) (a0_0 : Int) (a0_1 : Int) (a0_2 : Int) (a0_3 : ByteArray) (a0_4 : Int) (a0_5 : Int) (A0_6 : Option Addr) (c0_6 : Nat) (l0_6 : List ByteArray) (a0_7 : Int) (A0_8 : Option Addr) (c0_8 : Nat) (l0_8 : List ByteArray) (A0_9 : Option Addr) (c0_9 : Nat) (l0_9 : List Int) (A0_10 : Option Addr) (c0_10 : Nat) (l0_10 : List (S120)) (a0_11 : Bool) (A0_12 : Option Addr) (c0_12 : Nat) (l0_12 : List (S122)) (a0_13 : ByteArray) (r : Bool) (w : World) (hr0_6 : Kd.C Kd.string w A0_6 l0_6.length l0_6) (hc0_6 : l0_6.length ≤ c0_6) (hr0_8 : Kd.C Kd.string w A0_8 l0_8.length l0_8) (hc0_8 : l0_8.length ≤ c0_8) (hr0_9 : Kd.C (Kd.int .i64) w A0_9 l0_9.length l0_9) (hc0_9 : l0_9.length ≤ c0_9) (hr0_10 : Kd.C k120 w A0_10 l0_10.length l0_10) (hc0_10 : l0_10.length ≤ c0_10) (hr0_12 : Kd.C k122 w A0_12 l0_12.length l0_12) (hc0_12 : l0_12.length ≤ c0_12) (h : spec_BlockOk.f k a0_0 a0_1 a0_2 a0_3 a0_4 a0_5 l0_6 a0_7 l0_8 l0_9 l0_10 a0_11 l0_12 a0_13 = some r) :
    Calls Try.prog 58 #[.agg #[.int .i64 a0_0, .int .i64 a0_1, .int .i64 a0_2, .string a0_3, .int .i64 a0_4, .int .i64 a0_5, .slice A0_6 l0_6.length c0_6, .int .i64 a0_7, .slice A0_8 l0_8.length c0_8, .slice A0_9 l0_9.length c0_9, .slice A0_10 l0_10.length c0_10, .bool a0_11, .slice A0_12 l0_12.length c0_12, .string a0_13]] w fun e w' => e = .returned (.bool r) ∧ Below w.heap.size w w' := by
  unfold spec_BlockOk.f at h
  split at h
  · next hf =>
    cases h
    exact spec_BlockOk.does hf (k59_mk w (⟨a0_0, a0_1, a0_2, a0_3, ⟨a0_4, a0_5, l0_6⟩, ⟨a0_7, l0_8, l0_9⟩, l0_10, a0_11, l0_12, a0_13⟩ : S59) hc0_6 hr0_6 hc0_8 hr0_8 hc0_9 hr0_9 hc0_10 hr0_10 hc0_12 hr0_12)
  · cases h
theorem spec_BlockOk.is {b : S59} (hf : blockFit b) : Ev (fun k => spec_BlockOk.f k b.f0 b.f1 b.f2 b.f3 b.f4.f0 b.f4.f1 b.f4.f2 b.f5.f0 b.f5.f1 b.f5.f2 b.f6 b.f7 b.f8 b.f9) (blockOk b) := by
  unfold spec_BlockOk.f
  rw [if_pos (show blockFit b from hf)]
  exact Ev.now _

/-! ### spec_TreeOk: printed by treewalk.py -/
theorem spec_TreeOk_at0 {w : World} {A : Option Addr} {n : Nat} {xs : List S59} (h : Kd.C k59 w A n xs) (i : Int) (h0 : 0 ≤ i) (h1 : i < n) : ∃ ad, A = some ad ∧ w.cell? (ad.add (i.toNat * 14)) = some (.int .i64 (rd_T59 xs i).f0) := by
  obtain ⟨ad, A6, u6, A8, u8, A9, u9, A10, u10, A12, u12, e, h0_, h1_, h2_, h3_, h4_, h5_, h6_, h7_, h8_, h9_, h10_, h11_, h12_, h13_, l6, g6, l8, g8, l9, g9, l10, g10, l12, g12⟩ := at_T59 h i h0 h1
  exact ⟨ad, e, h0_⟩
theorem spec_TreeOk_at1 {w : World} {A : Option Addr} {n : Nat} {xs : List S59} (h : Kd.C k59 w A n xs) (i : Int) (h0 : 0 ≤ i) (h1 : i < n) : ∃ ad, A = some ad ∧ w.cell? ⟨(ad.add (i.toNat * 14)).block, (ad.add (i.toNat * 14)).off + 1, none⟩ = some (.int .i64 (rd_T59 xs i).f1) := by
  obtain ⟨ad, A6, u6, A8, u8, A9, u9, A10, u10, A12, u12, e, h0_, h1_, h2_, h3_, h4_, h5_, h6_, h7_, h8_, h9_, h10_, h11_, h12_, h13_, l6, g6, l8, g8, l9, g9, l10, g10, l12, g12⟩ := at_T59 h i h0 h1
  exact ⟨ad, e, h1_⟩
theorem spec_TreeOk_at2 {w : World} {A : Option Addr} {n : Nat} {xs : List S59} (h : Kd.C k59 w A n xs) (i : Int) (h0 : 0 ≤ i) (h1 : i < n) : ∃ ad, A = some ad ∧ w.cell? ⟨(ad.add (i.toNat * 14)).block, (ad.add (i.toNat * 14)).off + 2, none⟩ = some (.int .i64 (rd_T59 xs i).f2) := by
  obtain ⟨ad, A6, u6, A8, u8, A9, u9, A10, u10, A12, u12, e, h0_, h1_, h2_, h3_, h4_, h5_, h6_, h7_, h8_, h9_, h10_, h11_, h12_, h13_, l6, g6, l8, g8, l9, g9, l10, g10, l12, g12⟩ := at_T59 h i h0 h1
  exact ⟨ad, e, h2_⟩
theorem spec_TreeOk_no {l : List S59} {i : Nat} (hi : i < l.length) (h : treeAt l i = false) : treeOk l = false := by
  unfold treeOk
  rw [allUpto_no hi h, Bool.false_and]
set_option maxHeartbeats 20000000 in
set_option maxRecDepth 100000 in
theorem spec_TreeOk.does {l : List S59} (hl : l.length ≤ maxLen) (hw : ∀ b ∈ l, blockFit b) {B : Option Addr} {c : Nat} {w : World} (hr : Kd.C k59 w B l.length l) (hc : l.length ≤ c) :
    Calls Try.prog 21 #[.slice B l.length c] w fun e w' => e = .returned (.bool (treeOk l)) ∧ Below w.heap.size w w' := by
  have hn : (l.length : Int) ≤ 9223372036854775807 := by have : maxLen = 9223372036854775807 := rfl; omega
  have HR := Aside0.mk hr
  have HW := Aside0.mk hw
  have HL := Aside0.mk hl
  clear hr hw hl
  go_enter Try.func21, Try.ntmps21
  go_wp2
  go_loopg [3] l.length (fun g v3 w' => ∃ (i : Int) (e : On w), v3 = .int .i64 i ∧ w' = e.now ∧ 0 ≤ i ∧ i ≤ l.length ∧ Aside0 ((l.length : Int) - i ≤ g) ∧ Aside0 (∀ j, j < i.toNat → treeAt l j = true))
  case atStart => exact ⟨0, On.here w, rfl, rfl, Int.le_refl _, by omega, ⟨by omega⟩, ⟨fun j hj => absurd hj (by simp)⟩⟩
  case round =>
    obtain ⟨i, e, rfl, rfl, hi0, hi1, HG, HA⟩ := hrel
    by_cases c1 : i < (l.length : Int)
    · have hz := spec_TreeOk_at1 HR.out 0 (by omega) (by omega)
      obtain ⟨ad, A6, u6, A8, u8, A9, u9, A10, u10, A12, u12, e1, h0_, h1_, h2_, h3_, h4_, h5_, h6_, h7_, h8_, h9_, h10_, h11_, h12_, h13_, l6, g6, l8, g8, l9, g9, l10, g10, l12, g12⟩ := at_T59 HR.out i hi0 c1
      cases e1
      obtain ⟨ad', ha', hz⟩ := hz
      injection ha' with ha'
      subst ha'
      replace hz : w.cell? ⟨ad.block, ad.off + 1, none⟩ = some (.int .i64 (rd_T59 l 0).f1) := hz
      have Q0 := On.old (e := e) (o := (.cells #[.int .i64 (rd_T59 l i).f0, .int .i64 (rd_T59 l i).f1, .int .i64 (rd_T59 l i).f2, .string (rd_T59 l i).f3, .int .i64 (rd_T59 l i).f4.f0, .int .i64 (rd_T59 l i).f4.f1, .slice A6 (rd_T59 l i).f4.f2.length u6, .int .i64 (rd_T59 l i).f5.f0, .slice A8 (rd_T59 l i).f5.f1.length u8, .slice A9 (rd_T59 l i).f5.f2.length u9, .slice A10 (rd_T59 l i).f6.length u10, .bool (rd_T59 l i).f7, .slice A12 (rd_T59 l i).f8.length u12, .string (rd_T59 l i).f9] 59)) (On.cell hz)
      have R0 := On.cell h0_
      have R1 := On.cell h1_
      have R2 := On.cell h2_
      have R3 := On.cell h3_
      have R4 := On.cell h4_
      have R5 := On.cell h5_
      have R6 := On.cell h6_
      have R7 := On.cell h7_
      have R8 := On.cell h8_
      have R9 := On.cell h9_
      have R10 := On.cell h10_
      have R11 := On.cell h11_
      have R12 := On.cell h12_
      have R13 := On.cell h13_
      have NB := fun e1 : On (e.now.alloc (.cells #[.int .i64 (rd_T59 l i).f0, .int .i64 (rd_T59 l i).f1, .int .i64 (rd_T59 l i).f2, .string (rd_T59 l i).f3, .int .i64 (rd_T59 l i).f4.f0, .int .i64 (rd_T59 l i).f4.f1, .slice A6 (rd_T59 l i).f4.f2.length u6, .int .i64 (rd_T59 l i).f5.f0, .slice A8 (rd_T59 l i).f5.f1.length u8, .slice A9 (rd_T59 l i).f5.f2.length u9, .slice A10 (rd_T59 l i).f6.length u10, .bool (rd_T59 l i).f7, .slice A12 (rd_T59 l i).f8.length u12, .string (rd_T59 l i).f9] 59)) => cells14 (On.blk e1)
      have N0 := fun e1 => (NB e1).1
      have N1 := fun e1 => (NB e1).2.1
      have N2 := fun e1 => (NB e1).2.2.1
      have N3 := fun e1 => (NB e1).2.2.2.1
      have N4 := fun e1 => (NB e1).2.2.2.2.1
      have N5 := fun e1 => (NB e1).2.2.2.2.2.1
      have N6 := fun e1 => (NB e1).2.2.2.2.2.2.1
      have N7 := fun e1 => (NB e1).2.2.2.2.2.2.2.1
      have N8 := fun e1 => (NB e1).2.2.2.2.2.2.2.2.1
      have N9 := fun e1 => (NB e1).2.2.2.2.2.2.2.2.2.1
      have N10 := fun e1 => (NB e1).2.2.2.2.2.2.2.2.2.2.1
      have N11 := fun e1 => (NB e1).2.2.2.2.2.2.2.2.2.2.2.1
      have N12 := fun e1 => (NB e1).2.2.2.2.2.2.2.2.2.2.2.2.1
      have N13 := fun e1 => (NB e1).2.2.2.2.2.2.2.2.2.2.2.2.2
      have hfit := HW.out (rd_T59 l i) (getD_mem (by omega) _)
      have E1 := Aside0.mk (fun e1 : On (e.now.alloc (.cells #[.int .i64 (rd_T59 l i).f0, .int .i64 (rd_T59 l i).f1, .int .i64 (rd_T59 l i).f2, .string (rd_T59 l i).f3, .int .i64 (rd_T59 l i).f4.f0, .int .i64 (rd_T59 l i).f4.f1, .slice A6 (rd_T59 l i).f4.f2.length u6, .int .i64 (rd_T59 l i).f5.f0, .slice A8 (rd_T59 l i).f5.f1.length u8, .slice A9 (rd_T59 l i).f5.f2.length u9, .slice A10 (rd_T59 l i).f6.length u10, .bool (rd_T59 l i).f7, .slice A12 (rd_T59 l i).f8.length u12, .string (rd_T59 l i).f9] 59)) => spec_BlockOk.does (b := (rd_T59 l i)) hfit (On.val (k59_mk w (rd_T59 l i) l6 g6 l8 g8 l9 g9 l10 g10 l12 g12) (e.up e1)))
      have E2 := Aside0.mk (fun e1 : On (e.now.alloc (.cells #[.int .i64 (rd_T59 l i).f0, .int .i64 (rd_T59 l i).f1, .int .i64 (rd_T59 l i).f2, .string (rd_T59 l i).f3, .int .i64 (rd_T59 l i).f4.f0, .int .i64 (rd_T59 l i).f4.f1, .slice A6 (rd_T59 l i).f4.f2.length u6, .int .i64 (rd_T59 l i).f5.f0, .slice A8 (rd_T59 l i).f5.f1.length u8, .slice A9 (rd_T59 l i).f5.f2.length u9, .slice A10 (rd_T59 l i).f6.length u10, .bool (rd_T59 l i).f7, .slice A12 (rd_T59 l i).f8.length u12, .string (rd_T59 l i).f9] 59)) => spec_l8Root.calls (rd_T59 l i).f4.f0 (rd_T59 l i).f4.f1 _ _ (rd_T59 l i).f4.f2 _ e1.now (On.row g6 (e.up e1)) l6 (spec_l8Root.is _ _ _))
      have hlen : (l.take i.toNat).length = i.toNat := by rw [List.length_take]; omega
      obtain ⟨kk, hk⟩ := (spec_l10At.is (l := l.take i.toNat) (id := (rd_T59 l i).f4.f1) (by have := HL.out; rw [hlen]; omega)).rounds
      have E3 := Aside0.mk (fun e1 : On (e.now.alloc (.cells #[.int .i64 (rd_T59 l i).f0, .int .i64 (rd_T59 l i).f1, .int .i64 (rd_T59 l i).f2, .string (rd_T59 l i).f3, .int .i64 (rd_T59 l i).f4.f0, .int .i64 (rd_T59 l i).f4.f1, .slice A6 (rd_T59 l i).f4.f2.length u6, .int .i64 (rd_T59 l i).f5.f0, .slice A8 (rd_T59 l i).f5.f1.length u8, .slice A9 (rd_T59 l i).f5.f2.length u9, .slice A10 (rd_T59 l i).f6.length u10, .bool (rd_T59 l i).f7, .slice A12 (rd_T59 l i).f8.length u12, .string (rd_T59 l i).f9] 59)) => spec_l10At.calls kk (some ad) c (l.take i.toNat) (rd_T59 l i).f4.f1 _ e1.now (On.row (Kd.C_take HR.out (by omega)) (e.up e1)) (by omega) hk)
      clear hk
      rw [hlen] at E3
      have hk0 := idAt_lo (l.take i.toNat) (rd_T59 l i).f4.f1
      have hk1 := idAt_hi (l.take i.toNat) (rd_T59 l i).f4.f1
      rw [hlen] at hk1
      simp only [On.up_now] at E1 E2 E3
      clear hfit hz NB h0_ h1_ h2_ h3_ h4_ h5_ h6_ h7_ h8_ h9_ h10_ h11_ h12_ h13_ l6 g6 l8 g8 l9 g9 l10 g10 l12 g12
      have hat : treeAt l i.toNat = ((blockOk (rd_T59 l i) && (decide ((rd_T59 l i).f1 = (rd_T59 l 0).f1) && (decide (i.toNat = 0) || decide ((rd_T59 l (i - 1)).f0 < (rd_T59 l i).f0)))) && (rootQ (rd_T59 l i).f4.f0 (rd_T59 l i).f4.f1 (rd_T59 l i).f4.f2 || (decide (0 ≤ idAt (l.take i.toNat) (rd_T59 l i).f4.f1) && decide ((rd_T59 l (idAt (l.take i.toNat) (rd_T59 l i).f4.f1)).f2 = (rd_T59 l i).f4.f0)))) := by
        unfold treeAt fitAt behind
        rw [show rd_T59 l (i - 1) = l.getD (i.toNat - 1) z59 by unfold rd_T59; rw [show (i - 1).toNat = i.toNat - 1 by omega]]
        rfl
      generalize hK : idAt (l.take i.toNat) (rd_T59 l i).f4.f1 = k at *
      clear hK
      cases hb : blockOk (rd_T59 l i)
      · rw [hb] at E1
        have HF := Aside0.mk (spec_TreeOk_no (i := i.toNat) (by omega) (hat.trans (by simp [hb])))
        clear hb hat E2 E3 hk0 hk1
        go_wp2
        try simp only [List.setIfInBounds_toArray, List.set_cons_zero, List.set_cons_succ]
        refine BW.regionAt (by kernel_rfl) (by kernel_rfl) ?_
        repeat (go_big_quiet_step (first | exact BW.quiet (E1.out _)))
        refine wpQuiet_nil ?_
        rintro _ ⟨e2, rfl⟩
        clear E1 Q0 R0 R1 R2 R3 R4 R5 R6 R7 R8 R9 R10 R11 R12 R13
        try clear Q1
        go_wp2
        go_ret
        exact ⟨by rw [HF.out]; rfl, (e.up e2).ok⟩
      · rw [hb] at E1
        by_cases he : (rd_T59 l i).f1 = (rd_T59 l 0).f1
        · skip
          have he1 : ((rd_T59 l i).f1 != (rd_T59 l 0).f1) = false := bne_eq_false_iff_eq.2 he
          by_cases c3 : 0 < i
          · have c3' : decide (0 < i) = true := decide_eq_true c3
            have hi2 : ¬ i.toNat = 0 := by omega
            obtain ⟨ad1, ha1, hz1⟩ := spec_TreeOk_at0 HR.out (i - 1) (by omega) (by omega)
            injection ha1 with ha1
            subst ha1
            obtain ⟨y, hy⟩ : ∃ y, (rd_T59 l (i - 1)).f0 = y := ⟨_, rfl⟩
            rw [hy, show (i - 1).toNat = i.toNat - 1 by omega] at hz1
            rw [hy] at hat
            clear hy
            have Q1 := On.old (e := e) (o := (.cells #[.int .i64 (rd_T59 l i).f0, .int .i64 (rd_T59 l i).f1, .int .i64 (rd_T59 l i).f2, .string (rd_T59 l i).f3, .int .i64 (rd_T59 l i).f4.f0, .int .i64 (rd_T59 l i).f4.f1, .slice A6 (rd_T59 l i).f4.f2.length u6, .int .i64 (rd_T59 l i).f5.f0, .slice A8 (rd_T59 l i).f5.f1.length u8, .slice A9 (rd_T59 l i).f5.f2.length u9, .slice A10 (rd_T59 l i).f6.length u10, .bool (rd_T59 l i).f7, .slice A12 (rd_T59 l i).f8.length u12, .string (rd_T59 l i).f9] 59)) (On.cell hz1)
            clear hz1
            by_cases hs : y < (rd_T59 l i).f0
            · have hs1 : decide (y ≥ (rd_T59 l i).f0) = false := decide_eq_false (by omega)
              cases hro : rootQ (rd_T59 l i).f4.f0 (rd_T59 l i).f4.f1 (rd_T59 l i).f4.f2
              · rw [hro] at E2
                by_cases hk : k < 0
                · have HF := Aside0.mk (spec_TreeOk_no (i := i.toNat) (by omega) (hat.trans (by simp [hb, he, hi2, hs, hro] <;> omega)))
                  have hk2 : decide (k < 0) = true := decide_eq_true hk
                  clear hat he hb hro hk hk0 hk1 hi2
                  go_wp2
                  try simp only [List.setIfInBounds_toArray, List.set_cons_zero, List.set_cons_succ]
                  refine BW.regionAt (by kernel_rfl) (by kernel_rfl) ?_
                  repeat (go_big_quiet_step (first | exact BW.quiet (E1.out _)))
                  refine wpQuiet_nil ?_
                  rintro _ ⟨e2, rfl⟩
                  clear E1 Q0 R0 R1 R2 R3 R4 R5 R6 R7 R8 R9 R10 R11 R12 R13
                  try clear Q1
                  go_wp2_with fail
                  refine BW.call (e := e2) (E2.out _) (fun e3 => ?_)
                  go_wp2
                  refine BW.region (e := e3) (by kernel_rfl) (by kernel_rfl) ?_
                  repeat (go_big_quiet_step (first | exact BW.quietD (E3.out _)))
                  refine wpQuiet_nil ?_
                  rintro _ ⟨e4, rfl⟩
                  go_wp2
                  refine BW.region (e := e4) (by kernel_rfl) (by kernel_rfl) ?_
                  repeat (go_big_quiet_step (fail))
                  refine wpQuiet_nil ?_
                  rintro _ ⟨e5, rfl⟩
                  go_wp2
                  go_ret
                  exact ⟨by rw [HF.out]; rfl, (e.up e5).ok⟩
                · obtain ⟨ad2, ha2, hz2⟩ := spec_TreeOk_at2 HR.out k (by omega) (by omega)
                  injection ha2 with ha2
                  subst ha2
                  have Q2 := On.old (e := e) (o := (.cells #[.int .i64 (rd_T59 l i).f0, .int .i64 (rd_T59 l i).f1, .int .i64 (rd_T59 l i).f2, .string (rd_T59 l i).f3, .int .i64 (rd_T59 l i).f4.f0, .int .i64 (rd_T59 l i).f4.f1, .slice A6 (rd_T59 l i).f4.f2.length u6, .int .i64 (rd_T59 l i).f5.f0, .slice A8 (rd_T59 l i).f5.f1.length u8, .slice A9 (rd_T59 l i).f5.f2.length u9, .slice A10 (rd_T59 l i).f6.length u10, .bool (rd_T59 l i).f7, .slice A12 (rd_T59 l i).f8.length u12, .string (rd_T59 l i).f9] 59)) (On.cell hz2)
                  clear hz2
                  have hk2 : decide (k < 0) = false := decide_eq_false hk
                  have hk5 : 0 ≤ k := by omega
                  by_cases hq : (rd_T59 l k).f2 = (rd_T59 l i).f4.f0
                  · have HT := Aside0.mk (show treeAt l i.toNat = true from hat.trans (by simp [hb, he, hi2, hs, hro, hq] <;> omega))
                    have hq1 : ((rd_T59 l k).f2 != (rd_T59 l i).f4.f0) = false := bne_eq_false_iff_eq.2 hq
                    clear hat he hb hro hk hk0 hq hi2
                    go_wp2
                    try simp only [List.setIfInBounds_toArray, List.set_cons_zero, List.set_cons_succ]
                    refine BW.regionAt (by kernel_rfl) (by kernel_rfl) ?_
                    repeat (go_big_quiet_step (first | exact BW.quiet (E1.out _)))
                    refine wpQuiet_nil ?_
                    rintro _ ⟨e2, rfl⟩
                    clear E1 Q0 R0 R1 R2 R3 R4 R5 R6 R7 R8 R9 R10 R11 R12 R13
                    try clear Q1
                    go_wp2_with fail
                    refine BW.call (e := e2) (E2.out _) (fun e3 => ?_)
                    go_wp2
                    refine BW.region (e := e3) (by kernel_rfl) (by kernel_rfl) ?_
                    repeat (go_big_quiet_step (first | exact BW.quietD (E3.out _)))
                    refine wpQuiet_nil ?_
                    rintro _ ⟨e4, rfl⟩
                    go_wp2
                    refine BW.region (e := e4) (by kernel_rfl) (by kernel_rfl) ?_
                    repeat (go_big_quiet_step (fail))
                    refine wpQuiet_nil ?_
                    rintro _ ⟨e5, rfl⟩
                    go_wp2
                    go_roundg (l.length - i.toNat - 1)
                    case measure => have := HG.out; omega
                    case rel => exact ⟨i + 1, e.up e5, rfl, rfl, by omega, by omega, ⟨by omega⟩, ⟨upto_next hi0 HA.out HT.out⟩⟩
                  · have HF := Aside0.mk (spec_TreeOk_no (i := i.toNat) (by omega) (hat.trans (by simp [hb, he, hi2, hs, hro, hq])))
                    have hq1 : ((rd_T59 l k).f2 != (rd_T59 l i).f4.f0) = true := bne_iff_ne.2 hq
                    clear hat he hb hro hk hk0 hq hi2
                    go_wp2
                    try simp only [List.setIfInBounds_toArray, List.set_cons_zero, List.set_cons_succ]
                    refine BW.regionAt (by kernel_rfl) (by kernel_rfl) ?_
                    repeat (go_big_quiet_step (first | exact BW.quiet (E1.out _)))
                    refine wpQuiet_nil ?_
                    rintro _ ⟨e2, rfl⟩
                    clear E1 Q0 R0 R1 R2 R3 R4 R5 R6 R7 R8 R9 R10 R11 R12 R13
                    try clear Q1
                    go_wp2_with fail
                    refine BW.call (e := e2) (E2.out _) (fun e3 => ?_)
                    go_wp2
                    refine BW.region (e := e3) (by kernel_rfl) (by kernel_rfl) ?_
                    repeat (go_big_quiet_step (first | exact BW.quietD (E3.out _)))
                    refine wpQuiet_nil ?_
                    rintro _ ⟨e4, rfl⟩
                    go_wp2
                    refine BW.region (e := e4) (by kernel_rfl) (by kernel_rfl) ?_
                    repeat (go_big_quiet_step (fail))
                    refine wpQuiet_nil ?_
                    rintro _ ⟨e5, rfl⟩
                    go_wp2
                    go_ret
                    exact ⟨by rw [HF.out]; rfl, (e.up e5).ok⟩
              · rw [hro] at E2
                have HT := Aside0.mk (show treeAt l i.toNat = true from hat.trans (by simp [hb, he, hi2, hs, hro]))
                clear hat he hb hro hk0 hk1 E3 hi2
                go_wp2
                try simp only [List.setIfInBounds_toArray, List.set_cons_zero, List.set_cons_succ]
                refine BW.regionAt (by kernel_rfl) (by kernel_rfl) ?_
                repeat (go_big_quiet_step (first | exact BW.quiet (E1.out _)))
                refine wpQuiet_nil ?_
                rintro _ ⟨e2, rfl⟩
                clear E1 Q0 R0 R1 R2 R3 R4 R5 R6 R7 R8 R9 R10 R11 R12 R13
                try clear Q1
                go_wp2_with fail
                refine BW.call (e := e2) (E2.out _) (fun e3 => ?_)
                go_wp2
                go_roundg (l.length - i.toNat - 1)
                case measure => have := HG.out; omega
                case rel => exact ⟨i + 1, e.up e3, rfl, rfl, by omega, by omega, ⟨by omega⟩, ⟨upto_next hi0 HA.out HT.out⟩⟩
            · have hs1 : decide (y ≥ (rd_T59 l i).f0) = true := decide_eq_true (by omega)
              have HF := Aside0.mk (spec_TreeOk_no (i := i.toNat) (by omega) (hat.trans (by simp [hb, he, hi2, hs])))
              clear hat he hb E2 E3 hk0 hk1 hi2 hs
              go_wp2
              try simp only [List.setIfInBounds_toArray, List.set_cons_zero, List.set_cons_succ]
              refine BW.regionAt (by kernel_rfl) (by kernel_rfl) ?_
              repeat (go_big_quiet_step (first | exact BW.quiet (E1.out _)))
              refine wpQuiet_nil ?_
              rintro _ ⟨e2, rfl⟩
              clear E1 Q0 R0 R1 R2 R3 R4 R5 R6 R7 R8 R9 R10 R11 R12 R13
              try clear Q1
              go_wp2
              go_ret
              exact ⟨by rw [HF.out]; rfl, (e.up e2).ok⟩
          · have c3' : decide (0 < i) = false := decide_eq_false c3
            have hi2 : i.toNat = 0 := by omega
            rw [hi2] at E3
            cases hro : rootQ (rd_T59 l i).f4.f0 (rd_T59 l i).f4.f1 (rd_T59 l i).f4.f2
            · rw [hro] at E2
              by_cases hk : k < 0
              · have HF := Aside0.mk (spec_TreeOk_no (i := i.toNat) (by omega) (hat.trans (by simp [hb, he, hi2, hro] <;> omega)))
                have hk2 : decide (k < 0) = true := decide_eq_true hk
                clear hat he hb hro hk hk0 hk1 hi2
                go_wp2
                try simp only [List.setIfInBounds_toArray, List.set_cons_zero, List.set_cons_succ]
                refine BW.regionAt (by kernel_rfl) (by kernel_rfl) ?_
                repeat (go_big_quiet_step (first | exact BW.quiet (E1.out _)))
                refine wpQuiet_nil ?_
                rintro _ ⟨e2, rfl⟩
                clear E1 Q0 R0 R1 R2 R3 R4 R5 R6 R7 R8 R9 R10 R11 R12 R13
                try clear Q1
                go_wp2_with fail
                refine BW.call (e := e2) (E2.out _) (fun e3 => ?_)
                go_wp2
                refine BW.region (e := e3) (by kernel_rfl) (by kernel_rfl) ?_
                repeat (go_big_quiet_step (first | exact BW.quietD (E3.out _)))
                refine wpQuiet_nil ?_
                rintro _ ⟨e4, rfl⟩
                go_wp2
                refine BW.region (e := e4) (by kernel_rfl) (by kernel_rfl) ?_
                repeat (go_big_quiet_step (fail))
                refine wpQuiet_nil ?_
                rintro _ ⟨e5, rfl⟩
                go_wp2
                go_ret
                exact ⟨by rw [HF.out]; rfl, (e.up e5).ok⟩
              · exfalso
                omega
            · rw [hro] at E2
              have HT := Aside0.mk (show treeAt l i.toNat = true from hat.trans (by simp [hb, he, hi2, hro]))
              clear hat he hb hro hk0 hk1 E3 hi2
              go_wp2
              try simp only [List.setIfInBounds_toArray, List.set_cons_zero, List.set_cons_succ]
              refine BW.regionAt (by kernel_rfl) (by kernel_rfl) ?_
              repeat (go_big_quiet_step (first | exact BW.quiet (E1.out _)))
              refine wpQuiet_nil ?_
              rintro _ ⟨e2, rfl⟩
              clear E1 Q0 R0 R1 R2 R3 R4 R5 R6 R7 R8 R9 R10 R11 R12 R13
              try clear Q1
              go_wp2_with fail
              refine BW.call (e := e2) (E2.out _) (fun e3 => ?_)
              go_wp2
              go_roundg (l.length - i.toNat - 1)
              case measure => have := HG.out; omega
              case rel => exact ⟨i + 1, e.up e3, rfl, rfl, by omega, by omega, ⟨by omega⟩, ⟨upto_next hi0 HA.out HT.out⟩⟩
        · skip
          have he1 : ((rd_T59 l i).f1 != (rd_T59 l 0).f1) = true := bne_iff_ne.2 he
          have HF := Aside0.mk (spec_TreeOk_no (i := i.toNat) (by omega) (hat.trans (by simp [hb, he])))
          clear hat he hb E2 E3 hk0 hk1
          go_wp2
          try simp only [List.setIfInBounds_toArray, List.set_cons_zero, List.set_cons_succ]
          refine BW.regionAt (by kernel_rfl) (by kernel_rfl) ?_
          repeat (go_big_quiet_step (first | exact BW.quiet (E1.out _)))
          refine wpQuiet_nil ?_
          rintro _ ⟨e2, rfl⟩
          clear E1 Q0 R0 R1 R2 R3 R4 R5 R6 R7 R8 R9 R10 R11 R12 R13
          try clear Q1
          go_wp2
          go_ret
          exact ⟨by rw [HF.out]; rfl, (e.up e2).ok⟩
    · have hend : i = l.length := by omega
      have HF : Aside0 (treeOk l = decide ((l.length : Int) ≤ 400)) := ⟨by
        have : allUpto l.length (treeAt l) = true := allUpto_yes (fun j hj => HA.out j (by omega))
        unfold treeOk
        rw [this, Bool.true_and]⟩
      go_wp2
      go_ret
      exact ⟨by rw [HF.out]; rfl, e.ok⟩

/-- What it comes to, told as the printer tells it (the function is walked by hand above). -/
def spec_TreeOk.f (_k : Nat) (l0 : List S59) : Option Bool := if l0.length ≤ maxLen ∧ ∀ b ∈ l0, blockFit b then some (treeOk l0) else none
theorem spec_TreeOk.mono : ∀ a0 k, LeO (spec_TreeOk.f k a0) (spec_TreeOk.f (k + 1) a0) := fun _ _ => LeO.refl _
theorem spec_TreeOk.calls (k : Nat) (A0 : Option Addr) (c0 : Nat) (l0 : List S59) (r : Bool) (w : World) (hr0 : Kd.C k59 w A0 l0.length l0) (hc0 : l0.length ≤ c0) (h : spec_TreeOk.f k l0 = some r) :
    Calls Try.prog 21 #[.slice A0 l0.length c0] w fun e w' => e = .returned (.bool r) ∧ Below w.heap.size w w' := by
  unfold spec_TreeOk.f at h
  split at h
  · next hf =>
    cases h
    exact spec_TreeOk.does hf.1 hf.2 hr0 hc0
  · cases h
theorem spec_TreeOk.is {l : List S59} (hl : l.length ≤ maxLen) (hw : ∀ b ∈ l, blockFit b) : Ev (fun k => spec_TreeOk.f k l) (treeOk l) := by
  unfold spec_TreeOk.f
  rw [if_pos ⟨hl, hw⟩]
  exact Ev.now _

end Go.Proofs.Ytnldeeefiidcaaa.F
