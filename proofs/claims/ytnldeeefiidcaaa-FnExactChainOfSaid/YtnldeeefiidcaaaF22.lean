/-
Functions of the program, what they come to, and that Go comes to just that: laws_FnExactChainOf.
Conditions: those that each theorem names.
-/
import Derived.Test.YtnldeeefiidcaaaFAbs
import Derived.Test.YtnldeeefiidcaaaF1
import Derived.Test.YtnldeeefiidcaaaF4
import Derived.Test.YtnldeeefiidcaaaF7
import Derived.Test.YtnldeeefiidcaaaF19
import Derived.Test.YtnldeeefiidcaaaF20
import Derived.Test.YtnldeeefiidcaaaF21
import Derived.Test.YtnldeeefiidcaaaWApart
import Derived.Test.YtnldeeefiidcaaaWKept
import Derived.Test.YtnldeeefiidcaaaMark
set_option linter.unusedVariables false
set_option linter.unusedSimpArgs false
namespace Go.Proofs.Ytnldeeefiidcaaa.F
open Go.RowKit Go.Proofs.YtnldeeefiidcaaaW.PrintWords Go.Proofs.YtnldeeefiidcaaaW.PrintLast Go.Proofs.Ytnldeeefiidcaaa.Base Go.Proofs.Ytnldeeefiidcaaa.BW
open Go.Proofs.Ytnldeeefiidcaaa.Mark

/-! ### laws_FnExactChainOf: walked in this session -/
theorem sums_le_ChainOf {α : Type} {h : α → Int} (hn : ∀ x, 0 ≤ h x) : ∀ {xs : List α} {y : α}, y ∈ xs → h y ≤ sums h xs
  | [], _, hy => by cases hy
  | x :: xs, y, hy => by
    have h0 := hn x
    have h1 := sums_nn hn xs
    unfold sums
    rcases List.mem_cons.1 hy with rfl | hy
    · omega
    · have := sums_le_ChainOf hn hy
      omega
theorem blockSmall {z : S51} (h : s51 z) : (c51 z).f4.f2.length ≤ 1048576 ∧ (c51 z).f5.f1.length ≤ 1048576 ∧ (c51 z).f5.f2.length ≤ 1048576 ∧ (c51 z).f6.length ≤ 1048576 ∧ (c51 z).f8.length ≤ 1048576 := by
  obtain ⟨h1, ⟨h2, h3⟩, h4, h5⟩ := h
  refine ⟨h1, h2, h3, ?_, ?_⟩
  · show (z.f6.map c143).length ≤ _
    rw [List.length_map]
    exact h4
  · show (z.f8.map c145).length ≤ _
    rw [List.length_map]
    exact h5
set_option maxHeartbeats 4000000 in
set_option maxRecDepth 100000 in
theorem laws_FnExactChainOf.does {w : World} (x0 : List S51) (hw : (fun l : List S51 => l.length ≤ maxLen ∧ ∀ x ∈ l, w51 x) x0) {B : Option Addr} {c : Nat} (hr : Kd.C k51 w B x0.length x0) (hc : x0.length ≤ c) (x1 : Int) (_ : (Lit.int .i64 x1).wf = true) :
    Calls Try.prog 6 #[.slice B x0.length c, .int .i64 x1] w fun e w' => e = .returned (.bool true) ∧ Below w.heap.size w w' := by
  have hm : maxLen = 9223372036854775807 := rfl
  have hk0 := sums_nn hold51.nn x0
  obtain ⟨left, hleft⟩ : ∃ l : Int, l = szR ((x0.length : Int) + sums hold51 x0) 1048576 := ⟨_, rfl⟩
  have D0 := Aside0.mk (fun e : On w => laws_szBlockS.does hw (left := 1048576) (by decide) (by decide) (On.row hr e) hc)
  simp only [← hleft] at D0
  by_cases hd : left < 0
  · have hd' : decide (left < 0) = true := decide_eq_true hd
    clear hd hw hr hleft hk0
    go_enter Try.func6, Try.ntmps6
    go_wp2_with fail
    refine BW.call (e := On.here w) (D0.out _) (fun e1 => ?_)
    go_wp2
    go_ret
    exact ⟨rfl, e1.ok⟩
  · have hd' : decide (left < 0) = false := decide_eq_false hd
    have hle : (x0.length : Int) + sums hold51 x0 ≤ 1048576 := by have := mt (szR_lt (h := (x0.length : Int) + sums hold51 x0) (left := 1048576) (by omega)).2 (by rw [← hleft]; exact hd); omega
    have hs : (x0.length ≤ 1048576 ∧ ∀ x ∈ x0, s51 x) := ⟨by omega, fun y hy => small51 (by have := sums_le_ChainOf hold51.nn hy; omega)⟩
    have hl : (x0.map c51).length ≤ 9223372036854775807 ∧ ∀ x ∈ x0.map c51, l59 x := ⟨by rw [List.length_map]; omega, fun y hy => by
      obtain ⟨z, hz, rfl⟩ := List.mem_map.1 hy
      exact long51 (hs.2 z hz)⟩
    have hy1 : (x0.map c51).length ≤ 1048576 := by rw [List.length_map]; exact hs.1
    have hy2 : ∀ y ∈ x0.map c51, y.f4.f2.length ≤ 1048576 ∧ y.f5.f1.length ≤ 1048576 ∧ y.f5.f2.length ≤ 1048576 ∧ y.f6.length ≤ 1048576 ∧ y.f8.length ≤ 1048576 := fun y hy => by
      obtain ⟨z, hz, rfl⟩ := List.mem_map.1 hy
      exact blockSmall (hs.2 z hz)
    have hfit : ∀ b ∈ x0.map c51, blockFit b := fun y hy => by
      obtain ⟨z, hz, rfl⟩ := List.mem_map.1 hy
      exact blockFit_of (hw.2 z hz)
    obtain ⟨kt, ht⟩ := (laws_toBlockS.is hs).rounds
    have T0 := Aside0.mk (fun e : On w => laws_toBlockS.calls kt B c x0 (x0.map c51) e.now (On.row hr e) hc ht)
    obtain ⟨ks, hsp⟩ := (spec_ChainOf.is (l := x0.map c51) hl.1 hfit x1).rounds
    have SP := Aside0.mk (fun (W : World) A d (h1 : (x0.map c51).length ≤ d) (hr : Kd.C k59 W A (x0.map c51).length (x0.map c51)) => spec_ChainOf.calls ks A d _ x1 _ W hr h1 hsp)
    obtain ⟨ki, him⟩ := (impl_ChainOf.is (l := x0.map c51) hl.1 hfit x1).rounds
    have IM := Aside0.mk (fun (W : World) A d (h1 : (x0.map c51).length ≤ d) (hr : Kd.C k59 W A (x0.map c51).length (x0.map c51)) => impl_ChainOf.calls ki A d _ x1 _ W hr h1 him)
    have hV : (if treeOk (x0.map c51) = true then chainIds (x0.map c51) x1 else []).length ≤ 400 := by
      split
      · next h =>
        have ⟨T, h4⟩ := treeOk_is h
        have := chainAt_len T x1
        unfold chainIds
        rw [List.length_map]
        omega
      · exact Nat.zero_le _
    have EL := Aside0.mk (fun (W : World) A d A' d' (h1 : (x0.map c51).length ≤ d) (h2 : (x0.map c51).length ≤ d') (hr : Kd.C k59 W A (x0.map c51).length (x0.map c51)) (hr' : Kd.C k59 W A' (x0.map c51).length (x0.map c51)) => laws_eqBlockS.same hl hr h1 hr' h2)
    have MK := Aside0.mk (fun (a W : World) ok v (hR : k59.R 59 W a.heap.size ok v (x0.map c51)) (hb : Below a.heap.size a W) => laws_markBlockS.keeps hR hb hy1 hy2 (x := 1) (by decide) (by decide))
    clear hd hw hr hleft hk0 hs hl hy1 hy2 hfit ht hsp him hle
    generalize (if treeOk (x0.map c51) = true then chainIds (x0.map c51) x1 else []) = V at *
    generalize x0.map c51 = Y at *
    obtain ⟨V', hmv, hV', hf'⟩ := laws_markIntS.ex (l := V) (n := 1) (by omega) (by decide) (by decide)
    have hhv := laws_heldIntS.ex (l := V') (n := 1) (by omega) (by decide) (by decide) (fun j hj => hf' j (by omega))
    obtain ⟨km, hmv⟩ := hmv.rounds
    obtain ⟨kh, hhv⟩ := hhv.rounds
    rw [hV'] at hhv
    have EQ := Aside0.mk (fun (W : World) A d A' d' (h1 : V.length ≤ d) (h2 : V.length ≤ d') (hr : Kd.C (Kd.int .i64) W A V.length V) (hr' : Kd.C (Kd.int .i64) W A' V.length V) => laws_eqIntS.same (show V.length ≤ 9223372036854775807 by omega) hr h1 hr' h2)
    have MV := Aside0.mk (fun (P : Nat → Prop) (v : Value) (W0 W : World) (hB : Below W0.heap.size W0 W) (ho : Kd.R (Kd.int .i64) 3 W W0.heap.size P v V) => laws_markIntS.calls km P v _ 1 _ V' W0 W hB ho hmv)
    have HV := Aside0.mk (fun (W : World) A d (h1 : V'.length ≤ d) (hr : Kd.C (Kd.int .i64) W A V'.length V') => laws_heldIntS.calls kh A d V' 1 _ W hr h1 hhv)
    clear hmv hhv hf'
    generalize hM : 1 + (V.length : Int) = M at *
    have hM0 : decide (M < 0) = false := decide_eq_false (by omega)
    clear hM hV
    go_enter Try.func6, Try.ntmps6
    go_wp2_with fail
    refine BW.call (e := On.here w) (D0.out _) (fun e1 => ?_)
    go_wp2_with fail
    refine (T0.out e1).mono ?_
    rintro _ Wa ⟨v1, rfl, hS1, hb1⟩
    obtain ⟨Aa, ca, rfl, la, ga⟩ := Kd.S_reads hS1
    obtain ⟨ea, rfl⟩ := e1.next hb1
    clear hS1 hb1
    go_wp2_with fail
    refine (SP.out ea.now _ _ la ga).mono ?_
    rintro _ Wb ⟨v2, rfl, hR2, hb2⟩
    obtain ⟨A2, c2, rfl, l2, g2⟩ := Kd.R_reads hR2
    obtain ⟨eb, rfl⟩ := ea.next hb2
    replace hR2 := Aside0.mk (Kd.R_mono (Kd.R_bound hR2) (fun k hk => (hk.2.2.1 : k < eb.now.heap.size)))
    clear la ga hb2 g2
    go_wp2_with fail
    refine (T0.out eb).mono ?_
    rintro _ Wc ⟨v3, rfl, hS3, hb3⟩
    have hR3 := Kd.R_mono (Kd.R_bound (Kd.S_R hS3)) (fun k hk => (⟨hk.2.1, hk.2.2.1⟩ : eb.now.heap.size ≤ k ∧ k < Wc.heap.size))
    obtain ⟨A3, c3, rfl, l3, g3⟩ := Kd.S_reads hS3
    obtain ⟨ec, rfl⟩ := eb.next hb3
    have HR3 := Aside0.mk hR3
    have HB3 := Aside0.mk hb3
    clear hS3 hR3 hb3
    go_wp2_with fail
    refine (IM.out _ _ _ l3 g3).mono ?_
    rintro _ We ⟨v4, rfl, hR4, hb4⟩
    obtain ⟨A4, c4, rfl, l4, g4⟩ := Kd.R_reads hR4
    obtain ⟨e4, rfl⟩ := (On.here ec.now).next hb4
    replace hR4 := Aside0.mk (Kd.R_mono (Kd.R_bound hR4) (fun k hk => (hk.2.1 : ec.now.heap.size ≤ k)))
    clear hb4
    have hsz : eb.now.heap.size ≤ ec.now.heap.size := HB3.out.size
    have up4 : ∀ e : On ec.now, Below eb.now.heap.size eb.now e.now := fun e => below_then HB3.out (by omega) e.ok
    have UP := Aside0.mk up4
    clear up4
    go_wp2_with fail
    refine BW.call (e := On.here e4.now) (EQ.out _ _ _ _ _ l4 l2 g4 (Kd.R_reads' (Kd.R_below hR2.out (UP.out e4))).2.2) (fun e5 => ?_)
    clear g4
    go_wp2_with fail
    refine (T0.out (ec.thens (e4.thens e5))).mono ?_
    rintro _ W5 ⟨v5, rfl, hS5, hb5⟩
    obtain ⟨A5, c5, rfl, l5, g5⟩ := Kd.S_reads hS5
    obtain ⟨e5', rfl⟩ := e5.next hb5
    clear hS5 hb5
    go_wp2_with fail
    refine BW.call (e := e5') (EL.out _ _ _ _ _ l3 l5 (On.row g3 (e4.thens e5')) g5) (fun e6 => ?_)
    clear g5 EL e5
    go_wp2_with fail
    refine (MK.out eb.now e6.now (fun k => eb.now.heap.size ≤ k ∧ k < ec.now.heap.size) (.slice A3 Y.length c3) (Kd.R_below HR3.out (e4.thens e6).ok) (UP.out (e4.thens e6))).mono ?_
    rintro _ Wh ⟨m, rfl, hm0, _, hbh, hkh⟩
    have hm1 : decide (m < 0) = false := decide_eq_false (by omega)
    have R4 := Aside0.mk (Kd.R_kept (Kd.R_below hR4.out e6.ok) hkh (fun k hk hS => by have h5 : k < ec.now.heap.size := hS.2; have h6 : ec.now.heap.size ≤ k := hk; omega))
    have R2 := Aside0.mk (Kd.R_kept (Kd.R_below hR2.out (UP.out (e4.thens e6))) hkh (fun k hk hS => by have h5 : eb.now.heap.size ≤ k := hS.1; have h6 : k < eb.now.heap.size := hk; omega))
    obtain ⟨eh, rfl⟩ := eb.next hbh
    clear hbh hkh MK HR3 hm0
    go_wp2_with fail
    refine BW.call (e := On.here eh.now) (EQ.out _ _ _ _ _ l4 l2 (Kd.R_reads' R4.out).2.2 (Kd.R_reads' R2.out).2.2) (fun e7 => ?_)
    go_wp2_with fail
    refine (MV.out (fun k => ec.now.heap.size ≤ k) (.slice A4 V.length c4) w e7.now (eh.thens e7).ok (Kd.R_mono (Kd.R_lower (Kd.R_below R4.out e7.ok) (by have := ec.ok.size; omega)) (fun k hk => hk))).mono ?_
    rintro _ Wj ⟨rfl, hR4j, hbj, hkj⟩
    have R2j := Aside0.mk (Kd.R_kept (Kd.R_below R2.out e7.ok) hkj (fun k hk hS => by have h5 : ec.now.heap.size ≤ k := hS; have h6 : k < eb.now.heap.size := hk; omega))
    obtain ⟨ej, rfl⟩ : ∃ e : On w, Wj = e.now := ⟨⟨_, hbj⟩, rfl⟩
    have hR4' := Kd.R_reads' hR4j
    have HV4 := Aside0.mk (fun e : On ej.now => HV.out e.now A4 c4 (by rw [hV']; exact l4) (On.row hR4'.2.2 e))
    rw [hV'] at HV4
    clear hR4j hbj hkj R4 R2 MV HV hR4'
    have hMM : (M != M) = false := by simp
    go_wp2_with fail
    refine BW.callD (e := On.here ej.now) (HV4.out _) (fun e8 => ?_)
    go_wp2_with fail
    refine (T0.out (ej.thens e8)).mono ?_
    rintro _ Wk ⟨v6, rfl, hS6, hb6⟩
    obtain ⟨A6, c6, rfl, l6, g6⟩ := Kd.S_reads hS6
    obtain ⟨e9, rfl⟩ := e8.next hb6
    clear hS6 hb6
    go_wp2_with fail
    refine (IM.out _ _ _ l6 g6).mono ?_
    rintro _ Wl ⟨v7, rfl, hR7, hb7⟩
    obtain ⟨A7, c7, rfl, l7, g7⟩ := Kd.R_reads hR7
    obtain ⟨e10, rfl⟩ := e9.next hb7
    clear hR7 hb7
    go_wp2_with fail
    refine BW.call (e := e10) (EQ.out _ _ _ _ _ l7 l2 g7 (On.row (Kd.R_reads' R2j.out).2.2 e10)) (fun e11 => ?_)
    go_wp2_with fail
    refine BW.callD (e := e11) (HV4.out _) (fun e12 => ?_)
    go_wp2
    go_ret
    exact ⟨rfl, (ej.thens e12).ok⟩

end Go.Proofs.Ytnldeeefiidcaaa.F
