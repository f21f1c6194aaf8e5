/-
Functions of the program, what they come to, and that Go comes to just that: laws_FnExactBlockAt.
Conditions: those that each theorem names.
-/
import Derived.Test.YtadkhkpchankjaaFAbs
import Derived.Test.YtadkhkpchankjaaF61
import Derived.Test.YtadkhkpchankjaaF62
import Derived.Test.YtadkhkpchankjaaF69
import Derived.Test.YtadkhkpchankjaaF75
import Derived.Test.YtadkhkpchankjaaF76
import Derived.Test.YtadkhkpchankjaaWApart
import Derived.Test.YtadkhkpchankjaaWKept
import Derived.Test.YtadkhkpchankjaaMark
import Derived.Test.YtadkhkpchankjaaLaw
set_option linter.unusedVariables false
set_option linter.unusedSimpArgs false
namespace Go.Proofs.Ytadkhkpchankjaa.F
open Go.RowKit Go.Proofs.YtadkhkpchankjaaW.PrintWords Go.Proofs.YtadkhkpchankjaaW.PrintLast Go.Proofs.Ytadkhkpchankjaa.Base Go.Proofs.Ytadkhkpchankjaa.BW
open Go.Proofs.Ytadkhkpchankjaa.Mark
open Go.Proofs.Ytadkhkpchankjaa

/-! ### laws_FnExactBlockAt: walked in this session -/
theorem sums_le_BlockAt {α : Type} {h : α → Int} (hn : ∀ x, 0 ≤ h x) : ∀ {xs : List α} {y : α}, y ∈ xs → h y ≤ sums h xs
  | [], _, hy => by cases hy
  | x :: xs, y, hy => by
    have h0 := hn x
    have h1 := sums_nn hn xs
    unfold sums
    rcases List.mem_cons.1 hy with rfl | hy
    · omega
    · have := sums_le_BlockAt hn hy
      omega
theorem blockSmall_BlockAt {z : S109} (h : s109 z) : spec_l9Copy.few (c109 z) := by
  obtain ⟨h1, ⟨h2, h3⟩, h4, h5⟩ := h
  refine ⟨h1, h2, h3, ?_, ?_⟩
  · show (z.f6.map c191).length ≤ _
    rw [List.length_map]
    exact h4
  · show (z.f8.map c159).length ≤ _
    rw [List.length_map]
    exact h5
theorem R_strOwn {w : World} {base : Nat} {t : Nat} {ok : Nat → Prop} {v : Value} {xs : List ByteArray} (h : Kd.string.R t w base ok v xs) : Kd.string.R t w base (fun k => v.ownBlock = some k ∧ ok k) v xs := ⟨fun k e => ⟨e, h.1 k e⟩, h.2⟩
set_option maxHeartbeats 4000000 in
set_option maxRecDepth 100000 in
theorem laws_FnExactBlockAt.does {w : World} (x0 : List S109) (hw : (fun l : List S109 => l.length ≤ maxLen ∧ ∀ x ∈ l, w109 x) x0) {B : Option Addr} {c : Nat} (hr : Kd.C k109 w B x0.length x0) (hc : x0.length ≤ c) (x1 : Int) (_ : (Lit.int .i64 x1).wf = true) :
    Calls Try.prog 13 #[.slice B x0.length c, .int .i64 x1] w fun e w' => e = .returned (.bool true) ∧ Below w.heap.size w w' := by
  have hm : maxLen = 9223372036854775807 := rfl
  have hk0 := sums_nn hold109.nn x0
  obtain ⟨left, hleft⟩ : ∃ l : Int, l = szR ((x0.length : Int) + sums hold109 x0) 1048576 := ⟨_, rfl⟩
  have D0 := Aside0.mk (laws_szBlockS.does hw (left := 1048576) (by decide) (by decide) hr hc)
  rw [← hleft] at D0
  by_cases hd : left < 0
  · have hd' : decide (left < 0) = true := decide_eq_true hd
    clear hd hw hr hleft hk0
    go_enter Try.func13, Try.ntmps13
    go_wp2_with fail
    refine D0.out.mono ?_
    rintro _ W1 ⟨rfl, hb⟩
    go_wp2
    go_ret
    exact ⟨rfl, hb⟩
  · have hd' : decide (left < 0) = false := decide_eq_false hd
    have hle : (x0.length : Int) + sums hold109 x0 ≤ 1048576 := by have := mt (szR_lt (h := (x0.length : Int) + sums hold109 x0) (left := 1048576) (by omega)).2 (by rw [← hleft]; exact hd); omega
    have hs : (x0.length ≤ 1048576 ∧ ∀ x ∈ x0, s109 x) := ⟨by omega, fun y hy => small109 (by have := sums_le_BlockAt hold109.nn hy; omega)⟩
    have hl : (x0.map c109).length ≤ 9223372036854775807 ∧ ∀ x ∈ x0.map c109, l113 x := ⟨by rw [List.length_map]; omega, fun y hy => by
      obtain ⟨z, hz, rfl⟩ := List.mem_map.1 hy
      exact long109 (hs.2 z hz)⟩
    have hy1 : (x0.map c109).length ≤ 1048576 := by rw [List.length_map]; exact hs.1
    have hy2 : ∀ y ∈ x0.map c109, spec_l9Copy.few y := fun y hy => by
      obtain ⟨z, hz, rfl⟩ := List.mem_map.1 hy
      exact blockSmall_BlockAt (hs.2 z hz)
    have hlV := spec_BlockAt.of_long (id := x1) hl.2
    have hfV := spec_BlockAt.of_few (id := x1) hy2
    obtain ⟨kt, ht⟩ := (laws_toBlockS.is hs).rounds
    have T0 := Aside0.mk (fun (W : World) (hb : Below w.heap.size w W) => laws_toBlockS.calls kt B c x0 (x0.map c109) W (Kd.C_below hr hb) hc ht)
    obtain ⟨ks, hsp⟩ := (spec_BlockAt.is (l := x0.map c109) hl.1 hy2 x1).rounds
    have SP := Aside0.mk (fun (W : World) A d (h1 : (x0.map c109).length ≤ d) (hr : Kd.C k113 W A (x0.map c109).length (x0.map c109)) => spec_BlockAt.calls ks A d _ x1 _ _ _ _ _ _ _ _ _ _ _ _ _ _ _ W hr h1 hsp)
    obtain ⟨ki, him⟩ := (impl_BlockAt.is (l := x0.map c109) hl.1 hy2 x1).rounds
    have IM := Aside0.mk (fun (W : World) A d (h1 : (x0.map c109).length ≤ d) (hr : Kd.C k113 W A (x0.map c109).length (x0.map c109)) => impl_BlockAt.calls ki A d _ x1 _ _ _ _ _ _ _ _ _ _ _ _ _ _ _ W hr h1 him)
    have EL := Aside0.mk (fun (W : World) A d A' d' (h1 : (x0.map c109).length ≤ d) (h2 : (x0.map c109).length ≤ d') (hr : Kd.C k113 W A (x0.map c109).length (x0.map c109)) (hr' : Kd.C k113 W A' (x0.map c109).length (x0.map c109)) => laws_eqBlockS.same hl hr h1 hr' h2)
    have MK := Aside0.mk (fun (a W : World) ok v (hR : k113.R 113 W a.heap.size ok v (x0.map c109)) (hb : Below a.heap.size a W) => laws_markBlockS.keeps hR hb hy1 hy2 (x := 1) (by decide) (by decide))
    clear hd hw hr hleft hk0 hs hl hy1 hy2 ht hsp him hle
    generalize spec_BlockAt.of (x0.map c109) x1 = V at *
    generalize spec_BlockAt.has (x0.map c109) x1 = has at *
    generalize x0.map c109 = Y at *
    have EQ := Aside0.mk (fun (W : World) cs ds (hK : k113.K W V cs) (hL : k113.K W V ds) => laws_eqBlock.same hlV hK hL)
    obtain ⟨M, V6, V8, V9, V10, V12, hmv, hn6, hn8, hn9, hn10, hn12, hhv, hM⟩ := laws_heldBlock.of_mark V hfV
    obtain ⟨km, hmv⟩ := hmv.rounds
    obtain ⟨kh, hhv⟩ := hhv.rounds
    have hM0 : decide (M < 0) = false := decide_eq_false (by omega)
    have hMM : (M != M) = false := by simp
    have hhas : (has != has) = false := by simp
    clear hM hfV hlV
    have MV := Aside0.mk (fun (Pa Pb Pc : Nat → Prop) (u6 u8 u9 u10 u12 : Value) (W0 W : World) (hB : Below W0.heap.size W0 W) (h6 : Kd.string.R 9 W W0.heap.size Pa u6 V.f4.f2) (h8 : Kd.string.R 9 W W0.heap.size Pb u8 V.f5.f1) (h9 : (Kd.int .i64).R 3 W W0.heap.size Pc u9 V.f5.f2) (h10 : k186.R 186 W W0.heap.size Pc u10 V.f6) (h12 : k138.R 138 W W0.heap.size Pc u12 V.f8) (hab : ∀ k, Pa k → ¬ Pb k) (hba : ∀ k, Pb k → ¬ Pa k) => laws_markBlock.calls km V.f0 V.f1 V.f2 V.f3 V.f4.f0 V.f4.f1 Pa u6 V.f4.f2 V.f5.f0 Pb u8 V.f5.f1 Pc u9 V.f5.f2 Pc u10 V.f6 V.f7 Pc u12 V.f8 V.f9 1 M V6 V8 V9 V10 V12 W0 W hB h6 hab h8 hba h9 h10 h12 hmv)
    have HV := Aside0.mk (fun (W : World) (A6 : Option Addr) (d6 : Nat) (h6 : V6.length ≤ d6) (g6 : Kd.string.C W A6 V6.length V6) (A8 : Option Addr) (d8 : Nat) (h8 : V8.length ≤ d8) (g8 : Kd.string.C W A8 V8.length V8) (A9 : Option Addr) (d9 : Nat) (h9 : V9.length ≤ d9) (g9 : (Kd.int .i64).C W A9 V9.length V9) (A10 : Option Addr) (d10 : Nat) (h10 : V10.length ≤ d10) (g10 : k186.C W A10 V10.length V10) (A12 : Option Addr) (d12 : Nat) (h12 : V12.length ≤ d12) (g12 : k138.C W A12 V12.length V12) => laws_heldBlock.calls kh V.f0 V.f1 V.f2 V.f3 V.f4.f0 V.f4.f1 A6 d6 V6 V.f5.f0 A8 d8 V8 A9 d9 V9 A10 d10 V10 V.f7 A12 d12 V12 V.f9 1 M W g6 h6 g8 h8 g9 h9 g10 h10 g12 h12 hhv)
    rw [hn6, hn8, hn9, hn10, hn12] at HV
    clear hmv hhv
    have HB := Aside0.mk (Below.refl w.heap.size w)
    go_enter Try.func13, Try.ntmps13
    go_wp2_with fail
    refine D0.out.mono ?_
    rintro _ W1 ⟨rfl, hb⟩
    replace HB := Aside0.mk (Law.then_ HB.out hb)
    clear hb D0
    go_wp2_with fail
    refine (T0.out W1 HB.out).mono ?_
    rintro _ W2 ⟨v1, rfl, hS, hb⟩
    obtain ⟨A1, c1, rfl, l1, g1⟩ := Kd.S_reads hS
    replace HB := Aside0.mk (Law.then_ HB.out hb)
    clear hb hS
    go_wp2_with fail
    refine (SP.out W2 A1 c1 l1 g1).mono ?_
    rintro _ W3 ⟨v6, v8, v9, v10, v12, rfl, hR6, hR8, hR9, hR10, hR12, hb⟩
    obtain ⟨E6, e6, rfl⟩ := Kd.R_slice hR6
    obtain ⟨E8, e8, rfl⟩ := Kd.R_slice hR8
    obtain ⟨E9, e9, rfl⟩ := Kd.R_slice hR9
    obtain ⟨E10, e10, rfl⟩ := Kd.R_slice hR10
    obtain ⟨E12, e12, rfl⟩ := Kd.R_slice hR12
    have HW := Aside0.mk (k113.M_mono (ok' := fun k => k < W3.heap.size) (fun k hk => hk.2.2.1) (k113.M_bound (k113_mkM W3 W2.heap.size (fun _ => True) V (Kd.R_mono hR6 (fun _ _ => trivial)) (Kd.R_mono hR8 (fun _ _ => trivial)) hR9 hR10 hR12)))
    replace HB := Aside0.mk (Law.then_ HB.out hb)
    clear hb hR6 hR8 hR9 hR10 hR12 l1 g1 SP
    have HB3 := Aside0.mk (Below.refl W3.heap.size W3)
    have HBat3 := HB
    have h04 := HB.out.size
    go_wp2_with fail
    refine (T0.out (W3.alloc _) (Law.atop HB.out)).mono ?_
    rintro _ W4 ⟨v, rfl, hS, hb⟩
    have BW := Aside0.mk (Law.box hb)
    have h34 := Law.lt hb
    have HX := Aside0.mk (Kd.S_mono (ok' := fun k => W3.heap.size < k ∧ k < W4.heap.size) (Kd.S_lower (base' := W3.heap.size) (Kd.S_bound hS) (by rw [Law.size_box]; omega)) (fun k hk => ⟨by have := hk.2.1; rw [Law.size_box] at this; omega, hk.2.2.1⟩))
    obtain ⟨A3, c3, rfl, l3, g3⟩ := Kd.S_reads hS
    replace h04 : w.heap.size ≤ W4.heap.size := by omega
    replace hb := Law.boxed hb
    replace HB := Aside0.mk (Law.then_ HB.out hb)
    replace HW := Aside0.mk (Kd.M_below HW.out hb)
    replace HB3 := Aside0.mk (Law.then_ HB3.out hb)
    clear hb hS
    go_wp2_with fail
    refine (IM.out W4 A3 c3 l3 g3).mono ?_
    rintro _ W5 ⟨u6, u8, u9, u10, u12, rfl, hR6, hR8, hR9, hR10, hR12, hb⟩
    obtain ⟨A6, d6, rfl⟩ := Kd.R_slice hR6
    obtain ⟨A8, d8, rfl⟩ := Kd.R_slice hR8
    obtain ⟨A9, d9, rfl⟩ := Kd.R_slice hR9
    obtain ⟨A10, d10, rfl⟩ := Kd.R_slice hR10
    obtain ⟨A12, d12, rfl⟩ := Kd.R_slice hR12
    have G6 := Aside0.mk (Kd.R_mono (ok' := fun k => Value.ownBlock (.slice A6 V.f4.f2.length d6) = some k ∧ (W4.heap.size ≤ k ∧ k < W5.heap.size) ∧ some k ≠ Value.ownBlock (.slice A8 V.f5.f1.length d8)) (R_strOwn (Kd.R_bound hR6)) (fun k hk => ⟨hk.1, ⟨hk.2.2.1, hk.2.2.2.1⟩, hk.2.1⟩))
    have G8 := Aside0.mk (Kd.R_mono (ok' := fun k => Value.ownBlock (.slice A8 V.f5.f1.length d8) = some k ∧ (W4.heap.size ≤ k ∧ k < W5.heap.size) ∧ some k ≠ Value.ownBlock (.slice A6 V.f4.f2.length d6)) (R_strOwn (Kd.R_bound hR8)) (fun k hk => ⟨hk.1, ⟨hk.2.2.1, hk.2.2.2.1⟩, hk.2.1⟩))
    have G9 := Aside0.mk (Kd.R_mono (ok' := fun k => W4.heap.size ≤ k ∧ k < W5.heap.size) (Kd.R_bound hR9) (fun k hk => ⟨hk.2.1, hk.2.2.1⟩))
    have G10 := Aside0.mk (Kd.R_mono (ok' := fun k => W4.heap.size ≤ k ∧ k < W5.heap.size) (Kd.R_bound hR10) (fun k hk => ⟨hk.2.1, hk.2.2.1⟩))
    have G12 := Aside0.mk (Kd.R_mono (ok' := fun k => W4.heap.size ≤ k ∧ k < W5.heap.size) (Kd.R_bound hR12) (fun k hk => ⟨hk.2.1, hk.2.2.1⟩))
    have hne : W3.heap.size ≠ W5.heap.size := by have := hb.size; omega
    have h45 := hb.size
    replace HB := Aside0.mk (Law.then_ HB.out hb)
    replace HW := Aside0.mk (Kd.M_below HW.out hb)
    replace HB3 := Aside0.mk (Law.then_ HB3.out hb)
    replace BW := Aside0.mk (blk_below BW.out hb)
    replace HX := Aside0.mk (Kd.S_below HX.out hb)
    clear hb l3 g3 hR6 hR8 hR9 hR10 hR12
    obtain ⟨b0_, b1_, b2_, b3_, b4_, b5_, b6_, b7_, b8_, b9_, b10_, b11_, b12_, b13_⟩ := cellsA14 BW.out
    go_wp2_with fail
    refine (EQ.out (W5.alloc _) _ _ (k113.K_below (Law.atop (Below.refl _ _)) (k113.K_of_M (k113_mkM W5 W4.heap.size (fun _ => True) V (Kd.R_mono G6.out (fun _ _ => trivial)) (Kd.R_mono G8.out (fun _ _ => trivial)) (Kd.R_mono G9.out (fun _ _ => trivial)) (Kd.R_mono G10.out (fun _ _ => trivial)) (Kd.R_mono G12.out (fun _ _ => trivial))))) (k113.K_below (Law.atop (Below.refl _ _)) (k113.K_of_M HW.out))).mono ?_
    rintro _ W6 ⟨rfl, hb⟩
    have BG := Aside0.mk (Law.box hb)
    have h56 := Law.lt hb
    replace hb := Law.boxed hb
    replace HB := Aside0.mk (Law.then_ HB.out hb)
    replace HW := Aside0.mk (Kd.M_below HW.out hb)
    replace HB3 := Aside0.mk (Law.then_ HB3.out hb)
    replace BW := Aside0.mk (blk_below BW.out hb)
    replace HX := Aside0.mk (Kd.S_below HX.out hb)
    replace G6 := Aside0.mk (Kd.R_below G6.out hb)
    replace G8 := Aside0.mk (Kd.R_below G8.out hb)
    replace G9 := Aside0.mk (Kd.R_below G9.out hb)
    replace G10 := Aside0.mk (Kd.R_below G10.out hb)
    replace G12 := Aside0.mk (Kd.R_below G12.out hb)
    clear hb hne
    clear b0_ b1_ b2_ b3_ b4_ b5_ b6_ b7_ b8_ b9_ b10_ b11_ b12_ b13_
    go_wp2_with fail
    refine (T0.out W6 HB.out).mono ?_
    rintro _ W7 ⟨v, rfl, hS, hb⟩
    obtain ⟨A5, c5, rfl, l5, g5⟩ := Kd.S_reads hS
    have h67 := hb.size
    replace HB := Aside0.mk (Law.then_ HB.out hb)
    replace HW := Aside0.mk (Kd.M_below HW.out hb)
    replace HB3 := Aside0.mk (Law.then_ HB3.out hb)
    replace BW := Aside0.mk (blk_below BW.out hb)
    replace HX := Aside0.mk (Kd.S_below HX.out hb)
    replace G6 := Aside0.mk (Kd.R_below G6.out hb)
    replace G8 := Aside0.mk (Kd.R_below G8.out hb)
    replace G9 := Aside0.mk (Kd.R_below G9.out hb)
    replace G10 := Aside0.mk (Kd.R_below G10.out hb)
    replace G12 := Aside0.mk (Kd.R_below G12.out hb)
    replace BG := Aside0.mk (blk_below BG.out hb)
    clear hb hS
    go_wp2_with fail
    have hX := Kd.S_reads' HX.out
    refine (EL.out W7 _ _ _ _ hX.2.1 l5 hX.2.2 g5).mono ?_
    rintro _ W8 ⟨rfl, hb⟩
    have h78 := hb.size
    replace HB := Aside0.mk (Law.then_ HB.out hb)
    replace HW := Aside0.mk (Kd.M_below HW.out hb)
    replace HB3 := Aside0.mk (Law.then_ HB3.out hb)
    replace BW := Aside0.mk (blk_below BW.out hb)
    replace HX := Aside0.mk (Kd.S_below HX.out hb)
    replace G6 := Aside0.mk (Kd.R_below G6.out hb)
    replace G8 := Aside0.mk (Kd.R_below G8.out hb)
    replace G9 := Aside0.mk (Kd.R_below G9.out hb)
    replace G10 := Aside0.mk (Kd.R_below G10.out hb)
    replace G12 := Aside0.mk (Kd.R_below G12.out hb)
    replace BG := Aside0.mk (blk_below BG.out hb)
    clear hb l5 g5 hX EL
    go_wp2_with fail
    refine (MK.out W3 W8 _ _ (Kd.S_R HX.out) HB3.out).mono ?_
    rintro _ W9 ⟨m, rfl, hm0, _, hb, hk⟩
    have hm1 : decide (m < 0) = false := decide_eq_false (by omega)
    replace HB := Aside0.mk (Law.then_ HBat3.out hb)
    replace HW := Aside0.mk (Kd.M_kept HW.out hk (fun k (h1 : k < W3.heap.size) h2 => by have h3 := h2.1; omega))
    replace BW := Aside0.mk (blk_kept BW.out hk (fun h2 => by have h3 := h2.1; omega))
    replace G6 := Aside0.mk (Kd.R_kept G6.out hk (fun k h1 h2 => by have h3 := h1.2.1.1; have h4 := h2.2; omega))
    replace G8 := Aside0.mk (Kd.R_kept G8.out hk (fun k h1 h2 => by have h3 := h1.2.1.1; have h4 := h2.2; omega))
    replace G9 := Aside0.mk (Kd.R_kept G9.out hk (fun k h1 h2 => by have h3 := h1.1; have h4 := h2.2; omega))
    replace G10 := Aside0.mk (Kd.R_kept G10.out hk (fun k h1 h2 => by have h3 := h1.1; have h4 := h2.2; omega))
    replace G12 := Aside0.mk (Kd.R_kept G12.out hk (fun k h1 h2 => by have h3 := h1.1; have h4 := h2.2; omega))
    replace BG := Aside0.mk (blk_kept BG.out hk (fun h2 => by have h3 := h2.2; omega))
    have h89 := hk.1
    clear hb hk hm0 HX HB3 MK
    obtain ⟨b0_, b1_, b2_, b3_, b4_, b5_, b6_, b7_, b8_, b9_, b10_, b11_, b12_, b13_⟩ := cells14 BW.out
    obtain ⟨q0_, q1_, q2_, q3_, q4_, q5_, q6_, q7_, q8_, q9_, q10_, q11_, q12_, q13_⟩ := cells14 BG.out
    go_wp2_with fail
    refine (EQ.out W9 _ _ (k113.K_of_M (k113_mkM W9 W4.heap.size (fun _ => True) V (Kd.R_mono G6.out (fun _ _ => trivial)) (Kd.R_mono G8.out (fun _ _ => trivial)) (Kd.R_mono G9.out (fun _ _ => trivial)) (Kd.R_mono G10.out (fun _ _ => trivial)) (Kd.R_mono G12.out (fun _ _ => trivial)))) (k113.K_of_M HW.out)).mono ?_
    rintro _ W10 ⟨rfl, hb⟩
    have h910 := hb.size
    replace HB := Aside0.mk (Law.then_ HB.out hb)
    replace HW := Aside0.mk (Kd.M_below HW.out hb)
    replace BW := Aside0.mk (blk_below BW.out hb)
    replace G6 := Aside0.mk (Kd.R_below G6.out hb)
    replace G8 := Aside0.mk (Kd.R_below G8.out hb)
    replace G9 := Aside0.mk (Kd.R_below G9.out hb)
    replace G10 := Aside0.mk (Kd.R_below G10.out hb)
    replace G12 := Aside0.mk (Kd.R_below G12.out hb)
    replace BG := Aside0.mk (blk_below BG.out hb)
    clear hb
    clear b0_ b1_ b2_ b3_ b4_ b5_ b6_ b7_ b8_ b9_ b10_ b11_ b12_ b13_
    clear q0_ q1_ q2_ q3_ q4_ q5_ q6_ q7_ q8_ q9_ q10_ q11_ q12_ q13_
    obtain ⟨q0_, q1_, q2_, q3_, q4_, q5_, q6_, q7_, q8_, q9_, q10_, q11_, q12_, q13_⟩ := cells14 BG.out
    go_wp2_with fail
    refine (MV.out (fun k => Value.ownBlock (.slice A6 V.f4.f2.length d6) = some k ∧ (W4.heap.size ≤ k ∧ k < W5.heap.size) ∧ some k ≠ Value.ownBlock (.slice A8 V.f5.f1.length d8)) (fun k => Value.ownBlock (.slice A8 V.f5.f1.length d8) = some k ∧ (W4.heap.size ≤ k ∧ k < W5.heap.size) ∧ some k ≠ Value.ownBlock (.slice A6 V.f4.f2.length d6)) (fun k => W4.heap.size ≤ k ∧ k < W5.heap.size) _ _ _ _ _ w W10 HB.out (Kd.R_lower G6.out h04) (Kd.R_lower G8.out h04) (Kd.R_lower G9.out h04) (Kd.R_lower G10.out h04) (Kd.R_lower G12.out h04) (fun k h1 h2 => h1.2.2 (by rw [← h2.1])) (fun k h1 h2 => h1.2.2 (by rw [← h2.1]))).mono ?_
    rintro _ W11 ⟨rfl, hR6, hR8, hR9, hR10, hR12, hb, hk⟩
    replace HB := Aside0.mk hb
    replace HW := Aside0.mk (Kd.M_kept HW.out hk (fun k (h1 : k < W3.heap.size) h2 => by rcases h2 with h2 | h2 | h2 | h2 | h2 <;> first | (have h3 := h2.2.1; omega) | (have h3 := h2; omega)))
    replace BW := Aside0.mk (blk_kept BW.out hk (fun h2 => by rcases h2 with h2 | h2 | h2 | h2 | h2 <;> first | (have h3 := h2.2.1; omega) | (have h3 := h2; omega)))
    replace BG := Aside0.mk (blk_kept BG.out hk (fun h2 => by rcases h2 with h2 | h2 | h2 | h2 | h2 <;> first | (have h3 := h2.2.1; omega) | (have h3 := h2; omega)))
    replace G6 := Kd.R_reads' hR6
    rw [hn6] at G6
    replace G6 := Aside0.mk G6
    replace G8 := Kd.R_reads' hR8
    rw [hn8] at G8
    replace G8 := Aside0.mk G8
    replace G9 := Kd.R_reads' hR9
    rw [hn9] at G9
    replace G9 := Aside0.mk G9
    replace G10 := Kd.R_reads' hR10
    rw [hn10] at G10
    replace G10 := Aside0.mk G10
    replace G12 := Kd.R_reads' hR12
    rw [hn12] at G12
    replace G12 := Aside0.mk G12
    clear hb hk hR6 hR8 hR9 hR10 hR12 MV
    clear q0_ q1_ q2_ q3_ q4_ q5_ q6_ q7_ q8_ q9_ q10_ q11_ q12_ q13_
    have HV2 := Aside0.mk (fun (W : World) (hb : Below W11.heap.size W11 W) => HV.out W A6 d6 G6.out.2.1 (Kd.C_below G6.out.2.2 hb) A8 d8 G8.out.2.1 (Kd.C_below G8.out.2.2 hb) A9 d9 G9.out.2.1 (Kd.C_below G9.out.2.2 hb) A10 d10 G10.out.2.1 (Kd.C_below G10.out.2.2 hb) A12 d12 G12.out.2.1 (Kd.C_below G12.out.2.2 hb))
    clear HV G6 G8 G9 G10 G12
    have HB11 := Aside0.mk (Below.refl W11.heap.size W11)
    obtain ⟨q0_, q1_, q2_, q3_, q4_, q5_, q6_, q7_, q8_, q9_, q10_, q11_, q12_, q13_⟩ := cells14 BG.out
    go_wp2_with fail
    refine (HV2.out W11 HB11.out).mono ?_
    rintro _ W12 ⟨rfl, hb⟩
    replace HB := Aside0.mk (Law.then_ HB.out hb)
    replace HW := Aside0.mk (Kd.M_below HW.out hb)
    replace BW := Aside0.mk (blk_below BW.out hb)
    replace BG := Aside0.mk (blk_below BG.out hb)
    replace HB11 := Aside0.mk (Law.then_ HB11.out hb)
    clear hb
    clear q0_ q1_ q2_ q3_ q4_ q5_ q6_ q7_ q8_ q9_ q10_ q11_ q12_ q13_
    go_wp2_with fail
    refine (T0.out W12 HB.out).mono ?_
    rintro _ W13 ⟨v, rfl, hS, hb⟩
    obtain ⟨A7, c7, rfl, l7, g7⟩ := Kd.S_reads hS
    replace HB := Aside0.mk (Law.then_ HB.out hb)
    replace HW := Aside0.mk (Kd.M_below HW.out hb)
    replace BW := Aside0.mk (blk_below BW.out hb)
    replace BG := Aside0.mk (blk_below BG.out hb)
    replace HB11 := Aside0.mk (Law.then_ HB11.out hb)
    clear hb hS
    go_wp2_with fail
    refine (IM.out W13 A7 c7 l7 g7).mono ?_
    rintro _ W14 ⟨u6, u8, u9, u10, u12, rfl, hR6, hR8, hR9, hR10, hR12, hb⟩
    obtain ⟨F6, f6, rfl⟩ := Kd.R_slice hR6
    obtain ⟨F8, f8, rfl⟩ := Kd.R_slice hR8
    obtain ⟨F9, f9, rfl⟩ := Kd.R_slice hR9
    obtain ⟨F10, f10, rfl⟩ := Kd.R_slice hR10
    obtain ⟨F12, f12, rfl⟩ := Kd.R_slice hR12
    have KH := Aside0.mk (k113.K_of_M (k113_mkM W14 W13.heap.size (fun _ => True) V (Kd.R_mono hR6 (fun _ _ => trivial)) (Kd.R_mono hR8 (fun _ _ => trivial)) hR9 hR10 hR12))
    have hne : W3.heap.size ≠ W14.heap.size := by have h1 := blk_lt BW.out; have h2 := hb.size; omega
    replace HB := Aside0.mk (Law.then_ HB.out hb)
    replace HW := Aside0.mk (Kd.M_below HW.out hb)
    replace BW := Aside0.mk (blk_below BW.out hb)
    replace BG := Aside0.mk (blk_below BG.out hb)
    replace HB11 := Aside0.mk (Law.then_ HB11.out hb)
    clear hb l7 g7 hR6 hR8 hR9 hR10 hR12
    obtain ⟨b0_, b1_, b2_, b3_, b4_, b5_, b6_, b7_, b8_, b9_, b10_, b11_, b12_, b13_⟩ := cellsA14 BW.out
    go_wp2_with fail
    refine (EQ.out (W14.alloc _) _ _ (k113.K_below (Law.atop (Below.refl _ _)) KH.out) (k113.K_below (Law.atop (Below.refl _ _)) (k113.K_of_M HW.out))).mono ?_
    rintro _ W15 ⟨rfl, hb⟩
    replace hb := Law.boxed hb
    replace HB := Aside0.mk (Law.then_ HB.out hb)
    replace HW := Aside0.mk (Kd.M_below HW.out hb)
    replace BW := Aside0.mk (blk_below BW.out hb)
    replace BG := Aside0.mk (blk_below BG.out hb)
    replace HB11 := Aside0.mk (Law.then_ HB11.out hb)
    clear hb hne KH
    clear b0_ b1_ b2_ b3_ b4_ b5_ b6_ b7_ b8_ b9_ b10_ b11_ b12_ b13_
    obtain ⟨q0_, q1_, q2_, q3_, q4_, q5_, q6_, q7_, q8_, q9_, q10_, q11_, q12_, q13_⟩ := cells14 BG.out
    go_wp2_with fail
    refine (HV2.out W15 HB11.out).mono ?_
    rintro _ W16 ⟨rfl, hb⟩
    replace HB := Aside0.mk (Law.then_ HB.out hb)
    replace HW := Aside0.mk (Kd.M_below HW.out hb)
    replace BW := Aside0.mk (blk_below BW.out hb)
    replace BG := Aside0.mk (blk_below BG.out hb)
    replace HB11 := Aside0.mk (Law.then_ HB11.out hb)
    clear hb
    clear q0_ q1_ q2_ q3_ q4_ q5_ q6_ q7_ q8_ q9_ q10_ q11_ q12_ q13_
    go_wp2
    go_ret
    exact ⟨rfl, HB.out⟩

end Go.Proofs.Ytadkhkpchankjaa.F
