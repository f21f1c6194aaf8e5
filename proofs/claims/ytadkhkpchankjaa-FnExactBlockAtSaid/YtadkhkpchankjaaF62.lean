/-
Functions of the program, what they come to, and that Go comes to just that: laws_eqBlockS, laws_markBlockS.
Conditions: those that each theorem names.
-/
import Derived.Test.YtadkhkpchankjaaFAbs
import Derived.Test.YtadkhkpchankjaaF40
import Derived.Test.YtadkhkpchankjaaF42
import Derived.Test.YtadkhkpchankjaaF47
import Derived.Test.YtadkhkpchankjaaF54
import Derived.Test.YtadkhkpchankjaaF60
import Derived.Test.YtadkhkpchankjaaF61
import Derived.Test.YtadkhkpchankjaaWKept
import Derived.Test.YtadkhkpchankjaaWMore
import Derived.Test.YtadkhkpchankjaaMark
import Derived.Test.YtadkhkpchankjaaFam
set_option linter.unusedVariables false
set_option linter.unusedSimpArgs false
namespace Go.Proofs.Ytadkhkpchankjaa.F
open Go.RowKit Go.Proofs.YtadkhkpchankjaaW.PrintWords Go.Proofs.YtadkhkpchankjaaW.PrintLast Go.Proofs.Ytadkhkpchankjaa.Base Go.Proofs.Ytadkhkpchankjaa.BW
open Go.Proofs.Ytadkhkpchankjaa.Mark
open Go.Proofs.Ytadkhkpchankjaa.FamW
open Go.Proofs.YtadkhkpchankjaaW.PrintMore
attribute [local go_sem] max2_int min2_int max_two min_two max_three min_three max_four min_four   -- for this text's walks alone

/-! ### laws_eqBlockS: printed by compact.py -/
set_option maxHeartbeats 2000000 in
set_option maxRecDepth 100000 in
theorem laws_eqBlockS.same {xs : List S113} (hl : (fun l : List S113 => l.length ≤ 9223372036854775807 ∧ ∀ x ∈ l, l113 x) xs) {B D : Option Addr} {c d : Nat} {w : World} (hr : Kd.C k113 w B xs.length xs) (hc : xs.length ≤ c) (hs : Kd.C k113 w D xs.length xs) (hd : xs.length ≤ d) :
    Calls Try.prog 80 #[.slice B xs.length c, .slice D xs.length d] w fun e w' => e = .returned (.bool true) ∧ Below w.heap.size w w' := by
  have hn : (xs.length : Int) ≤ 9223372036854775807 := by have := hl.1; omega
  have HR := Aside0.mk hr
  have HS := Aside0.mk hs
  have HL := Aside0.mk hl.2
  clear hr hs hl
  go_enter Try.func80, Try.ntmps80
  go_wp2
  go_loopg [5] xs.length (fun g v5 w' => ∃ (i : Int) (e : On w), v5 = .int .i64 i ∧ w' = e.now ∧ 0 ≤ i ∧ i ≤ xs.length ∧ Aside0 ((xs.length : Int) - i ≤ g))
  case atStart => exact ⟨0, On.here w, rfl, rfl, Int.le_refl _, by omega, ⟨by omega⟩⟩
  case round =>
    obtain ⟨i, e, rfl, rfl, hi0, hi1, HG⟩ := hrel
    by_cases c1 : i < (xs.length : Int)
    rotate_left
    · go_wp2
      go_ret
      exact ⟨rfl, e.ok⟩
    obtain ⟨ad, A6, a6, A8, a8, A9, a9, A10, a10, A12, a12, e1, h0, h1, h2, h3, h4, h5, h6, h7, h8, h9, h10, h11, h12, h13, l6, g6, l8, g8, l9, g9, l10, g10, l12, g12⟩ := at_T113 HR.out i hi0 c1
    cases e1
    obtain ⟨ad', D6, d6, D8, d8, D9, d9, D10, d10, D12, d12, e1, k0, k1, k2, k3, k4, k5, k6, k7, k8, k9, k10, k11, k12, k13, m6, n6, m8, n8, m9, n9, m10, n10, m12, n12⟩ := at_T113 HS.out i hi0 c1
    cases e1
    have E1 := Aside0.mk (fun e : On w => laws_eqBlock.same (x := (rd_T113 xs i)) (HL.out _ (getD_mem (by omega) z113)) (k113_mk e.now (rd_T113 xs i) l6 (On.row g6 e) l8 (On.row g8 e) l9 (On.row g9 e) l10 (On.row g10 e) l12 (On.row g12 e)) (k113_mk e.now (rd_T113 xs i) m6 (On.row n6 e) m8 (On.row n8 e) m9 (On.row n9 e) m10 (On.row n10 e) m12 (On.row n12 e)))
    have R0 := On.cell h0
    have S0 := On.cell k0
    have R1 := On.cell h1
    have S1 := On.cell k1
    have R2 := On.cell h2
    have S2 := On.cell k2
    have R3 := On.cell h3
    have S3 := On.cell k3
    have R4 := On.cell h4
    have S4 := On.cell k4
    have R5 := On.cell h5
    have S5 := On.cell k5
    have R6 := On.cell h6
    have S6 := On.cell k6
    have R7 := On.cell h7
    have S7 := On.cell k7
    have R8 := On.cell h8
    have S8 := On.cell k8
    have R9 := On.cell h9
    have S9 := On.cell k9
    have R10 := On.cell h10
    have S10 := On.cell k10
    have R11 := On.cell h11
    have S11 := On.cell k11
    have R12 := On.cell h12
    have S12 := On.cell k12
    have R13 := On.cell h13
    have S13 := On.cell k13
    clear h0 k0 h1 k1 h2 k2 h3 k3 h4 k4 h5 k5 h6 k6 h7 k7 h8 k8 h9 k9 h10 k10 h11 k11 h12 k12 h13 k13 l6 g6 m6 n6 l8 g8 m8 n8 l9 g9 m9 n9 l10 g10 m10 n10 l12 g12 m12 n12
    go_wp2
    refine BW.region (by kernel_rfl) (by kernel_rfl) ?_
    repeat (go_big_quiet_step (first | exact BW.quiet (E1.out _)))
    refine wpQuiet_nil ?_
    rintro _ ⟨e2, rfl⟩
    go_wp2
    go_roundg (xs.length - i.toNat - 1)
    case measure => have := HG.out; omega
    case rel => exact ⟨i + 1, e2, rfl, rfl, by omega, by omega, ⟨by omega⟩⟩

/-! ### laws_markBlockS: walked by markwalk.py -/

/-! ### laws_markBlockS: marks, printed by markwalk.py -/
set_option maxHeartbeats 4000000 in
set_option maxRecDepth 100000 in
theorem laws_markBlockS.keeps {xs : List S113} {v : Value} {a w : World} {ok : Nat → Prop} (hR : k113.R 113 w a.heap.size ok v xs) (hb : Below a.heap.size a w) (hn : xs.length ≤ 1048576) (hl : ∀ y ∈ xs, y.f4.f2.length ≤ 1048576 ∧ y.f5.f1.length ≤ 1048576 ∧ y.f5.f2.length ≤ 1048576 ∧ y.f6.length ≤ 1048576 ∧ y.f8.length ≤ 1048576) {x : Int} (h0 : 0 ≤ x) (h1 : x ≤ 1000000000) :
    Calls Try.prog 81 #[v, .int .i64 x] w fun r W => ∃ m : Int, r = .returned (.int .i64 m) ∧ 0 ≤ m ∧ m ≤ x + 10485823 * xs.length ∧ Below a.heap.size a W ∧ Kept w W ok := by
  obtain ⟨A, c, rfl⟩ := Kd.R_slice hR
  have hlt : ∀ g i : Nat, (A = some ⟨g, 0, none⟩ ∧ (i % 14 = 6 ∨ i % 14 = 8 ∨ i % 14 = 9 ∨ i % 14 = 10 ∨ i % 14 = 12)) → g < w.heap.size := fun g i h => Kd.R_lt hR g (by rw [h.1]; rfl)
  have hty : ∀ (g i : Nat), (A = some ⟨g, 0, none⟩ ∧ (i % 14 = 6 ∨ i % 14 = 8 ∨ i % 14 = 9 ∨ i % 14 = 10 ∨ i % 14 = 12)) → ∃ cells, w.heap[g]? = some (.cells cells 113 (0, 0)) := fun g i h => Kd.R_typed hR g (by rw [h.1]; rfl)
  obtain ⟨e0, he0⟩ : ∃ e : Mk a.heap.size a w ok (fun g i => A = some ⟨g, 0, none⟩ ∧ (i % 14 = 6 ∨ i % 14 = 8 ∨ i % 14 = 9 ∨ i % 14 = 10 ∨ i % 14 = 12)), w = e.now := ⟨Mk.start (Nat.le_refl _) hlt hb, rfl⟩
  have HR := Aside0.mk (show Rw w a.heap.size ok (fun g i => A = some ⟨g, 0, none⟩ ∧ (i % 14 = 6 ∨ i % 14 = 8 ∨ i % 14 = 9 ∨ i % 14 = 10 ∨ i % 14 = 12)) 113 14 (fun j => j ≠ 6 ∧ j ≠ 8 ∧ j ≠ 9 ∧ j ≠ 10 ∧ j ≠ 12) A xs.length from Rw.of_R (P := ok) (H := fun g i => A = some ⟨g, 0, none⟩ ∧ (i % 14 = 6 ∨ i % 14 = 8 ∨ i % 14 = 9 ∨ i % 14 = 10 ∨ i % 14 = 12)) (F := fun j => j ≠ 6 ∧ j ≠ 8 ∧ j ≠ 9 ∧ j ≠ 10 ∧ j ≠ 12) (B := a.heap.size) z113 hR (by decide) (fun _ h => h) (Nat.le_refl _) (fun g _ i j _ hj hF hH => by
    have hj' : j < 14 := hj
    have h := hH.2
    rw [show (k113).sz = 14 from rfl] at h
    omega))
  have HD6 := Aside0.mk (fun (i : Nat) (hi : i < xs.length) (g : Nat) (hA : A = some ⟨g, 0, none⟩) => show ∃ (D : Option Addr) (m d : Nat), w.cell? ⟨g, i * 14 + 6, none⟩ = some (.slice D m d) ∧ m ≤ 1048576 ∧ Rw w a.heap.size ok (fun g i => A = some ⟨g, 0, none⟩ ∧ (i % 14 = 6 ∨ i % 14 = 8 ∨ i % 14 = 9 ∨ i % 14 = 10 ∨ i % 14 = 12)) 9 1 (fun _ => True) D m from by
    have hR2 := hR
    rw [hA] at hR2
    obtain ⟨cc, _, hM, hcc, _⟩ := Kd.R_elem hR2 z113 (i : Int) (by omega) (by omega)
    obtain ⟨v6, v8, v9, v10, v12, rfl, g6, g8, g9, g10, g12⟩ := k113_openM hM
    obtain ⟨D, d, rfl⟩ := Kd.R_slice g6
    refine ⟨D, _, d, hcc 6 _ rfl, (hl _ (getD_mem hi z113)).1, show Rw w a.heap.size ok (fun g i => A = some ⟨g, 0, none⟩ ∧ (i % 14 = 6 ∨ i % 14 = 8 ∨ i % 14 = 9 ∨ i % 14 = 10 ∨ i % 14 = 12)) 9 1 (fun _ => True) D _ from Rw.of_R (d := Kd.string) ByteArray.empty g6 (by decide) (fun _ h => h.1) (Nat.le_refl _) (fun g2 hc2 i2 j2 _ _ _ hH => ?_)⟩
    obtain ⟨cs2, hc2⟩ := hc2
    obtain ⟨cells, hc⟩ := hty g2 _ hH
    rw [hc] at hc2
    injection hc2 with hc2
    injection hc2 with _ ht _
    exact absurd ht (by decide))
  have HD8 := Aside0.mk (fun (i : Nat) (hi : i < xs.length) (g : Nat) (hA : A = some ⟨g, 0, none⟩) => show ∃ (D : Option Addr) (m d : Nat), w.cell? ⟨g, i * 14 + 8, none⟩ = some (.slice D m d) ∧ m ≤ 1048576 ∧ Rw w a.heap.size ok (fun g i => A = some ⟨g, 0, none⟩ ∧ (i % 14 = 6 ∨ i % 14 = 8 ∨ i % 14 = 9 ∨ i % 14 = 10 ∨ i % 14 = 12)) 9 1 (fun _ => True) D m from by
    have hR2 := hR
    rw [hA] at hR2
    obtain ⟨cc, _, hM, hcc, _⟩ := Kd.R_elem hR2 z113 (i : Int) (by omega) (by omega)
    obtain ⟨v6, v8, v9, v10, v12, rfl, g6, g8, g9, g10, g12⟩ := k113_openM hM
    obtain ⟨D, d, rfl⟩ := Kd.R_slice g8
    refine ⟨D, _, d, hcc 8 _ rfl, (hl _ (getD_mem hi z113)).2.1, show Rw w a.heap.size ok (fun g i => A = some ⟨g, 0, none⟩ ∧ (i % 14 = 6 ∨ i % 14 = 8 ∨ i % 14 = 9 ∨ i % 14 = 10 ∨ i % 14 = 12)) 9 1 (fun _ => True) D _ from Rw.of_R (d := Kd.string) ByteArray.empty g8 (by decide) (fun _ h => h.1) (Nat.le_refl _) (fun g2 hc2 i2 j2 _ _ _ hH => ?_)⟩
    obtain ⟨cs2, hc2⟩ := hc2
    obtain ⟨cells, hc⟩ := hty g2 _ hH
    rw [hc] at hc2
    injection hc2 with hc2
    injection hc2 with _ ht _
    exact absurd ht (by decide))
  have HD9 := Aside0.mk (fun (i : Nat) (hi : i < xs.length) (g : Nat) (hA : A = some ⟨g, 0, none⟩) => show ∃ (D : Option Addr) (m d : Nat), w.cell? ⟨g, i * 14 + 9, none⟩ = some (.slice D m d) ∧ m ≤ 1048576 ∧ Rw w a.heap.size ok (fun g i => A = some ⟨g, 0, none⟩ ∧ (i % 14 = 6 ∨ i % 14 = 8 ∨ i % 14 = 9 ∨ i % 14 = 10 ∨ i % 14 = 12)) 3 1 (fun _ => True) D m from by
    have hR2 := hR
    rw [hA] at hR2
    obtain ⟨cc, _, hM, hcc, _⟩ := Kd.R_elem hR2 z113 (i : Int) (by omega) (by omega)
    obtain ⟨v6, v8, v9, v10, v12, rfl, g6, g8, g9, g10, g12⟩ := k113_openM hM
    obtain ⟨D, d, rfl⟩ := Kd.R_slice g9
    refine ⟨D, _, d, hcc 9 _ rfl, (hl _ (getD_mem hi z113)).2.2.1, show Rw w a.heap.size ok (fun g i => A = some ⟨g, 0, none⟩ ∧ (i % 14 = 6 ∨ i % 14 = 8 ∨ i % 14 = 9 ∨ i % 14 = 10 ∨ i % 14 = 12)) 3 1 (fun _ => True) D _ from Rw.of_R (d := (Kd.int .i64)) (0 : Int) g9 (by decide) (fun _ h => h.1) (Nat.le_refl _) (fun g2 hc2 i2 j2 _ _ _ hH => ?_)⟩
    obtain ⟨cs2, hc2⟩ := hc2
    obtain ⟨cells, hc⟩ := hty g2 _ hH
    rw [hc] at hc2
    injection hc2 with hc2
    injection hc2 with _ ht _
    exact absurd ht (by decide))
  have HD10 := Aside0.mk (fun (i : Nat) (hi : i < xs.length) (g : Nat) (hA : A = some ⟨g, 0, none⟩) => show ∃ (D : Option Addr) (m d : Nat), w.cell? ⟨g, i * 14 + 10, none⟩ = some (.slice D m d) ∧ m ≤ 1048576 ∧ Rw w a.heap.size ok (fun g i => A = some ⟨g, 0, none⟩ ∧ (i % 14 = 6 ∨ i % 14 = 8 ∨ i % 14 = 9 ∨ i % 14 = 10 ∨ i % 14 = 12)) 186 5 (fun _ => True) D m from by
    have hR2 := hR
    rw [hA] at hR2
    obtain ⟨cc, _, hM, hcc, _⟩ := Kd.R_elem hR2 z113 (i : Int) (by omega) (by omega)
    obtain ⟨v6, v8, v9, v10, v12, rfl, g6, g8, g9, g10, g12⟩ := k113_openM hM
    obtain ⟨D, d, rfl⟩ := Kd.R_slice g10
    refine ⟨D, _, d, hcc 10 _ rfl, (hl _ (getD_mem hi z113)).2.2.2.1, show Rw w a.heap.size ok (fun g i => A = some ⟨g, 0, none⟩ ∧ (i % 14 = 6 ∨ i % 14 = 8 ∨ i % 14 = 9 ∨ i % 14 = 10 ∨ i % 14 = 12)) 186 5 (fun _ => True) D _ from Rw.of_R (d := k186) z186 g10 (by decide) (fun _ h => h.1) (Nat.le_refl _) (fun g2 hc2 i2 j2 _ _ _ hH => ?_)⟩
    obtain ⟨cs2, hc2⟩ := hc2
    obtain ⟨cells, hc⟩ := hty g2 _ hH
    rw [hc] at hc2
    injection hc2 with hc2
    injection hc2 with _ ht _
    exact absurd ht (by decide))
  have HD12 := Aside0.mk (fun (i : Nat) (hi : i < xs.length) (g : Nat) (hA : A = some ⟨g, 0, none⟩) => show ∃ (D : Option Addr) (m d : Nat), w.cell? ⟨g, i * 14 + 12, none⟩ = some (.slice D m d) ∧ m ≤ 1048576 ∧ Rw w a.heap.size ok (fun g i => A = some ⟨g, 0, none⟩ ∧ (i % 14 = 6 ∨ i % 14 = 8 ∨ i % 14 = 9 ∨ i % 14 = 10 ∨ i % 14 = 12)) 138 2 (fun _ => True) D m from by
    have hR2 := hR
    rw [hA] at hR2
    obtain ⟨cc, _, hM, hcc, _⟩ := Kd.R_elem hR2 z113 (i : Int) (by omega) (by omega)
    obtain ⟨v6, v8, v9, v10, v12, rfl, g6, g8, g9, g10, g12⟩ := k113_openM hM
    obtain ⟨D, d, rfl⟩ := Kd.R_slice g12
    refine ⟨D, _, d, hcc 12 _ rfl, (hl _ (getD_mem hi z113)).2.2.2.2, show Rw w a.heap.size ok (fun g i => A = some ⟨g, 0, none⟩ ∧ (i % 14 = 6 ∨ i % 14 = 8 ∨ i % 14 = 9 ∨ i % 14 = 10 ∨ i % 14 = 12)) 138 2 (fun _ => True) D _ from Rw.of_R (d := k138) z138 g12 (by decide) (fun _ h => h.1) (Nat.le_refl _) (fun g2 hc2 i2 j2 _ _ _ hH => ?_)⟩
    obtain ⟨cs2, hc2⟩ := hc2
    obtain ⟨cells, hc⟩ := hty g2 _ hH
    rw [hc] at hc2
    injection hc2 with hc2
    injection hc2 with _ ht _
    exact absurd ht (by decide))
  have HX := Aside0.mk (And.intro h0 h1)
  have hsame : ∀ (e : Mk a.heap.size a w ok (fun g i => A = some ⟨g, 0, none⟩ ∧ (i % 14 = 6 ∨ i % 14 = 8 ∨ i % 14 = 9 ∨ i % 14 = 10 ∨ i % 14 = 12))) (g i j : Nat) (u : Value), A = some ⟨g, 0, none⟩ → (j = 6 ∨ j = 8 ∨ j = 9 ∨ j = 10 ∨ j = 12) → w.cell? ⟨g, i * 14 + j, none⟩ = some u → e.now.cell? ⟨g, i * 14 + j, none⟩ = some u := fun e g i j u hA hj h => (e.same g _ ⟨hA, by omega⟩).trans h
  have HS0 := Aside0.mk hsame
  clear hR hb hl h0 h1 hlt hty hsame
  suffices h : Calls Try.prog 81 #[.slice A xs.length c, .int .i64 x] w fun r W => ∃ m : Int, r = .returned (.int .i64 m) ∧ (∃ e : Mk a.heap.size a w ok (fun g i => A = some ⟨g, 0, none⟩ ∧ (i % 14 = 6 ∨ i % 14 = 8 ∨ i % 14 = 9 ∨ i % 14 = 10 ∨ i % 14 = 12)), W = e.now) ∧ 0 ≤ m ∧ m ≤ x + 10485823 * xs.length from h.mono fun r W ⟨m, hr, ⟨e, hW⟩, hm0, hm1⟩ => ⟨m, hr, hm0, hm1, by rw [hW]; exact e.ok, by rw [hW]; exact e.kept⟩
  generalize xs.length = n at *
  have hn' : (n : Int) ≤ 1048576 := by omega
  conv => arg 4; rw [he0]
  go_enter Try.func81, Try.ntmps81
  go_wp2
  go_loopg [1, 5] n (fun g v1 v5 w' => ∃ (i : Int) (y : Int) (e : Mk a.heap.size a w ok (fun g i => A = some ⟨g, 0, none⟩ ∧ (i % 14 = 6 ∨ i % 14 = 8 ∨ i % 14 = 9 ∨ i % 14 = 10 ∨ i % 14 = 12))), v1 = .int .i64 y ∧ v5 = .int .i64 i ∧ w' = e.now ∧ 0 ≤ i ∧ i ≤ n ∧ Aside0 ((n : Int) - i ≤ g) ∧ Aside0 (0 ≤ y ∧ y ≤ x + 10485823 * i))
  case atStart => exact ⟨0, x, e0, rfl, rfl, rfl, Int.le_refl _, by omega, ⟨by omega⟩, ⟨HX.out.1, by omega⟩⟩
  case round =>
    obtain ⟨i, y, e, rfl, rfl, rfl, hi0, hi1, HG, HY⟩ := hrel
    by_cases c1 : i < (n : Int)
    · obtain ⟨g, hA, hC, hF, hS⟩ := HR.out.open_ (a := a) (i := i.toNat) (by omega)
      obtain ⟨D6, m6, d6, hx6, hm6, hr6⟩ := HD6.out i.toNat (by omega) g hA
      obtain ⟨D8, m8, d8, hx8, hm8, hr8⟩ := HD8.out i.toNat (by omega) g hA
      obtain ⟨D9, m9, d9, hx9, hm9, hr9⟩ := HD9.out i.toNat (by omega) g hA
      obtain ⟨D10, m10, d10, hx10, hm10, hr10⟩ := HD10.out i.toNat (by omega) g hA
      obtain ⟨D12, m12, d12, hx12, hm12, hr12⟩ := HD12.out i.toNat (by omega) g hA
      have hx6 := fun e => HS0.out e g i.toNat 6 _ hA (by omega) hx6
      have HX6 := Aside0.mk hx6
      have HM6 := Aside0.mk hm6
      have HRR6 := Aside0.mk hr6
      clear hx6 hm6 hr6
      have hx8 := fun e => HS0.out e g i.toNat 8 _ hA (by omega) hx8
      have HX8 := Aside0.mk hx8
      have HM8 := Aside0.mk hm8
      have HRR8 := Aside0.mk hr8
      clear hx8 hm8 hr8
      have hx9 := fun e => HS0.out e g i.toNat 9 _ hA (by omega) hx9
      have HX9 := Aside0.mk hx9
      have HM9 := Aside0.mk hm9
      have HRR9 := Aside0.mk hr9
      clear hx9 hm9 hr9
      have hx10 := fun e => HS0.out e g i.toNat 10 _ hA (by omega) hx10
      have HX10 := Aside0.mk hx10
      have HM10 := Aside0.mk hm10
      have HRR10 := Aside0.mk hr10
      clear hx10 hm10 hr10
      have hx12 := fun e => HS0.out e g i.toNat 12 _ hA (by omega) hx12
      have HX12 := Aside0.mk hx12
      have HM12 := Aside0.mk hm12
      have HRR12 := Aside0.mk hr12
      clear hx12 hm12 hr12
      subst hA
      have HC := Aside0.mk hC
      have HF := Aside0.mk hF
      have HS := Aside0.mk hS
      clear hC hF hS
      have hy0 : 0 ≤ y ∧ y ≤ 50000000000000 := by have := HY.out; have := HX.out; omega
      have HWy_1 := Aside0.mk (show wrap64 (y + 1) = y + 1 from unw (by omega) (by omega))
      have HWy_2 := Aside0.mk (show wrap64 (wrap64 (y + 1) + 1) = y + 2 from (congrArg (fun q : Int => wrap64 (q + 1)) HWy_1.out).trans (by show wrap64 (y + 1 + 1) = _; rw [unw (by omega) (by omega)]; omega))
      have HWy_3 := Aside0.mk (show wrap64 (wrap64 (wrap64 (y + 1) + 1) + 1) = y + 3 from (congrArg (fun q : Int => wrap64 (q + 1)) HWy_2.out).trans (by show wrap64 (y + 2 + 1) = _; rw [unw (by omega) (by omega)]; omega))
      have HWy_4 := Aside0.mk (show wrap64 (wrap64 (wrap64 (wrap64 (y + 1) + 1) + 1) + 1) = y + 4 from (congrArg (fun q : Int => wrap64 (q + 1)) HWy_3.out).trans (by show wrap64 (y + 3 + 1) = _; rw [unw (by omega) (by omega)]; omega))
      have HWy_5 := Aside0.mk (show wrap64 (wrap64 (wrap64 (wrap64 (wrap64 (y + 1) + 1) + 1) + 1) + 1) = y + 5 from (congrArg (fun q : Int => wrap64 (q + 1)) HWy_4.out).trans (by show wrap64 (y + 4 + 1) = _; rw [unw (by omega) (by omega)]; omega))
      have HWy_6 := Aside0.mk (show wrap64 (wrap64 (wrap64 (wrap64 (wrap64 (wrap64 (y + 1) + 1) + 1) + 1) + 1) + 1) = y + 6 from (congrArg (fun q : Int => wrap64 (q + 1)) HWy_5.out).trans (by show wrap64 (y + 5 + 1) = _; rw [unw (by omega) (by omega)]; omega))
      obtain ⟨t3, ht3⟩ := laws_markText.does (n := wrap64 (wrap64 (wrap64 (y + 1) + 1) + 1)) (by have := HWy_3.out; omega)
      have HT3 := Aside0.mk ht3
      clear ht3
      clear hy0
      obtain ⟨u0, hu0⟩ := HC.out 0 (by decide) e
      have hf0 := HF.out (i.toNat * 14 + 0) e
      simp only [Nat.add_zero] at hu0 hf0
      have HY0 := Aside0.mk (show 0 ≤ y ∧ y ≤ 50000000000000 by have := HY.out; have := HX.out; omega)
      go_wp2_with (first | ((with_reducible refine gate_store (t := 3) (p := 16) rfl ?_); refine store_event (t := 3) (p := 16) (v := ?vo_w0) (w1 := (e.now.setCell ⟨g, i.toNat * 14, none⟩ (.int .i64 (y)))) ?hg ?ho ?hn ?hr ?_; (case ho => rfl); (case hg => rfl); (case hn => rfl); (case hr => first | (go_simp; done) | (go_simp; rfl)); intro w9 hw; obtain ⟨e1, he9⟩ := HS.out 0 (by decide) (by simp) e (.int .i64 (y)); (try simp only [Nat.mul_one, Nat.add_zero] at he9); rw [he9] at hw; subst hw; clear he9 hu0 hf0; obtain ⟨u1, hu1⟩ := HC.out 1 (by decide) e1; have hf1 := HF.out (i.toNat * 14 + 1) e1) | ((with_reducible refine gate_store (t := 3) (p := 23) rfl ?_); refine store_event (t := 3) (p := 23) (v := ?vo_w1) (w1 := (e1.now.setCell ⟨g, i.toNat * 14 + 1, none⟩ (.int .i64 (wrap64 (y + 1))))) ?hg ?ho ?hn ?hr ?_; (case ho => rfl); (case hg => rfl); (case hn => rfl); (case hr => first | (go_simp; done) | (go_simp; rfl)); intro w9 hw; obtain ⟨e2, he9⟩ := HS.out 1 (by decide) (by simp) e1 (.int .i64 (wrap64 (y + 1))); (try simp only [Nat.mul_one, Nat.add_zero] at he9); rw [he9] at hw; subst hw; clear he9 hu1 hf1; obtain ⟨u2, hu2⟩ := HC.out 2 (by decide) e2; have hf2 := HF.out (i.toNat * 14 + 2) e2) | ((with_reducible refine gate_store (t := 3) (p := 30) rfl ?_); refine store_event (t := 3) (p := 30) (v := ?vo_w2) (w1 := (e2.now.setCell ⟨g, i.toNat * 14 + 2, none⟩ (.int .i64 (wrap64 (wrap64 (y + 1) + 1))))) ?hg ?ho ?hn ?hr ?_; (case ho => rfl); (case hg => rfl); (case hn => rfl); (case hr => first | (go_simp; done) | (go_simp; rfl)); intro w9 hw; obtain ⟨e3, he9⟩ := HS.out 2 (by decide) (by simp) e2 (.int .i64 (wrap64 (wrap64 (y + 1) + 1))); (try simp only [Nat.mul_one, Nat.add_zero] at he9); rw [he9] at hw; subst hw; clear he9 hu2 hf2; skip) | ((with_reducible refine gate_callee (f := 123) rfl ?_); refine goesL_ (some 36) rfl rfl Try.func123 (by kernel_rfl) rfl #[.int .i64 (wrap64 (wrap64 (wrap64 (y + 1) + 1) + 1))] rfl (by (try simp only [List.map_toArray, List.map_cons, List.map_nil]); first | done | rfl) ?_; refine (HT3.out _).mono ?_; rintro _ w9 ⟨rfl, hb⟩; obtain ⟨e4, rfl⟩ := e3.next hb; clear hb; refine ⟨_, rfl, ?_⟩; obtain ⟨u3, hu3⟩ := HC.out 3 (by decide) e4; have hf3 := HF.out (i.toNat * 14 + 3) e4) | ((with_reducible refine gate_store (t := 9) (p := 38) rfl ?_); refine store_event (t := 9) (p := 38) (v := ?vo_w3) (w1 := (e4.now.setCell ⟨g, i.toNat * 14 + 3, none⟩ (.string t3))) ?hg ?ho ?hn ?hr ?_; (case ho => rfl); (case hg => rfl); (case hn => rfl); (case hr => first | (go_simp; done) | (go_simp; rfl)); intro w9 hw; obtain ⟨e5, he9⟩ := HS.out 3 (by decide) (by simp) e4 (.string t3); (try simp only [Nat.mul_one, Nat.add_zero] at he9); rw [he9] at hw; subst hw; clear he9 hu3 hf3; obtain ⟨u4, hu4⟩ := HC.out 4 (by decide) e5; have hf4 := HF.out (i.toNat * 14 + 4) e5) | ((with_reducible refine gate_store (t := 3) (p := 46) rfl ?_); refine store_event (t := 3) (p := 46) (v := ?vo_w4) (w1 := (e5.now.setCell ⟨g, i.toNat * 14 + 4, none⟩ (.int .i64 (wrap64 (wrap64 (wrap64 (wrap64 (y + 1) + 1) + 1) + 1))))) ?hg ?ho ?hn ?hr ?_; (case ho => rfl); (case hg => rfl); (case hn => rfl); (case hr => first | (go_simp; done) | (go_simp; rfl)); intro w9 hw; obtain ⟨e6, he9⟩ := HS.out 4 (by decide) (by simp) e5 (.int .i64 (wrap64 (wrap64 (wrap64 (wrap64 (y + 1) + 1) + 1) + 1))); (try simp only [Nat.mul_one, Nat.add_zero] at he9); rw [he9] at hw; subst hw; clear he9 hu4 hf4; obtain ⟨u5, hu5⟩ := HC.out 5 (by decide) e6; have hf5 := HF.out (i.toNat * 14 + 5) e6) | ((with_reducible refine gate_store (t := 3) (p := 54) rfl ?_); refine store_event (t := 3) (p := 54) (v := ?vo_w5) (w1 := (e6.now.setCell ⟨g, i.toNat * 14 + 5, none⟩ (.int .i64 (wrap64 (wrap64 (wrap64 (wrap64 (wrap64 (y + 1) + 1) + 1) + 1) + 1))))) ?hg ?ho ?hn ?hr ?_; (case ho => rfl); (case hg => rfl); (case hn => rfl); (case hr => first | (go_simp; done) | (go_simp; rfl)); intro w9 hw; obtain ⟨e7, he9⟩ := HS.out 5 (by decide) (by simp) e6 (.int .i64 (wrap64 (wrap64 (wrap64 (wrap64 (wrap64 (y + 1) + 1) + 1) + 1) + 1))); (try simp only [Nat.mul_one, Nat.add_zero] at he9); rw [he9] at hw; subst hw; clear he9 hu5 hf5; have hz6 := HX6.out e7) | ((with_reducible refine gate_callee (f := 130) rfl ?_); refine goesL_ (some 64) rfl rfl Try.func130 (by kernel_rfl) rfl #[.slice D6 m6 d6, .int .i64 (wrap64 (wrap64 (wrap64 (wrap64 (wrap64 (wrap64 (y + 1) + 1) + 1) + 1) + 1) + 1))] rfl (by (try simp only [List.map_toArray, List.map_cons, List.map_nil]); first | done | rfl) ?_; refine (laws_markStringS.marks (x := wrap64 (wrap64 (wrap64 (wrap64 (wrap64 (wrap64 (y + 1) + 1) + 1) + 1) + 1) + 1)) HRR6.out HM6.out (by have := HY0.out; have := HY0.out; have := HWy_6.out; omega) (by have := HY0.out; have := HY0.out; have := HWy_6.out; omega) e7).mono ?_; rintro _ _ ⟨k6, rfl, ⟨e8, rfl⟩, hk0, hk1⟩; refine ⟨_, rfl, ?_⟩; have HK6 := Aside0.mk (show 0 ≤ k6 ∧ k6 ≤ y + 1048585 by have := HM6.out; have := HY0.out; have := HWy_6.out; omega); clear hk0 hk1 hz6; have hy0 : 0 ≤ k6 ∧ k6 ≤ 100000000000000 := (by have := HK6.out; have := HY0.out; omega); have HWk6_1 := Aside0.mk (show wrap64 (k6 + 1) = k6 + 1 from unw (by omega) (by omega)); clear hy0; obtain ⟨u7, hu7⟩ := HC.out 7 (by decide) e8; have hf7 := HF.out (i.toNat * 14 + 7) e8) | ((with_reducible refine gate_store (t := 3) (p := 70) rfl ?_); refine store_event (t := 3) (p := 70) (v := ?vo_w7) (w1 := (e8.now.setCell ⟨g, i.toNat * 14 + 7, none⟩ (.int .i64 (k6)))) ?hg ?ho ?hn ?hr ?_; (case ho => rfl); (case hg => rfl); (case hn => rfl); (case hr => first | (go_simp; done) | (go_simp; rfl)); intro w9 hw; obtain ⟨e9, he9⟩ := HS.out 7 (by decide) (by simp) e8 (.int .i64 (k6)); (try simp only [Nat.mul_one, Nat.add_zero] at he9); rw [he9] at hw; subst hw; clear he9 hu7 hf7; have hz8 := HX8.out e9) | ((with_reducible refine gate_callee (f := 130) rfl ?_); refine goesL_ (some 80) rfl rfl Try.func130 (by kernel_rfl) rfl #[.slice D8 m8 d8, .int .i64 (wrap64 (k6 + 1))] rfl (by (try simp only [List.map_toArray, List.map_cons, List.map_nil]); first | done | rfl) ?_; refine (laws_markStringS.marks (x := wrap64 (k6 + 1)) HRR8.out HM8.out (by have := HY0.out; have := HK6.out; have := HWk6_1.out; omega) (by have := HY0.out; have := HK6.out; have := HWk6_1.out; omega) e9).mono ?_; rintro _ _ ⟨k8, rfl, ⟨e10, rfl⟩, hk0, hk1⟩; refine ⟨_, rfl, ?_⟩; have HK8 := Aside0.mk (show 0 ≤ k8 ∧ k8 ≤ y + 2097170 by have := HM8.out; have := HK6.out; have := HWk6_1.out; omega); clear hk0 hk1 hz8; have hy0 : 0 ≤ k8 ∧ k8 ≤ 100000000000000 := (by have := HK8.out; have := HY0.out; omega); skip; clear hy0; have hz9 := HX9.out e10) | ((with_reducible refine gate_callee (f := 136) rfl ?_); refine goesL_ (some 88) rfl rfl Try.func136 (by kernel_rfl) rfl #[.slice D9 m9 d9, .int .i64 (k8)] rfl (by (try simp only [List.map_toArray, List.map_cons, List.map_nil]); first | done | rfl) ?_; refine (laws_markIntS.marks (x := k8) HRR9.out HM9.out (by have := HY0.out; have := HK8.out; omega) (by have := HY0.out; have := HK8.out; omega) e10).mono ?_; rintro _ _ ⟨k9, rfl, ⟨e11, rfl⟩, hk0, hk1⟩; refine ⟨_, rfl, ?_⟩; have HK9 := Aside0.mk (show 0 ≤ k9 ∧ k9 ≤ y + 3145755 by have := HM9.out; have := HK8.out; omega); clear hk0 hk1 hz9; have hy0 : 0 ≤ k9 ∧ k9 ≤ 100000000000000 := (by have := HK9.out; have := HY0.out; omega); skip; clear hy0; have hz10 := HX10.out e11) | ((with_reducible refine gate_callee (f := 88) rfl ?_); refine goesL_ (some 95) rfl rfl Try.func88 (by kernel_rfl) rfl #[.slice D10 m10 d10, .int .i64 (k9)] rfl (by (try simp only [List.map_toArray, List.map_cons, List.map_nil]); first | done | rfl) ?_; refine (laws_markTxS.marks (x := k9) HRR10.out HM10.out (by have := HY0.out; have := HK9.out; omega) (by have := HY0.out; have := HK9.out; omega) e11).mono ?_; rintro _ _ ⟨k10, rfl, ⟨e12, rfl⟩, hk0, hk1⟩; refine ⟨_, rfl, ?_⟩; have HK10 := Aside0.mk (show 0 ≤ k10 ∧ k10 ≤ y + 8388644 by have := HM10.out; have := HK9.out; omega); clear hk0 hk1 hz10; have hy0 : 0 ≤ k10 ∧ k10 ≤ 100000000000000 := (by have := HK10.out; have := HY0.out; omega); have HWk10_1 := Aside0.mk (show wrap64 (k10 + 1) = k10 + 1 from unw (by omega) (by omega)); clear hy0; obtain ⟨u11, hu11⟩ := HC.out 11 (by decide) e12; have hf11 := HF.out (i.toNat * 14 + 11) e12) | ((with_reducible refine gate_store (t := 4) (p := 102) rfl ?_); refine store_event (t := 4) (p := 102) (v := ?vo_w11) (w1 := (e12.now.setCell ⟨g, i.toNat * 14 + 11, none⟩ (.bool (Int.tmod (k10) 3 == 0)))) ?hg ?ho ?hn ?hr ?_; (case ho => rfl); (case hg => rfl); (case hn => rfl); (case hr => first | (go_simp; done) | (go_simp; rfl)); intro w9 hw; obtain ⟨e13, he9⟩ := HS.out 11 (by decide) (by simp) e12 (.bool (Int.tmod (k10) 3 == 0)); (try simp only [Nat.mul_one, Nat.add_zero] at he9); rw [he9] at hw; subst hw; clear he9 hu11 hf11; have hz12 := HX12.out e13) | ((with_reducible refine gate_callee (f := 44) rfl ?_); refine goesL_ (some 111) rfl rfl Try.func44 (by kernel_rfl) rfl #[.slice D12 m12 d12, .int .i64 (wrap64 (k10 + 1))] rfl (by (try simp only [List.map_toArray, List.map_cons, List.map_nil]); first | done | rfl) ?_; refine (laws_markValS.marks (x := wrap64 (k10 + 1)) HRR12.out HM12.out (by have := HY0.out; have := HK10.out; have := HWk10_1.out; omega) (by have := HY0.out; have := HK10.out; have := HWk10_1.out; omega) e13).mono ?_; rintro _ _ ⟨k12, rfl, ⟨e14, rfl⟩, hk0, hk1⟩; refine ⟨_, rfl, ?_⟩; have HK12 := Aside0.mk (show 0 ≤ k12 ∧ k12 ≤ y + 10485805 by have := HM12.out; have := HK10.out; have := HWk10_1.out; omega); clear hk0 hk1 hz12; have hy0 : 0 ≤ k12 ∧ k12 ≤ 100000000000000 := (by have := HK12.out; have := HY0.out; omega); have HWk12_1 := Aside0.mk (show wrap64 (k12 + 1) = k12 + 1 from unw (by omega) (by omega)); obtain ⟨t13, ht13⟩ := laws_markText.does (n := k12) (by omega); have HT13 := Aside0.mk ht13; clear ht13; clear hy0; skip) | ((with_reducible refine gate_callee (f := 123) rfl ?_); refine goesL_ (some 115) rfl rfl Try.func123 (by kernel_rfl) rfl #[.int .i64 (k12)] rfl (by (try simp only [List.map_toArray, List.map_cons, List.map_nil]); first | done | rfl) ?_; refine (HT13.out _).mono ?_; rintro _ w9 ⟨rfl, hb⟩; obtain ⟨e15, rfl⟩ := e14.next hb; clear hb; refine ⟨_, rfl, ?_⟩; obtain ⟨u13, hu13⟩ := HC.out 13 (by decide) e15; have hf13 := HF.out (i.toNat * 14 + 13) e15) | ((with_reducible refine gate_store (t := 9) (p := 117) rfl ?_); refine store_event (t := 9) (p := 117) (v := ?vo_w13) (w1 := (e15.now.setCell ⟨g, i.toNat * 14 + 13, none⟩ (.string t13))) ?hg ?ho ?hn ?hr ?_; (case ho => rfl); (case hg => rfl); (case hn => rfl); (case hr => first | (go_simp; done) | (go_simp; rfl)); intro w9 hw; obtain ⟨e16, he9⟩ := HS.out 13 (by decide) (by simp) e15 (.string t13); (try simp only [Nat.mul_one, Nat.add_zero] at he9); rw [he9] at hw; subst hw; clear he9 hu13 hf13; skip))
      go_roundg (n - i.toNat - 1)
      case measure => have := HG.out; omega
      case rel => exact ⟨i + 1, wrap64 (k12 + 1), e16, rfl, rfl, rfl, by omega, by omega, ⟨by omega⟩, ⟨by have := HY.out; have := HX.out; have := HK6.out; have := HK8.out; have := HK9.out; have := HK10.out; have := HK12.out; have := HWk12_1.out; constructor <;> omega⟩⟩
    · have hi : i = n := by omega
      go_wp2
      go_ret
      exact ⟨y, rfl, ⟨e, rfl⟩, HY.out.1, by have := HY.out.2; rw [hi] at this; omega⟩

end Go.Proofs.Ytadkhkpchankjaa.F
