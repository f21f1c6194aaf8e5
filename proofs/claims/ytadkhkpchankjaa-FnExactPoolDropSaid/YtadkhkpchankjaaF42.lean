/-
Functions of the program, what they come to, and that Go comes to just that: laws_markAcctS, laws_markLedger.
Conditions: those that each theorem names.
-/
import Derived.Test.YtadkhkpchankjaaFAbs
import Derived.Test.YtadkhkpchankjaaF40
import Derived.Test.YtadkhkpchankjaaF41
import Derived.Test.YtadkhkpchankjaaWKept
import Derived.Test.YtadkhkpchankjaaFew
import Derived.Test.YtadkhkpchankjaaMark
set_option linter.unusedVariables false
set_option linter.unusedSimpArgs false
namespace Go.Proofs.Ytadkhkpchankjaa.F
open Go.RowKit Go.Proofs.YtadkhkpchankjaaW.PrintWords Go.Proofs.YtadkhkpchankjaaW.PrintLast Go.Proofs.Ytadkhkpchankjaa.Base Go.Proofs.Ytadkhkpchankjaa.BW
open Go.Proofs.Ytadkhkpchankjaa.Mark
open Go.Proofs.Ytadkhkpchankjaa.Few

/-! ### laws_markAcctS: walked by markwalk.py -/

/-! ### laws_markAcctS: marks, printed by markwalk.py -/
set_option maxHeartbeats 4000000 in
set_option maxRecDepth 100000 in
theorem laws_markAcctS.keeps {xs : List S43} {v : Value} {a w : World} {ok : Nat → Prop} (hR : k43.R 43 w a.heap.size ok v xs) (hb : Below a.heap.size a w) (hn : xs.length ≤ 1048576) (hl : ∀ y ∈ xs, y.f4.length ≤ 1048576) {x : Int} (h0 : 0 ≤ x) (h1 : x ≤ 1000000000) :
    Calls Try.prog 122 #[v, .int .i64 x] w fun r W => ∃ m : Int, r = .returned (.int .i64 m) ∧ 0 ≤ m ∧ m ≤ x + 2097160 * xs.length ∧ Below a.heap.size a W ∧ Kept w W ok := by
  obtain ⟨A, c, rfl⟩ := Kd.R_slice hR
  have hlt : ∀ g i : Nat, (A = some ⟨g, 0, none⟩ ∧ (i % 5 = 4)) → g < w.heap.size := fun g i h => Kd.R_lt hR g (by rw [h.1]; rfl)
  have hty : ∀ (g i : Nat), (A = some ⟨g, 0, none⟩ ∧ (i % 5 = 4)) → ∃ cells, w.heap[g]? = some (.cells cells 43 (0, 0)) := fun g i h => Kd.R_typed hR g (by rw [h.1]; rfl)
  obtain ⟨e0, he0⟩ : ∃ e : Mk a.heap.size a w ok (fun g i => A = some ⟨g, 0, none⟩ ∧ (i % 5 = 4)), w = e.now := ⟨Mk.start (Nat.le_refl _) hlt hb, rfl⟩
  have HR := Aside0.mk (show Rw w a.heap.size ok (fun g i => A = some ⟨g, 0, none⟩ ∧ (i % 5 = 4)) 43 5 (fun j => j ≠ 4) A xs.length from Rw.of_R (P := ok) (H := fun g i => A = some ⟨g, 0, none⟩ ∧ (i % 5 = 4)) (F := fun j => j ≠ 4) (B := a.heap.size) z43 hR (by decide) (fun _ h => h) (Nat.le_refl _) (fun g _ i j _ hj hF hH => by
    have hj' : j < 5 := hj
    have h := hH.2
    rw [show (k43).sz = 5 from rfl] at h
    omega))
  have HD4 := Aside0.mk (fun (i : Nat) (hi : i < xs.length) (g : Nat) (hA : A = some ⟨g, 0, none⟩) => show ∃ (D : Option Addr) (m d : Nat), w.cell? ⟨g, i * 5 + 4, none⟩ = some (.slice D m d) ∧ m ≤ 1048576 ∧ Rw w a.heap.size ok (fun g i => A = some ⟨g, 0, none⟩ ∧ (i % 5 = 4)) 230 2 (fun _ => True) D m from by
    have hR2 := hR
    rw [hA] at hR2
    obtain ⟨cc, _, hM, hcc, _⟩ := Kd.R_elem hR2 z43 (i : Int) (by omega) (by omega)
    obtain ⟨v4, rfl, g4⟩ := k43_openM hM
    obtain ⟨D, d, rfl⟩ := Kd.R_slice g4
    refine ⟨D, _, d, hcc 4 _ rfl, (hl _ (getD_mem hi z43)), show Rw w a.heap.size ok (fun g i => A = some ⟨g, 0, none⟩ ∧ (i % 5 = 4)) 230 2 (fun _ => True) D _ from Rw.of_R (d := k230) z230 g4 (by decide) (fun _ h => h.1) (Nat.le_refl _) (fun g2 hc2 i2 j2 _ _ _ hH => ?_)⟩
    obtain ⟨cs2, hc2⟩ := hc2
    obtain ⟨cells, hc⟩ := hty g2 _ hH
    rw [hc] at hc2
    injection hc2 with hc2
    injection hc2 with _ ht _
    exact absurd ht (by decide))
  have HX := Aside0.mk (And.intro h0 h1)
  have hsame : ∀ (e : Mk a.heap.size a w ok (fun g i => A = some ⟨g, 0, none⟩ ∧ (i % 5 = 4))) (g i j : Nat) (u : Value), A = some ⟨g, 0, none⟩ → (j = 4) → w.cell? ⟨g, i * 5 + j, none⟩ = some u → e.now.cell? ⟨g, i * 5 + j, none⟩ = some u := fun e g i j u hA hj h => (e.same g _ ⟨hA, by omega⟩).trans h
  have HS0 := Aside0.mk hsame
  clear hR hb hl h0 h1 hlt hty hsame
  suffices h : Calls Try.prog 122 #[.slice A xs.length c, .int .i64 x] w fun r W => ∃ m : Int, r = .returned (.int .i64 m) ∧ (∃ e : Mk a.heap.size a w ok (fun g i => A = some ⟨g, 0, none⟩ ∧ (i % 5 = 4)), W = e.now) ∧ 0 ≤ m ∧ m ≤ x + 2097160 * xs.length from h.mono fun r W ⟨m, hr, ⟨e, hW⟩, hm0, hm1⟩ => ⟨m, hr, hm0, hm1, by rw [hW]; exact e.ok, by rw [hW]; exact e.kept⟩
  generalize xs.length = n at *
  have hn' : (n : Int) ≤ 1048576 := by omega
  conv => arg 4; rw [he0]
  go_enter Try.func122, Try.ntmps122
  go_wp2
  go_loopg [1, 5] n (fun g v1 v5 w' => ∃ (i : Int) (y : Int) (e : Mk a.heap.size a w ok (fun g i => A = some ⟨g, 0, none⟩ ∧ (i % 5 = 4))), v1 = .int .i64 y ∧ v5 = .int .i64 i ∧ w' = e.now ∧ 0 ≤ i ∧ i ≤ n ∧ Aside0 ((n : Int) - i ≤ g) ∧ Aside0 (0 ≤ y ∧ y ≤ x + 2097160 * i))
  case atStart => exact ⟨0, x, e0, rfl, rfl, rfl, Int.le_refl _, by omega, ⟨by omega⟩, ⟨HX.out.1, by omega⟩⟩
  case round =>
    obtain ⟨i, y, e, rfl, rfl, rfl, hi0, hi1, HG, HY⟩ := hrel
    by_cases c1 : i < (n : Int)
    · obtain ⟨g, hA, hC, hF, hS⟩ := HR.out.open_ (a := a) (i := i.toNat) (by omega)
      obtain ⟨D4, m4, d4, hx4, hm4, hr4⟩ := HD4.out i.toNat (by omega) g hA
      have hx4 := fun e => HS0.out e g i.toNat 4 _ hA (by omega) hx4
      have HX4 := Aside0.mk hx4
      have HM4 := Aside0.mk hm4
      have HRR4 := Aside0.mk hr4
      clear hx4 hm4 hr4
      subst hA
      have HC := Aside0.mk hC
      have HF := Aside0.mk hF
      have HS := Aside0.mk hS
      clear hC hF hS
      have hy0 : 0 ≤ y ∧ y ≤ 50000000000000 := by have := HY.out; have := HX.out; omega
      have HWy_1 := Aside0.mk (show wrap64 (y + 1) = y + 1 from unw (by omega) (by omega))
      have HWy_2 := Aside0.mk (show wrap64 (wrap64 (y + 1) + 1) = y + 2 from (congrArg (fun q : Int => wrap64 (q + 1)) HWy_1.out).trans (by show wrap64 (y + 1 + 1) = _; rw [unw (by omega) (by omega)]; omega))
      have HWy_3 := Aside0.mk (show wrap64 (wrap64 (wrap64 (y + 1) + 1) + 1) = y + 3 from (congrArg (fun q : Int => wrap64 (q + 1)) HWy_2.out).trans (by show wrap64 (y + 2 + 1) = _; rw [unw (by omega) (by omega)]; omega))
      have HWy_4 := Aside0.mk (show wrap64 (wrap64 (wrap64 (wrap64 (y + 1) + 1) + 1) + 1) = y + 4 from (congrArg (fun q : Int => wrap64 (q + 1)) HWy_3.out).trans (by show wrap64 (y + 3 + 1) = _; rw [unw (by omega) (by omega)]; omega))
      obtain ⟨t0, ht0⟩ := laws_markText.does (n := y) (by omega)
      have HT0 := Aside0.mk ht0
      clear ht0
      clear hy0
      have HY0 := Aside0.mk (show 0 ≤ y ∧ y ≤ 50000000000000 by have := HY.out; have := HX.out; omega)
      go_wp2_with (first | ((with_reducible refine gate_callee (f := 123) rfl ?_); refine goesL_ (some 15) rfl rfl Try.func123 (by kernel_rfl) rfl #[.int .i64 (y)] rfl (by (try simp only [List.map_toArray, List.map_cons, List.map_nil]); first | done | rfl) ?_; refine (HT0.out _).mono ?_; rintro _ w9 ⟨rfl, hb⟩; obtain ⟨e1, rfl⟩ := e.next hb; clear hb; refine ⟨_, rfl, ?_⟩; obtain ⟨u0, hu0⟩ := HC.out 0 (by decide) e1; have hf0 := HF.out (i.toNat * 5 + 0) e1; simp only [Nat.add_zero] at hu0 hf0) | ((with_reducible refine gate_store (t := 9) (p := 17) rfl ?_); refine store_event (t := 9) (p := 17) (v := ?vo_w0) (w1 := (e1.now.setCell ⟨g, i.toNat * 5, none⟩ (.string t0))) ?hg ?ho ?hn ?hr ?_; (case ho => rfl); (case hg => rfl); (case hn => rfl); (case hr => first | (go_simp; done) | (go_simp; rfl)); intro w9 hw; obtain ⟨e2, he9⟩ := HS.out 0 (by decide) (by simp) e1 (.string t0); (try simp only [Nat.mul_one, Nat.add_zero] at he9); rw [he9] at hw; subst hw; clear he9 hu0 hf0; obtain ⟨u1, hu1⟩ := HC.out 1 (by decide) e2; have hf1 := HF.out (i.toNat * 5 + 1) e2) | ((with_reducible refine gate_store (t := 3) (p := 24) rfl ?_); refine store_event (t := 3) (p := 24) (v := ?vo_w1) (w1 := (e2.now.setCell ⟨g, i.toNat * 5 + 1, none⟩ (.int .i64 (wrap64 (y + 1))))) ?hg ?ho ?hn ?hr ?_; (case ho => rfl); (case hg => rfl); (case hn => rfl); (case hr => first | (go_simp; done) | (go_simp; rfl)); intro w9 hw; obtain ⟨e3, he9⟩ := HS.out 1 (by decide) (by simp) e2 (.int .i64 (wrap64 (y + 1))); (try simp only [Nat.mul_one, Nat.add_zero] at he9); rw [he9] at hw; subst hw; clear he9 hu1 hf1; obtain ⟨u2, hu2⟩ := HC.out 2 (by decide) e3; have hf2 := HF.out (i.toNat * 5 + 2) e3) | ((with_reducible refine gate_store (t := 3) (p := 31) rfl ?_); refine store_event (t := 3) (p := 31) (v := ?vo_w2) (w1 := (e3.now.setCell ⟨g, i.toNat * 5 + 2, none⟩ (.int .i64 (wrap64 (wrap64 (y + 1) + 1))))) ?hg ?ho ?hn ?hr ?_; (case ho => rfl); (case hg => rfl); (case hn => rfl); (case hr => first | (go_simp; done) | (go_simp; rfl)); intro w9 hw; obtain ⟨e4, he9⟩ := HS.out 2 (by decide) (by simp) e3 (.int .i64 (wrap64 (wrap64 (y + 1) + 1))); (try simp only [Nat.mul_one, Nat.add_zero] at he9); rw [he9] at hw; subst hw; clear he9 hu2 hf2; obtain ⟨u3, hu3⟩ := HC.out 3 (by decide) e4; have hf3 := HF.out (i.toNat * 5 + 3) e4) | ((with_reducible refine gate_store (t := 3) (p := 38) rfl ?_); refine store_event (t := 3) (p := 38) (v := ?vo_w3) (w1 := (e4.now.setCell ⟨g, i.toNat * 5 + 3, none⟩ (.int .i64 (wrap64 (wrap64 (wrap64 (y + 1) + 1) + 1))))) ?hg ?ho ?hn ?hr ?_; (case ho => rfl); (case hg => rfl); (case hn => rfl); (case hr => first | (go_simp; done) | (go_simp; rfl)); intro w9 hw; obtain ⟨e5, he9⟩ := HS.out 3 (by decide) (by simp) e4 (.int .i64 (wrap64 (wrap64 (wrap64 (y + 1) + 1) + 1))); (try simp only [Nat.mul_one, Nat.add_zero] at he9); rw [he9] at hw; subst hw; clear he9 hu3 hf3; have hz4 := HX4.out e5) | ((with_reducible refine gate_callee (f := 187) rfl ?_); refine goesL_ (some 47) rfl rfl Try.func187 (by kernel_rfl) rfl #[.slice D4 m4 d4, .int .i64 (wrap64 (wrap64 (wrap64 (wrap64 (y + 1) + 1) + 1) + 1))] rfl (by (try simp only [List.map_toArray, List.map_cons, List.map_nil]); first | done | rfl) ?_; refine (laws_markLeaveS.marks (x := wrap64 (wrap64 (wrap64 (wrap64 (y + 1) + 1) + 1) + 1)) HRR4.out HM4.out (by have := HY0.out; have := HWy_4.out; omega) (by have := HY0.out; have := HWy_4.out; omega) e5).mono ?_; rintro _ _ ⟨k4, rfl, ⟨e6, rfl⟩, hk0, hk1⟩; refine ⟨_, rfl, ?_⟩; have HK4 := Aside0.mk (show 0 ≤ k4 ∧ k4 ≤ y + 2097156 by have := HM4.out; have := HY0.out; have := HWy_4.out; omega); clear hk0 hk1 hz4; have hy0 := HK4.out; skip; clear hy0; skip))
      go_roundg (n - i.toNat - 1)
      case measure => have := HG.out; omega
      case rel => exact ⟨i + 1, k4, e6, rfl, rfl, rfl, by omega, by omega, ⟨by omega⟩, ⟨by have := HY.out; have := HX.out; have := HK4.out; constructor <;> omega⟩⟩
    · have hi : i = n := by omega
      go_wp2
      go_ret
      exact ⟨y, rfl, ⟨e, rfl⟩, HY.out.1, by have := HY.out.2; rw [hi] at this; omega⟩

/-! ### laws_markLedger: walked in this session -/
set_option maxHeartbeats 1000000 in
theorem laws_markLedger.keeps {xs : List S43} {n0 : Int} {v : Value} {a w : World} {ok : Nat → Prop} (hR : k43.R 43 w a.heap.size ok v xs) (hb : Below a.heap.size a w) (hn : xs.length ≤ 1048576) (hl : ∀ y ∈ xs, y.f4.length ≤ 1048576) {x : Int} (h0 : 0 ≤ x) (h1 : x ≤ 1000000000) :
    Calls Try.prog 43 #[.agg #[.int .i64 n0, v], .int .i64 x] w fun r W => ∃ m : Int, r = .returned (.int .i64 m) ∧ 0 ≤ m ∧ Below a.heap.size a W ∧ Kept w W ok := by
  obtain ⟨A, c, rfl⟩ := Kd.R_slice hR
  have HM := Aside0.mk (laws_markAcctS.keeps (w := w.alloc (.cells #[.int .i64 n0, .slice A xs.length c] 37)) (Kd.R_alloc hR _) (below_alloc hb _) hn hl h0 h1)
  clear hR hb hn hl h0 h1
  generalize xs.length = n at *
  go_enter Try.func43, Try.ntmps43
  go_wp2_with fail
  refine HM.out.mono ?_
  rintro _ W ⟨m, rfl, hm0, hm1, hb2, hk⟩
  go_wp2
  go_ret
  exact ⟨m, rfl, hm0, hb2, (Kept.alloc (Kept.refl w ok) _).then_ hk (fun k h => .inl h)⟩

end Go.Proofs.Ytadkhkpchankjaa.F
