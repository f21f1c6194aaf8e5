/-
Functions of the program, what they come to, and that Go comes to just that: laws_markValS.
Conditions: those that each theorem names.
-/
import Derived.Test.YtadkhkpchankjaaFAbs
import Derived.Test.YtadkhkpchankjaaF40
import Derived.Test.YtadkhkpchankjaaWKept
import Derived.Test.YtadkhkpchankjaaFew
import Derived.Test.YtadkhkpchankjaaMark
set_option linter.unusedVariables false
set_option linter.unusedSimpArgs false
namespace Go.Proofs.Ytadkhkpchankjaa.F
open Go.RowKit Go.Proofs.YtadkhkpchankjaaW.PrintWords Go.Proofs.YtadkhkpchankjaaW.PrintLast Go.Proofs.Ytadkhkpchankjaa.Base Go.Proofs.Ytadkhkpchankjaa.BW
open Go.Proofs.Ytadkhkpchankjaa.Mark
open Go.Proofs.Ytadkhkpchankjaa.Few

/-! ### laws_markValS: function 44 -/
def laws_markValS.l0 : Nat → List (S138) → Int → Int → Option (Int × (List (S138)))
  | 0, _, _, _ => none
  | k + 1, x0, x1, x5 => if x5 < (x0.length : Int) then ((laws_markText.f k x1).bind fun t870 => (if 0 ≤ x5 then ((some (x0.set (x5 : Int).toNat (⟨t870, (rd_T138 x0 x5).f1⟩ : S138) : List (S138))).bind fun y871 => (laws_markValS.l0 k (y871.set (x5 : Int).toNat (⟨(rd_T138 y871 x5).f0, wrap64 (x1 + 1)⟩ : S138)) (wrap64 ((wrap64 (x1 + 1)) + 1)) (wrap64 (x5 + 1)))) else (none))) else (some (x1, x0))
def laws_markValS.f (k : Nat) (l0 : List (S138)) (a1 : Int) : Option (Int × (List (S138))) := laws_markValS.l0 k l0 a1 0
theorem laws_markValS.mono_l : ∀ k, (∀ y0 y1 y2, LeO (laws_markValS.l0 k y0 y1 y2) (laws_markValS.l0 (k + 1) y0 y1 y2))
  | 0 => fun _ _ _ r h => by simp [laws_markValS.l0] at h
  | k + 1 => by
    have ih0 := laws_markValS.mono_l k
    · intro y0 y1 y2
      unfold laws_markValS.l0
      repeat' first
      | (with_reducible exact ih0 _ _ _)
      | (with_reducible exact laws_markText.mono _ _)
      | (with_reducible exact LeO.refl _)
      | (with_reducible exact LeO.none _)
      | (with_reducible refine LeO.ite ?_ ?_)
      | (with_reducible refine LeO.bind ?_ (fun _ => ?_))
      | exact ih0 _ _ _
      | exact laws_markText.mono _ _
      | exact LeO.none _
      | refine LeO.ite ?_ ?_
      | refine LeO.bind ?_ (fun _ => ?_)
theorem laws_markValS.mono : ∀ a0 a1 k, LeO (laws_markValS.f k a0 a1) (laws_markValS.f (k + 1) a0 a1) := by
  intro a0 a1 k
  have ih0 := laws_markValS.mono_l k
  unfold laws_markValS.f
  repeat' first
      | (with_reducible exact ih0 _ _ _)
      | (with_reducible exact laws_markText.mono _ _)
      | (with_reducible exact LeO.refl _)
      | (with_reducible exact LeO.none _)
      | (with_reducible refine LeO.ite ?_ ?_)
      | (with_reducible refine LeO.bind ?_ (fun _ => ?_))
      | exact ih0 _ _ _
      | exact laws_markText.mono _ _
      | exact LeO.none _
      | refine LeO.ite ?_ ?_
      | refine LeO.bind ?_ (fun _ => ?_)
set_option maxHeartbeats 8000000 in
set_option maxRecDepth 100000 in
theorem laws_markValS.calls (k : Nat) (P0_ : Nat → Prop) (u9000_ : Value) (l0 : List (S138)) (a1 : Int) (r1 : Int) (r2 : List (S138)) (w0 w : World) (hB : Below w0.heap.size w0 w) (ho0 : Kd.R k138 138 w w0.heap.size P0_ u9000_ l0) (h : laws_markValS.f k l0 a1 = some (r1, r2)) :
    Calls Try.prog 44 #[u9000_, .int .i64 a1] w fun e w' => e = .returned (.int .i64 r1) ∧ Kd.R k138 138 w' w0.heap.size (fun k_ => (P0_ k_ ∨ w.heap.size ≤ k_)) u9000_ r2 ∧ Below w0.heap.size w0 w' ∧ Kept w w' (fun k_ => P0_ k_) := by
  have HO0 := Aside0.mk (show Kd.R k138 138 w w0.heap.size (fun k_ => (P0_ k_ ∨ w.heap.size ≤ k_)) u9000_ l0 from Kd.R_mono ho0 (fun k_ hk => (.inl hk)))
  have HK := Aside0.mk (Kept.refl w (fun k_ => P0_ k_))
  have HW0 := Aside0.mk hB.size
  have HB := Aside0.mk hB
  clear hB
  have H : (laws_markValS.l0 k l0 a1 0) = some (r1, r2) := h
  clear h
  have H' := Aside0.mk H
  clear H
  go_enter Try.func44, Try.ntmps44
  go_wp2
  go_loopg [1, 5] k (fun kq v1 v5 w' => ∃ (x0_1 : List (S138)) (x1_1 : Int) (x5_1 : Int), v1 = .int .i64 x1_1 ∧ v5 = .int .i64 x5_1 ∧ Aside0 (laws_markValS.l0 kq x0_1 x1_1 x5_1 = some (r1, r2)) ∧ Aside0 (kq ≤ k) ∧ Aside0 (Kd.R k138 138 w' w0.heap.size (fun k_ => (P0_ k_ ∨ w.heap.size ≤ k_)) u9000_ x0_1) ∧ Aside0 (Kept w w' (fun k_ => P0_ k_)) ∧ Aside0 (Below w0.heap.size w0 w'))
  case atStart => exact ⟨(l0), (a1), (0), (by first | rfl | (simp; done) | (simp [*]; done)), (by first | rfl | (simp; done) | (simp [*]; done)), H', ⟨Nat.le_refl _⟩, ⟨by (with_reducible repeat (first | apply Kd.R_alloc | apply Kd.R_drewN | apply Kd.R_drew)); exact HO0.out⟩, ⟨by repeat (first | (with_reducible first | exact HK.out | apply Kept.alloc | apply Kept.drewN | apply Kept.drew) | exact HK.out)⟩, ⟨by repeat (first | (with_reducible first | exact HB.out | apply below_alloc | apply pw_below_drewN | apply below_drew1) | exact HB.out)⟩⟩
  case round =>
    clear H'
    try clear p2
    obtain ⟨x0_1, x1_1, x5_1, rfl, rfl, HA, HK1, HO_0, HK, HB⟩ := hrel
    cases gk with
    | zero => exact absurd HA.out (by simp [laws_markValS.l0])
    | succ k1 =>
      have H := HA.out
      clear HA
      simp only [laws_markValS.l0] at H
      by_cases c3 : x5_1 < (x0_1.length : Int)
      · rw [if_pos c3] at H
        have c3b0 : decide (x5_1 < (x0_1.length : Int)) = true := decide_eq_true c3
        clear c3
        replace H := Option.bind_eq_some_iff.mp H
        obtain ⟨t870, A40, H⟩ := H
        replace H : (if 0 ≤ x5_1 then ((some (x0_1.set (x5_1 : Int).toNat (⟨t870, (rd_T138 x0_1 x5_1).f1⟩ : S138) : List (S138))).bind fun y871 => (laws_markValS.l0 k1 (y871.set (x5_1 : Int).toNat (⟨(rd_T138 y871 x5_1).f0, wrap64 (x1_1 + 1)⟩ : S138)) (wrap64 ((wrap64 (x1_1 + 1)) + 1)) (wrap64 (x5_1 + 1)))) else (none)) = some (r1, r2) := H
        have A4 := Aside0.mk A40
        clear A40
        by_cases c5 : 0 ≤ x5_1
        · rw [if_pos c5] at H
          have c5b0 : decide (0 ≤ x5_1) = true := decide_eq_true c5
          clear c5
          obtain ⟨y871, hy871⟩ : ∃ y_ : List (S138), y_ = (x0_1.set (x5_1 : Int).toNat (⟨t870, (rd_T138 x0_1 x5_1).f1⟩ : S138)) := ⟨_, rfl⟩
          replace H : (laws_markValS.l0 k1 (y871.set (x5_1 : Int).toNat (⟨(rd_T138 y871 x5_1).f0, wrap64 (x1_1 + 1)⟩ : S138)) (wrap64 ((wrap64 (x1_1 + 1)) + 1)) (wrap64 (x5_1 + 1))) = some (r1, r2) := by first | (rw [hy871]; with_reducible exact H) | (have H2_ := (Option.bind_some _ _).symm.trans H; rw [hy871]; with_reducible exact H2_) | (have H2_ := (Option.bind_some _ _).symm.trans H; with_reducible exact H2_) | with_reducible exact H | (rw [hy871]; exact H) | exact H
          have Ny871 := Aside0.mk hy871
          clear hy871
          obtain ⟨y872, hy872⟩ : ∃ y_ : List (S138), y_ = (y871.set (x5_1 : Int).toNat (⟨(rd_T138 y871 x5_1).f0, wrap64 (x1_1 + 1)⟩ : S138)) := ⟨_, rfl⟩
          replace H : (laws_markValS.l0 k1 y872 (wrap64 ((wrap64 (x1_1 + 1)) + 1)) (wrap64 (x5_1 + 1))) = some (r1, r2) := by first | (rw [hy872]; with_reducible exact H) | (have H2_ := (Option.bind_some _ _).symm.trans H; rw [hy872]; with_reducible exact H2_) | (have H2_ := (Option.bind_some _ _).symm.trans H; with_reducible exact H2_) | with_reducible exact H | (rw [hy872]; exact H) | exact H
          have Ny872 := Aside0.mk hy872
          clear hy872
          have H' := Aside0.mk H
          clear H
          obtain ⟨Ao8, co8, eo8⟩ := Kd.R_slice HO_0.out
          subst eo8
          go_wp2_with (first | ((with_reducible refine gate_callee (f := 123) rfl ?_); refine goesL_ (some 15) rfl rfl Try.func123 (by kernel_rfl) rfl #[.int .i64 x1_1] rfl (by (try simp only [List.map_toArray, List.map_cons, List.map_nil]); first | done | rfl | (simp only [List.length_drop, List.length_take]; rfl)) ?_; (with_reducible refine (laws_markText.calls k1 x1_1 t870 _ A4.out).mono ?_); rintro e w9 ⟨rfl, hb⟩; refine ⟨_, rfl, ?_⟩; have n0_ := Aside0.mk (Kd.R_below (by (with_reducible repeat (first | apply Kd.R_alloc | apply Kd.R_drewN | apply Kd.R_drew)); exact HO_0.out) hb); have n1_ := Aside0.mk (Kept.below (S := (fun k_ => P0_ k_)) (by repeat (first | (with_reducible first | exact HK.out | apply Kept.alloc | apply Kept.drewN | apply Kept.drew) | exact HK.out)) hb); have n2_ := Aside0.mk (below_step (by repeat (first | (with_reducible first | exact HB.out | apply below_alloc | apply pw_below_drewN | apply below_drew1) | exact HB.out)) hb); clear HO_0; clear HK; clear HB; have HO_0 := n0_; have HK := n1_; have HB := n2_; clear n0_ n1_ n2_; (try clear hb); (try clear hb2); (try clear hk); (try clear hi); have p6 : 0 ≤ (x5_1 : Int) := of_decide_eq_true (by first | (with_reducible assumption) | assumption); have q6 : (x5_1 : Int) < ((x0_1.length : Int) : Int) := of_decide_eq_true (by first | (with_reducible assumption) | assumption); obtain ⟨go6, co6, eo6, gb6, gl6, cl6, HG6⟩ := Kd.R_form HO_0.out (by omega); (first | cases eo6 | (injection eo6 with ea_ en_ ec_; (first | subst ea_ | (injection ea_ with ea_; subst ea_)); subst ec_; clear en_)); have GB6 := Aside0.mk gb6; have GG6 := Aside0.mk HG6; clear gb6 gl6 HG6; have HMgo6 := Aside0.mk (show (P0_ go6 ∨ w.heap.size ≤ go6) from (HO_0.out.1 _ rfl)); obtain ⟨ce6, hcl6, hM6, hcc6, hfr6⟩ := Kd.R_elem HO_0.out z138 (x5_1 : Int) p6 q6; obtain rfl := k138_openM hM6; have hx6_0 : w9.cell? ⟨go6, (x5_1 : Int).toNat * 2, none⟩ = some (.string ((rd_T138 x0_1 x5_1).f0)) := hcc6 0 _ rfl; have hx6_1 : w9.cell? ⟨go6, (x5_1 : Int).toNat * 2 + 1, none⟩ = some (.int .i64 ((rd_T138 x0_1 x5_1).f1)) := hcc6 1 _ rfl; have hf6_0 : w9.frozen? ⟨go6, (x5_1 : Int).toNat * 2, none⟩ = false := hfr6 0; have hf6_1 : w9.frozen? ⟨go6, (x5_1 : Int).toNat * 2 + 1, none⟩ = false := hfr6 1; clear hcl6 hcc6 hfr6 hM6; replace p6 := eq_true p6; replace q6 := eq_true q6; have HX10 := Aside0.mk (show Kd.R k138 138 w9 w0.heap.size (fun k_ => (P0_ k_ ∨ w.heap.size ≤ k_)) (.slice (some ⟨go6, 0, none⟩) x0_1.length co8) x0_1 from (by (with_reducible repeat (first | apply Kd.R_alloc | apply Kd.R_drewN | apply Kd.R_drew)); exact HO_0.out)); obtain ⟨ce10, hcl10, hM10, hcc10, hfr10⟩ := Kd.R_elem HX10.out z138 (x5_1 : Int) (of_decide_eq_true (by first | (with_reducible assumption) | assumption)) (by have h_ : (x5_1 : Int) < ((x0_1.length : Int) : Int) := of_decide_eq_true (by first | (with_reducible assumption) | assumption); first | exact h_ | (have e_ := (Kd.R_reads' HO_0.out).1; omega) | simpa using h_); obtain rfl := k138_openM hM10; have HP10 := Kd.R_seg HX10.out (x5_1 : Int) (of_decide_eq_true (by first | (with_reducible assumption) | assumption)) (by have h_ : (x5_1 : Int) < ((x0_1.length : Int) : Int) := of_decide_eq_true (by first | (with_reducible assumption) | assumption); first | exact h_ | (have e_ := (Kd.R_reads' HO_0.out).1; omega) | simpa using h_) (seg := [.string t870]) (j := 0) hcl10 hcc10 (show 1 ≤ 2 from by decide) (x' := (⟨t870, (rd_T138 x0_1 x5_1).f1⟩ : S138)) (k138_mkM _ _ _ (⟨t870, (rd_T138 x0_1 x5_1).f1⟩ : S138) ) (fun _ hk => hk); have hx10_0 := hcc10 0 _ rfl; (try simp only [show (k138).sz = 2 from rfl, Nat.mul_one, Nat.add_zero] at hx10_0); have hf10_0 := hfr10 0; (try simp only [show (k138).sz = 2 from rfl, Nat.mul_one, Nat.add_zero] at hf10_0); clear hcl10 hcc10 hfr10 hM10) | ((with_reducible refine gate_store (t := 9) (p := 17) rfl ?_); refine store_event (t := 9) (p := 17) (v := ?vo_w11) (w1 := (w9.setCell ⟨go6, (x5_1 : Int).toNat * 2, none⟩ (.string t870))) ?hg ?ho ?hn ?hr ?_; (case ho => rfl); (case hg => rfl); (case hn => rfl); (case hr => first | (go_simp; done) | (go_simp; rfl)); intro w11 hw; have hg : w9.grownBy w11 (some go6) := (by rw [hw]; exact HP10.2); have hp_ : Kd.R k138 138 w11 w0.heap.size (fun k_ => (P0_ k_ ∨ w.heap.size ≤ k_)) (.slice (some ⟨go6, 0, none⟩) x0_1.length co8) y871 := (by rw [hw, Ny871.out]; exact HP10.1); clear HP10; have n0_ := Aside0.mk (hp_); have n1_ := Aside0.mk ((by rw [hw]; exact below_set (HB.out) GB6.out : Below w0.heap.size w0 w11)); have n2_ := Aside0.mk (Kept.of_grown (S := (fun k_ => P0_ k_)) hg (by repeat (first | (with_reducible first | exact HK.out | apply Kept.alloc | apply Kept.drewN | apply Kept.drew) | exact HK.out)) (fun k_ e_ => (HO_0.out.1 k_ e_))); clear HO_0; clear HB; clear HK; have HO_0 := n0_; have HB := n1_; have HK := n2_; clear n0_ n1_ n2_; clear hg hw hp_; have p7 : 0 ≤ (x5_1 : Int) := of_decide_eq_true (by first | (with_reducible assumption) | assumption); have q7 : (x5_1 : Int) < ((x0_1.length : Int) : Int) := of_decide_eq_true (by first | (with_reducible assumption) | assumption); obtain ⟨ce7, hcl7, hM7, hcc7, hfr7⟩ := Kd.R_elem HO_0.out z138 (x5_1 : Int) p7 q7; obtain rfl := k138_openM hM7; have hx7_0 : w11.cell? ⟨go6, (x5_1 : Int).toNat * 2, none⟩ = some (.string ((rd_T138 y871 x5_1).f0)) := hcc7 0 _ rfl; have hx7_1 : w11.cell? ⟨go6, (x5_1 : Int).toNat * 2 + 1, none⟩ = some (.int .i64 ((rd_T138 y871 x5_1).f1)) := hcc7 1 _ rfl; have hf7_0 : w11.frozen? ⟨go6, (x5_1 : Int).toNat * 2, none⟩ = false := hfr7 0; have hf7_1 : w11.frozen? ⟨go6, (x5_1 : Int).toNat * 2 + 1, none⟩ = false := hfr7 1; clear hcl7 hcc7 hfr7 hM7; replace p7 := eq_true p7; replace q7 := eq_true q7; have HX12 := Aside0.mk (show Kd.R k138 138 w11 w0.heap.size (fun k_ => (P0_ k_ ∨ w.heap.size ≤ k_)) (.slice (some ⟨go6, 0, none⟩) x0_1.length co8) y871 from (by (with_reducible repeat (first | apply Kd.R_alloc | apply Kd.R_drewN | apply Kd.R_drew)); exact HO_0.out)); obtain ⟨ce12, hcl12, hM12, hcc12, hfr12⟩ := Kd.R_elem HX12.out z138 (x5_1 : Int) (of_decide_eq_true (by first | (with_reducible assumption) | assumption)) (by have h_ : (x5_1 : Int) < ((x0_1.length : Int) : Int) := of_decide_eq_true (by first | (with_reducible assumption) | assumption); first | exact h_ | (have e_ := (Kd.R_reads' HO_0.out).1; omega) | simpa using h_); obtain rfl := k138_openM hM12; have HP12 := Kd.R_seg HX12.out (x5_1 : Int) (of_decide_eq_true (by first | (with_reducible assumption) | assumption)) (by have h_ : (x5_1 : Int) < ((x0_1.length : Int) : Int) := of_decide_eq_true (by first | (with_reducible assumption) | assumption); first | exact h_ | (have e_ := (Kd.R_reads' HO_0.out).1; omega) | simpa using h_) (seg := [.int .i64 (wrap64 (x1_1 + 1))]) (j := 1) hcl12 hcc12 (show 2 ≤ 2 from by decide) (x' := (⟨(rd_T138 y871 x5_1).f0, wrap64 (x1_1 + 1)⟩ : S138)) (k138_mkM _ _ _ (⟨(rd_T138 y871 x5_1).f0, wrap64 (x1_1 + 1)⟩ : S138) ) (fun _ hk => hk); have hx12_1 := hcc12 1 _ rfl; (try simp only [show (k138).sz = 2 from rfl, Nat.mul_one, Nat.add_zero] at hx12_1); have hf12_1 := hfr12 1; (try simp only [show (k138).sz = 2 from rfl, Nat.mul_one, Nat.add_zero] at hf12_1); clear hcl12 hcc12 hfr12 hM12) | ((with_reducible refine gate_store (t := 3) (p := 24) rfl ?_); refine store_event (t := 3) (p := 24) (v := ?vo_w13) (w1 := (w11.setCell ⟨go6, (x5_1 : Int).toNat * 2 + 1, none⟩ (.int .i64 (wrap64 (x1_1 + 1))))) ?hg ?ho ?hn ?hr ?_; (case ho => rfl); (case hg => rfl); (case hn => rfl); (case hr => first | (go_simp; done) | (go_simp; rfl)); intro w13 hw; have hg : w11.grownBy w13 (some go6) := (by rw [hw]; exact HP12.2); have hp_ : Kd.R k138 138 w13 w0.heap.size (fun k_ => (P0_ k_ ∨ w.heap.size ≤ k_)) (.slice (some ⟨go6, 0, none⟩) x0_1.length co8) y872 := (by rw [hw, Ny872.out]; exact HP12.1); clear HP12; have n0_ := Aside0.mk (hp_); have n1_ := Aside0.mk ((by rw [hw]; exact below_set (HB.out) GB6.out : Below w0.heap.size w0 w13)); have n2_ := Aside0.mk (Kept.of_grown (S := (fun k_ => P0_ k_)) hg (by repeat (first | (with_reducible first | exact HK.out | apply Kept.alloc | apply Kept.drewN | apply Kept.drew) | exact HK.out)) (fun k_ e_ => (HO_0.out.1 k_ e_))); clear HO_0; clear HB; clear HK; have HO_0 := n0_; have HB := n1_; have HK := n2_; clear n0_ n1_ n2_; clear hg hw hp_))
          go_roundg k1
          case measure => have := HK1.out; omega
          case rel => exact ⟨(y872), (wrap64 ((wrap64 (x1_1 + 1)) + 1)), (wrap64 (x5_1 + 1)), (by first | rfl | (simp; done) | (simp [*]; done)), (by first | rfl | (simp; done) | (simp [*]; done)), H', ⟨by have := HK1.out; omega⟩, ⟨by (with_reducible repeat (first | apply Kd.R_alloc | apply Kd.R_drewN | apply Kd.R_drew)); exact HO_0.out⟩, ⟨by repeat (first | (with_reducible first | exact HK.out | apply Kept.alloc | apply Kept.drewN | apply Kept.drew) | exact HK.out)⟩, ⟨by repeat (first | (with_reducible first | exact HB.out | apply below_alloc | apply pw_below_drewN | apply below_drew1) | exact HB.out)⟩⟩
        · rw [if_neg c5] at H
          exact absurd H (by simp)
      · rw [if_neg c3] at H
        have c3b0 : decide (x5_1 < (x0_1.length : Int)) = false := decide_eq_false c3
        clear c3
        simp only [Option.some.injEq, Prod.mk.injEq] at H
        obtain ⟨rfl, rfl⟩ := H
        obtain ⟨Ao14, co14, eo14⟩ := Kd.R_slice HO_0.out
        subst eo14
        go_wp2
        go_ret
        exact ⟨by first | rfl | (simp [errW_none, errW_some] <;> rfl) | (simp [*, errW_none, errW_some] <;> rfl), by (with_reducible repeat (first | apply Kd.R_alloc | apply Kd.R_drewN | apply Kd.R_drew)); exact HO_0.out, by repeat (first | (with_reducible first | exact HB.out | apply below_alloc | apply pw_below_drewN | apply below_drew1) | exact HB.out), by repeat (first | (with_reducible first | exact HK.out | apply Kept.alloc | apply Kept.drewN | apply Kept.drew) | exact HK.out)⟩

theorem laws_markValS.ex {l : List S138} {n : Int} (hl : l.length ≤ 1048576) (h0 : 0 ≤ n) (h1 : n ≤ 1000000000) : ∃ l', Ev (fun k => laws_markValS.f k l n) (n + 2 * (l.length : Int), l') := by
  unfold laws_markValS.f
  have key : ∀ (m i : Nat) (x : List S138), i + m = l.length → x.length = l.length → ∃ l', Ev (fun k => laws_markValS.l0 k x (n + 2 * (i : Int)) (i : Int)) (n + 2 * (l.length : Int), l') := by
    intro m
    induction m with
    | zero =>
      intro i x hi hx
      obtain rfl : i = l.length := by omega
      refine ⟨x, Ev.up ?_⟩
      simp only [laws_markValS.l0]
      exact Ev.no (by omega) (Ev.now _)
    | succ m ih =>
      intro i x hi hx
      obtain ⟨t, ht⟩ := laws_markText.ex (n := n + 2 * (i : Int)) (by omega)
      obtain ⟨l', e⟩ := ih (i + 1) _ (by omega) (show (((x.set (i : Int).toNat (⟨t, (rd_T138 x (i : Int)).f1⟩ : S138)).set (i : Int).toNat (⟨(rd_T138 (x.set (i : Int).toNat (⟨t, (rd_T138 x (i : Int)).f1⟩ : S138)) (i : Int)).f0, n + 2 * (i : Int) + 1⟩ : S138))).length = l.length by rw [List.length_set, List.length_set, hx])
      refine ⟨l', Ev.up ?_⟩
      simp only [laws_markValS.l0, Option.bind_some]
      rw [unw (x := (i : Int) + 1) (by omega) (by omega), unw (x := n + 2 * (i : Int) + 1) (by omega) (by omega), unw (x := n + 2 * (i : Int) + 1 + 1) (by omega) (by omega)]
      refine Ev.yes (by omega) (Ev.bind ht (Ev.yes (by omega) ?_))
      rw [show n + 2 * (i : Int) + 1 + 1 = n + 2 * ((i + 1 : Nat) : Int) by omega]
      exact e
  have := key l.length 0 l (by omega) rfl
  simpa using this

/-! ### laws_markValS: marks, printed by markwalk.py -/
set_option maxHeartbeats 4000000 in
set_option maxRecDepth 100000 in
theorem laws_markValS.marks {B : Nat} {a w : World} {P : Nat → Prop} {H : Nat → Nat → Prop} {A : Option Addr} {n c : Nat} {x : Int} (hR : Rw w B P H 138 2 (fun _ => True) A n) (hn : n ≤ 1048576) (h0 : 0 ≤ x) (h1 : x ≤ 100000000000000) (e0 : Mk B a w P H) :
    Calls Try.prog 44 #[.slice A n c, .int .i64 x] e0.now fun r W => ∃ m : Int, r = .returned (.int .i64 m) ∧ (∃ e : Mk B a w P H, W = e.now) ∧ 0 ≤ m ∧ m ≤ x + 2 * n := by
  have HR := Aside0.mk hR
  have HX := Aside0.mk (And.intro h0 h1)
  clear hR h0 h1
  have hn' : (n : Int) ≤ 1048576 := by omega
  go_enter Try.func44, Try.ntmps44
  go_wp2
  go_loopg [1, 5] n (fun g v1 v5 w' => ∃ (i : Int) (y : Int) (e : Mk B a w P H), v1 = .int .i64 y ∧ v5 = .int .i64 i ∧ w' = e.now ∧ 0 ≤ i ∧ i ≤ n ∧ Aside0 ((n : Int) - i ≤ g) ∧ Aside0 (0 ≤ y ∧ y ≤ x + 2 * i))
  case atStart => exact ⟨0, x, e0, rfl, rfl, rfl, Int.le_refl _, by omega, ⟨by omega⟩, ⟨HX.out.1, by omega⟩⟩
  case round =>
    obtain ⟨i, y, e, rfl, rfl, rfl, hi0, hi1, HG, HY⟩ := hrel
    by_cases c1 : i < (n : Int)
    · obtain ⟨g, hA, hC, hF, hS⟩ := HR.out.open_ (a := a) (i := i.toNat) (by omega)
      subst hA
      have HC := Aside0.mk hC
      have HF := Aside0.mk hF
      have HS := Aside0.mk hS
      clear hC hF hS
      have hy0 : 0 ≤ y ∧ y ≤ 200000000000000 := by have := HY.out; have := HX.out; omega
      have HWy_1 := Aside0.mk (show wrap64 (y + 1) = y + 1 from unw (by omega) (by omega))
      have HWy_2 := Aside0.mk (show wrap64 (wrap64 (y + 1) + 1) = y + 2 from (congrArg (fun q : Int => wrap64 (q + 1)) HWy_1.out).trans (by show wrap64 (y + 1 + 1) = _; rw [unw (by omega) (by omega)]; omega))
      obtain ⟨t0, ht0⟩ := laws_markText.does (n := y) (by omega)
      have HT0 := Aside0.mk ht0
      clear ht0
      clear hy0
      go_wp2_with (first | ((with_reducible refine gate_callee (f := 123) rfl ?_); refine goesL_ (some 15) rfl rfl Try.func123 (by kernel_rfl) rfl #[.int .i64 (y)] rfl (by (try simp only [List.map_toArray, List.map_cons, List.map_nil]); first | done | rfl) ?_; refine (HT0.out _).mono ?_; rintro _ w9 ⟨rfl, hb⟩; obtain ⟨e1, rfl⟩ := e.next hb; clear hb; refine ⟨_, rfl, ?_⟩; obtain ⟨u0, hu0⟩ := HC.out 0 (by decide) e1; have hf0 := HF.out (i.toNat * 2 + 0) e1; simp only [Nat.add_zero] at hu0 hf0) | ((with_reducible refine gate_store (t := 9) (p := 17) rfl ?_); refine store_event (t := 9) (p := 17) (v := ?vo_w0) (w1 := (e1.now.setCell ⟨g, i.toNat * 2, none⟩ (.string t0))) ?hg ?ho ?hn ?hr ?_; (case ho => rfl); (case hg => rfl); (case hn => rfl); (case hr => first | (go_simp; done) | (go_simp; rfl)); intro w9 hw; obtain ⟨e2, he9⟩ := HS.out 0 (by decide) (by trivial) e1 (.string t0); (try simp only [Nat.mul_one, Nat.add_zero] at he9); rw [he9] at hw; subst hw; clear he9 hu0 hf0; obtain ⟨u1, hu1⟩ := HC.out 1 (by decide) e2; have hf1 := HF.out (i.toNat * 2 + 1) e2) | ((with_reducible refine gate_store (t := 3) (p := 24) rfl ?_); refine store_event (t := 3) (p := 24) (v := ?vo_w1) (w1 := (e2.now.setCell ⟨g, i.toNat * 2 + 1, none⟩ (.int .i64 (wrap64 (y + 1))))) ?hg ?ho ?hn ?hr ?_; (case ho => rfl); (case hg => rfl); (case hn => rfl); (case hr => first | (go_simp; done) | (go_simp; rfl)); intro w9 hw; obtain ⟨e3, he9⟩ := HS.out 1 (by decide) (by trivial) e2 (.int .i64 (wrap64 (y + 1))); (try simp only [Nat.mul_one, Nat.add_zero] at he9); rw [he9] at hw; subst hw; clear he9 hu1 hf1; skip))
      go_roundg (n - i.toNat - 1)
      case measure => have := HG.out; omega
      case rel => exact ⟨i + 1, wrap64 (wrap64 (y + 1) + 1), e3, rfl, rfl, rfl, by omega, by omega, ⟨by omega⟩, ⟨by have := HY.out; have := HX.out; have := HWy_2.out; constructor <;> omega⟩⟩
    · have hi : i = n := by omega
      go_wp2
      go_ret
      exact ⟨y, rfl, ⟨e, rfl⟩, HY.out.1, by have := HY.out.2; rw [hi] at this; omega⟩

end Go.Proofs.Ytadkhkpchankjaa.F
