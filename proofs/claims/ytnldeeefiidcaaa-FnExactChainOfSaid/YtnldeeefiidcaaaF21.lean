/-
Functions of the program, what they come to, and that Go comes to just that: laws_markIntS, laws_markText, laws_markStringS, laws_markTxS, laws_markValS, laws_markBlockS, laws_heldIntS.
Conditions: those that each theorem names.
-/
import Derived.Test.YtnldeeefiidcaaaFAbs
import Derived.Test.YtnldeeefiidcaaaWKept
import Derived.Test.YtnldeeefiidcaaaFew
import Derived.Test.YtnldeeefiidcaaaMark
set_option linter.unusedVariables false
set_option linter.unusedSimpArgs false
namespace Go.Proofs.Ytnldeeefiidcaaa.F
open Go.RowKit Go.Proofs.YtnldeeefiidcaaaW.PrintWords Go.Proofs.YtnldeeefiidcaaaW.PrintLast Go.Proofs.Ytnldeeefiidcaaa.Base Go.Proofs.Ytnldeeefiidcaaa.BW
open Go.Proofs.Ytnldeeefiidcaaa.Mark
open Go.Proofs.Ytnldeeefiidcaaa.Few

/-! ### laws_markIntS: function 29 -/
def laws_markIntS.l0 : Nat → List Int → Int → Int → Option (Int × List Int)
  | 0, _, _, _ => none
  | k + 1, x0, x1, x5 => if x5 < (x0.length : Int) then (if 0 ≤ x5 then (laws_markIntS.l0 k (x0.set (x5 : Int).toNat x1) (wrap64 (x1 + 1)) (wrap64 (x5 + 1))) else (none)) else (some (x1, x0))
def laws_markIntS.f (k : Nat) (l0 : List Int) (a1 : Int) : Option (Int × List Int) := laws_markIntS.l0 k l0 a1 0
theorem laws_markIntS.mono_l : ∀ k, (∀ y0 y1 y2, LeO (laws_markIntS.l0 k y0 y1 y2) (laws_markIntS.l0 (k + 1) y0 y1 y2))
  | 0 => fun _ _ _ r h => by simp [laws_markIntS.l0] at h
  | k + 1 => by
    have ih0 := laws_markIntS.mono_l k
    · intro y0 y1 y2
      unfold laws_markIntS.l0
      repeat' first
      | (with_reducible exact ih0 _ _ _)
      | (with_reducible exact LeO.refl _)
      | (with_reducible exact LeO.none _)
      | (with_reducible refine LeO.ite ?_ ?_)
      | (with_reducible refine LeO.bind ?_ (fun _ => ?_))
      | exact ih0 _ _ _
      | exact LeO.none _
      | refine LeO.ite ?_ ?_
      | refine LeO.bind ?_ (fun _ => ?_)
theorem laws_markIntS.mono : ∀ a0 a1 k, LeO (laws_markIntS.f k a0 a1) (laws_markIntS.f (k + 1) a0 a1) := by
  intro a0 a1 k
  have ih0 := laws_markIntS.mono_l k
  unfold laws_markIntS.f
  repeat' first
      | (with_reducible exact ih0 _ _ _)
      | (with_reducible exact LeO.refl _)
      | (with_reducible exact LeO.none _)
      | (with_reducible refine LeO.ite ?_ ?_)
      | (with_reducible refine LeO.bind ?_ (fun _ => ?_))
      | exact ih0 _ _ _
      | exact LeO.none _
      | refine LeO.ite ?_ ?_
      | refine LeO.bind ?_ (fun _ => ?_)
set_option maxHeartbeats 8000000 in
set_option maxRecDepth 100000 in
theorem laws_markIntS.calls (k : Nat) (P0_ : Nat → Prop) (u9000_ : Value) (l0 : List Int) (a1 : Int) (r1 : Int) (r2 : List Int) (w0 w : World) (hB : Below w0.heap.size w0 w) (ho0 : Kd.R (Kd.int .i64) 3 w w0.heap.size P0_ u9000_ l0) (h : laws_markIntS.f k l0 a1 = some (r1, r2)) :
    Calls Try.prog 29 #[u9000_, .int .i64 a1] w fun e w' => e = .returned (.int .i64 r1) ∧ Kd.R (Kd.int .i64) 3 w' w0.heap.size (fun k_ => (P0_ k_ ∨ w.heap.size ≤ k_)) u9000_ r2 ∧ Below w0.heap.size w0 w' ∧ Kept w w' (fun k_ => P0_ k_) := by
  have HO0 := Aside0.mk (show Kd.R (Kd.int .i64) 3 w w0.heap.size (fun k_ => (P0_ k_ ∨ w.heap.size ≤ k_)) u9000_ l0 from Kd.R_mono ho0 (fun k_ hk => (.inl hk)))
  have HK := Aside0.mk (Kept.refl w (fun k_ => P0_ k_))
  have HW0 := Aside0.mk hB.size
  have HB := Aside0.mk hB
  clear hB
  have H : (laws_markIntS.l0 k l0 a1 0) = some (r1, r2) := h
  clear h
  have H' := Aside0.mk H
  clear H
  go_enter Try.func29, Try.ntmps29
  go_wp2
  go_loopg [1, 5] k (fun kq v1 v5 w' => ∃ (x0_1 : List Int) (x1_1 : Int) (x5_1 : Int), v1 = .int .i64 x1_1 ∧ v5 = .int .i64 x5_1 ∧ Aside0 (laws_markIntS.l0 kq x0_1 x1_1 x5_1 = some (r1, r2)) ∧ Aside0 (kq ≤ k) ∧ Aside0 (Kd.R (Kd.int .i64) 3 w' w0.heap.size (fun k_ => (P0_ k_ ∨ w.heap.size ≤ k_)) u9000_ x0_1) ∧ Aside0 (Kept w w' (fun k_ => P0_ k_)) ∧ Aside0 (Below w0.heap.size w0 w'))
  case atStart => exact ⟨(l0), (a1), (0), (by first | rfl | (simp; done) | (simp [*]; done)), (by first | rfl | (simp; done) | (simp [*]; done)), H', ⟨Nat.le_refl _⟩, ⟨by (with_reducible repeat (first | apply Kd.R_alloc | apply Kd.R_drewN | apply Kd.R_drew)); exact HO0.out⟩, ⟨by repeat (first | (with_reducible first | exact HK.out | apply Kept.alloc | apply Kept.drewN | apply Kept.drew) | exact HK.out)⟩, ⟨by repeat (first | (with_reducible first | exact HB.out | apply below_alloc | apply pw_below_drewN | apply below_drew1) | exact HB.out)⟩⟩
  case round =>
    clear H'
    try clear c2
    try clear p2
    obtain ⟨x0_1, x1_1, x5_1, rfl, rfl, HA, HK1, HO_0, HK, HB⟩ := hrel
    cases gk with
    | zero => exact absurd HA.out (by simp [laws_markIntS.l0])
    | succ k1 =>
      have H := HA.out
      clear HA
      simp only [laws_markIntS.l0] at H
      by_cases c3 : x5_1 < (x0_1.length : Int)
      · rw [if_pos c3] at H
        have c3b0 : decide (x5_1 < (x0_1.length : Int)) = true := decide_eq_true c3
        clear c3
        by_cases c4 : 0 ≤ x5_1
        · rw [if_pos c4] at H
          have c4b0 : decide (0 ≤ x5_1) = true := decide_eq_true c4
          clear c4
          obtain ⟨y488, hy488⟩ : ∃ y_ : List Int, y_ = (x0_1.set (x5_1 : Int).toNat x1_1) := ⟨_, rfl⟩
          replace H : (laws_markIntS.l0 k1 y488 (wrap64 (x1_1 + 1)) (wrap64 (x5_1 + 1))) = some (r1, r2) := by first | (rw [hy488]; with_reducible exact H) | (have H2_ := (Option.bind_some _ _).symm.trans H; rw [hy488]; with_reducible exact H2_) | (have H2_ := (Option.bind_some _ _).symm.trans H; with_reducible exact H2_) | with_reducible exact H | (rw [hy488]; exact H) | exact H
          have Ny488 := Aside0.mk hy488
          clear hy488
          have H' := Aside0.mk H
          clear H
          obtain ⟨Ao6, co6, eo6⟩ := Kd.R_slice HO_0.out
          subst eo6
          have p5 : 0 ≤ (x5_1 : Int) := of_decide_eq_true (by first | (with_reducible assumption) | assumption)
          have q5 : (x5_1 : Int) < ((x0_1.length : Int) : Int) := of_decide_eq_true (by first | (with_reducible assumption) | assumption)
          obtain ⟨go5, co5, eo5, gb5, gl5, cl5, HG5⟩ := Kd.R_form HO_0.out (by omega)
          (first | cases eo5 | (injection eo5 with ea_ en_ ec_; (first | subst ea_ | (injection ea_ with ea_; subst ea_)); subst ec_; clear en_))
          have GB5 := Aside0.mk gb5
          have GG5 := Aside0.mk HG5
          clear gb5 gl5 HG5
          have HMgo5 := Aside0.mk (show (P0_ go5 ∨ w.heap.size ≤ go5) from (HO_0.out.1 _ rfl))
          obtain ⟨hx5_0, hf5_0⟩ := Kd.R_celln 0 HO_0.out (x5_1 : Int) p5 q5
          replace p5 := eq_true p5
          replace q5 := eq_true q5
          have HP7 := Kd.R_putg HO_0.out (x5_1 : Int) x1_1
          go_wp2_with (first | ((with_reducible refine gate_store (t := 3) (p := 15) rfl ?_); refine store_event (t := 3) (p := 15) (v := ?vo_w8) (w1 := (wr.setCell ⟨go5, (x5_1 : Int).toNat, none⟩ (.int .i64 x1_1))) ?hg ?ho ?hn ?hr ?_; (case ho => rfl); (case hg => rfl); (case hn => rfl); (case hr => first | (go_simp; done) | (go_simp; rfl)); intro w8 hw; have hg : wr.grownBy w8 (some go5) := (by rw [hw]; exact HP7.2); have hp_ : Kd.R (Kd.int .i64) 3 w8 w0.heap.size (fun k_ => (P0_ k_ ∨ w.heap.size ≤ k_)) (.slice (some ⟨go5, 0, none⟩) x0_1.length co6) y488 := (by rw [hw, Ny488.out]; exact HP7.1); clear HP7; have n0_ := Aside0.mk (hp_); have n1_ := Aside0.mk ((by rw [hw]; exact below_set (HB.out) GB5.out : Below w0.heap.size w0 w8)); have n2_ := Aside0.mk (Kept.of_grown (S := (fun k_ => P0_ k_)) hg (by repeat (first | (with_reducible first | exact HK.out | apply Kept.alloc | apply Kept.drewN | apply Kept.drew) | exact HK.out)) (fun k_ e_ => (HO_0.out.1 k_ e_))); clear HO_0; clear HB; clear HK; have HO_0 := n0_; have HB := n1_; have HK := n2_; clear n0_ n1_ n2_; clear hg hw hp_))
          go_roundg k1
          case measure => have := HK1.out; omega
          case rel => exact ⟨(y488), (wrap64 (x1_1 + 1)), (wrap64 (x5_1 + 1)), (by first | rfl | (simp; done) | (simp [*]; done)), (by first | rfl | (simp; done) | (simp [*]; done)), H', ⟨by have := HK1.out; omega⟩, ⟨by (with_reducible repeat (first | apply Kd.R_alloc | apply Kd.R_drewN | apply Kd.R_drew)); exact HO_0.out⟩, ⟨by repeat (first | (with_reducible first | exact HK.out | apply Kept.alloc | apply Kept.drewN | apply Kept.drew) | exact HK.out)⟩, ⟨by repeat (first | (with_reducible first | exact HB.out | apply below_alloc | apply pw_below_drewN | apply below_drew1) | exact HB.out)⟩⟩
        · rw [if_neg c4] at H
          exact absurd H (by simp)
      · rw [if_neg c3] at H
        have c3b0 : decide (x5_1 < (x0_1.length : Int)) = false := decide_eq_false c3
        clear c3
        simp only [Option.some.injEq, Prod.mk.injEq] at H
        obtain ⟨rfl, rfl⟩ := H
        obtain ⟨Ao9, co9, eo9⟩ := Kd.R_slice HO_0.out
        subst eo9
        go_wp2
        go_ret
        exact ⟨by first | rfl | (simp [errW_none, errW_some] <;> rfl) | (simp [*, errW_none, errW_some] <;> rfl), by (with_reducible repeat (first | apply Kd.R_alloc | apply Kd.R_drewN | apply Kd.R_drew)); exact HO_0.out, by repeat (first | (with_reducible first | exact HB.out | apply below_alloc | apply pw_below_drewN | apply below_drew1) | exact HB.out), by repeat (first | (with_reducible first | exact HK.out | apply Kept.alloc | apply Kept.drewN | apply Kept.drew) | exact HK.out)⟩

theorem laws_markIntS.ex {l : List Int} {n : Int} (hl : l.length ≤ 9223372036854775) (h0 : 0 ≤ n) (h1 : n ≤ 1000000000000) : ∃ l', Ev (fun k => laws_markIntS.f k l n) (n + (l.length : Int), l') ∧ l'.length = l.length ∧ ∀ j, j < l.length → l'.getD j 0 = n + (j : Int) := by
  unfold laws_markIntS.f
  have key : ∀ (m i : Nat) (x : List Int), i + m = l.length → x.length = l.length → (∀ j, j < i → x.getD j 0 = n + (j : Int)) → ∃ l', Ev (fun k => laws_markIntS.l0 k x (n + (i : Int)) (i : Int)) (n + (l.length : Int), l') ∧ l'.length = l.length ∧ ∀ j, j < l.length → l'.getD j 0 = n + (j : Int) := by
    intro m
    induction m with
    | zero =>
      intro i x hi hx hj
      obtain rfl : i = l.length := by omega
      refine ⟨x, Ev.up ?_, hx, hj⟩
      simp only [laws_markIntS.l0]
      exact Ev.no (by omega) (Ev.now _)
    | succ m ih =>
      intro i x hi hx hj
      obtain ⟨l', e, r1, r2⟩ := ih (i + 1) (x.set i (n + (i : Int))) (by omega) (by rw [List.length_set, hx]) (fun j hj' => by
        by_cases he : j = i
        · subst he
          rw [List.getD_eq_getElem?_getD, List.getElem?_set_self (by omega)]
          rfl
        · rw [List.getD_eq_getElem?_getD, List.getElem?_set_ne (by omega), ← List.getD_eq_getElem?_getD]
          exact hj j (by omega))
      refine ⟨l', Ev.up ?_, r1, r2⟩
      simp only [laws_markIntS.l0]
      rw [unw (x := (i : Int) + 1) (by omega) (by omega), unw (x := n + (i : Int) + 1) (by omega) (by omega)]
      refine Ev.yes (by omega) (Ev.yes (by omega) ?_)
      rw [show n + (i : Int) + 1 = n + ((i + 1 : Nat) : Int) by omega]
      exact e
  have := key l.length 0 l (by omega) rfl (fun j hj => by omega)
  simpa using this

/-! ### laws_markIntS: marks, printed by markwalk.py -/
set_option maxHeartbeats 4000000 in
set_option maxRecDepth 100000 in
theorem laws_markIntS.marks {B : Nat} {a w : World} {P : Nat → Prop} {H : Nat → Nat → Prop} {A : Option Addr} {n c : Nat} {x : Int} (hR : Rw w B P H 3 1 (fun _ => True) A n) (hn : n ≤ 1048576) (h0 : 0 ≤ x) (h1 : x ≤ 100000000000000) (e0 : Mk B a w P H) :
    Calls Try.prog 29 #[.slice A n c, .int .i64 x] e0.now fun r W => ∃ m : Int, r = .returned (.int .i64 m) ∧ (∃ e : Mk B a w P H, W = e.now) ∧ 0 ≤ m ∧ m ≤ x + 1 * n := by
  have HR := Aside0.mk hR
  have HX := Aside0.mk (And.intro h0 h1)
  clear hR h0 h1
  have hn' : (n : Int) ≤ 1048576 := by omega
  go_enter Try.func29, Try.ntmps29
  go_wp2
  go_loopg [1, 5] n (fun g v1 v5 w' => ∃ (i : Int) (y : Int) (e : Mk B a w P H), v1 = .int .i64 y ∧ v5 = .int .i64 i ∧ w' = e.now ∧ 0 ≤ i ∧ i ≤ n ∧ Aside0 ((n : Int) - i ≤ g) ∧ Aside0 (0 ≤ y ∧ y ≤ x + 1 * i))
  case atStart => exact ⟨0, x, e0, rfl, rfl, rfl, Int.le_refl _, by omega, ⟨by omega⟩, ⟨HX.out.1, by omega⟩⟩
  case round =>
    obtain ⟨i, y, e, rfl, rfl, rfl, hi0, hi1, HG, HY⟩ := hrel
    by_cases c1 : i < (n : Int)
    · obtain ⟨g, hA, hC, hF, hS⟩ := HR.out.open_ (a := a) (i := i.toNat) (by omega)
      subst hA
      have HC := Aside0.mk hC
      have HF := Aside0.mk hF
      have HS := Aside0.mk hS
      clear hC hF hS
      have hy0 : 0 ≤ y ∧ y ≤ 200000000000000 := by have := HY.out; have := HX.out; omega
      have HWy_1 := Aside0.mk (show wrap64 (y + 1) = y + 1 from unw (by omega) (by omega))
      clear hy0
      obtain ⟨u0, hu0⟩ := HC.out 0 (by decide) e
      have hf0 := HF.out (i.toNat * 1 + 0) e
      simp only [Nat.mul_one, Nat.add_zero] at hu0 hf0
      go_wp2_with (first | ((with_reducible refine gate_store (t := 3) (p := 15) rfl ?_); refine store_event (t := 3) (p := 15) (v := ?vo_w0) (w1 := (e.now.setCell ⟨g, i.toNat, none⟩ (.int .i64 (y)))) ?hg ?ho ?hn ?hr ?_; (case ho => rfl); (case hg => rfl); (case hn => rfl); (case hr => first | (go_simp; done) | (go_simp; rfl)); intro w9 hw; obtain ⟨e1, he9⟩ := HS.out 0 (by decide) (by trivial) e (.int .i64 (y)); (try simp only [Nat.mul_one, Nat.add_zero] at he9); rw [he9] at hw; subst hw; clear he9 hu0 hf0; skip))
      go_roundg (n - i.toNat - 1)
      case measure => have := HG.out; omega
      case rel => exact ⟨i + 1, wrap64 (y + 1), e1, rfl, rfl, rfl, by omega, by omega, ⟨by omega⟩, ⟨by have := HY.out; have := HX.out; have := HWy_1.out; constructor <;> omega⟩⟩
    · have hi : i = n := by omega
      go_wp2
      go_ret
      exact ⟨y, rfl, ⟨e, rfl⟩, HY.out.1, by have := HY.out.2; rw [hi] at this; omega⟩

/-! ### laws_markText: function 66 -/
def laws_markText.l0 : Nat → Int → ByteArray → Option (ByteArray)
  | 0, _, _ => none
  | k + 1, x0, x3 => if x0 > 0 then ((some (([(wrap64 (48 + (Int.tmod x0 10))) % 256] : List Int) : List Int)).bind fun y489 => (if (strOfNums y489).size + x3.size ≤ 9223372036854775807 then (laws_markText.l0 k (wrap64 (Int.tdiv x0 10)) ((strOfNums y489) ++ x3)) else (none))) else (if 1 + x3.size ≤ 9223372036854775807 then (some ((⟨#[109]⟩ : ByteArray) ++ x3)) else (none))
def laws_markText.f (k : Nat) (a0 : Int) : Option (ByteArray) := if a0 ≤ 0 then (some (⟨#[109, 48]⟩ : ByteArray)) else (laws_markText.l0 k a0 (⟨#[]⟩ : ByteArray))
theorem laws_markText.mono_l : ∀ k, (∀ y0 y1, LeO (laws_markText.l0 k y0 y1) (laws_markText.l0 (k + 1) y0 y1))
  | 0 => fun _ _ r h => by simp [laws_markText.l0] at h
  | k + 1 => by
    have ih0 := laws_markText.mono_l k
    · intro y0 y1
      unfold laws_markText.l0
      repeat' first
      | (with_reducible exact ih0 _ _)
      | (with_reducible exact LeO.refl _)
      | (with_reducible exact LeO.none _)
      | (with_reducible refine LeO.ite ?_ ?_)
      | (with_reducible refine LeO.bind ?_ (fun _ => ?_))
      | exact ih0 _ _
      | exact LeO.none _
      | refine LeO.ite ?_ ?_
      | refine LeO.bind ?_ (fun _ => ?_)
theorem laws_markText.mono : ∀ a0 k, LeO (laws_markText.f k a0) (laws_markText.f (k + 1) a0) := by
  intro a0 k
  have ih0 := laws_markText.mono_l k
  unfold laws_markText.f
  repeat' first
      | (with_reducible exact ih0 _ _)
      | (with_reducible exact LeO.refl _)
      | (with_reducible exact LeO.none _)
      | (with_reducible refine LeO.ite ?_ ?_)
      | (with_reducible refine LeO.bind ?_ (fun _ => ?_))
      | exact ih0 _ _
      | exact LeO.none _
      | refine LeO.ite ?_ ?_
      | refine LeO.bind ?_ (fun _ => ?_)
set_option maxHeartbeats 8000000 in
set_option maxRecDepth 100000 in
theorem laws_markText.calls (k : Nat) (a0 : Int) (r : ByteArray) (w : World) (h : laws_markText.f k a0 = some r) :
    Calls Try.prog 66 #[.int .i64 a0] w fun e w' => e = .returned (.string r) ∧ Below w.heap.size w w' := by
  have HB := Aside0.mk (Below.refl w.heap.size w)
  have H : (if a0 ≤ 0 then (some (⟨#[109, 48]⟩ : ByteArray)) else (laws_markText.l0 k a0 (⟨#[]⟩ : ByteArray))) = some r := h
  clear h
  by_cases c2 : a0 ≤ 0
  · rw [if_pos c2] at H
    have c2b0 : decide (a0 ≤ 0) = true := decide_eq_true c2
    clear c2
    obtain rfl := Option.some.inj H
    go_enter Try.func66, Try.ntmps66
    go_wp2
    go_ret
    exact ⟨by first | rfl | (simp [errW_none, errW_some] <;> rfl) | (simp [*, errW_none, errW_some] <;> rfl), by repeat (first | (with_reducible first | exact HB.out | apply below_alloc | apply pw_below_drewN | apply below_drew1) | exact HB.out)⟩
  · rw [if_neg c2] at H
    have c2b0 : decide (a0 ≤ 0) = false := decide_eq_false c2
    clear c2
    have H' := Aside0.mk H
    clear H
    go_enter Try.func66, Try.ntmps66
    go_wp2
    go_loopg [0, 3] k (fun kq v0 v3 w' => ∃ (x0_1 : Int) (x3_1 : ByteArray), v0 = .int .i64 x0_1 ∧ v3 = .string x3_1 ∧ Aside0 (laws_markText.l0 kq x0_1 x3_1 = some r) ∧ Aside0 (kq ≤ k) ∧ Aside0 (Below w.heap.size w w'))
    case atStart => exact ⟨(a0), ((⟨#[]⟩ : ByteArray)), (by first | rfl | (simp; done) | (simp [*]; done)), (by first | rfl | (simp; done) | (simp [*]; done)), H', ⟨Nat.le_refl _⟩, ⟨by repeat (first | (with_reducible first | exact HB.out | apply below_alloc | apply pw_below_drewN | apply below_drew1) | exact HB.out)⟩⟩
    case round =>
      clear H'
      try clear c2
      try clear c2b0
      try clear p2
      obtain ⟨x0_1, x3_1, rfl, rfl, HA, HK1, HB⟩ := hrel
      cases gk with
      | zero => exact absurd HA.out (by simp [laws_markText.l0])
      | succ k1 =>
        have H := HA.out
        clear HA
        simp only [laws_markText.l0] at H
        by_cases c3 : x0_1 > 0
        · rw [if_pos c3] at H
          have c3b0 : decide (0 < x0_1) = true := decide_eq_true c3
          clear c3
          obtain ⟨y489, hy489⟩ : ∃ y_ : List Int, y_ = (([(wrap64 (48 + (Int.tmod x0_1 10))) % 256] : List Int)) := ⟨_, rfl⟩
          replace H : (if (strOfNums y489).size + x3_1.size ≤ 9223372036854775807 then (laws_markText.l0 k1 (wrap64 (Int.tdiv x0_1 10)) ((strOfNums y489) ++ x3_1)) else (none)) = some r := by first | (rw [hy489]; with_reducible exact H) | (have H2_ := (Option.bind_some _ _).symm.trans H; rw [hy489]; with_reducible exact H2_) | (have H2_ := (Option.bind_some _ _).symm.trans H; with_reducible exact H2_) | with_reducible exact H | (rw [hy489]; exact H) | exact H
          have Ny489 := Aside0.mk hy489
          clear hy489
          by_cases c4 : (strOfNums y489).size + x3_1.size ≤ 9223372036854775807
          · rw [if_pos c4] at H
            have c4b0 := eq_true c4
            have c4b1 : decide ((strOfNums y489).size + x3_1.size ≤ 9223372036854775807) = true := decide_eq_true c4
            try have c4b2 : (9223372036854775807 < (strOfNums y489).size + x3_1.size) = False := eq_false (Nat.not_lt.2 c4)
            have H' := Aside0.mk H
            clear H
            go_wp2_with (first | ((with_reducible refine gate_dst (N := 12) rfl ?_); refine Kd.R_lit (Kd.int .u8) _ 5 ?hg (N := 12) ?hd (xs := ([(wrap64 (48 + (Int.tmod x0_1 10))) % 256] : List Int)) (inner := [.int .u8 ((wrap64 (48 + (Int.tmod x0_1 10))) % 256)]) (ok := fun _ => True) (okp := fun _ => True) ?hr ?hp (fun _ hk => hk) trivial (Below.refl _ _) (Nat.le_refl _) (by simp) ?_; (case hd => rfl); (case hg => rfl); (case hr => first | (go_simp; done) | (go_simp; rfl)); (case hp => exact (Reps.one (show Kd.M (Kd.int .u8) _ _ _ ((wrap64 (48 + (Int.tmod x0_1 10))) % 256) [.int .u8 ((wrap64 (48 + (Int.tmod x0_1 10))) % 256)] from rfl) (Reps.none _ _))); intro v490 w5 ho6 hb hg_ hnew_; clear hg_ hnew_; (first | rw [← Ny489.out] at ho6 | (simp only [Int.reduceToNat] at ho6; rw [← Ny489.out] at ho6)); have n0_ := Aside0.mk (Kd.R_lower ho6 (below_size (by repeat (first | (with_reducible first | exact HB.out | apply below_alloc | apply pw_below_drewN | apply below_drew1) | exact HB.out)))); have n1_ := Aside0.mk (below_step (by repeat (first | (with_reducible first | exact HB.out | apply below_alloc | apply pw_below_drewN | apply below_drew1) | exact HB.out)) hb); clear HB; have HO491 := n0_; have HB := n1_; clear n0_ n1_; clear hb ho6; have hcv7 := own_string (P := Try.prog) Try.underlying65 Try.underlying5 Try.underlying9 (Kd.own_of_R HO491.out)))
            go_roundg k1
            case measure => have := HK1.out; omega
            case rel => exact ⟨(wrap64 (Int.tdiv x0_1 10)), ((strOfNums y489) ++ x3_1), (by first | rfl | (simp; done) | (simp [*]; done)), (by first | rfl | (simp; done) | (simp [*]; done)), H', ⟨by have := HK1.out; omega⟩, ⟨by repeat (first | (with_reducible first | exact HB.out | apply below_alloc | apply pw_below_drewN | apply below_drew1) | exact HB.out)⟩⟩
          · rw [if_neg c4] at H
            exact absurd H (by simp)
        · rw [if_neg c3] at H
          have c3b0 : decide (0 < x0_1) = false := decide_eq_false c3
          clear c3
          by_cases c8 : 1 + x3_1.size ≤ 9223372036854775807
          · rw [if_pos c8] at H
            have c8b0 := eq_true c8
            have c8b1 : decide (1 + x3_1.size ≤ 9223372036854775807) = true := decide_eq_true c8
            try have c8b2 : (9223372036854775807 < 1 + x3_1.size) = False := eq_false (Nat.not_lt.2 c8)
            obtain rfl := Option.some.inj H
            go_wp2
            go_ret
            exact ⟨by first | rfl | (simp [errW_none, errW_some] <;> rfl) | (simp [*, errW_none, errW_some] <;> rfl), by repeat (first | (with_reducible first | exact HB.out | apply below_alloc | apply pw_below_drewN | apply below_drew1) | exact HB.out)⟩
          · rw [if_neg c8] at H
            exact absurd H (by simp)

theorem Ev.one {α : Type} {g : Nat → Option α} {r r' : α} (h : Ev g r) (h' : Ev g r') : r = r' := by
  obtain ⟨K, h⟩ := h
  obtain ⟨K', h'⟩ := h'
  have a := h (max K K') (by omega)
  have b := h' (max K K') (by omega)
  rw [a] at b
  exact Option.some.inj b
/-- A mark's text is there, whatever the number (its signs are few). -/
theorem laws_markText.ex {n : Int} (h : n ≤ 1152921504606846976) : ∃ t, Ev (fun k => laws_markText.f k n) t := by
  unfold laws_markText.f
  by_cases h0 : n ≤ 0
  · exact ⟨_, Ev.yes h0 (Ev.now _)⟩
  · have key : ∀ (d : Nat) (x : Int) (t : ByteArray), 0 ≤ x → x ≤ 1152921504606846976 → x < 2 ^ d → t.size + d ≤ 1000 → ∃ r, Ev (fun k => laws_markText.l0 k x t) r := by
      intro d
      induction d with
      | zero =>
        intro x t hx hb hd ht
        have e : Ev (fun k => laws_markText.l0 (k + 1) x t) ((⟨#[109]⟩ : ByteArray) ++ t) := by
          simp only [laws_markText.l0]
          exact Ev.no (by omega) (Ev.yes (by omega) (Ev.now _))
        exact ⟨_, Ev.up e⟩
      | succ d ih =>
        intro x t hx hb hd ht
        by_cases hp : x > 0
        · have hq : Int.tdiv x 10 = x / 10 := Int.tdiv_eq_ediv_of_nonneg hx
          have hd' : x < 2 * 2 ^ d := by rw [Int.pow_succ] at hd; omega
          have hs : (strOfNums [(wrap64 (48 + (Int.tmod x 10))) % 256]).size = 1 := strOfNums_size _
          obtain ⟨r, hr⟩ := ih (x / 10) (strOfNums [(wrap64 (48 + (Int.tmod x 10))) % 256] ++ t) (by omega) (by omega) (by omega) (by rw [ByteArray.size_append, hs]; omega)
          refine ⟨r, Ev.up ?_⟩
          simp only [laws_markText.l0, Option.bind_some, hq]
          have hw : wrap64 (x / 10) = x / 10 := unw (by omega) (by omega)
          rw [hw]
          exact Ev.yes hp (Ev.yes (by omega) hr)
        · have e : Ev (fun k => laws_markText.l0 (k + 1) x t) ((⟨#[109]⟩ : ByteArray) ++ t) := by
            simp only [laws_markText.l0]
            exact Ev.no hp (Ev.yes (by omega) (Ev.now _))
          exact ⟨_, Ev.up e⟩
    obtain ⟨r, hr⟩ := key 61 n ⟨#[]⟩ (by omega) h (by omega) (by decide)
    exact ⟨r, Ev.no h0 hr⟩

theorem laws_markText.does {n : Int} (h : n ≤ 1152921504606846976) : ∃ t, ∀ W : World, Calls Try.prog 66 #[.int .i64 n] W fun e w' => e = .returned (.string t) ∧ Below W.heap.size W w' := by
  obtain ⟨t, ht⟩ := laws_markText.ex h
  obtain ⟨k, hk⟩ := ht.rounds
  exact ⟨t, fun W => laws_markText.calls k _ _ W hk⟩

/-! ### laws_markStringS: marks, printed by markwalk.py -/
set_option maxHeartbeats 4000000 in
set_option maxRecDepth 100000 in
theorem laws_markStringS.marks {B : Nat} {a w : World} {P : Nat → Prop} {H : Nat → Nat → Prop} {A : Option Addr} {n c : Nat} {x : Int} (hR : Rw w B P H 9 1 (fun _ => True) A n) (hn : n ≤ 1048576) (h0 : 0 ≤ x) (h1 : x ≤ 100000000000000) (e0 : Mk B a w P H) :
    Calls Try.prog 67 #[.slice A n c, .int .i64 x] e0.now fun r W => ∃ m : Int, r = .returned (.int .i64 m) ∧ (∃ e : Mk B a w P H, W = e.now) ∧ 0 ≤ m ∧ m ≤ x + 1 * n := by
  have HR := Aside0.mk hR
  have HX := Aside0.mk (And.intro h0 h1)
  clear hR h0 h1
  have hn' : (n : Int) ≤ 1048576 := by omega
  go_enter Try.func67, Try.ntmps67
  go_wp2
  go_loopg [1, 5] n (fun g v1 v5 w' => ∃ (i : Int) (y : Int) (e : Mk B a w P H), v1 = .int .i64 y ∧ v5 = .int .i64 i ∧ w' = e.now ∧ 0 ≤ i ∧ i ≤ n ∧ Aside0 ((n : Int) - i ≤ g) ∧ Aside0 (0 ≤ y ∧ y ≤ x + 1 * i))
  case atStart => exact ⟨0, x, e0, rfl, rfl, rfl, Int.le_refl _, by omega, ⟨by omega⟩, ⟨HX.out.1, by omega⟩⟩
  case round =>
    obtain ⟨i, y, e, rfl, rfl, rfl, hi0, hi1, HG, HY⟩ := hrel
    by_cases c1 : i < (n : Int)
    · obtain ⟨g, hA, hC, hF, hS⟩ := HR.out.open_ (a := a) (i := i.toNat) (by omega)
      subst hA
      have HC := Aside0.mk hC
      have HF := Aside0.mk hF
      have HS := Aside0.mk hS
      clear hC hF hS
      have hy0 : 0 ≤ y ∧ y ≤ 200000000000000 := by have := HY.out; have := HX.out; omega
      have HWy_1 := Aside0.mk (show wrap64 (y + 1) = y + 1 from unw (by omega) (by omega))
      obtain ⟨t0, ht0⟩ := laws_markText.does (n := y) (by omega)
      have HT0 := Aside0.mk ht0
      clear ht0
      clear hy0
      go_wp2_with (first | ((with_reducible refine gate_callee (f := 66) rfl ?_); refine goesL_ (some 15) rfl rfl Try.func66 (by kernel_rfl) rfl #[.int .i64 (y)] rfl (by (try simp only [List.map_toArray, List.map_cons, List.map_nil]); first | done | rfl) ?_; refine (HT0.out _).mono ?_; rintro _ w9 ⟨rfl, hb⟩; obtain ⟨e1, rfl⟩ := e.next hb; clear hb; refine ⟨_, rfl, ?_⟩; obtain ⟨u0, hu0⟩ := HC.out 0 (by decide) e1; have hf0 := HF.out (i.toNat * 1 + 0) e1; simp only [Nat.mul_one, Nat.add_zero] at hu0 hf0) | ((with_reducible refine gate_store (t := 9) (p := 16) rfl ?_); refine store_event (t := 9) (p := 16) (v := ?vo_w0) (w1 := (e1.now.setCell ⟨g, i.toNat, none⟩ (.string t0))) ?hg ?ho ?hn ?hr ?_; (case ho => rfl); (case hg => rfl); (case hn => rfl); (case hr => first | (go_simp; done) | (go_simp; rfl)); intro w9 hw; obtain ⟨e2, he9⟩ := HS.out 0 (by decide) (by trivial) e1 (.string t0); (try simp only [Nat.mul_one, Nat.add_zero] at he9); rw [he9] at hw; subst hw; clear he9 hu0 hf0; skip))
      go_roundg (n - i.toNat - 1)
      case measure => have := HG.out; omega
      case rel => exact ⟨i + 1, wrap64 (y + 1), e2, rfl, rfl, rfl, by omega, by omega, ⟨by omega⟩, ⟨by have := HY.out; have := HX.out; have := HWy_1.out; constructor <;> omega⟩⟩
    · have hi : i = n := by omega
      go_wp2
      go_ret
      exact ⟨y, rfl, ⟨e, rfl⟩, HY.out.1, by have := HY.out.2; rw [hi] at this; omega⟩

/-! ### laws_markTxS: marks, printed by markwalk.py -/
set_option maxHeartbeats 4000000 in
set_option maxRecDepth 100000 in
theorem laws_markTxS.marks {B : Nat} {a w : World} {P : Nat → Prop} {H : Nat → Nat → Prop} {A : Option Addr} {n c : Nat} {x : Int} (hR : Rw w B P H 120 5 (fun _ => True) A n) (hn : n ≤ 1048576) (h0 : 0 ≤ x) (h1 : x ≤ 100000000000000) (e0 : Mk B a w P H) :
    Calls Try.prog 68 #[.slice A n c, .int .i64 x] e0.now fun r W => ∃ m : Int, r = .returned (.int .i64 m) ∧ (∃ e : Mk B a w P H, W = e.now) ∧ 0 ≤ m ∧ m ≤ x + 5 * n := by
  have HR := Aside0.mk hR
  have HX := Aside0.mk (And.intro h0 h1)
  clear hR h0 h1
  have hn' : (n : Int) ≤ 1048576 := by omega
  go_enter Try.func68, Try.ntmps68
  go_wp2
  go_loopg [1, 5] n (fun g v1 v5 w' => ∃ (i : Int) (y : Int) (e : Mk B a w P H), v1 = .int .i64 y ∧ v5 = .int .i64 i ∧ w' = e.now ∧ 0 ≤ i ∧ i ≤ n ∧ Aside0 ((n : Int) - i ≤ g) ∧ Aside0 (0 ≤ y ∧ y ≤ x + 5 * i))
  case atStart => exact ⟨0, x, e0, rfl, rfl, rfl, Int.le_refl _, by omega, ⟨by omega⟩, ⟨HX.out.1, by omega⟩⟩
  case round =>
    obtain ⟨i, y, e, rfl, rfl, rfl, hi0, hi1, HG, HY⟩ := hrel
    by_cases c1 : i < (n : Int)
    · obtain ⟨g, hA, hC, hF, hS⟩ := HR.out.open_ (a := a) (i := i.toNat) (by omega)
      subst hA
      have HC := Aside0.mk hC
      have HF := Aside0.mk hF
      have HS := Aside0.mk hS
      clear hC hF hS
      have hy0 : 0 ≤ y ∧ y ≤ 200000000000000 := by have := HY.out; have := HX.out; omega
      have HWy_1 := Aside0.mk (show wrap64 (y + 1) = y + 1 from unw (by omega) (by omega))
      have HWy_2 := Aside0.mk (show wrap64 (wrap64 (y + 1) + 1) = y + 2 from (congrArg (fun q : Int => wrap64 (q + 1)) HWy_1.out).trans (by show wrap64 (y + 1 + 1) = _; rw [unw (by omega) (by omega)]; omega))
      have HWy_3 := Aside0.mk (show wrap64 (wrap64 (wrap64 (y + 1) + 1) + 1) = y + 3 from (congrArg (fun q : Int => wrap64 (q + 1)) HWy_2.out).trans (by show wrap64 (y + 2 + 1) = _; rw [unw (by omega) (by omega)]; omega))
      have HWy_4 := Aside0.mk (show wrap64 (wrap64 (wrap64 (wrap64 (y + 1) + 1) + 1) + 1) = y + 4 from (congrArg (fun q : Int => wrap64 (q + 1)) HWy_3.out).trans (by show wrap64 (y + 3 + 1) = _; rw [unw (by omega) (by omega)]; omega))
      have HWy_5 := Aside0.mk (show wrap64 (wrap64 (wrap64 (wrap64 (wrap64 (y + 1) + 1) + 1) + 1) + 1) = y + 5 from (congrArg (fun q : Int => wrap64 (q + 1)) HWy_4.out).trans (by show wrap64 (y + 4 + 1) = _; rw [unw (by omega) (by omega)]; omega))
      obtain ⟨t1, ht1⟩ := laws_markText.does (n := wrap64 (y + 1)) (by have := HWy_1.out; omega)
      have HT1 := Aside0.mk ht1
      clear ht1
      obtain ⟨t2, ht2⟩ := laws_markText.does (n := wrap64 (wrap64 (y + 1) + 1)) (by have := HWy_2.out; omega)
      have HT2 := Aside0.mk ht2
      clear ht2
      clear hy0
      obtain ⟨u0, hu0⟩ := HC.out 0 (by decide) e
      have hf0 := HF.out (i.toNat * 5 + 0) e
      simp only [Nat.add_zero] at hu0 hf0
      go_wp2_with (first | ((with_reducible refine gate_store (t := 3) (p := 16) rfl ?_); refine store_event (t := 3) (p := 16) (v := ?vo_w0) (w1 := (e.now.setCell ⟨g, i.toNat * 5, none⟩ (.int .i64 (y)))) ?hg ?ho ?hn ?hr ?_; (case ho => rfl); (case hg => rfl); (case hn => rfl); (case hr => first | (go_simp; done) | (go_simp; rfl)); intro w9 hw; obtain ⟨e1, he9⟩ := HS.out 0 (by decide) (by trivial) e (.int .i64 (y)); (try simp only [Nat.mul_one, Nat.add_zero] at he9); rw [he9] at hw; subst hw; clear he9 hu0 hf0; skip) | ((with_reducible refine gate_callee (f := 66) rfl ?_); refine goesL_ (some 22) rfl rfl Try.func66 (by kernel_rfl) rfl #[.int .i64 (wrap64 (y + 1))] rfl (by (try simp only [List.map_toArray, List.map_cons, List.map_nil]); first | done | rfl) ?_; refine (HT1.out _).mono ?_; rintro _ w9 ⟨rfl, hb⟩; obtain ⟨e2, rfl⟩ := e1.next hb; clear hb; refine ⟨_, rfl, ?_⟩; obtain ⟨u1, hu1⟩ := HC.out 1 (by decide) e2; have hf1 := HF.out (i.toNat * 5 + 1) e2) | ((with_reducible refine gate_store (t := 9) (p := 24) rfl ?_); refine store_event (t := 9) (p := 24) (v := ?vo_w1) (w1 := (e2.now.setCell ⟨g, i.toNat * 5 + 1, none⟩ (.string t1))) ?hg ?ho ?hn ?hr ?_; (case ho => rfl); (case hg => rfl); (case hn => rfl); (case hr => first | (go_simp; done) | (go_simp; rfl)); intro w9 hw; obtain ⟨e3, he9⟩ := HS.out 1 (by decide) (by trivial) e2 (.string t1); (try simp only [Nat.mul_one, Nat.add_zero] at he9); rw [he9] at hw; subst hw; clear he9 hu1 hf1; skip) | ((with_reducible refine gate_callee (f := 66) rfl ?_); refine goesL_ (some 30) rfl rfl Try.func66 (by kernel_rfl) rfl #[.int .i64 (wrap64 (wrap64 (y + 1) + 1))] rfl (by (try simp only [List.map_toArray, List.map_cons, List.map_nil]); first | done | rfl) ?_; refine (HT2.out _).mono ?_; rintro _ w9 ⟨rfl, hb⟩; obtain ⟨e4, rfl⟩ := e3.next hb; clear hb; refine ⟨_, rfl, ?_⟩; obtain ⟨u2, hu2⟩ := HC.out 2 (by decide) e4; have hf2 := HF.out (i.toNat * 5 + 2) e4) | ((with_reducible refine gate_store (t := 9) (p := 32) rfl ?_); refine store_event (t := 9) (p := 32) (v := ?vo_w2) (w1 := (e4.now.setCell ⟨g, i.toNat * 5 + 2, none⟩ (.string t2))) ?hg ?ho ?hn ?hr ?_; (case ho => rfl); (case hg => rfl); (case hn => rfl); (case hr => first | (go_simp; done) | (go_simp; rfl)); intro w9 hw; obtain ⟨e5, he9⟩ := HS.out 2 (by decide) (by trivial) e4 (.string t2); (try simp only [Nat.mul_one, Nat.add_zero] at he9); rw [he9] at hw; subst hw; clear he9 hu2 hf2; obtain ⟨u3, hu3⟩ := HC.out 3 (by decide) e5; have hf3 := HF.out (i.toNat * 5 + 3) e5) | ((with_reducible refine gate_store (t := 3) (p := 39) rfl ?_); refine store_event (t := 3) (p := 39) (v := ?vo_w3) (w1 := (e5.now.setCell ⟨g, i.toNat * 5 + 3, none⟩ (.int .i64 (wrap64 (wrap64 (wrap64 (y + 1) + 1) + 1))))) ?hg ?ho ?hn ?hr ?_; (case ho => rfl); (case hg => rfl); (case hn => rfl); (case hr => first | (go_simp; done) | (go_simp; rfl)); intro w9 hw; obtain ⟨e6, he9⟩ := HS.out 3 (by decide) (by trivial) e5 (.int .i64 (wrap64 (wrap64 (wrap64 (y + 1) + 1) + 1))); (try simp only [Nat.mul_one, Nat.add_zero] at he9); rw [he9] at hw; subst hw; clear he9 hu3 hf3; obtain ⟨u4, hu4⟩ := HC.out 4 (by decide) e6; have hf4 := HF.out (i.toNat * 5 + 4) e6) | ((with_reducible refine gate_store (t := 3) (p := 46) rfl ?_); refine store_event (t := 3) (p := 46) (v := ?vo_w4) (w1 := (e6.now.setCell ⟨g, i.toNat * 5 + 4, none⟩ (.int .i64 (wrap64 (wrap64 (wrap64 (wrap64 (y + 1) + 1) + 1) + 1))))) ?hg ?ho ?hn ?hr ?_; (case ho => rfl); (case hg => rfl); (case hn => rfl); (case hr => first | (go_simp; done) | (go_simp; rfl)); intro w9 hw; obtain ⟨e7, he9⟩ := HS.out 4 (by decide) (by trivial) e6 (.int .i64 (wrap64 (wrap64 (wrap64 (wrap64 (y + 1) + 1) + 1) + 1))); (try simp only [Nat.mul_one, Nat.add_zero] at he9); rw [he9] at hw; subst hw; clear he9 hu4 hf4; skip))
      go_roundg (n - i.toNat - 1)
      case measure => have := HG.out; omega
      case rel => exact ⟨i + 1, wrap64 (wrap64 (wrap64 (wrap64 (wrap64 (y + 1) + 1) + 1) + 1) + 1), e7, rfl, rfl, rfl, by omega, by omega, ⟨by omega⟩, ⟨by have := HY.out; have := HX.out; have := HWy_5.out; constructor <;> omega⟩⟩
    · have hi : i = n := by omega
      go_wp2
      go_ret
      exact ⟨y, rfl, ⟨e, rfl⟩, HY.out.1, by have := HY.out.2; rw [hi] at this; omega⟩

/-! ### laws_markValS: marks, printed by markwalk.py -/
set_option maxHeartbeats 4000000 in
set_option maxRecDepth 100000 in
theorem laws_markValS.marks {B : Nat} {a w : World} {P : Nat → Prop} {H : Nat → Nat → Prop} {A : Option Addr} {n c : Nat} {x : Int} (hR : Rw w B P H 122 2 (fun _ => True) A n) (hn : n ≤ 1048576) (h0 : 0 ≤ x) (h1 : x ≤ 100000000000000) (e0 : Mk B a w P H) :
    Calls Try.prog 69 #[.slice A n c, .int .i64 x] e0.now fun r W => ∃ m : Int, r = .returned (.int .i64 m) ∧ (∃ e : Mk B a w P H, W = e.now) ∧ 0 ≤ m ∧ m ≤ x + 2 * n := by
  have HR := Aside0.mk hR
  have HX := Aside0.mk (And.intro h0 h1)
  clear hR h0 h1
  have hn' : (n : Int) ≤ 1048576 := by omega
  go_enter Try.func69, Try.ntmps69
  go_wp2
  go_loopg [1, 5] n (fun g v1 v5 w' => ∃ (i : Int) (y : Int) (e : Mk B a w P H), v1 = .int .i64 y ∧ v5 = .int .i64 i ∧ w' = e.now ∧ 0 ≤ i ∧ i ≤ n ∧ Aside0 ((n : Int) - i ≤ g) ∧ Aside0 (0 ≤ y ∧ y ≤ x + 2 * i))
  case atStart => exact ⟨0, x, e0, rfl, rfl, rfl, Int.le_refl _, by omega, ⟨by omega⟩, ⟨HX.out.1, by omega⟩⟩
  case round =>
    obtain ⟨i, y, e, rfl, rfl, rfl, hi0, hi1, HG, HY⟩ := hrel
    by_cases c1 : i < (n : Int)
    · obtain ⟨g, hA, hC, hF, hS⟩ := HR.out.open_ (a := a) (i := i.toNat) (by omega)
      subst hA
      have HC := Aside0.mk hC
      have HF := Aside0.mk hF
      have HS := Aside0.mk hS
      clear hC hF hS
      have hy0 : 0 ≤ y ∧ y ≤ 200000000000000 := by have := HY.out; have := HX.out; omega
      have HWy_1 := Aside0.mk (show wrap64 (y + 1) = y + 1 from unw (by omega) (by omega))
      have HWy_2 := Aside0.mk (show wrap64 (wrap64 (y + 1) + 1) = y + 2 from (congrArg (fun q : Int => wrap64 (q + 1)) HWy_1.out).trans (by show wrap64 (y + 1 + 1) = _; rw [unw (by omega) (by omega)]; omega))
      obtain ⟨t0, ht0⟩ := laws_markText.does (n := y) (by omega)
      have HT0 := Aside0.mk ht0
      clear ht0
      clear hy0
      go_wp2_with (first | ((with_reducible refine gate_callee (f := 66) rfl ?_); refine goesL_ (some 15) rfl rfl Try.func66 (by kernel_rfl) rfl #[.int .i64 (y)] rfl (by (try simp only [List.map_toArray, List.map_cons, List.map_nil]); first | done | rfl) ?_; refine (HT0.out _).mono ?_; rintro _ w9 ⟨rfl, hb⟩; obtain ⟨e1, rfl⟩ := e.next hb; clear hb; refine ⟨_, rfl, ?_⟩; obtain ⟨u0, hu0⟩ := HC.out 0 (by decide) e1; have hf0 := HF.out (i.toNat * 2 + 0) e1; simp only [Nat.add_zero] at hu0 hf0) | ((with_reducible refine gate_store (t := 9) (p := 17) rfl ?_); refine store_event (t := 9) (p := 17) (v := ?vo_w0) (w1 := (e1.now.setCell ⟨g, i.toNat * 2, none⟩ (.string t0))) ?hg ?ho ?hn ?hr ?_; (case ho => rfl); (case hg => rfl); (case hn => rfl); (case hr => first | (go_simp; done) | (go_simp; rfl)); intro w9 hw; obtain ⟨e2, he9⟩ := HS.out 0 (by decide) (by trivial) e1 (.string t0); (try simp only [Nat.mul_one, Nat.add_zero] at he9); rw [he9] at hw; subst hw; clear he9 hu0 hf0; obtain ⟨u1, hu1⟩ := HC.out 1 (by decide) e2; have hf1 := HF.out (i.toNat * 2 + 1) e2) | ((with_reducible refine gate_store (t := 3) (p := 24) rfl ?_); refine store_event (t := 3) (p := 24) (v := ?vo_w1) (w1 := (e2.now.setCell ⟨g, i.toNat * 2 + 1, none⟩ (.int .i64 (wrap64 (y + 1))))) ?hg ?ho ?hn ?hr ?_; (case ho => rfl); (case hg => rfl); (case hn => rfl); (case hr => first | (go_simp; done) | (go_simp; rfl)); intro w9 hw; obtain ⟨e3, he9⟩ := HS.out 1 (by decide) (by trivial) e2 (.int .i64 (wrap64 (y + 1))); (try simp only [Nat.mul_one, Nat.add_zero] at he9); rw [he9] at hw; subst hw; clear he9 hu1 hf1; skip))
      go_roundg (n - i.toNat - 1)
      case measure => have := HG.out; omega
      case rel => exact ⟨i + 1, wrap64 (wrap64 (y + 1) + 1), e3, rfl, rfl, rfl, by omega, by omega, ⟨by omega⟩, ⟨by have := HY.out; have := HX.out; have := HWy_2.out; constructor <;> omega⟩⟩
    · have hi : i = n := by omega
      go_wp2
      go_ret
      exact ⟨y, rfl, ⟨e, rfl⟩, HY.out.1, by have := HY.out.2; rw [hi] at this; omega⟩

/-! ### laws_markBlockS: walked by markwalk.py -/

/-! ### laws_markBlockS: marks, printed by markwalk.py -/
set_option maxHeartbeats 4000000 in
set_option maxRecDepth 100000 in
theorem laws_markBlockS.keeps {xs : List S59} {v : Value} {a w : World} {ok : Nat → Prop} (hR : k59.R 59 w a.heap.size ok v xs) (hb : Below a.heap.size a w) (hn : xs.length ≤ 1048576) (hl : ∀ y ∈ xs, y.f4.f2.length ≤ 1048576 ∧ y.f5.f1.length ≤ 1048576 ∧ y.f5.f2.length ≤ 1048576 ∧ y.f6.length ≤ 1048576 ∧ y.f8.length ≤ 1048576) {x : Int} (h0 : 0 ≤ x) (h1 : x ≤ 1000000000) :
    Calls Try.prog 28 #[v, .int .i64 x] w fun r W => ∃ m : Int, r = .returned (.int .i64 m) ∧ 0 ≤ m ∧ m ≤ x + 10485823 * xs.length ∧ Below a.heap.size a W ∧ Kept w W ok := by
  obtain ⟨A, c, rfl⟩ := Kd.R_slice hR
  have hlt : ∀ g i : Nat, (A = some ⟨g, 0, none⟩ ∧ (i % 14 = 6 ∨ i % 14 = 8 ∨ i % 14 = 9 ∨ i % 14 = 10 ∨ i % 14 = 12)) → g < w.heap.size := fun g i h => Kd.R_lt hR g (by rw [h.1]; rfl)
  have hty : ∀ (g i : Nat), (A = some ⟨g, 0, none⟩ ∧ (i % 14 = 6 ∨ i % 14 = 8 ∨ i % 14 = 9 ∨ i % 14 = 10 ∨ i % 14 = 12)) → ∃ cells, w.heap[g]? = some (.cells cells 59 (0, 0)) := fun g i h => Kd.R_typed hR g (by rw [h.1]; rfl)
  obtain ⟨e0, he0⟩ : ∃ e : Mk a.heap.size a w ok (fun g i => A = some ⟨g, 0, none⟩ ∧ (i % 14 = 6 ∨ i % 14 = 8 ∨ i % 14 = 9 ∨ i % 14 = 10 ∨ i % 14 = 12)), w = e.now := ⟨Mk.start (Nat.le_refl _) hlt hb, rfl⟩
  have HR := Aside0.mk (show Rw w a.heap.size ok (fun g i => A = some ⟨g, 0, none⟩ ∧ (i % 14 = 6 ∨ i % 14 = 8 ∨ i % 14 = 9 ∨ i % 14 = 10 ∨ i % 14 = 12)) 59 14 (fun j => j ≠ 6 ∧ j ≠ 8 ∧ j ≠ 9 ∧ j ≠ 10 ∧ j ≠ 12) A xs.length from Rw.of_R (P := ok) (H := fun g i => A = some ⟨g, 0, none⟩ ∧ (i % 14 = 6 ∨ i % 14 = 8 ∨ i % 14 = 9 ∨ i % 14 = 10 ∨ i % 14 = 12)) (F := fun j => j ≠ 6 ∧ j ≠ 8 ∧ j ≠ 9 ∧ j ≠ 10 ∧ j ≠ 12) (B := a.heap.size) z59 hR (by decide) (fun _ h => h) (Nat.le_refl _) (fun g _ i j _ hj hF hH => by
    have hj' : j < 14 := hj
    have h := hH.2
    rw [show (k59).sz = 14 from rfl] at h
    omega))
  have HD6 := Aside0.mk (fun (i : Nat) (hi : i < xs.length) (g : Nat) (hA : A = some ⟨g, 0, none⟩) => show ∃ (D : Option Addr) (m d : Nat), w.cell? ⟨g, i * 14 + 6, none⟩ = some (.slice D m d) ∧ m ≤ 1048576 ∧ Rw w a.heap.size ok (fun g i => A = some ⟨g, 0, none⟩ ∧ (i % 14 = 6 ∨ i % 14 = 8 ∨ i % 14 = 9 ∨ i % 14 = 10 ∨ i % 14 = 12)) 9 1 (fun _ => True) D m from by
    have hR2 := hR
    rw [hA] at hR2
    obtain ⟨cc, _, hM, hcc, _⟩ := Kd.R_elem hR2 z59 (i : Int) (by omega) (by omega)
    obtain ⟨v6, v8, v9, v10, v12, rfl, g6, g8, g9, g10, g12⟩ := k59_openM hM
    obtain ⟨D, d, rfl⟩ := Kd.R_slice g6
    refine ⟨D, _, d, hcc 6 _ rfl, (hl _ (getD_mem hi z59)).1, show Rw w a.heap.size ok (fun g i => A = some ⟨g, 0, none⟩ ∧ (i % 14 = 6 ∨ i % 14 = 8 ∨ i % 14 = 9 ∨ i % 14 = 10 ∨ i % 14 = 12)) 9 1 (fun _ => True) D _ from Rw.of_R (d := Kd.string) ByteArray.empty g6 (by decide) (fun _ h => h.1) (Nat.le_refl _) (fun g2 hc2 i2 j2 _ _ _ hH => ?_)⟩
    obtain ⟨cs2, hc2⟩ := hc2
    obtain ⟨cells, hc⟩ := hty g2 _ hH
    rw [hc] at hc2
    injection hc2 with hc2
    injection hc2 with _ ht _
    exact absurd ht (by decide))
  have HD8 := Aside0.mk (fun (i : Nat) (hi : i < xs.length) (g : Nat) (hA : A = some ⟨g, 0, none⟩) => show ∃ (D : Option Addr) (m d : Nat), w.cell? ⟨g, i * 14 + 8, none⟩ = some (.slice D m d) ∧ m ≤ 1048576 ∧ Rw w a.heap.size ok (fun g i => A = some ⟨g, 0, none⟩ ∧ (i % 14 = 6 ∨ i % 14 = 8 ∨ i % 14 = 9 ∨ i % 14 = 10 ∨ i % 14 = 12)) 9 1 (fun _ => True) D m from by
    have hR2 := hR
    rw [hA] at hR2
    obtain ⟨cc, _, hM, hcc, _⟩ := Kd.R_elem hR2 z59 (i : Int) (by omega) (by omega)
    obtain ⟨v6, v8, v9, v10, v12, rfl, g6, g8, g9, g10, g12⟩ := k59_openM hM
    obtain ⟨D, d, rfl⟩ := Kd.R_slice g8
    refine ⟨D, _, d, hcc 8 _ rfl, (hl _ (getD_mem hi z59)).2.1, show Rw w a.heap.size ok (fun g i => A = some ⟨g, 0, none⟩ ∧ (i % 14 = 6 ∨ i % 14 = 8 ∨ i % 14 = 9 ∨ i % 14 = 10 ∨ i % 14 = 12)) 9 1 (fun _ => True) D _ from Rw.of_R (d := Kd.string) ByteArray.empty g8 (by decide) (fun _ h => h.1) (Nat.le_refl _) (fun g2 hc2 i2 j2 _ _ _ hH => ?_)⟩
    obtain ⟨cs2, hc2⟩ := hc2
    obtain ⟨cells, hc⟩ := hty g2 _ hH
    rw [hc] at hc2
    injection hc2 with hc2
    injection hc2 with _ ht _
    exact absurd ht (by decide))
  have HD9 := Aside0.mk (fun (i : Nat) (hi : i < xs.length) (g : Nat) (hA : A = some ⟨g, 0, none⟩) => show ∃ (D : Option Addr) (m d : Nat), w.cell? ⟨g, i * 14 + 9, none⟩ = some (.slice D m d) ∧ m ≤ 1048576 ∧ Rw w a.heap.size ok (fun g i => A = some ⟨g, 0, none⟩ ∧ (i % 14 = 6 ∨ i % 14 = 8 ∨ i % 14 = 9 ∨ i % 14 = 10 ∨ i % 14 = 12)) 3 1 (fun _ => True) D m from by
    have hR2 := hR
    rw [hA] at hR2
    obtain ⟨cc, _, hM, hcc, _⟩ := Kd.R_elem hR2 z59 (i : Int) (by omega) (by omega)
    obtain ⟨v6, v8, v9, v10, v12, rfl, g6, g8, g9, g10, g12⟩ := k59_openM hM
    obtain ⟨D, d, rfl⟩ := Kd.R_slice g9
    refine ⟨D, _, d, hcc 9 _ rfl, (hl _ (getD_mem hi z59)).2.2.1, show Rw w a.heap.size ok (fun g i => A = some ⟨g, 0, none⟩ ∧ (i % 14 = 6 ∨ i % 14 = 8 ∨ i % 14 = 9 ∨ i % 14 = 10 ∨ i % 14 = 12)) 3 1 (fun _ => True) D _ from Rw.of_R (d := (Kd.int .i64)) (0 : Int) g9 (by decide) (fun _ h => h.1) (Nat.le_refl _) (fun g2 hc2 i2 j2 _ _ _ hH => ?_)⟩
    obtain ⟨cs2, hc2⟩ := hc2
    obtain ⟨cells, hc⟩ := hty g2 _ hH
    rw [hc] at hc2
    injection hc2 with hc2
    injection hc2 with _ ht _
    exact absurd ht (by decide))
  have HD10 := Aside0.mk (fun (i : Nat) (hi : i < xs.length) (g : Nat) (hA : A = some ⟨g, 0, none⟩) => show ∃ (D : Option Addr) (m d : Nat), w.cell? ⟨g, i * 14 + 10, none⟩ = some (.slice D m d) ∧ m ≤ 1048576 ∧ Rw w a.heap.size ok (fun g i => A = some ⟨g, 0, none⟩ ∧ (i % 14 = 6 ∨ i % 14 = 8 ∨ i % 14 = 9 ∨ i % 14 = 10 ∨ i % 14 = 12)) 120 5 (fun _ => True) D m from by
    have hR2 := hR
    rw [hA] at hR2
    obtain ⟨cc, _, hM, hcc, _⟩ := Kd.R_elem hR2 z59 (i : Int) (by omega) (by omega)
    obtain ⟨v6, v8, v9, v10, v12, rfl, g6, g8, g9, g10, g12⟩ := k59_openM hM
    obtain ⟨D, d, rfl⟩ := Kd.R_slice g10
    refine ⟨D, _, d, hcc 10 _ rfl, (hl _ (getD_mem hi z59)).2.2.2.1, show Rw w a.heap.size ok (fun g i => A = some ⟨g, 0, none⟩ ∧ (i % 14 = 6 ∨ i % 14 = 8 ∨ i % 14 = 9 ∨ i % 14 = 10 ∨ i % 14 = 12)) 120 5 (fun _ => True) D _ from Rw.of_R (d := k120) z120 g10 (by decide) (fun _ h => h.1) (Nat.le_refl _) (fun g2 hc2 i2 j2 _ _ _ hH => ?_)⟩
    obtain ⟨cs2, hc2⟩ := hc2
    obtain ⟨cells, hc⟩ := hty g2 _ hH
    rw [hc] at hc2
    injection hc2 with hc2
    injection hc2 with _ ht _
    exact absurd ht (by decide))
  have HD12 := Aside0.mk (fun (i : Nat) (hi : i < xs.length) (g : Nat) (hA : A = some ⟨g, 0, none⟩) => show ∃ (D : Option Addr) (m d : Nat), w.cell? ⟨g, i * 14 + 12, none⟩ = some (.slice D m d) ∧ m ≤ 1048576 ∧ Rw w a.heap.size ok (fun g i => A = some ⟨g, 0, none⟩ ∧ (i % 14 = 6 ∨ i % 14 = 8 ∨ i % 14 = 9 ∨ i % 14 = 10 ∨ i % 14 = 12)) 122 2 (fun _ => True) D m from by
    have hR2 := hR
    rw [hA] at hR2
    obtain ⟨cc, _, hM, hcc, _⟩ := Kd.R_elem hR2 z59 (i : Int) (by omega) (by omega)
    obtain ⟨v6, v8, v9, v10, v12, rfl, g6, g8, g9, g10, g12⟩ := k59_openM hM
    obtain ⟨D, d, rfl⟩ := Kd.R_slice g12
    refine ⟨D, _, d, hcc 12 _ rfl, (hl _ (getD_mem hi z59)).2.2.2.2, show Rw w a.heap.size ok (fun g i => A = some ⟨g, 0, none⟩ ∧ (i % 14 = 6 ∨ i % 14 = 8 ∨ i % 14 = 9 ∨ i % 14 = 10 ∨ i % 14 = 12)) 122 2 (fun _ => True) D _ from Rw.of_R (d := k122) z122 g12 (by decide) (fun _ h => h.1) (Nat.le_refl _) (fun g2 hc2 i2 j2 _ _ _ hH => ?_)⟩
    obtain ⟨cs2, hc2⟩ := hc2
    obtain ⟨cells, hc⟩ := hty g2 _ hH
    rw [hc] at hc2
    injection hc2 with hc2
    injection hc2 with _ ht _
    exact absurd ht (by decide))
  have HX := Aside0.mk (And.intro h0 h1)
  have hsame : ∀ (e : Mk a.heap.size a w ok (fun g i => A = some ⟨g, 0, none⟩ ∧ (i % 14 = 6 ∨ i % 14 = 8 ∨ i % 14 = 9 ∨ i % 14 = 10 ∨ i % 14 = 12))) (g i j : Nat) (u : Value), A = some ⟨g, 0, none⟩ → (j = 6 ∨ j = 8 ∨ j = 9 ∨ j = 10 ∨ j = 12) → w.cell? ⟨g, i * 14 + j, none⟩ = some u → e.now.cell? ⟨g, i * 14 + j, none⟩ = some u := fun e g i j u hA hj h => (e.same g _ ⟨hA, by omega⟩).trans h
  have HS0 := Aside0.mk hsame
  clear hR hb hl h0 h1 hlt hty hsame
  suffices h : Calls Try.prog 28 #[.slice A xs.length c, .int .i64 x] w fun r W => ∃ m : Int, r = .returned (.int .i64 m) ∧ (∃ e : Mk a.heap.size a w ok (fun g i => A = some ⟨g, 0, none⟩ ∧ (i % 14 = 6 ∨ i % 14 = 8 ∨ i % 14 = 9 ∨ i % 14 = 10 ∨ i % 14 = 12)), W = e.now) ∧ 0 ≤ m ∧ m ≤ x + 10485823 * xs.length from h.mono fun r W ⟨m, hr, ⟨e, hW⟩, hm0, hm1⟩ => ⟨m, hr, hm0, hm1, by rw [hW]; exact e.ok, by rw [hW]; exact e.kept⟩
  generalize xs.length = n at *
  have hn' : (n : Int) ≤ 1048576 := by omega
  conv => arg 4; rw [he0]
  go_enter Try.func28, Try.ntmps28
  go_wp2
  go_loopg [1, 5] n (fun g v1 v5 w' => ∃ (i : Int) (y : Int) (e : Mk a.heap.size a w ok (fun g i => A = some ⟨g, 0, none⟩ ∧ (i % 14 = 6 ∨ i % 14 = 8 ∨ i % 14 = 9 ∨ i % 14 = 10 ∨ i % 14 = 12))), v1 = .int .i64 y ∧ v5 = .int .i64 i ∧ w' = e.now ∧ 0 ≤ i ∧ i ≤ n ∧ Aside0 ((n : Int) - i ≤ g) ∧ Aside0 (0 ≤ y ∧ y ≤ x + 10485823 * i))
  case atStart => exact ⟨0, x, e0, rfl, rfl, rfl, Int.le_refl _, by omega, ⟨by omega⟩, ⟨HX.out.1, by omega⟩⟩
  case round =>
    obtain ⟨i, y, e, rfl, rfl, rfl, hi0, hi1, HG, HY⟩ := hrel
    by_cases c1 : i < (n : Int)
    · obtain ⟨g, hA, hC, hF, hS⟩ := HR.out.open_ (a := a) (i := i.toNat) (by omega)
      obtain ⟨D6, m6, d6, hx6, hm6, hr6⟩ := HD6.out i.toNat (by omega) g hA
      obtain ⟨D8, m8, d8, hx8, hm8, hr8⟩ := HD8.out i.toNat (by omega) g hA
      obtain ⟨D9, m9, d9, hx9, hm9, hr9⟩ := HD9.out i.toNat (by omega) g hA
      obtain ⟨D10, m10, d10, hx10, hm10, hr10⟩ := HD10.out i.toNat (by omega) g hA
      obtain ⟨D12, m12, d12, hx12, hm12, hr12⟩ := HD12.out i.toNat (by omega) g hA
      have hx6 := fun e => HS0.out e g i.toNat 6 _ hA (by omega) hx6
      have HX6 := Aside0.mk hx6
      have HM6 := Aside0.mk hm6
      have HRR6 := Aside0.mk hr6
      clear hx6 hm6 hr6
      have hx8 := fun e => HS0.out e g i.toNat 8 _ hA (by omega) hx8
      have HX8 := Aside0.mk hx8
      have HM8 := Aside0.mk hm8
      have HRR8 := Aside0.mk hr8
      clear hx8 hm8 hr8
      have hx9 := fun e => HS0.out e g i.toNat 9 _ hA (by omega) hx9
      have HX9 := Aside0.mk hx9
      have HM9 := Aside0.mk hm9
      have HRR9 := Aside0.mk hr9
      clear hx9 hm9 hr9
      have hx10 := fun e => HS0.out e g i.toNat 10 _ hA (by omega) hx10
      have HX10 := Aside0.mk hx10
      have HM10 := Aside0.mk hm10
      have HRR10 := Aside0.mk hr10
      clear hx10 hm10 hr10
      have hx12 := fun e => HS0.out e g i.toNat 12 _ hA (by omega) hx12
      have HX12 := Aside0.mk hx12
      have HM12 := Aside0.mk hm12
      have HRR12 := Aside0.mk hr12
      clear hx12 hm12 hr12
      subst hA
      have HC := Aside0.mk hC
      have HF := Aside0.mk hF
      have HS := Aside0.mk hS
      clear hC hF hS
      have hy0 : 0 ≤ y ∧ y ≤ 50000000000000 := by have := HY.out; have := HX.out; omega
      have HWy_1 := Aside0.mk (show wrap64 (y + 1) = y + 1 from unw (by omega) (by omega))
      have HWy_2 := Aside0.mk (show wrap64 (wrap64 (y + 1) + 1) = y + 2 from (congrArg (fun q : Int => wrap64 (q + 1)) HWy_1.out).trans (by show wrap64 (y + 1 + 1) = _; rw [unw (by omega) (by omega)]; omega))
      have HWy_3 := Aside0.mk (show wrap64 (wrap64 (wrap64 (y + 1) + 1) + 1) = y + 3 from (congrArg (fun q : Int => wrap64 (q + 1)) HWy_2.out).trans (by show wrap64 (y + 2 + 1) = _; rw [unw (by omega) (by omega)]; omega))
      have HWy_4 := Aside0.mk (show wrap64 (wrap64 (wrap64 (wrap64 (y + 1) + 1) + 1) + 1) = y + 4 from (congrArg (fun q : Int => wrap64 (q + 1)) HWy_3.out).trans (by show wrap64 (y + 3 + 1) = _; rw [unw (by omega) (by omega)]; omega))
      have HWy_5 := Aside0.mk (show wrap64 (wrap64 (wrap64 (wrap64 (wrap64 (y + 1) + 1) + 1) + 1) + 1) = y + 5 from (congrArg (fun q : Int => wrap64 (q + 1)) HWy_4.out).trans (by show wrap64 (y + 4 + 1) = _; rw [unw (by omega) (by omega)]; omega))
      have HWy_6 := Aside0.mk (show wrap64 (wrap64 (wrap64 (wrap64 (wrap64 (wrap64 (y + 1) + 1) + 1) + 1) + 1) + 1) = y + 6 from (congrArg (fun q : Int => wrap64 (q + 1)) HWy_5.out).trans (by show wrap64 (y + 5 + 1) = _; rw [unw (by omega) (by omega)]; omega))
      obtain ⟨t3, ht3⟩ := laws_markText.does (n := wrap64 (wrap64 (wrap64 (y + 1) + 1) + 1)) (by have := HWy_3.out; omega)
      have HT3 := Aside0.mk ht3
      clear ht3
      clear hy0
      obtain ⟨u0, hu0⟩ := HC.out 0 (by decide) e
      have hf0 := HF.out (i.toNat * 14 + 0) e
      simp only [Nat.add_zero] at hu0 hf0
      have HY0 := Aside0.mk (show 0 ≤ y ∧ y ≤ 50000000000000 by have := HY.out; have := HX.out; omega)
      go_wp2_with (first | ((with_reducible refine gate_store (t := 3) (p := 16) rfl ?_); refine store_event (t := 3) (p := 16) (v := ?vo_w0) (w1 := (e.now.setCell ⟨g, i.toNat * 14, none⟩ (.int .i64 (y)))) ?hg ?ho ?hn ?hr ?_; (case ho => rfl); (case hg => rfl); (case hn => rfl); (case hr => first | (go_simp; done) | (go_simp; rfl)); intro w9 hw; obtain ⟨e1, he9⟩ := HS.out 0 (by decide) (by simp) e (.int .i64 (y)); (try simp only [Nat.mul_one, Nat.add_zero] at he9); rw [he9] at hw; subst hw; clear he9 hu0 hf0; obtain ⟨u1, hu1⟩ := HC.out 1 (by decide) e1; have hf1 := HF.out (i.toNat * 14 + 1) e1) | ((with_reducible refine gate_store (t := 3) (p := 23) rfl ?_); refine store_event (t := 3) (p := 23) (v := ?vo_w1) (w1 := (e1.now.setCell ⟨g, i.toNat * 14 + 1, none⟩ (.int .i64 (wrap64 (y + 1))))) ?hg ?ho ?hn ?hr ?_; (case ho => rfl); (case hg => rfl); (case hn => rfl); (case hr => first | (go_simp; done) | (go_simp; rfl)); intro w9 hw; obtain ⟨e2, he9⟩ := HS.out 1 (by decide) (by simp) e1 (.int .i64 (wrap64 (y + 1))); (try simp only [Nat.mul_one, Nat.add_zero] at he9); rw [he9] at hw; subst hw; clear he9 hu1 hf1; obtain ⟨u2, hu2⟩ := HC.out 2 (by decide) e2; have hf2 := HF.out (i.toNat * 14 + 2) e2) | ((with_reducible refine gate_store (t := 3) (p := 30) rfl ?_); refine store_event (t := 3) (p := 30) (v := ?vo_w2) (w1 := (e2.now.setCell ⟨g, i.toNat * 14 + 2, none⟩ (.int .i64 (wrap64 (wrap64 (y + 1) + 1))))) ?hg ?ho ?hn ?hr ?_; (case ho => rfl); (case hg => rfl); (case hn => rfl); (case hr => first | (go_simp; done) | (go_simp; rfl)); intro w9 hw; obtain ⟨e3, he9⟩ := HS.out 2 (by decide) (by simp) e2 (.int .i64 (wrap64 (wrap64 (y + 1) + 1))); (try simp only [Nat.mul_one, Nat.add_zero] at he9); rw [he9] at hw; subst hw; clear he9 hu2 hf2; skip) | ((with_reducible refine gate_callee (f := 66) rfl ?_); refine goesL_ (some 36) rfl rfl Try.func66 (by kernel_rfl) rfl #[.int .i64 (wrap64 (wrap64 (wrap64 (y + 1) + 1) + 1))] rfl (by (try simp only [List.map_toArray, List.map_cons, List.map_nil]); first | done | rfl) ?_; refine (HT3.out _).mono ?_; rintro _ w9 ⟨rfl, hb⟩; obtain ⟨e4, rfl⟩ := e3.next hb; clear hb; refine ⟨_, rfl, ?_⟩; obtain ⟨u3, hu3⟩ := HC.out 3 (by decide) e4; have hf3 := HF.out (i.toNat * 14 + 3) e4) | ((with_reducible refine gate_store (t := 9) (p := 38) rfl ?_); refine store_event (t := 9) (p := 38) (v := ?vo_w3) (w1 := (e4.now.setCell ⟨g, i.toNat * 14 + 3, none⟩ (.string t3))) ?hg ?ho ?hn ?hr ?_; (case ho => rfl); (case hg => rfl); (case hn => rfl); (case hr => first | (go_simp; done) | (go_simp; rfl)); intro w9 hw; obtain ⟨e5, he9⟩ := HS.out 3 (by decide) (by simp) e4 (.string t3); (try simp only [Nat.mul_one, Nat.add_zero] at he9); rw [he9] at hw; subst hw; clear he9 hu3 hf3; obtain ⟨u4, hu4⟩ := HC.out 4 (by decide) e5; have hf4 := HF.out (i.toNat * 14 + 4) e5) | ((with_reducible refine gate_store (t := 3) (p := 46) rfl ?_); refine store_event (t := 3) (p := 46) (v := ?vo_w4) (w1 := (e5.now.setCell ⟨g, i.toNat * 14 + 4, none⟩ (.int .i64 (wrap64 (wrap64 (wrap64 (wrap64 (y + 1) + 1) + 1) + 1))))) ?hg ?ho ?hn ?hr ?_; (case ho => rfl); (case hg => rfl); (case hn => rfl); (case hr => first | (go_simp; done) | (go_simp; rfl)); intro w9 hw; obtain ⟨e6, he9⟩ := HS.out 4 (by decide) (by simp) e5 (.int .i64 (wrap64 (wrap64 (wrap64 (wrap64 (y + 1) + 1) + 1) + 1))); (try simp only [Nat.mul_one, Nat.add_zero] at he9); rw [he9] at hw; subst hw; clear he9 hu4 hf4; obtain ⟨u5, hu5⟩ := HC.out 5 (by decide) e6; have hf5 := HF.out (i.toNat * 14 + 5) e6) | ((with_reducible refine gate_store (t := 3) (p := 54) rfl ?_); refine store_event (t := 3) (p := 54) (v := ?vo_w5) (w1 := (e6.now.setCell ⟨g, i.toNat * 14 + 5, none⟩ (.int .i64 (wrap64 (wrap64 (wrap64 (wrap64 (wrap64 (y + 1) + 1) + 1) + 1) + 1))))) ?hg ?ho ?hn ?hr ?_; (case ho => rfl); (case hg => rfl); (case hn => rfl); (case hr => first | (go_simp; done) | (go_simp; rfl)); intro w9 hw; obtain ⟨e7, he9⟩ := HS.out 5 (by decide) (by simp) e6 (.int .i64 (wrap64 (wrap64 (wrap64 (wrap64 (wrap64 (y + 1) + 1) + 1) + 1) + 1))); (try simp only [Nat.mul_one, Nat.add_zero] at he9); rw [he9] at hw; subst hw; clear he9 hu5 hf5; have hz6 := HX6.out e7) | ((with_reducible refine gate_callee (f := 67) rfl ?_); refine goesL_ (some 64) rfl rfl Try.func67 (by kernel_rfl) rfl #[.slice D6 m6 d6, .int .i64 (wrap64 (wrap64 (wrap64 (wrap64 (wrap64 (wrap64 (y + 1) + 1) + 1) + 1) + 1) + 1))] rfl (by (try simp only [List.map_toArray, List.map_cons, List.map_nil]); first | done | rfl) ?_; refine (laws_markStringS.marks (x := wrap64 (wrap64 (wrap64 (wrap64 (wrap64 (wrap64 (y + 1) + 1) + 1) + 1) + 1) + 1)) HRR6.out HM6.out (by have := HY0.out; have := HY0.out; have := HWy_6.out; omega) (by have := HY0.out; have := HY0.out; have := HWy_6.out; omega) e7).mono ?_; rintro _ _ ⟨k6, rfl, ⟨e8, rfl⟩, hk0, hk1⟩; refine ⟨_, rfl, ?_⟩; have HK6 := Aside0.mk (show 0 ≤ k6 ∧ k6 ≤ y + 1048585 by have := HM6.out; have := HY0.out; have := HWy_6.out; omega); clear hk0 hk1 hz6; have hy0 : 0 ≤ k6 ∧ k6 ≤ 100000000000000 := (by have := HK6.out; have := HY0.out; omega); have HWk6_1 := Aside0.mk (show wrap64 (k6 + 1) = k6 + 1 from unw (by omega) (by omega)); clear hy0; obtain ⟨u7, hu7⟩ := HC.out 7 (by decide) e8; have hf7 := HF.out (i.toNat * 14 + 7) e8) | ((with_reducible refine gate_store (t := 3) (p := 70) rfl ?_); refine store_event (t := 3) (p := 70) (v := ?vo_w7) (w1 := (e8.now.setCell ⟨g, i.toNat * 14 + 7, none⟩ (.int .i64 (k6)))) ?hg ?ho ?hn ?hr ?_; (case ho => rfl); (case hg => rfl); (case hn => rfl); (case hr => first | (go_simp; done) | (go_simp; rfl)); intro w9 hw; obtain ⟨e9, he9⟩ := HS.out 7 (by decide) (by simp) e8 (.int .i64 (k6)); (try simp only [Nat.mul_one, Nat.add_zero] at he9); rw [he9] at hw; subst hw; clear he9 hu7 hf7; have hz8 := HX8.out e9) | ((with_reducible refine gate_callee (f := 67) rfl ?_); refine goesL_ (some 80) rfl rfl Try.func67 (by kernel_rfl) rfl #[.slice D8 m8 d8, .int .i64 (wrap64 (k6 + 1))] rfl (by (try simp only [List.map_toArray, List.map_cons, List.map_nil]); first | done | rfl) ?_; refine (laws_markStringS.marks (x := wrap64 (k6 + 1)) HRR8.out HM8.out (by have := HY0.out; have := HK6.out; have := HWk6_1.out; omega) (by have := HY0.out; have := HK6.out; have := HWk6_1.out; omega) e9).mono ?_; rintro _ _ ⟨k8, rfl, ⟨e10, rfl⟩, hk0, hk1⟩; refine ⟨_, rfl, ?_⟩; have HK8 := Aside0.mk (show 0 ≤ k8 ∧ k8 ≤ y + 2097170 by have := HM8.out; have := HK6.out; have := HWk6_1.out; omega); clear hk0 hk1 hz8; have hy0 : 0 ≤ k8 ∧ k8 ≤ 100000000000000 := (by have := HK8.out; have := HY0.out; omega); skip; clear hy0; have hz9 := HX9.out e10) | ((with_reducible refine gate_callee (f := 29) rfl ?_); refine goesL_ (some 88) rfl rfl Try.func29 (by kernel_rfl) rfl #[.slice D9 m9 d9, .int .i64 (k8)] rfl (by (try simp only [List.map_toArray, List.map_cons, List.map_nil]); first | done | rfl) ?_; refine (laws_markIntS.marks (x := k8) HRR9.out HM9.out (by have := HY0.out; have := HK8.out; omega) (by have := HY0.out; have := HK8.out; omega) e10).mono ?_; rintro _ _ ⟨k9, rfl, ⟨e11, rfl⟩, hk0, hk1⟩; refine ⟨_, rfl, ?_⟩; have HK9 := Aside0.mk (show 0 ≤ k9 ∧ k9 ≤ y + 3145755 by have := HM9.out; have := HK8.out; omega); clear hk0 hk1 hz9; have hy0 : 0 ≤ k9 ∧ k9 ≤ 100000000000000 := (by have := HK9.out; have := HY0.out; omega); skip; clear hy0; have hz10 := HX10.out e11) | ((with_reducible refine gate_callee (f := 68) rfl ?_); refine goesL_ (some 95) rfl rfl Try.func68 (by kernel_rfl) rfl #[.slice D10 m10 d10, .int .i64 (k9)] rfl (by (try simp only [List.map_toArray, List.map_cons, List.map_nil]); first | done | rfl) ?_; refine (laws_markTxS.marks (x := k9) HRR10.out HM10.out (by have := HY0.out; have := HK9.out; omega) (by have := HY0.out; have := HK9.out; omega) e11).mono ?_; rintro _ _ ⟨k10, rfl, ⟨e12, rfl⟩, hk0, hk1⟩; refine ⟨_, rfl, ?_⟩; have HK10 := Aside0.mk (show 0 ≤ k10 ∧ k10 ≤ y + 8388644 by have := HM10.out; have := HK9.out; omega); clear hk0 hk1 hz10; have hy0 : 0 ≤ k10 ∧ k10 ≤ 100000000000000 := (by have := HK10.out; have := HY0.out; omega); have HWk10_1 := Aside0.mk (show wrap64 (k10 + 1) = k10 + 1 from unw (by omega) (by omega)); clear hy0; obtain ⟨u11, hu11⟩ := HC.out 11 (by decide) e12; have hf11 := HF.out (i.toNat * 14 + 11) e12) | ((with_reducible refine gate_store (t := 4) (p := 102) rfl ?_); refine store_event (t := 4) (p := 102) (v := ?vo_w11) (w1 := (e12.now.setCell ⟨g, i.toNat * 14 + 11, none⟩ (.bool (Int.tmod (k10) 3 == 0)))) ?hg ?ho ?hn ?hr ?_; (case ho => rfl); (case hg => rfl); (case hn => rfl); (case hr => first | (go_simp; done) | (go_simp; rfl)); intro w9 hw; obtain ⟨e13, he9⟩ := HS.out 11 (by decide) (by simp) e12 (.bool (Int.tmod (k10) 3 == 0)); (try simp only [Nat.mul_one, Nat.add_zero] at he9); rw [he9] at hw; subst hw; clear he9 hu11 hf11; have hz12 := HX12.out e13) | ((with_reducible refine gate_callee (f := 69) rfl ?_); refine goesL_ (some 111) rfl rfl Try.func69 (by kernel_rfl) rfl #[.slice D12 m12 d12, .int .i64 (wrap64 (k10 + 1))] rfl (by (try simp only [List.map_toArray, List.map_cons, List.map_nil]); first | done | rfl) ?_; refine (laws_markValS.marks (x := wrap64 (k10 + 1)) HRR12.out HM12.out (by have := HY0.out; have := HK10.out; have := HWk10_1.out; omega) (by have := HY0.out; have := HK10.out; have := HWk10_1.out; omega) e13).mono ?_; rintro _ _ ⟨k12, rfl, ⟨e14, rfl⟩, hk0, hk1⟩; refine ⟨_, rfl, ?_⟩; have HK12 := Aside0.mk (show 0 ≤ k12 ∧ k12 ≤ y + 10485805 by have := HM12.out; have := HK10.out; have := HWk10_1.out; omega); clear hk0 hk1 hz12; have hy0 : 0 ≤ k12 ∧ k12 ≤ 100000000000000 := (by have := HK12.out; have := HY0.out; omega); have HWk12_1 := Aside0.mk (show wrap64 (k12 + 1) = k12 + 1 from unw (by omega) (by omega)); obtain ⟨t13, ht13⟩ := laws_markText.does (n := k12) (by omega); have HT13 := Aside0.mk ht13; clear ht13; clear hy0; skip) | ((with_reducible refine gate_callee (f := 66) rfl ?_); refine goesL_ (some 115) rfl rfl Try.func66 (by kernel_rfl) rfl #[.int .i64 (k12)] rfl (by (try simp only [List.map_toArray, List.map_cons, List.map_nil]); first | done | rfl) ?_; refine (HT13.out _).mono ?_; rintro _ w9 ⟨rfl, hb⟩; obtain ⟨e15, rfl⟩ := e14.next hb; clear hb; refine ⟨_, rfl, ?_⟩; obtain ⟨u13, hu13⟩ := HC.out 13 (by decide) e15; have hf13 := HF.out (i.toNat * 14 + 13) e15) | ((with_reducible refine gate_store (t := 9) (p := 117) rfl ?_); refine store_event (t := 9) (p := 117) (v := ?vo_w13) (w1 := (e15.now.setCell ⟨g, i.toNat * 14 + 13, none⟩ (.string t13))) ?hg ?ho ?hn ?hr ?_; (case ho => rfl); (case hg => rfl); (case hn => rfl); (case hr => first | (go_simp; done) | (go_simp; rfl)); intro w9 hw; obtain ⟨e16, he9⟩ := HS.out 13 (by decide) (by simp) e15 (.string t13); (try simp only [Nat.mul_one, Nat.add_zero] at he9); rw [he9] at hw; subst hw; clear he9 hu13 hf13; skip))
      go_roundg (n - i.toNat - 1)
      case measure => have := HG.out; omega
      case rel => exact ⟨i + 1, wrap64 (k12 + 1), e16, rfl, rfl, rfl, by omega, by omega, ⟨by omega⟩, ⟨by have := HY.out; have := HX.out; have := HK6.out; have := HK8.out; have := HK9.out; have := HK10.out; have := HK12.out; have := HWk12_1.out; constructor <;> omega⟩⟩
    · have hi : i = n := by omega
      go_wp2
      go_ret
      exact ⟨y, rfl, ⟨e, rfl⟩, HY.out.1, by have := HY.out.2; rw [hi] at this; omega⟩

/-! ### laws_heldIntS: function 30 -/
def laws_heldIntS.l0 : Nat → List Int → Int → Int → Option (Int)
  | 0, _, _, _ => none
  | k + 1, x0, x1, x5 => if x5 < (x0.length : Int) then (if 0 ≤ x5 then (if (rd x0 x5) = x1 then (laws_heldIntS.l0 k x0 (wrap64 (x1 + 1)) (wrap64 (x5 + 1))) else (some (-1))) else (none)) else (some x1)
def laws_heldIntS.f (k : Nat) (l0 : List Int) (a1 : Int) : Option (Int) := laws_heldIntS.l0 k l0 a1 0
theorem laws_heldIntS.mono_l : ∀ k, (∀ y0 y1 y2, LeO (laws_heldIntS.l0 k y0 y1 y2) (laws_heldIntS.l0 (k + 1) y0 y1 y2))
  | 0 => fun _ _ _ r h => by simp [laws_heldIntS.l0] at h
  | k + 1 => by
    have ih0 := laws_heldIntS.mono_l k
    · intro y0 y1 y2
      unfold laws_heldIntS.l0
      repeat' first
      | (with_reducible exact ih0 _ _ _)
      | (with_reducible exact LeO.refl _)
      | (with_reducible exact LeO.none _)
      | (with_reducible refine LeO.ite ?_ ?_)
      | (with_reducible refine LeO.bind ?_ (fun _ => ?_))
      | exact ih0 _ _ _
      | exact LeO.none _
      | refine LeO.ite ?_ ?_
      | refine LeO.bind ?_ (fun _ => ?_)
theorem laws_heldIntS.mono : ∀ a0 a1 k, LeO (laws_heldIntS.f k a0 a1) (laws_heldIntS.f (k + 1) a0 a1) := by
  intro a0 a1 k
  have ih0 := laws_heldIntS.mono_l k
  unfold laws_heldIntS.f
  repeat' first
      | (with_reducible exact ih0 _ _ _)
      | (with_reducible exact LeO.refl _)
      | (with_reducible exact LeO.none _)
      | (with_reducible refine LeO.ite ?_ ?_)
      | (with_reducible refine LeO.bind ?_ (fun _ => ?_))
      | exact ih0 _ _ _
      | exact LeO.none _
      | refine LeO.ite ?_ ?_
      | refine LeO.bind ?_ (fun _ => ?_)
set_option maxHeartbeats 8000000 in
set_option maxRecDepth 100000 in
theorem laws_heldIntS.calls (k : Nat) (A0 : Option Addr) (c0 : Nat) (l0 : List Int) (a1 : Int) (r : Int) (w : World) (hr0 : Kd.C (Kd.int .i64) w A0 l0.length l0) (hc0 : l0.length ≤ c0) (h : laws_heldIntS.f k l0 a1 = some r) :
    Calls Try.prog 30 #[.slice A0 l0.length c0, .int .i64 a1] w fun e w' => e = .returned (.int .i64 r) ∧ Drawn0 w w' := by
  have HR0 := Aside0.mk hr0
  have HC0 := Aside0.mk hc0
  clear hr0 hc0
  have H : (laws_heldIntS.l0 k l0 a1 0) = some r := h
  clear h
  have H' := Aside0.mk H
  clear H
  go_enter Try.func30, Try.ntmps30
  go_wp2
  go_loopg [1, 5] k (fun kq v1 v5 w' => ∃ (x1_1 : Int) (x5_1 : Int), v1 = .int .i64 x1_1 ∧ v5 = .int .i64 x5_1 ∧ Aside0 (laws_heldIntS.l0 kq l0 x1_1 x5_1 = some r) ∧ Aside0 (kq ≤ k) ∧ Drawn0 w w')
  case atStart => exact ⟨(a1), (0), (by first | rfl | (simp; done) | (simp [*]; done)), (by first | rfl | (simp; done) | (simp [*]; done)), H', ⟨Nat.le_refl _⟩, by repeat (first | exact Drawn0.refl _ | apply Drawn0.step)⟩
  case round =>
    clear H'
    try clear p2
    obtain ⟨x1_1, x5_1, rfl, rfl, HA, HK1, ⟨m1, rfl⟩⟩ := hrel
    cases gk with
    | zero => exact absurd HA.out (by simp [laws_heldIntS.l0])
    | succ k1 =>
      have H := HA.out
      clear HA
      simp only [laws_heldIntS.l0] at H
      by_cases c3 : x5_1 < (l0.length : Int)
      · rw [if_pos c3] at H
        have c3b0 : decide (x5_1 < (l0.length : Int)) = true := decide_eq_true c3
        clear c3
        by_cases c4 : 0 ≤ x5_1
        · rw [if_pos c4] at H
          have c4b0 : decide (0 ≤ x5_1) = true := decide_eq_true c4
          clear c4
          by_cases c5 : (rd l0 x5_1) = x1_1
          · rw [if_pos c5] at H
            have c5b0 : ((rd l0 x5_1) == x1_1) = true := beq_iff_eq.mpr c5
            have c5b1 : ((rd l0 x5_1) != x1_1) = false := bne_eq_false_iff_eq.mpr c5
            clear c5
            have H' := Aside0.mk H
            clear H
            have p504 : 0 ≤ (x5_1 : Int) := of_decide_eq_true (by first | (with_reducible assumption) | assumption)
            have q504 : x5_1 < (l0.length : Int) := of_decide_eq_true (by first | (with_reducible assumption) | assumption)
            obtain ⟨ad504, e504, hx504_0⟩ := Kd.at_int HR0.out x5_1 p504 q504
            cases e504
            replace p504 := eq_true p504
            replace q504 := eq_true q504
            go_wp2
            go_roundg k1
            case measure => have := HK1.out; omega
            case rel => exact ⟨(wrap64 (x1_1 + 1)), (wrap64 (x5_1 + 1)), (by first | rfl | (simp; done) | (simp [*]; done)), (by first | rfl | (simp; done) | (simp [*]; done)), H', ⟨by have := HK1.out; omega⟩, by repeat (first | exact Drawn0.refl _ | apply Drawn0.step)⟩
          · rw [if_neg c5] at H
            have c5b0 : ((rd l0 x5_1) == x1_1) = false := beq_eq_false_iff_ne.mpr c5
            have c5b1 : ((rd l0 x5_1) != x1_1) = true := bne_iff_ne.mpr c5
            obtain rfl := Option.some.inj H
            have p504 : 0 ≤ (x5_1 : Int) := of_decide_eq_true (by first | (with_reducible assumption) | assumption)
            have q504 : x5_1 < (l0.length : Int) := of_decide_eq_true (by first | (with_reducible assumption) | assumption)
            obtain ⟨ad504, e504, hx504_0⟩ := Kd.at_int HR0.out x5_1 p504 q504
            cases e504
            replace p504 := eq_true p504
            replace q504 := eq_true q504
            go_wp2
            go_ret
            exact ⟨by first | rfl | (simp; done) | (simp [*]; done), by repeat (first | exact Drawn0.refl _ | apply Drawn0.step)⟩
        · rw [if_neg c4] at H
          exact absurd H (by simp)
      · rw [if_neg c3] at H
        have c3b0 : decide (x5_1 < (l0.length : Int)) = false := decide_eq_false c3
        clear c3
        obtain rfl := Option.some.inj H
        go_wp2
        go_ret
        exact ⟨by first | rfl | (simp; done) | (simp [*]; done), by repeat (first | exact Drawn0.refl _ | apply Drawn0.step)⟩

theorem laws_heldIntS.ex {l : List Int} {n : Int} (hl : l.length ≤ 9223372036854775) (h0 : 0 ≤ n) (h1 : n ≤ 1000000000000) (h : ∀ j, j < l.length → l.getD j 0 = n + (j : Int)) : Ev (fun k => laws_heldIntS.f k l n) (n + (l.length : Int)) := by
  unfold laws_heldIntS.f
  have key : ∀ (m i : Nat), i + m = l.length → Ev (fun k => laws_heldIntS.l0 k l (n + (i : Int)) (i : Int)) (n + (l.length : Int)) := by
    intro m
    induction m with
    | zero =>
      intro i hi
      obtain rfl : i = l.length := by omega
      refine Ev.up ?_
      simp only [laws_heldIntS.l0]
      exact Ev.no (by omega) (Ev.now _)
    | succ m ih =>
      intro i hi
      have e := ih (i + 1) (by omega)
      have hrd : rd l (i : Int) = n + (i : Int) := h i (by omega)
      refine Ev.up ?_
      simp only [laws_heldIntS.l0, hrd]
      rw [unw (x := (i : Int) + 1) (by omega) (by omega), unw (x := n + (i : Int) + 1) (by omega) (by omega)]
      refine Ev.yes (by omega) (Ev.yes (by omega) (Ev.yes (by first | rfl | trivial) ?_))
      rw [show n + (i : Int) + 1 = n + ((i + 1 : Nat) : Int) by omega]
      exact e
  have := key l.length 0 (by omega)
  simpa using this

end Go.Proofs.Ytnldeeefiidcaaa.F
