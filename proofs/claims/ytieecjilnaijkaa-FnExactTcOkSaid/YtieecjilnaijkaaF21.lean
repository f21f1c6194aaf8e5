/-
Functions of the program, what they come to, and that Go comes to just that: spec_l7In, slices_IndexFunc_impl_Val_impl_Val, slices_ContainsFunc_impl_Val_impl_Val, impl_isIn_1, impl_isIn, impl_allIn.
Conditions: those that each theorem names.
-/
import Derived.Test.YtieecjilnaijkaaFAbs
set_option linter.unusedVariables false
set_option linter.unusedSimpArgs false
namespace Go.Proofs.Ytieecjilnaijkaa.F
open Go.RowKit Go.Proofs.YtieecjilnaijkaaW.PrintWords Go.Proofs.YtieecjilnaijkaaW.PrintLast Go.Proofs.YtieecjilnaijkaaW.PrintMore Go.Proofs.Ytieecjilnaijkaa.Base Go.Proofs.Ytieecjilnaijkaa.BW
attribute [local go_sem] max2_int min2_int max_two min_two max_three min_three max_four min_four   -- for this text's walks alone

/-! ### spec_l7In: function 115 -/
def spec_l7In.l0 : Nat → List (S93) → ByteArray → Int → Option (Bool)
  | 0, _, _, _ => none
  | k + 1, x0, x1, x5 => if x5 < (x0.length : Int) then (if 0 ≤ x5 then (if ((rd_T93 x0 x5).f0).toList = x1.toList then (some true) else (spec_l7In.l0 k x0 x1 (wrap64 (x5 + 1)))) else (none)) else (some false)
def spec_l7In.f (k : Nat) (l0 : List (S93)) (a1 : ByteArray) : Option (Bool) := spec_l7In.l0 k l0 a1 0
theorem spec_l7In.mono_l : ∀ k, (∀ y0 y1 y2, LeO (spec_l7In.l0 k y0 y1 y2) (spec_l7In.l0 (k + 1) y0 y1 y2))
  | 0 => fun _ _ _ r h => by simp [spec_l7In.l0] at h
  | k + 1 => by
    have ih0 := spec_l7In.mono_l k
    · intro y0 y1 y2
      unfold spec_l7In.l0
      repeat' first
      | (with_reducible exact ih0 _ _ _)
      | (with_reducible exact LeO.refl _)
      | (with_reducible exact LeO.none _)
      | (with_reducible refine LeO.ite ?_ ?_)
      | (with_reducible refine LeO.bind ?_ (fun _ => ?_))
      | exact ih0 _ _ _
      | exact LeO.none _
      | refine LeO.ite ?_ ?_
      | refine LeO.bind ?_ (fun _ => ?_)
theorem spec_l7In.mono : ∀ a0 a1 k, LeO (spec_l7In.f k a0 a1) (spec_l7In.f (k + 1) a0 a1) := by
  intro a0 a1 k
  have ih0 := spec_l7In.mono_l k
  unfold spec_l7In.f
  repeat' first
      | (with_reducible exact ih0 _ _ _)
      | (with_reducible exact LeO.refl _)
      | (with_reducible exact LeO.none _)
      | (with_reducible refine LeO.ite ?_ ?_)
      | (with_reducible refine LeO.bind ?_ (fun _ => ?_))
      | exact ih0 _ _ _
      | exact LeO.none _
      | refine LeO.ite ?_ ?_
      | refine LeO.bind ?_ (fun _ => ?_)
set_option maxHeartbeats 8000000 in
set_option maxRecDepth 100000 in
theorem spec_l7In.calls (k : Nat) (A0 : Option Addr) (c0 : Nat) (l0 : List (S93)) (a1 : ByteArray) (r : Bool) (w : World) (hr0 : Kd.C k93 w A0 l0.length l0) (hc0 : l0.length ≤ c0) (h : spec_l7In.f k l0 a1 = some r) :
    Calls Try.prog 115 #[.slice A0 l0.length c0, .string a1] w fun e w' => e = .returned (.bool r) ∧ Drawn0 w w' := by
  have HR0 := Aside0.mk hr0
  have HC0 := Aside0.mk hc0
  clear hr0 hc0
  have H : (spec_l7In.l0 k l0 a1 0) = some r := h
  clear h
  have H' := Aside0.mk H
  clear H
  go_enter Try.func115, Try.ntmps115
  go_wp2
  go_loopg [5] k (fun kq v5 w' => ∃ (x5_1 : Int), v5 = .int .i64 x5_1 ∧ Aside0 (spec_l7In.l0 kq l0 a1 x5_1 = some r) ∧ Aside0 (kq ≤ k) ∧ Drawn0 w w')
  case atStart => exact ⟨(0), (by first | rfl | (simp; done) | (simp [*]; done)), H', ⟨Nat.le_refl _⟩, by repeat (first | exact Drawn0.refl _ | apply Drawn0.step)⟩
  case round =>
    clear H'
    try clear c1
    try clear p2
    obtain ⟨x5_1, rfl, HA, HK1, ⟨m1, rfl⟩⟩ := hrel
    cases gk with
    | zero => exact absurd HA.out (by simp [spec_l7In.l0])
    | succ k1 =>
      have H := HA.out
      clear HA
      simp only [spec_l7In.l0] at H
      by_cases c3 : x5_1 < (l0.length : Int)
      · rw [if_pos c3] at H
        have c3b0 : decide (x5_1 < (l0.length : Int)) = true := decide_eq_true c3
        clear c3
        by_cases c4 : 0 ≤ x5_1
        · rw [if_pos c4] at H
          have c4b0 : decide (0 ≤ x5_1) = true := decide_eq_true c4
          clear c4
          by_cases c5 : ((rd_T93 l0 x5_1).f0).toList = a1.toList
          · rw [if_pos c5] at H
            have c5b0 : (((rd_T93 l0 x5_1).f0).toList == a1.toList) = true := beq_iff_eq.mpr c5
            have c5b1 : (((rd_T93 l0 x5_1).f0).toList != a1.toList) = false := bne_eq_false_iff_eq.mpr c5
            clear c5
            obtain rfl := Option.some.inj H
            have p369 : 0 ≤ (x5_1 : Int) := of_decide_eq_true (by first | (with_reducible assumption) | assumption)
            have q369 : x5_1 < (l0.length : Int) := of_decide_eq_true (by first | (with_reducible assumption) | assumption)
            obtain ⟨ad369, e369, hx369_0, hx369_1⟩ := at_T93 HR0.out x5_1 p369 q369
            cases e369
            replace p369 := eq_true p369
            replace q369 := eq_true q369
            go_wp2
            go_ret
            exact ⟨by first | rfl | (simp; done) | (simp [*]; done), by repeat (first | exact Drawn0.refl _ | apply Drawn0.step)⟩
          · rw [if_neg c5] at H
            have c5b0 : (((rd_T93 l0 x5_1).f0).toList == a1.toList) = false := beq_eq_false_iff_ne.mpr c5
            have c5b1 : (((rd_T93 l0 x5_1).f0).toList != a1.toList) = true := bne_iff_ne.mpr c5
            have H' := Aside0.mk H
            clear H
            have p369 : 0 ≤ (x5_1 : Int) := of_decide_eq_true (by first | (with_reducible assumption) | assumption)
            have q369 : x5_1 < (l0.length : Int) := of_decide_eq_true (by first | (with_reducible assumption) | assumption)
            obtain ⟨ad369, e369, hx369_0, hx369_1⟩ := at_T93 HR0.out x5_1 p369 q369
            cases e369
            replace p369 := eq_true p369
            replace q369 := eq_true q369
            go_wp2
            go_roundg k1
            case measure => have := HK1.out; omega
            case rel => exact ⟨(wrap64 (x5_1 + 1)), (by first | rfl | (simp; done) | (simp [*]; done)), H', ⟨by have := HK1.out; omega⟩, by repeat (first | exact Drawn0.refl _ | apply Drawn0.step)⟩
        · rw [if_neg c4] at H
          exact absurd H (by simp)
      · rw [if_neg c3] at H
        have c3b0 : decide (x5_1 < (l0.length : Int)) = false := decide_eq_false c3
        clear c3
        obtain rfl := Option.some.inj H
        go_wp2
        go_ret
        exact ⟨by first | rfl | (simp; done) | (simp [*]; done), by repeat (first | exact Drawn0.refl _ | apply Drawn0.step)⟩

theorem spec_l7In.is {l : List S93} {s : ByteArray} (hl : l.length ≤ maxLen) : Ev (fun k => spec_l7In.f k l s) (isInB l s) := by
  have hm : maxLen = 9223372036854775807 := rfl
  unfold spec_l7In.f
  refine ev_loop (fun k (_ : Unit) i => spec_l7In.l0 k l s i) (fun ys _ => isInB ys s) (fun _ => ?_) (fun pre y ys _ hx ih => ?_) ()
  · simp only [spec_l7In.l0]
    exact Ev.no (by omega) (Ev.now _)
  · have hp := len_app hx
    have hrd : rd_T93 l pre.length = y := by rw [hx]; exact at_app pre y ys _
    simp only [spec_l7In.l0, hrd]
    refine Ev.yes (by omega) (Ev.yes (by omega) ?_)
    rw [unw (x := (pre.length : Int) + 1) (by omega) (by omega)]
    refine Ev.cond (fun hc => Ev.is (by simp [isInB, named, hc])) (fun hc => Ev.to (ih ()) (by simp [isInB, named, hc]))

/-! ### slices.IndexFunc of those who vote: walked in this session -/
set_option maxHeartbeats 1000000 in
set_option maxRecDepth 100000 in
theorem slices_IndexFunc_impl_Val_impl_Val.does {p : S93 → Bool} {f : Nat} {lb : Array Value} (eg : ∀ args w, (callFunc f args).run Try.prog w = .ok (.enter f args) w) {l : List S93} (hl : l.length ≤ maxLen) {B : Option Addr} {c : Nat} {w : World} (hr : Kd.C k93 w B l.length l) (hc : l.length ≤ c)
    (hp : ∀ (e : On w) (v : S93), Calls Try.prog f (#[.agg #[.string v.f0, .int .i64 v.f1]] ++ lb) e.now fun r W => r = .returned (.bool (p v)) ∧ Below e.now.heap.size e.now W) :
    Calls Try.prog 129 #[.slice B l.length c, .func (.func f) #[] lb] w fun e w' => e = .returned (.int .i64 (idxOf p l)) ∧ Below w.heap.size w w' := by
  have hn : (l.length : Int) ≤ 9223372036854775807 := by have : maxLen = 9223372036854775807 := rfl; omega
  have HR := Aside0.mk hr
  have HP := Aside0.mk hp
  clear hr hp hl
  go_enter Try.func129, Try.ntmps129
  go_wp2
  go_loopg [5, 8] l.length (fun g _ v8 w' => ∃ (i : Int) (e : On w), v8 = .int .i64 i ∧ w' = e.now ∧ 0 ≤ i ∧ i ≤ l.length ∧ Aside0 ((l.length : Int) - i ≤ g) ∧ Aside0 (∀ j, j < i.toNat → p (l.getD j z93) = false))
  case atStart => exact ⟨0, On.here w, rfl, rfl, Int.le_refl _, by omega, ⟨by omega⟩, ⟨fun j hj => absurd hj (by simp)⟩⟩
  case round =>
    obtain ⟨i, e, rfl, rfl, hi0, hi1, HG, HA⟩ := hrel
    by_cases c1 : i < (l.length : Int)
    · obtain ⟨ad, e1, h0, h1⟩ := at_T93 HR.out i hi0 c1
      cases e1
      have R0 := On.cell h0
      have R1 := On.cell h1
      clear h0 h1
      have E1 := Aside0.mk (fun e : On w => HP.out e (rd_T93 l i))
      cases hb1 : p (rd_T93 l i)
      · rw [hb1] at E1
        have HT : Aside0 (p (l.getD i.toNat z93) = false) := ⟨hb1⟩
        clear hb1
        go_wp2_with fail
        refine BW.call (E1.out _) (fun e2 => ?_)
        go_wp2
        go_roundg (l.length - i.toNat - 1)
        case measure => have := HG.out; omega
        case rel => exact ⟨i + 1, e2, rfl, rfl, by omega, by omega, ⟨by omega⟩, ⟨upto_next hi0 HA.out HT.out⟩⟩
      · rw [hb1] at E1
        have HF := Aside0.mk (idxOf_hit (z := z93) (i := i.toNat) (by omega) hb1 HA.out)
        clear hb1
        go_wp2_with fail
        refine BW.call (E1.out _) (fun e2 => ?_)
        go_wp2
        go_ret
        exact ⟨by rw [HF.out, Int.toNat_of_nonneg hi0]; rfl, e2.ok⟩
    · have HF := Aside0.mk (idxOf_miss (z := z93) (l := l) (fun j hj => HA.out j (by omega)))
      go_wp2
      go_ret
      exact ⟨by rw [HF.out]; rfl, e.ok⟩

/-! ### slices.ContainsFunc of those who vote: walked in this session -/
set_option maxHeartbeats 400000 in
theorem slices_ContainsFunc_impl_Val_impl_Val.does {p : S93 → Bool} {f : Nat} {lb : Array Value} (eg : ∀ args w, (callFunc f args).run Try.prog w = .ok (.enter f args) w) {l : List S93} (hl : l.length ≤ maxLen) {B : Option Addr} {c : Nat} {w : World} (hr : Kd.C k93 w B l.length l) (hc : l.length ≤ c)
    (hp : ∀ (e : On w) (v : S93), Calls Try.prog f (#[.agg #[.string v.f0, .int .i64 v.f1]] ++ lb) e.now fun r W => r = .returned (.bool (p v)) ∧ Below e.now.heap.size e.now W) :
    Calls Try.prog 125 #[.slice B l.length c, .func (.func f) #[] lb] w fun e w' => e = .returned (.bool (l.any p)) ∧ Below w.heap.size w w' := by
  have HI := Aside0.mk (slices_IndexFunc_impl_Val_impl_Val.does eg hl hr hc hp)
  have HF := Aside0.mk (idxOf_ge p l).2
  clear hr hp hl eg
  generalize idxOf p l = n at *
  go_enter Try.func125, Try.ntmps125
  go_wp2_with (go_at_call 129; refine HI.out.mono ?_; rintro e w' ⟨rfl, hb⟩)
  go_ret
  exact ⟨by rw [← HF.out]; rfl, hb⟩

/-! ### impl_isIn_1: walked in this session (the function value of isIn) -/
set_option maxHeartbeats 400000 in
theorem impl_isIn_1.does {v : S93} {g : Nat} {s : ByteArray} {w : World} (hs : w.cell? ⟨g, 0, none⟩ = some (.string s)) :
    Calls Try.prog 126 #[.agg #[.string v.f0, .int .i64 v.f1], .pointer (some ⟨g, 0, none⟩)] w fun e w' => e = .returned (.bool (named s v)) ∧ Below w.heap.size w w' := by
  have hb : g < w.heap.size := World.block_lt_of_cell? w _ hs
  have hne : g ≠ w.heap.size := by omega
  have HF : Aside0 ((v.f0.toList == s.toList) = named s v) := ⟨rfl⟩
  go_enter Try.func126, Try.ntmps126
  go_wp2
  go_ret
  exact ⟨by rw [← HF.out]; rfl, below_alloc (Below.refl _ _) _⟩

/-! ### impl_isIn: walked in this session -/
set_option maxHeartbeats 400000 in
theorem impl_isIn.does {l : List S93} (hl : l.length ≤ maxLen) {s : ByteArray} {B : Option Addr} {c : Nat} {w : World} (hr : Kd.C k93 w B l.length l) (hc : l.length ≤ c) :
    Calls Try.prog 118 #[.slice B l.length c, .string s] w fun e w' => e = .returned (.bool (isInB l s)) ∧ Below w.heap.size w w' := by
  have eg : ∀ args w, (callFunc 126 args).run Try.prog w = .ok (.enter 126 args) w := fun args w => enters_ Try.func126 (by kernel_rfl) rfl args w
  have N0 := On.new (e := On.here w) (cs := #[.string s]) (t := 9) (i := 0) rfl
  have HI := Aside0.mk (slices_ContainsFunc_impl_Val_impl_Val.does (p := named s) (lb := #[.pointer (some ⟨w.heap.size, 0, none⟩)]) eg hl (w := w.alloc (.cells #[.string s] 9)) (Kd.C_alloc hr _) hc (fun e v => impl_isIn_1.does (N0 e)))
  clear hr hl eg N0
  have HF : Aside0 (l.any (named s) = isInB l s) := ⟨rfl⟩
  generalize l.any (named s) = b at *
  go_enter Try.func118, Try.ntmps118
  go_wp2_with (go_at_call 125; refine HI.out.mono ?_; rintro e w' ⟨rfl, hb⟩)
  go_ret
  exact ⟨by rw [← HF.out]; rfl, below_then (below_alloc (Below.refl _ _) _) (by simp) hb⟩

/-! ### impl_allIn: walked in this session -/
set_option maxHeartbeats 1000000 in
set_option maxRecDepth 100000 in
theorem impl_allIn.does {l : List S93} {names : List ByteArray} (hl : l.length ≤ maxLen) (hn : names.length ≤ maxLen) {B D : Option Addr} {c d : Nat} {w : World} (hr : Kd.C k93 w B l.length l) (hc : l.length ≤ c) (hs : Kd.C Kd.string w D names.length names) (hd : names.length ≤ d) :
    Calls Try.prog 83 #[.slice B l.length c, .slice D names.length d] w fun e w' => e = .returned (.bool (allInB l names)) ∧ Below w.heap.size w w' := by
  have hn' : (names.length : Int) ≤ 9223372036854775807 := by have : maxLen = 9223372036854775807 := rfl; omega
  have HR := Aside0.mk hr
  have HS := Aside0.mk hs
  have HL := Aside0.mk hl
  clear hr hs hl hn
  go_enter Try.func83, Try.ntmps83
  go_wp2
  go_loopg [6, 9] names.length (fun g _ v9 w' => ∃ (i : Int) (e : On w), v9 = .int .i64 i ∧ w' = e.now ∧ 0 ≤ i ∧ i ≤ names.length ∧ Aside0 ((names.length : Int) - i ≤ g) ∧ Aside0 (∀ j, j < i.toNat → isInB l (names.getD j nought) = true))
  case atStart => exact ⟨0, On.here w, rfl, rfl, Int.le_refl _, by omega, ⟨by omega⟩, ⟨fun j hj => absurd hj (by simp)⟩⟩
  case round =>
    obtain ⟨i, e, rfl, rfl, hi0, hi1, HG, HA⟩ := hrel
    by_cases c1 : i < (names.length : Int)
    · obtain ⟨ad, e1, h0⟩ := Kd.at_string HS.out i hi0 c1
      cases e1
      have R0 := On.cell h0
      clear h0
      obtain ⟨s, hs⟩ : ∃ s, names.getD i.toNat nought = s := ⟨_, rfl⟩
      rw [show rdOf ByteArray.empty names i = s from hs] at R0
      have E1 := Aside0.mk (fun e : On w => impl_isIn.does (s := s) HL.out (On.row HR.out e) hc)
      have HT := Aside0.mk hs
      clear hs
      cases hb1 : isInB l s
      · rw [hb1] at E1
        have HF := Aside0.mk (allUpto_no (n := names.length) (p := fun i => isInB l (names.getD i nought)) (i := i.toNat) (by omega) (by show isInB l (names.getD i.toNat nought) = false; rw [HT.out]; exact hb1))
        clear hb1
        go_wp2_with (go_at_call 118; refine BW.call (E1.out _) (fun e2 => ?_))
        go_ret
        exact ⟨by rw [show allInB l names = false from HF.out]; rfl, e2.ok⟩
      · rw [hb1] at E1
        have HT2 : Aside0 (isInB l (names.getD i.toNat nought) = true) := ⟨by rw [HT.out]; exact hb1⟩
        clear hb1
        go_wp2_with (go_at_call 118; refine BW.call (E1.out _) (fun e2 => ?_))
        go_roundg (names.length - i.toNat - 1)
        case measure => have := HG.out; omega
        case rel => exact ⟨i + 1, e2, rfl, rfl, by omega, by omega, ⟨by omega⟩, ⟨upto_next hi0 HA.out HT2.out⟩⟩
    · have HF := Aside0.mk (allUpto_yes (n := names.length) (p := fun i => isInB l (names.getD i nought)) (fun j hj => HA.out j (by omega)))
      go_wp2
      go_ret
      exact ⟨by rw [show allInB l names = true from HF.out]; rfl, e.ok⟩

end Go.Proofs.Ytieecjilnaijkaa.F
