/-
Functions of the program, what they come to, and that Go comes to just that: slices_IndexFunc_impl_Val_impl_Val, slices_ContainsFunc_impl_Val_impl_Val, impl_isIn_1, impl_isIn, impl_allIn, spec_l7In, spec_l8All.
Conditions: those that each theorem names.
-/
import Derived.Test.YtadkhkpchankjaaFAbs
import Derived.Test.YtadkhkpchankjaaF24
import Derived.Test.YtadkhkpchankjaaFew
set_option linter.unusedVariables false
set_option linter.unusedSimpArgs false
namespace Go.Proofs.Ytadkhkpchankjaa.F
open Go.RowKit Go.Proofs.YtadkhkpchankjaaW.PrintWords Go.Proofs.YtadkhkpchankjaaW.PrintLast Go.Proofs.Ytadkhkpchankjaa.Base Go.Proofs.Ytadkhkpchankjaa.BW
open Go.Proofs.Ytadkhkpchankjaa.Few

/-! ### slices.IndexFunc of those who vote: walked in this session -/
set_option maxHeartbeats 1000000 in
set_option maxRecDepth 100000 in
theorem slices_IndexFunc_impl_Val_impl_Val.does {p : S138 → Bool} {f : Nat} {lb : Array Value} (eg : ∀ args w, (callFunc f args).run Try.prog w = .ok (.enter f args) w) {l : List S138} (hl : l.length ≤ maxLen) {B : Option Addr} {c : Nat} {w : World} (hr : Kd.C k138 w B l.length l) (hc : l.length ≤ c)
    (hp : ∀ (e : On w) (v : S138), Calls Try.prog f (#[.agg #[.string v.f0, .int .i64 v.f1]] ++ lb) e.now fun r W => r = .returned (.bool (p v)) ∧ Below e.now.heap.size e.now W) :
    Calls Try.prog 234 #[.slice B l.length c, .func (.func f) #[] lb] w fun e w' => e = .returned (.int .i64 (idxOf p l)) ∧ Below w.heap.size w w' := by
  have hn : (l.length : Int) ≤ 9223372036854775807 := by have : maxLen = 9223372036854775807 := rfl; omega
  have HR := Aside0.mk hr
  have HP := Aside0.mk hp
  clear hr hp hl
  go_enter Try.func234, Try.ntmps234
  go_wp2
  go_loopg [5, 8] l.length (fun g _ v8 w' => ∃ (i : Int) (e : On w), v8 = .int .i64 i ∧ w' = e.now ∧ 0 ≤ i ∧ i ≤ l.length ∧ Aside0 ((l.length : Int) - i ≤ g) ∧ Aside0 (∀ j, j < i.toNat → p (l.getD j z138) = false))
  case atStart => exact ⟨0, On.here w, rfl, rfl, Int.le_refl _, by omega, ⟨by omega⟩, ⟨fun j hj => absurd hj (by simp)⟩⟩
  case round =>
    obtain ⟨i, e, rfl, rfl, hi0, hi1, HG, HA⟩ := hrel
    by_cases c1 : i < (l.length : Int)
    · obtain ⟨ad, e1, h0, h1⟩ := at_T138 HR.out i hi0 c1
      cases e1
      have R0 := On.cell h0
      have R1 := On.cell h1
      clear h0 h1
      have E1 := Aside0.mk (fun e : On w => HP.out e (rd_T138 l i))
      cases hb1 : p (rd_T138 l i)
      · rw [hb1] at E1
        have HT : Aside0 (p (l.getD i.toNat z138) = false) := ⟨hb1⟩
        clear hb1
        go_wp2_with fail
        refine BW.call (E1.out _) (fun e2 => ?_)
        go_wp2
        go_roundg (l.length - i.toNat - 1)
        case measure => have := HG.out; omega
        case rel => exact ⟨i + 1, e2, rfl, rfl, by omega, by omega, ⟨by omega⟩, ⟨upto_next hi0 HA.out HT.out⟩⟩
      · rw [hb1] at E1
        have HF := Aside0.mk (idxOf_hit (z := z138) (i := i.toNat) (by omega) hb1 HA.out)
        clear hb1
        go_wp2_with fail
        refine BW.call (E1.out _) (fun e2 => ?_)
        go_wp2
        go_ret
        exact ⟨by rw [HF.out, Int.toNat_of_nonneg hi0]; rfl, e2.ok⟩
    · have HF := Aside0.mk (idxOf_miss (z := z138) (l := l) (fun j hj => HA.out j (by omega)))
      go_wp2
      go_ret
      exact ⟨by rw [HF.out]; rfl, e.ok⟩

/-! ### slices.ContainsFunc of those who vote: walked in this session -/
set_option maxHeartbeats 400000 in
theorem slices_ContainsFunc_impl_Val_impl_Val.does {p : S138 → Bool} {f : Nat} {lb : Array Value} (eg : ∀ args w, (callFunc f args).run Try.prog w = .ok (.enter f args) w) {l : List S138} (hl : l.length ≤ maxLen) {B : Option Addr} {c : Nat} {w : World} (hr : Kd.C k138 w B l.length l) (hc : l.length ≤ c)
    (hp : ∀ (e : On w) (v : S138), Calls Try.prog f (#[.agg #[.string v.f0, .int .i64 v.f1]] ++ lb) e.now fun r W => r = .returned (.bool (p v)) ∧ Below e.now.heap.size e.now W) :
    Calls Try.prog 223 #[.slice B l.length c, .func (.func f) #[] lb] w fun e w' => e = .returned (.bool (l.any p)) ∧ Below w.heap.size w w' := by
  have HI := Aside0.mk (slices_IndexFunc_impl_Val_impl_Val.does eg hl hr hc hp)
  have HF := Aside0.mk (idxOf_ge p l).2
  clear hr hp hl eg
  generalize idxOf p l = n at *
  go_enter Try.func223, Try.ntmps223
  go_wp2_with (go_at_call 234; refine HI.out.mono ?_; rintro e w' ⟨rfl, hb⟩)
  go_ret
  exact ⟨by rw [← HF.out]; rfl, hb⟩

/-! ### impl_isIn_1: walked in this session (the function value of isIn) -/
set_option maxHeartbeats 400000 in
theorem impl_isIn_1.does {v : S138} {g : Nat} {s : ByteArray} {w : World} (hs : w.cell? ⟨g, 0, none⟩ = some (.string s)) :
    Calls Try.prog 224 #[.agg #[.string v.f0, .int .i64 v.f1], .pointer (some ⟨g, 0, none⟩)] w fun e w' => e = .returned (.bool (named s v)) ∧ Below w.heap.size w w' := by
  have hb : g < w.heap.size := World.block_lt_of_cell? w _ hs
  have hne : g ≠ w.heap.size := by omega
  have HF : Aside0 ((v.f0.toList == s.toList) = named s v) := ⟨rfl⟩
  go_enter Try.func224, Try.ntmps224
  go_wp2
  go_ret
  exact ⟨by rw [← HF.out]; rfl, below_alloc (Below.refl _ _) _⟩

/-! ### impl_isIn: walked in this session -/
set_option maxHeartbeats 400000 in
theorem impl_isIn.does {l : List S138} (hl : l.length ≤ maxLen) {s : ByteArray} {B : Option Addr} {c : Nat} {w : World} (hr : Kd.C k138 w B l.length l) (hc : l.length ≤ c) :
    Calls Try.prog 183 #[.slice B l.length c, .string s] w fun e w' => e = .returned (.bool (isInB l s)) ∧ Below w.heap.size w w' := by
  have eg : ∀ args w, (callFunc 224 args).run Try.prog w = .ok (.enter 224 args) w := fun args w => enters_ Try.func224 (by kernel_rfl) rfl args w
  have N0 := On.new (e := On.here w) (cs := #[.string s]) (t := 9) (i := 0) rfl
  have HI := Aside0.mk (slices_ContainsFunc_impl_Val_impl_Val.does (p := named s) (lb := #[.pointer (some ⟨w.heap.size, 0, none⟩)]) eg hl (w := w.alloc (.cells #[.string s] 9)) (Kd.C_alloc hr _) hc (fun e v => impl_isIn_1.does (N0 e)))
  clear hr hl eg N0
  have HF : Aside0 (l.any (named s) = isInB l s) := ⟨rfl⟩
  generalize l.any (named s) = b at *
  go_enter Try.func183, Try.ntmps183
  go_wp2_with (go_at_call 223; refine HI.out.mono ?_; rintro e w' ⟨rfl, hb⟩)
  go_ret
  exact ⟨by rw [← HF.out]; rfl, below_then (below_alloc (Below.refl _ _) _) (by simp) hb⟩

/-- What isIn comes to, told as the printer tells it (the true function is walked by hand above). -/
def impl_isIn.f (_k : Nat) (l0 : List S138) (a1 : ByteArray) : Option Bool := if l0.length ≤ maxLen then some (isInB l0 a1) else none
theorem impl_isIn.mono : ∀ a0 a1 k, LeO (impl_isIn.f k a0 a1) (impl_isIn.f (k + 1) a0 a1) := fun _ _ _ => LeO.refl _
theorem impl_isIn.calls (k : Nat) (A0 : Option Addr) (c0 : Nat) (l0 : List S138) (a1 : ByteArray) (r : Bool) (w : World) (hr0 : Kd.C k138 w A0 l0.length l0) (hc0 : l0.length ≤ c0) (h : impl_isIn.f k l0 a1 = some r) :
    Calls Try.prog 183 #[.slice A0 l0.length c0, .string a1] w fun e w' => e = .returned (.bool r) ∧ Below w.heap.size w w' := by
  unfold impl_isIn.f at h
  split at h
  · next hl =>
    cases h
    exact impl_isIn.does hl hr0 hc0
  · cases h
theorem impl_isIn.is {l : List S138} {s : ByteArray} (hl : l.length ≤ maxLen) : Ev (fun k => impl_isIn.f k l s) (isInB l s) := by
  unfold impl_isIn.f
  rw [if_pos hl]
  exact Ev.now _

/-! ### impl_allIn: function 112 -/
def impl_allIn.l0 : Nat → List (S138) → List ByteArray → Int → Int → Option (Bool)
  | 0, _, _, _, _ => none
  | k + 1, x0, x7, x8, x9 => if x9 < x8 then (if 0 ≤ x9 then (if x9 < (x7.length : Int) then ((impl_isIn.f k x0 (rdOf ByteArray.empty x7 x9)).bind fun t571 => (if t571 = true then (impl_allIn.l0 k x0 x7 x8 (wrap64 (x9 + 1))) else (some false))) else (none)) else (none)) else (some true)
def impl_allIn.f (k : Nat) (l0 : List (S138)) (l1 : List ByteArray) : Option (Bool) := impl_allIn.l0 k l0 l1 (l1.length : Int) 0
theorem impl_allIn.mono_l : ∀ k, (∀ y0 y1 y2 y3, LeO (impl_allIn.l0 k y0 y1 y2 y3) (impl_allIn.l0 (k + 1) y0 y1 y2 y3))
  | 0 => fun _ _ _ _ r h => by simp [impl_allIn.l0] at h
  | k + 1 => by
    have ih0 := impl_allIn.mono_l k
    · intro y0 y1 y2 y3
      unfold impl_allIn.l0
      repeat' first
      | (with_reducible exact ih0 _ _ _ _)
      | (with_reducible exact impl_isIn.mono _ _ _)
      | (with_reducible exact LeO.refl _)
      | (with_reducible exact LeO.none _)
      | (with_reducible refine LeO.ite ?_ ?_)
      | (with_reducible refine LeO.bind ?_ (fun _ => ?_))
      | exact ih0 _ _ _ _
      | exact impl_isIn.mono _ _ _
      | exact LeO.none _
      | refine LeO.ite ?_ ?_
      | refine LeO.bind ?_ (fun _ => ?_)
theorem impl_allIn.mono : ∀ a0 a1 k, LeO (impl_allIn.f k a0 a1) (impl_allIn.f (k + 1) a0 a1) := by
  intro a0 a1 k
  have ih0 := impl_allIn.mono_l k
  unfold impl_allIn.f
  repeat' first
      | (with_reducible exact ih0 _ _ _ _)
      | (with_reducible exact impl_isIn.mono _ _ _)
      | (with_reducible exact LeO.refl _)
      | (with_reducible exact LeO.none _)
      | (with_reducible refine LeO.ite ?_ ?_)
      | (with_reducible refine LeO.bind ?_ (fun _ => ?_))
      | exact ih0 _ _ _ _
      | exact impl_isIn.mono _ _ _
      | exact LeO.none _
      | refine LeO.ite ?_ ?_
      | refine LeO.bind ?_ (fun _ => ?_)
set_option maxHeartbeats 8000000 in
set_option maxRecDepth 100000 in
theorem impl_allIn.calls (k : Nat) (A0 : Option Addr) (c0 : Nat) (l0 : List (S138)) (A1 : Option Addr) (c1 : Nat) (l1 : List ByteArray) (r : Bool) (w : World) (hr0 : Kd.C k138 w A0 l0.length l0) (hc0 : l0.length ≤ c0) (hr1 : Kd.C Kd.string w A1 l1.length l1) (hc1 : l1.length ≤ c1) (h : impl_allIn.f k l0 l1 = some r) :
    Calls Try.prog 112 #[.slice A0 l0.length c0, .slice A1 l1.length c1] w fun e w' => e = .returned (.bool r) ∧ Below w.heap.size w w' := by
  have HR0 := Aside0.mk hr0
  have HC0 := Aside0.mk hc0
  clear hr0 hc0
  have HR1 := Aside0.mk hr1
  have HC1 := Aside0.mk hc1
  clear hr1 hc1
  have HB := Aside0.mk (Below.refl w.heap.size w)
  have H : (impl_allIn.l0 k l0 l1 (l1.length : Int) 0) = some r := h
  clear h
  have H' := Aside0.mk H
  clear H
  go_enter Try.func112, Try.ntmps112
  go_wp2
  go_loopg [9] k (fun kq v9 w' => ∃ (x9_1 : Int), v9 = .int .i64 x9_1 ∧ Aside0 (impl_allIn.l0 kq l0 l1 (l1.length : Int) x9_1 = some r) ∧ Aside0 (kq ≤ k) ∧ Aside0 (Below w.heap.size w w'))
  case atStart => exact ⟨(0), (by first | rfl | (simp; done) | (simp [*]; done)), H', ⟨Nat.le_refl _⟩, ⟨by repeat (first | (with_reducible first | exact HB.out | apply below_alloc | apply pw_below_drewN | apply below_drew1) | exact HB.out)⟩⟩
  case round =>
    clear H'
    try clear c1
    try clear p2
    obtain ⟨x9_1, rfl, HA, HK1, HB⟩ := hrel
    cases gk with
    | zero => exact absurd HA.out (by simp [impl_allIn.l0])
    | succ k1 =>
      have H := HA.out
      clear HA
      simp only [impl_allIn.l0] at H
      by_cases c3 : x9_1 < (l1.length : Int)
      · rw [if_pos c3] at H
        have c3b0 : decide (x9_1 < (l1.length : Int)) = true := decide_eq_true c3
        clear c3
        by_cases c4 : 0 ≤ x9_1
        · rw [if_pos c4] at H
          have c4b0 : decide (0 ≤ x9_1) = true := decide_eq_true c4
          clear c4
          by_cases c5 : x9_1 < (l1.length : Int)
          · rw [if_pos c5] at H
            have c5b0 : decide (x9_1 < (l1.length : Int)) = true := decide_eq_true c5
            clear c5
            replace H := Option.bind_eq_some_iff.mp H
            obtain ⟨t571, A60, H⟩ := H
            replace H : (if t571 = true then (impl_allIn.l0 k1 l0 l1 (l1.length : Int) (wrap64 (x9_1 + 1))) else (some false)) = some r := H
            have A6 := Aside0.mk A60
            clear A60
            by_cases c7 : t571 = true
            · subst c7
              have H1 : (impl_allIn.l0 k1 l0 l1 (l1.length : Int) (wrap64 (x9_1 + 1))) = some r := by rw [if_pos rfl] at H; exact H
              clear H
              have H := H1
              clear H1
              have H' := Aside0.mk H
              clear H
              have p570 : 0 ≤ (x9_1 : Int) := of_decide_eq_true (by first | (with_reducible assumption) | assumption)
              have q570 : x9_1 < (l1.length : Int) := of_decide_eq_true (by first | (with_reducible assumption) | assumption)
              obtain ⟨ad570, e570, hx570_0⟩ := Kd.at_string HR1.out x9_1 p570 q570
              cases e570
              replace hx570_0 := (HB.out.cell (World.block_lt_of_cell? w _ hx570_0)).trans hx570_0
              replace p570 := eq_true p570
              replace q570 := eq_true q570
              go_wp2_with (first | ((with_reducible refine gate_callee (f := 183) rfl ?_); refine goesL_ (some 15) rfl rfl Try.func183 (by kernel_rfl) rfl #[.slice A0 l0.length c0, .string (rdOf ByteArray.empty l1 x9_1)] rfl (by (try simp only [List.map_toArray, List.map_cons, List.map_nil]); first | done | rfl | (simp only [List.length_drop, List.length_take]; rfl)) ?_; (with_reducible refine (impl_isIn.calls k1 _ _ l0 (rdOf ByteArray.empty l1 x9_1) true _ ?side1 ?side2 A6.out).mono ?_); (case side1 => repeat (first | exact (Kd.C_below HR0.out HB.out) | (with_reducible refine Kd.C_alloc ?_ _) | (with_reducible refine Kd.C_drewN ?_ _) | (with_reducible refine Kd.C_drew ?_))); (case side2 => exact HC0.out); rintro e w8 ⟨rfl, hb⟩; refine ⟨_, rfl, ?_⟩; have n0_ := Aside0.mk (below_step (by repeat (first | (with_reducible first | exact HB.out | apply below_alloc | apply pw_below_drewN | apply below_drew1) | exact HB.out)) hb); clear HB; have HB := n0_; clear n0_; (try clear hb); (try clear hb2); (try clear hk); (try clear hi)))
              go_roundg k1
              case measure => have := HK1.out; omega
              case rel => exact ⟨(wrap64 (x9_1 + 1)), (by first | rfl | (simp; done) | (simp [*]; done)), H', ⟨by have := HK1.out; omega⟩, ⟨by repeat (first | (with_reducible first | exact HB.out | apply below_alloc | apply pw_below_drewN | apply below_drew1) | exact HB.out)⟩⟩
            · replace c7 := Bool.eq_false_iff.mpr c7
              subst c7
              have H1 : (some false) = some r := by rw [if_neg (show ¬ (false = true) by decide)] at H; exact H
              clear H
              have H := H1
              clear H1
              obtain rfl := Option.some.inj H
              have p570 : 0 ≤ (x9_1 : Int) := of_decide_eq_true (by first | (with_reducible assumption) | assumption)
              have q570 : x9_1 < (l1.length : Int) := of_decide_eq_true (by first | (with_reducible assumption) | assumption)
              obtain ⟨ad570, e570, hx570_0⟩ := Kd.at_string HR1.out x9_1 p570 q570
              cases e570
              replace hx570_0 := (HB.out.cell (World.block_lt_of_cell? w _ hx570_0)).trans hx570_0
              replace p570 := eq_true p570
              replace q570 := eq_true q570
              go_wp2_with (first | ((with_reducible refine gate_callee (f := 183) rfl ?_); refine goesL_ (some 15) rfl rfl Try.func183 (by kernel_rfl) rfl #[.slice A0 l0.length c0, .string (rdOf ByteArray.empty l1 x9_1)] rfl (by (try simp only [List.map_toArray, List.map_cons, List.map_nil]); first | done | rfl | (simp only [List.length_drop, List.length_take]; rfl)) ?_; (with_reducible refine (impl_isIn.calls k1 _ _ l0 (rdOf ByteArray.empty l1 x9_1) false _ ?side1 ?side2 A6.out).mono ?_); (case side1 => repeat (first | exact (Kd.C_below HR0.out HB.out) | (with_reducible refine Kd.C_alloc ?_ _) | (with_reducible refine Kd.C_drewN ?_ _) | (with_reducible refine Kd.C_drew ?_))); (case side2 => exact HC0.out); rintro e w9 ⟨rfl, hb⟩; refine ⟨_, rfl, ?_⟩; have n0_ := Aside0.mk (below_step (by repeat (first | (with_reducible first | exact HB.out | apply below_alloc | apply pw_below_drewN | apply below_drew1) | exact HB.out)) hb); clear HB; have HB := n0_; clear n0_; (try clear hb); (try clear hb2); (try clear hk); (try clear hi)))
              go_ret
              exact ⟨by first | rfl | (simp [errW_none, errW_some] <;> rfl) | (simp [*, errW_none, errW_some] <;> rfl), by repeat (first | (with_reducible first | exact HB.out | apply below_alloc | apply pw_below_drewN | apply below_drew1) | exact HB.out)⟩
          · rw [if_neg c5] at H
            exact absurd H (by simp)
        · rw [if_neg c4] at H
          exact absurd H (by simp)
      · rw [if_neg c3] at H
        have c3b0 : decide (x9_1 < (l1.length : Int)) = false := decide_eq_false c3
        clear c3
        obtain rfl := Option.some.inj H
        go_wp2
        go_ret
        exact ⟨by first | rfl | (simp [errW_none, errW_some] <;> rfl) | (simp [*, errW_none, errW_some] <;> rfl), by repeat (first | (with_reducible first | exact HB.out | apply below_alloc | apply pw_below_drewN | apply below_drew1) | exact HB.out)⟩

theorem impl_allIn.is {l : List S138} {names : List ByteArray} (hl : l.length ≤ maxLen) (hn : names.length ≤ maxLen) : Ev (fun k => impl_allIn.f k l names) (allInB l names) := by
  have hm : maxLen = 9223372036854775807 := rfl
  unfold impl_allIn.f allInB
  refine Ev.to (ev_all (tail := true) (fun k i => impl_allIn.l0 k l names names.length i) ?_ (fun i hi r ih => ?_)) (Bool.and_true _)
  · simp only [impl_allIn.l0]
    exact Ev.no (by omega) (Ev.now _)
  · have hrd : rdOf ByteArray.empty names (i : Int) = names.getD i nought := by simp [rdOf, nought]
    simp only [impl_allIn.l0, hrd]
    refine Ev.yes (by omega) (Ev.yes (by omega) (Ev.yes (by omega) (Ev.bind (impl_isIn.is hl) ?_)))
    rw [unw (x := (i : Int) + 1) (by omega) (by omega)]
    exact Ev.cond (fun hc => Ev.to ih (by rw [hc]; simp)) (fun hc => Ev.is (by rw [Bool.eq_false_iff.2 hc]; simp))

/-! ### spec_l7In: function 221 -/
def spec_l7In.l0 : Nat → List (S138) → ByteArray → Int → Option (Bool)
  | 0, _, _, _ => none
  | k + 1, x0, x1, x5 => if x5 < (x0.length : Int) then (if 0 ≤ x5 then (if ((rd_T138 x0 x5).f0).toList = x1.toList then (some true) else (spec_l7In.l0 k x0 x1 (wrap64 (x5 + 1)))) else (none)) else (some false)
def spec_l7In.f (k : Nat) (l0 : List (S138)) (a1 : ByteArray) : Option (Bool) := spec_l7In.l0 k l0 a1 0
theorem spec_l7In.mono_l : ∀ k, (∀ y0 y1 y2, LeO (spec_l7In.l0 k y0 y1 y2) (spec_l7In.l0 (k + 1) y0 y1 y2))
  | 0 => fun _ _ _ r h => by simp [spec_l7In.l0] at h
  | k + 1 => by
    have ih0 := spec_l7In.mono_l k
    · intro y0 y1 y2
      unfold spec_l7In.l0
      repeat' first
      | (with_reducible exact ih0 _ _ _)
      | (with_reducible exact LeO.refl _)
      | (with_reducible exact LeO.none _)
      | (with_reducible refine LeO.ite ?_ ?_)
      | (with_reducible refine LeO.bind ?_ (fun _ => ?_))
      | exact ih0 _ _ _
      | exact LeO.none _
      | refine LeO.ite ?_ ?_
      | refine LeO.bind ?_ (fun _ => ?_)
theorem spec_l7In.mono : ∀ a0 a1 k, LeO (spec_l7In.f k a0 a1) (spec_l7In.f (k + 1) a0 a1) := by
  intro a0 a1 k
  have ih0 := spec_l7In.mono_l k
  unfold spec_l7In.f
  repeat' first
      | (with_reducible exact ih0 _ _ _)
      | (with_reducible exact LeO.refl _)
      | (with_reducible exact LeO.none _)
      | (with_reducible refine LeO.ite ?_ ?_)
      | (with_reducible refine LeO.bind ?_ (fun _ => ?_))
      | exact ih0 _ _ _
      | exact LeO.none _
      | refine LeO.ite ?_ ?_
      | refine LeO.bind ?_ (fun _ => ?_)
set_option maxHeartbeats 8000000 in
set_option maxRecDepth 100000 in
theorem spec_l7In.calls (k : Nat) (A0 : Option Addr) (c0 : Nat) (l0 : List (S138)) (a1 : ByteArray) (r : Bool) (w : World) (hr0 : Kd.C k138 w A0 l0.length l0) (hc0 : l0.length ≤ c0) (h : spec_l7In.f k l0 a1 = some r) :
    Calls Try.prog 221 #[.slice A0 l0.length c0, .string a1] w fun e w' => e = .returned (.bool r) ∧ Drawn0 w w' := by
  have HR0 := Aside0.mk hr0
  have HC0 := Aside0.mk hc0
  clear hr0 hc0
  have H : (spec_l7In.l0 k l0 a1 0) = some r := h
  clear h
  have H' := Aside0.mk H
  clear H
  go_enter Try.func221, Try.ntmps221
  go_wp2
  go_loopg [5] k (fun kq v5 w' => ∃ (x5_1 : Int), v5 = .int .i64 x5_1 ∧ Aside0 (spec_l7In.l0 kq l0 a1 x5_1 = some r) ∧ Aside0 (kq ≤ k) ∧ Drawn0 w w')
  case atStart => exact ⟨(0), (by first | rfl | (simp; done) | (simp [*]; done)), H', ⟨Nat.le_refl _⟩, by repeat (first | exact Drawn0.refl _ | apply Drawn0.step)⟩
  case round =>
    clear H'
    try clear c2
    try clear p2
    obtain ⟨x5_1, rfl, HA, HK1, ⟨m1, rfl⟩⟩ := hrel
    cases gk with
    | zero => exact absurd HA.out (by simp [spec_l7In.l0])
    | succ k1 =>
      have H := HA.out
      clear HA
      simp only [spec_l7In.l0] at H
      by_cases c3 : x5_1 < (l0.length : Int)
      · rw [if_pos c3] at H
        have c3b0 : decide (x5_1 < (l0.length : Int)) = true := decide_eq_true c3
        clear c3
        by_cases c4 : 0 ≤ x5_1
        · rw [if_pos c4] at H
          have c4b0 : decide (0 ≤ x5_1) = true := decide_eq_true c4
          clear c4
          by_cases c5 : ((rd_T138 l0 x5_1).f0).toList = a1.toList
          · rw [if_pos c5] at H
            have c5b0 : (((rd_T138 l0 x5_1).f0).toList == a1.toList) = true := beq_iff_eq.mpr c5
            have c5b1 : (((rd_T138 l0 x5_1).f0).toList != a1.toList) = false := bne_eq_false_iff_eq.mpr c5
            clear c5
            obtain rfl := Option.some.inj H
            have p592 : 0 ≤ (x5_1 : Int) := of_decide_eq_true (by first | (with_reducible assumption) | assumption)
            have q592 : x5_1 < (l0.length : Int) := of_decide_eq_true (by first | (with_reducible assumption) | assumption)
            obtain ⟨ad592, e592, hx592_0, hx592_1⟩ := at_T138 HR0.out x5_1 p592 q592
            cases e592
            replace p592 := eq_true p592
            replace q592 := eq_true q592
            go_wp2
            go_ret
            exact ⟨by first | rfl | (simp; done) | (simp [*]; done), by repeat (first | exact Drawn0.refl _ | apply Drawn0.step)⟩
          · rw [if_neg c5] at H
            have c5b0 : (((rd_T138 l0 x5_1).f0).toList == a1.toList) = false := beq_eq_false_iff_ne.mpr c5
            have c5b1 : (((rd_T138 l0 x5_1).f0).toList != a1.toList) = true := bne_iff_ne.mpr c5
            have H' := Aside0.mk H
            clear H
            have p592 : 0 ≤ (x5_1 : Int) := of_decide_eq_true (by first | (with_reducible assumption) | assumption)
            have q592 : x5_1 < (l0.length : Int) := of_decide_eq_true (by first | (with_reducible assumption) | assumption)
            obtain ⟨ad592, e592, hx592_0, hx592_1⟩ := at_T138 HR0.out x5_1 p592 q592
            cases e592
            replace p592 := eq_true p592
            replace q592 := eq_true q592
            go_wp2
            go_roundg k1
            case measure => have := HK1.out; omega
            case rel => exact ⟨(wrap64 (x5_1 + 1)), (by first | rfl | (simp; done) | (simp [*]; done)), H', ⟨by have := HK1.out; omega⟩, by repeat (first | exact Drawn0.refl _ | apply Drawn0.step)⟩
        · rw [if_neg c4] at H
          exact absurd H (by simp)
      · rw [if_neg c3] at H
        have c3b0 : decide (x5_1 < (l0.length : Int)) = false := decide_eq_false c3
        clear c3
        obtain rfl := Option.some.inj H
        go_wp2
        go_ret
        exact ⟨by first | rfl | (simp; done) | (simp [*]; done), by repeat (first | exact Drawn0.refl _ | apply Drawn0.step)⟩

theorem spec_l7In.is {l : List S138} {s : ByteArray} (hl : l.length ≤ maxLen) : Ev (fun k => spec_l7In.f k l s) (isInB l s) := by
  have hm : maxLen = 9223372036854775807 := rfl
  unfold spec_l7In.f
  refine ev_loop (fun k (_ : Unit) i => spec_l7In.l0 k l s i) (fun ys _ => isInB ys s) (fun _ => ?_) (fun pre y ys _ hx ih => ?_) ()
  · simp only [spec_l7In.l0]
    exact Ev.no (by omega) (Ev.now _)
  · have hp := len_app hx
    have hrd : rd_T138 l pre.length = y := by rw [hx]; exact at_app pre y ys _
    simp only [spec_l7In.l0, hrd]
    refine Ev.yes (by omega) (Ev.yes (by omega) ?_)
    rw [unw (x := (pre.length : Int) + 1) (by omega) (by omega)]
    refine Ev.cond (fun hc => Ev.is (by simp [isInB, named, hc])) (fun hc => Ev.to (ih ()) (by simp [isInB, named, hc]))

/-! ### spec_l8All: function 181 -/
def spec_l8All.l0 : Nat → List (S138) → List ByteArray → Int → Option (Bool)
  | 0, _, _, _ => none
  | k + 1, x0, x1, x5 => if x5 < (x1.length : Int) then (if 0 ≤ x5 then ((spec_l7In.f k x0 (rdOf ByteArray.empty x1 x5)).bind fun t598 => (if t598 = true then (spec_l8All.l0 k x0 x1 (wrap64 (x5 + 1))) else (some false))) else (none)) else ((spec_NamesOk.f k x1).bind fun t599 => (some t599))
def spec_l8All.f (k : Nat) (l0 : List (S138)) (l1 : List ByteArray) : Option (Bool) := spec_l8All.l0 k l0 l1 0
theorem spec_l8All.mono_l : ∀ k, (∀ y0 y1 y2, LeO (spec_l8All.l0 k y0 y1 y2) (spec_l8All.l0 (k + 1) y0 y1 y2))
  | 0 => fun _ _ _ r h => by simp [spec_l8All.l0] at h
  | k + 1 => by
    have ih0 := spec_l8All.mono_l k
    · intro y0 y1 y2
      unfold spec_l8All.l0
      repeat' first
      | (with_reducible exact ih0 _ _ _)
      | (with_reducible exact spec_NamesOk.mono _ _)
      | (with_reducible exact spec_l7In.mono _ _ _)
      | (with_reducible exact LeO.refl _)
      | (with_reducible exact LeO.none _)
      | (with_reducible refine LeO.ite ?_ ?_)
      | (with_reducible refine LeO.bind ?_ (fun _ => ?_))
      | exact ih0 _ _ _
      | exact spec_NamesOk.mono _ _
      | exact spec_l7In.mono _ _ _
      | exact LeO.none _
      | refine LeO.ite ?_ ?_
      | refine LeO.bind ?_ (fun _ => ?_)
theorem spec_l8All.mono : ∀ a0 a1 k, LeO (spec_l8All.f k a0 a1) (spec_l8All.f (k + 1) a0 a1) := by
  intro a0 a1 k
  have ih0 := spec_l8All.mono_l k
  unfold spec_l8All.f
  repeat' first
      | (with_reducible exact ih0 _ _ _)
      | (with_reducible exact spec_NamesOk.mono _ _)
      | (with_reducible exact spec_l7In.mono _ _ _)
      | (with_reducible exact LeO.refl _)
      | (with_reducible exact LeO.none _)
      | (with_reducible refine LeO.ite ?_ ?_)
      | (with_reducible refine LeO.bind ?_ (fun _ => ?_))
      | exact ih0 _ _ _
      | exact spec_NamesOk.mono _ _
      | exact spec_l7In.mono _ _ _
      | exact LeO.none _
      | refine LeO.ite ?_ ?_
      | refine LeO.bind ?_ (fun _ => ?_)
set_option maxHeartbeats 8000000 in
set_option maxRecDepth 100000 in
theorem spec_l8All.calls (k : Nat) (A0 : Option Addr) (c0 : Nat) (l0 : List (S138)) (A1 : Option Addr) (c1 : Nat) (l1 : List ByteArray) (r : Bool) (w : World) (hr0 : Kd.C k138 w A0 l0.length l0) (hc0 : l0.length ≤ c0) (hr1 : Kd.C Kd.string w A1 l1.length l1) (hc1 : l1.length ≤ c1) (h : spec_l8All.f k l0 l1 = some r) :
    Calls Try.prog 181 #[.slice A0 l0.length c0, .slice A1 l1.length c1] w fun e w' => e = .returned (.bool r) ∧ Drawn0 w w' := by
  have HR0 := Aside0.mk hr0
  have HC0 := Aside0.mk hc0
  clear hr0 hc0
  have HR1 := Aside0.mk hr1
  have HC1 := Aside0.mk hc1
  clear hr1 hc1
  have H : (spec_l8All.l0 k l0 l1 0) = some r := h
  clear h
  have H' := Aside0.mk H
  clear H
  go_enter Try.func181, Try.ntmps181
  go_wp2
  go_loopg [5] k (fun kq v5 w' => ∃ (x5_1 : Int), v5 = .int .i64 x5_1 ∧ Aside0 (spec_l8All.l0 kq l0 l1 x5_1 = some r) ∧ Aside0 (kq ≤ k) ∧ Drawn0 w w')
  case atStart => exact ⟨(0), (by first | rfl | (simp; done) | (simp [*]; done)), H', ⟨Nat.le_refl _⟩, by repeat (first | exact Drawn0.refl _ | apply Drawn0.step)⟩
  case round =>
    clear H'
    try clear c1
    try clear p2
    obtain ⟨x5_1, rfl, HA, HK1, ⟨m1, rfl⟩⟩ := hrel
    cases gk with
    | zero => exact absurd HA.out (by simp [spec_l8All.l0])
    | succ k1 =>
      have H := HA.out
      clear HA
      simp only [spec_l8All.l0] at H
      by_cases c3 : x5_1 < (l1.length : Int)
      · rw [if_pos c3] at H
        have c3b0 : decide (x5_1 < (l1.length : Int)) = true := decide_eq_true c3
        clear c3
        by_cases c4 : 0 ≤ x5_1
        · rw [if_pos c4] at H
          have c4b0 : decide (0 ≤ x5_1) = true := decide_eq_true c4
          clear c4
          replace H := Option.bind_eq_some_iff.mp H
          obtain ⟨t598, A50, H⟩ := H
          replace H : (if t598 = true then (spec_l8All.l0 k1 l0 l1 (wrap64 (x5_1 + 1))) else (some false)) = some r := H
          have A5 := Aside0.mk A50
          clear A50
          by_cases c6 : t598 = true
          · subst c6
            have H1 : (spec_l8All.l0 k1 l0 l1 (wrap64 (x5_1 + 1))) = some r := by rw [if_pos rfl] at H; exact H
            clear H
            have H := H1
            clear H1
            have H' := Aside0.mk H
            clear H
            have p597 : 0 ≤ (x5_1 : Int) := of_decide_eq_true (by first | (with_reducible assumption) | assumption)
            have q597 : x5_1 < (l1.length : Int) := of_decide_eq_true (by first | (with_reducible assumption) | assumption)
            obtain ⟨ad597, e597, hx597_0⟩ := Kd.at_string HR1.out x5_1 p597 q597
            cases e597
            replace p597 := eq_true p597
            replace q597 := eq_true q597
            go_wp2_with (first | ((with_reducible refine gate_callee (f := 221) rfl ?_); refine goesL_ (some 17) rfl rfl Try.func221 (by kernel_rfl) rfl #[.slice A0 l0.length c0, .string (rdOf ByteArray.empty l1 x5_1)] rfl (by (try simp only [List.map_toArray, List.map_cons, List.map_nil]); first | done | rfl | (simp only [List.length_drop, List.length_take]; rfl)) ?_; (with_reducible refine (spec_l7In.calls k1 _ _ l0 (rdOf ByteArray.empty l1 x5_1) true _ ?side1 ?side2 A5.out).mono ?_); (case side1 => repeat (first | exact HR0.out | (with_reducible refine Kd.C_alloc ?_ _) | (with_reducible refine Kd.C_drewN ?_ _) | (with_reducible refine Kd.C_drew ?_))); (case side2 => exact HC0.out); rintro e w' ⟨rfl, ⟨nd, rfl⟩⟩; refine ⟨_, rfl, ?_⟩))
            go_roundg k1
            case measure => have := HK1.out; omega
            case rel => exact ⟨(wrap64 (x5_1 + 1)), (by first | rfl | (simp; done) | (simp [*]; done)), H', ⟨by have := HK1.out; omega⟩, by repeat (first | exact Drawn0.refl _ | apply Drawn0.step)⟩
          · replace c6 := Bool.eq_false_iff.mpr c6
            subst c6
            have H1 : (some false) = some r := by rw [if_neg (show ¬ (false = true) by decide)] at H; exact H
            clear H
            have H := H1
            clear H1
            obtain rfl := Option.some.inj H
            have p597 : 0 ≤ (x5_1 : Int) := of_decide_eq_true (by first | (with_reducible assumption) | assumption)
            have q597 : x5_1 < (l1.length : Int) := of_decide_eq_true (by first | (with_reducible assumption) | assumption)
            obtain ⟨ad597, e597, hx597_0⟩ := Kd.at_string HR1.out x5_1 p597 q597
            cases e597
            replace p597 := eq_true p597
            replace q597 := eq_true q597
            go_wp2_with (first | ((with_reducible refine gate_callee (f := 221) rfl ?_); refine goesL_ (some 17) rfl rfl Try.func221 (by kernel_rfl) rfl #[.slice A0 l0.length c0, .string (rdOf ByteArray.empty l1 x5_1)] rfl (by (try simp only [List.map_toArray, List.map_cons, List.map_nil]); first | done | rfl | (simp only [List.length_drop, List.length_take]; rfl)) ?_; (with_reducible refine (spec_l7In.calls k1 _ _ l0 (rdOf ByteArray.empty l1 x5_1) false _ ?side1 ?side2 A5.out).mono ?_); (case side1 => repeat (first | exact HR0.out | (with_reducible refine Kd.C_alloc ?_ _) | (with_reducible refine Kd.C_drewN ?_ _) | (with_reducible refine Kd.C_drew ?_))); (case side2 => exact HC0.out); rintro e w' ⟨rfl, ⟨nd, rfl⟩⟩; refine ⟨_, rfl, ?_⟩))
            go_ret
            exact ⟨by first | rfl | (simp; done) | (simp [*]; done), by repeat (first | exact Drawn0.refl _ | apply Drawn0.step)⟩
        · rw [if_neg c4] at H
          exact absurd H (by simp)
      · rw [if_neg c3] at H
        have c3b0 : decide (x5_1 < (l1.length : Int)) = false := decide_eq_false c3
        clear c3
        replace H := Option.bind_eq_some_iff.mp H
        obtain ⟨t599, A70, H⟩ := H
        replace H : (some t599) = some r := H
        have A7 := Aside0.mk A70
        clear A70
        obtain rfl := Option.some.inj H
        go_wp2_with (first | ((with_reducible refine gate_callee (f := 222) rfl ?_); refine goesL_ (some 20) rfl rfl Try.func222 (by kernel_rfl) rfl #[.slice A1 l1.length c1] rfl (by (try simp only [List.map_toArray, List.map_cons, List.map_nil]); first | done | rfl | (simp only [List.length_drop, List.length_take]; rfl)) ?_; (with_reducible refine (spec_NamesOk.calls k1 _ _ l1 t599 _ ?side1 ?side2 A7.out).mono ?_); (case side1 => repeat (first | exact HR1.out | (with_reducible refine Kd.C_alloc ?_ _) | (with_reducible refine Kd.C_drewN ?_ _) | (with_reducible refine Kd.C_drew ?_))); (case side2 => exact HC1.out); rintro e w' ⟨rfl, ⟨nd, rfl⟩⟩; refine ⟨_, rfl, ?_⟩))
        go_ret
        exact ⟨by first | rfl | (simp; done) | (simp [*]; done), by repeat (first | exact Drawn0.refl _ | apply Drawn0.step)⟩

theorem spec_l8All.is {l : List S138} {names : List ByteArray} (hl : l.length ≤ maxLen) (hn : names.length ≤ maxLen) (hw : ∀ s ∈ names, s.size ≤ maxLen) : Ev (fun k => spec_l8All.f k l names) (allInB l names && namesOk names) := by
  have hm : maxLen = 9223372036854775807 := rfl
  unfold spec_l8All.f
  refine ev_all (fun k i => spec_l8All.l0 k l names i) ?_ (fun i hi r ih => ?_)
  · simp only [spec_l8All.l0]
    exact Ev.no (by omega) (Ev.bind (spec_NamesOk.is hn hw) (Ev.now _))
  · have hrd : rdOf ByteArray.empty names (i : Int) = names.getD i nought := by simp [rdOf, nought]
    simp only [spec_l8All.l0, hrd]
    refine Ev.yes (by omega) (Ev.yes (by omega) (Ev.bind (spec_l7In.is hl) ?_))
    rw [unw (x := (i : Int) + 1) (by omega) (by omega)]
    cases isInB l (names.getD i nought)
    · exact Ev.no (by simp) (Ev.now _)
    · exact Ev.yes rfl (Ev.to ih (by simp))

end Go.Proofs.Ytadkhkpchankjaa.F
