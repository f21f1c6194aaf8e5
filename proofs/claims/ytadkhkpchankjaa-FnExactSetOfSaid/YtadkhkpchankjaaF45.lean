/-
Functions of the program, what they come to, and that Go comes to just that: laws_FnExactSetOf.
Conditions: those that each theorem names.
-/
import Derived.Test.YtadkhkpchankjaaFAbs
import Derived.Test.YtadkhkpchankjaaF16
import Derived.Test.YtadkhkpchankjaaF36
import Derived.Test.YtadkhkpchankjaaF38
import Derived.Test.YtadkhkpchankjaaF39
import Derived.Test.YtadkhkpchankjaaF40
import Derived.Test.YtadkhkpchankjaaF41
import Derived.Test.YtadkhkpchankjaaF42
import Derived.Test.YtadkhkpchankjaaF43
import Derived.Test.YtadkhkpchankjaaF44
import Derived.Test.YtadkhkpchankjaaWApart
import Derived.Test.YtadkhkpchankjaaWKept
import Derived.Test.YtadkhkpchankjaaMark
set_option linter.unusedVariables false
set_option linter.unusedSimpArgs false
namespace Go.Proofs.Ytadkhkpchankjaa.F
open Go.RowKit Go.Proofs.YtadkhkpchankjaaW.PrintWords Go.Proofs.YtadkhkpchankjaaW.PrintLast Go.Proofs.Ytadkhkpchankjaa.Base Go.Proofs.Ytadkhkpchankjaa.BW
open Go.Proofs.Ytadkhkpchankjaa.Mark

/-! ### laws_FnExactSetOf: walked in this session -/
theorem laws_markValS.held {l : List S138} {n : Int} (hl : l.length ≤ 1048576) (h0 : 0 ≤ n) (h1 : n ≤ 1000000000) : ∃ l', Ev (fun k => laws_markValS.f k l n) (n + 2 * (l.length : Int), l') ∧ l'.length = l.length ∧ Ev (fun k => laws_heldValS.f k l' n) (n + 2 * (l.length : Int)) := by
  have mk : ∃ l', Ev (fun k => laws_markValS.f k l n) (n + 2 * (l.length : Int), l') ∧ l'.length = l.length ∧ ∀ j : Nat, j < l.length → Ev (fun k => laws_markText.f k (n + 2 * (j : Int))) (l'.getD j z138).f0 ∧ (l'.getD j z138).f1 = n + 2 * (j : Int) + 1 := by
    unfold laws_markValS.f
    have key : ∀ (m i : Nat) (x : List S138), i + m = l.length → x.length = l.length → (∀ j : Nat, j < i → Ev (fun k => laws_markText.f k (n + 2 * (j : Int))) (x.getD j z138).f0 ∧ (x.getD j z138).f1 = n + 2 * (j : Int) + 1) → ∃ l', Ev (fun k => laws_markValS.l0 k x (n + 2 * (i : Int)) (i : Int)) (n + 2 * (l.length : Int), l') ∧ l'.length = l.length ∧ ∀ j : Nat, j < l.length → Ev (fun k => laws_markText.f k (n + 2 * (j : Int))) (l'.getD j z138).f0 ∧ (l'.getD j z138).f1 = n + 2 * (j : Int) + 1 := by
      intro m
      induction m with
      | zero =>
        intro i x hi hx hj
        obtain rfl : i = l.length := by omega
        refine ⟨x, Ev.up ?_, hx, hj⟩
        simp only [laws_markValS.l0]
        exact Ev.no (by omega) (Ev.now _)
      | succ m ih =>
        intro i x hi hx hj
        obtain ⟨t, ht⟩ := laws_markText.ex (n := n + 2 * (i : Int)) (by omega)
        have hgo : ∃ l', Ev (fun k => laws_markValS.l0 k ((x.set i (⟨t, (rd_T138 x (i : Int)).f1⟩ : S138)).set i (⟨(rd_T138 (x.set i (⟨t, (rd_T138 x (i : Int)).f1⟩ : S138)) (i : Int)).f0, n + 2 * (i : Int) + 1⟩ : S138)) (n + 2 * (i : Int) + 1 + 1) ((i : Int) + 1)) (n + 2 * (l.length : Int), l') ∧ l'.length = l.length ∧ ∀ j : Nat, j < l.length → Ev (fun k => laws_markText.f k (n + 2 * (j : Int))) (l'.getD j z138).f0 ∧ (l'.getD j z138).f1 = n + 2 * (j : Int) + 1 := by
          rw [show n + 2 * (i : Int) + 1 + 1 = n + 2 * ((i + 1 : Nat) : Int) by omega]
          have hix : i < x.length := by omega
          have hrd : rd_T138 (x.set i (⟨t, (rd_T138 x (i : Int)).f1⟩ : S138)) (i : Int) = ⟨t, (rd_T138 x (i : Int)).f1⟩ := by
            show (x.set i _).getD i z138 = _
            rw [List.getD_eq_getElem?_getD, List.getElem?_set_self hix]
            rfl
          refine ih (i + 1) _ (by omega) (by rw [List.length_set, List.length_set, hx]) (fun j hj' => ?_)
          rw [hrd]
          by_cases he : j = i
          · subst he
            rw [List.getD_eq_getElem?_getD, List.getElem?_set_self (by rw [List.length_set]; exact hix)]
            exact ⟨ht, rfl⟩
          · rw [List.getD_eq_getElem?_getD, List.getElem?_set_ne (by omega), List.getElem?_set_ne (by omega), ← List.getD_eq_getElem?_getD]
            exact hj j (by omega)
        obtain ⟨l', e, r1, r2⟩ := hgo
        refine ⟨l', Ev.up ?_, r1, r2⟩
        simp only [laws_markValS.l0, Option.bind_some]
        rw [unw (x := (i : Int) + 1) (by omega) (by omega), unw (x := n + 2 * (i : Int) + 1) (by omega) (by omega), unw (x := n + 2 * (i : Int) + 1 + 1) (by omega) (by omega)]
        exact Ev.yes (by omega) (Ev.bind ht (Ev.yes (by omega) e))
    have := key l.length 0 l (by omega) rfl (fun j hj => absurd hj (by omega))
    simpa using this
  obtain ⟨l', e, hlen, hf⟩ := mk
  refine ⟨l', e, hlen, ?_⟩
  unfold laws_heldValS.f
  have key : ∀ (m i : Nat), i + m = l.length → Ev (fun k => laws_heldValS.l0 k l' (n + 2 * (i : Int)) (i : Int)) (n + 2 * (l.length : Int)) := by
    intro m
    induction m with
    | zero =>
      intro i hi
      obtain rfl : i = l.length := by omega
      refine Ev.up ?_
      simp only [laws_heldValS.l0]
      exact Ev.no (by omega) (Ev.now _)
    | succ m ih =>
      intro i hi
      have e := ih (i + 1) (by omega)
      have hv := hf i (by omega)
      have hrd : rd_T138 l' (i : Int) = l'.getD i z138 := rfl
      refine Ev.up ?_
      simp only [laws_heldValS.l0, hrd]
      rw [unw (x := (i : Int) + 1) (by omega) (by omega), unw (x := n + 2 * (i : Int) + 1) (by omega) (by omega), unw (x := n + 2 * (i : Int) + 1 + 1) (by omega) (by omega)]
      refine Ev.yes (by omega) (Ev.yes (by omega) (Ev.bind hv.1 (Ev.yes rfl (Ev.yes hv.2 ?_))))
      rw [show n + 2 * (i : Int) + 1 + 1 = n + 2 * ((i + 1 : Nat) : Int) by omega]
      exact e
  have := key l.length 0 (by omega)
  simpa using this
set_option maxHeartbeats 4000000 in
set_option maxRecDepth 100000 in
theorem laws_FnExactSetOf.does {w : World} (x0 : S69) (hw : w69 x0) {cs : List Value} (hK : k69.K w x0 cs) :
    Calls Try.prog 8 #[.agg cs.toArray] w fun e w' => e = .returned (.bool true) ∧ Below w.heap.size w w' := by
  have hK' := hK
  obtain ⟨A1, c1, rfl, l1, g1⟩ := k69_open hK
  have hk0 := hold69.nn x0
  obtain ⟨left, hleft⟩ : ∃ l : Int, l = szR (hold69 x0) 1048576 := ⟨_, rfl⟩
  have D0 := Aside0.mk (fun e : On (w.alloc (.cells #[.int .i64 x0.f0, .slice A1 x0.f1.length c1] 69)) => laws_szLedger.does hw (left := 1048576) (by decide) (by decide) (On.val hK' e.boxed))
  have N0 := On.inBox (w := w) (cs := #[.int .i64 x0.f0, .slice A1 x0.f1.length c1]) (t := 69) (i := 0) (v := .int .i64 x0.f0) rfl
  have N1 := On.inBox (w := w) (cs := #[.int .i64 x0.f0, .slice A1 x0.f1.length c1]) (t := 69) (i := 1) (v := .slice A1 x0.f1.length c1) rfl
  simp only [On.boxed_now, ← hleft] at D0
  by_cases hd : left < 0
  · have hd' : decide (left < 0) = true := decide_eq_true hd
    clear hd hw hK' g1 l1 hleft hk0
    go_enter Try.func8, Try.ntmps8
    go_wp2_with fail
    refine BW.call (e := On.hereOf N0) (D0.out _) (fun e1 => ?_)
    go_wp2
    go_ret
    exact ⟨rfl, e1.boxed.ok⟩
  · have hd' : decide (left < 0) = false := decide_eq_false hd
    have hs : s69 x0 := small69 (by have := mt (szR_lt (h := hold69 x0) (left := 1048576) (by omega)).2 (by rw [← hleft]; exact hd); omega)
    have hlong := long69 hs
    have hy1 : (c69 x0).f1.length ≤ 1048576 := by show (x0.f1.map c208).length ≤ _; rw [List.length_map]; exact hs.1
    have hy2 : ∀ y ∈ (c69 x0).f1, y.f4.length ≤ 1048576 := fun y hy => by
      obtain ⟨z, hz, rfl⟩ := List.mem_map.1 hy
      show (z.f4.map c241).length ≤ _
      rw [List.length_map]
      exact hs.2 z hz
    have hfit : ∀ a ∈ (c69 x0).f1, acctFit a := fun y hy => by
      obtain ⟨z, hz, rfl⟩ := List.mem_map.1 hy
      refine ⟨(hw.2.2 z hz).1, ?_⟩
      show (z.f4.map c241).length ≤ _
      rw [List.length_map]
      have := hs.2 z hz
      have hm : maxLen = 9223372036854775807 := rfl
      have h2 : z.f4.length ≤ 1048576 := this
      omega
    obtain ⟨kt, ht⟩ := (laws_toLedger.is hs).rounds
    have T0 := Aside0.mk (fun e : On (w.alloc (.cells #[.int .i64 x0.f0, .slice A1 x0.f1.length c1] 69)) => laws_toLedger.calls kt x0.f0 A1 c1 x0.f1 (c69 x0).f0 (c69 x0).f1 e.now (On.row g1 e.boxed) l1 ht)
    have T1 := Aside0.mk (fun e : On (w.alloc (.cells #[.int .i64 x0.f0, .slice A1 x0.f1.length c1] 69)) => laws_toLedger.does hs (On.val hK' e.boxed))
    obtain ⟨ks, hsp⟩ := (spec_SetOf.is (e := (c69 x0).f0) hy1 hfit).rounds
    have SP := Aside0.mk (fun (W : World) A d (h1 : (c69 x0).f1.length ≤ d) (hr : Kd.C k43 W A (c69 x0).f1.length (c69 x0).f1) => spec_SetOf.calls ks _ A d _ _ W hr h1 hsp)
    obtain ⟨ki, him⟩ := (impl_SetOf.is (e := (c69 x0).f0) hy1 hfit).rounds
    have IM := Aside0.mk (fun (W : World) A d (h1 : (c69 x0).f1.length ≤ d) (hr : Kd.C k43 W A (c69 x0).f1.length (c69 x0).f1) => impl_SetOf.calls ki _ A d _ _ W hr h1 him)
    have hV : (setOf (c69 x0).f0 (c69 x0).f1).length ≤ 1048576 := by
      unfold setOf
      split
      · exact Nat.le_trans (pick_le _) hy1
      · exact Nat.zero_le _
    obtain ⟨V', hmv, hV', hhv⟩ := laws_markValS.held (n := 1) hV (by decide) (by decide)
    obtain ⟨km, hmv⟩ := hmv.rounds
    obtain ⟨kh, hhv⟩ := hhv.rounds
    have EQ := Aside0.mk (fun (W : World) A d A' d' (h1 : (setOf (c69 x0).f0 (c69 x0).f1).length ≤ d) (h2 : (setOf (c69 x0).f0 (c69 x0).f1).length ≤ d') (hr : Kd.C k138 W A (setOf (c69 x0).f0 (c69 x0).f1).length (setOf (c69 x0).f0 (c69 x0).f1)) (hr' : Kd.C k138 W A' (setOf (c69 x0).f0 (c69 x0).f1).length (setOf (c69 x0).f0 (c69 x0).f1)) => laws_eqValS.same (Nat.le_trans hV (by decide)) hr h1 hr' h2)
    have EL := Aside0.mk (fun (W : World) ds ds' (hK : k37.K W (c69 x0) ds) (hL : k37.K W (c69 x0) ds') => laws_eqLedger.same hlong hK hL)
    have MK := Aside0.mk (fun (a W : World) ok v (hR : k43.R 43 W a.heap.size ok v (c69 x0).f1) (hb : Below a.heap.size a W) => laws_markLedger.keeps (n0 := (c69 x0).f0) hR hb hy1 hy2 (x := 1) (by decide) (by decide))
    have KM := Aside0.mk (fun (W : World) A d (h1 : (c69 x0).f1.length ≤ d) (hr : Kd.C k43 W A (c69 x0).f1.length (c69 x0).f1) => k37_mk W (c69 x0) h1 hr)
    have MV := Aside0.mk (fun (P : Nat → Prop) (v : Value) (W0 W : World) (hB : Below W0.heap.size W0 W) (ho : Kd.R k138 138 W W0.heap.size P v (setOf (c69 x0).f0 (c69 x0).f1)) => laws_markValS.calls km P v _ 1 _ V' W0 W hB ho hmv)
    have HV := Aside0.mk (fun (W : World) A d (h1 : V'.length ≤ d) (hr : Kd.C k138 W A V'.length V') => laws_heldValS.calls kh A d V' 1 _ W hr h1 hhv)
    clear hd hw hK' g1 l1 hleft hk0 hs hlong hy1 hy2 hfit ht hsp him hmv hhv
    generalize hM : 1 + 2 * ((setOf (c69 x0).f0 (c69 x0).f1).length : Int) = M at *
    have hM0 : decide (M < 0) = false := decide_eq_false (by omega)
    generalize setOf (c69 x0).f0 (c69 x0).f1 = V at *
    generalize c69 x0 = X at *
    clear hM hV
    go_enter Try.func8, Try.ntmps8
    go_wp2_with fail
    refine BW.call (e := On.hereOf N0) (D0.out _) (fun e1 => ?_)
    go_wp2_with fail
    refine (T0.out e1).mono ?_
    rintro _ Wa ⟨v1, rfl, hS1, hb1⟩
    obtain ⟨Aa, ca, rfl, la, ga⟩ := Kd.S_reads hS1
    obtain ⟨ea, rfl⟩ := e1.next hb1
    clear hS1 hb1
    go_wp2_with fail
    refine (SP.out ea.now _ _ la ga).mono ?_
    rintro _ Wb ⟨v2, rfl, hR2, hb2⟩
    obtain ⟨A2, c2, rfl, l2, g2⟩ := Kd.R_reads hR2
    obtain ⟨eb, rfl⟩ := ea.next hb2
    replace hR2 := Aside0.mk (Kd.R_mono (Kd.R_bound hR2) (fun k hk => (hk.2.2.1 : k < eb.now.heap.size)))
    clear la ga hb2 g2
    go_wp2_with fail
    refine (T0.out eb).mono ?_
    rintro _ Wc ⟨v3, rfl, hS3, hb3⟩
    have hR3 := Kd.R_mono (Kd.R_bound (Kd.S_R hS3)) (fun k hk => (⟨hk.2.1, hk.2.2.1⟩ : eb.now.heap.size ≤ k ∧ k < Wc.heap.size))
    obtain ⟨A3, c3, rfl, l3, g3⟩ := Kd.S_reads hS3
    obtain ⟨ec, rfl⟩ := eb.next hb3
    have HR3 := Aside0.mk hR3
    have HB3 := Aside0.mk hb3
    clear hS3 hR3 hb3
    go_wp2_with fail
    have P0 := On.old (e := ec) (o := .cells #[.int .i64 X.f0, .slice A3 X.f1.length c3] 37) N0
    have P1 := On.old (e := ec) (o := .cells #[.int .i64 X.f0, .slice A3 X.f1.length c3] 37) N1
    have Q0 := On.inBox (w := ec.now) (cs := #[.int .i64 X.f0, .slice A3 X.f1.length c3]) (t := 37) (i := 0) (v := .int .i64 X.f0) rfl
    have Q1 := On.inBox (w := ec.now) (cs := #[.int .i64 X.f0, .slice A3 X.f1.length c3]) (t := 37) (i := 1) (v := .slice A3 X.f1.length c3) rfl
    refine (IM.out _ _ _ l3 (Kd.C_alloc g3 _)).mono ?_
    rintro _ We ⟨v4, rfl, hR4, hb4⟩
    obtain ⟨A4, c4, rfl, l4, g4⟩ := Kd.R_reads hR4
    obtain ⟨e4, rfl⟩ := (On.here (ec.now.alloc (.cells #[.int .i64 X.f0, .slice A3 X.f1.length c3] 37))).next hb4
    replace hR4 := Aside0.mk (Kd.R_mono (Kd.R_bound hR4) (fun k hk => (hk.2.1 : (ec.now.alloc (.cells #[.int .i64 X.f0, .slice A3 X.f1.length c3] 37)).heap.size ≤ k)))
    clear hb4
    have hsz : eb.now.heap.size ≤ ec.now.heap.size := HB3.out.size
    have hsz2 : (ec.now.alloc (.cells #[.int .i64 X.f0, .slice A3 X.f1.length c3] 37)).heap.size = ec.now.heap.size + 1 := Array.size_push ..
    have up4 : ∀ e : On (ec.now.alloc (.cells #[.int .i64 X.f0, .slice A3 X.f1.length c3] 37)), Below eb.now.heap.size eb.now e.now := fun e => below_then (below_alloc HB3.out _) (by omega) e.ok
    have UP := Aside0.mk up4
    go_wp2_with fail
    refine BW.call (e := On.here e4.now) (EQ.out _ _ _ _ _ l4 l2 g4 (Kd.R_reads' (Kd.R_below hR2.out (UP.out e4))).2.2) (fun e5 => ?_)
    clear g4
    have B0 : ∀ e : On e4.now, e.now.cell? ⟨w.heap.size, 0, none⟩ = some (.int .i64 x0.f0) := fun e => P0 (e4.thens e)
    have B1 : ∀ e : On e4.now, e.now.cell? ⟨w.heap.size, 1, none⟩ = some (.slice A1 x0.f1.length c1) := fun e => P1 (e4.thens e)
    have C0 : ∀ e : On e4.now, e.now.cell? ⟨ec.now.heap.size, 0, none⟩ = some (.int .i64 X.f0) := fun e => Q0 (e4.thens e)
    have C1 : ∀ e : On e4.now, e.now.cell? ⟨ec.now.heap.size, 1, none⟩ = some (.slice A3 X.f1.length c3) := fun e => Q1 (e4.thens e)
    clear P0 P1 Q0 Q1
    go_wp2_with fail
    have HVV : BW.Lasts (VL [IsV (.agg #[.int .i64 X.f0, .slice A3 X.f1.length c3]), IsV (.agg #[.int .i64 x0.f0, .slice A1 x0.f1.length c1]), AggV k37 X, IsV (.bool true), IsV (.bool false)]) := lasts_cons (last_is _) (lasts_cons (last_is _) (lasts_cons (last_agg _ _) (lasts_cons (last_is _) (lasts_cons (last_is _) lasts_nil))))
    refine BW.loose (n := 5) (by kernel_rfl) rfl (VL [IsV (.agg #[.int .i64 X.f0, .slice A3 X.f1.length c3]), IsV (.agg #[.int .i64 x0.f0, .slice A1 x0.f1.length c1]), AggV k37 X, IsV (.bool true), IsV (.bool false)]) HVV [(0, 27), (1, 28), (2, 29), (3, 30), (4, 31)] (by kernel_rfl) (by kernel_rfl) (by kernel_rfl) (by rfl) ?_ ?_
    · show ∀ i ∈ [0, 1, 2, 3, 4], _
      refine steps_cons ?_ (steps_cons ?_ (steps_cons ?_ (steps_cons ?_ (steps_cons ?_ steps_nil))))
      · exact BW.loose_row HVV (k := 0) rfl rfl rfl rfl rfl 37 rfl (by kernel_rfl) rfl (e4.thens e5).blk rfl rfl rfl (fun e => rfl)
      · exact BW.loose_row HVV (k := 1) rfl rfl rfl rfl rfl 69 rfl (by kernel_rfl) rfl (ec.up (e4.thens e5)).blk rfl rfl rfl (fun e => rfl)
      · refine BW.loose_call HVV (k := 2) rfl rfl rfl rfl rfl rfl rfl rfl rfl (fun b e vs hdep hv => ?_)
        have h0 : vs 1 = _ := hv 1 (hdep 1 (by kernel_rfl))
        simp only [List.map_toArray, List.map_cons, List.map_nil]
        rw [eval_on (k := 1) (j := 1) rfl (by kernel_rfl) (hdep 1 (by kernel_rfl)) (by kernel_rfl), h0]
        exact (T1.out (ec.up (e4.thens (e5.thens e)))).mono fun r W ⟨ds, hr, hR, hb⟩ => ⟨_, hr, ⟨ds, rfl, hR⟩, hb⟩
      · refine BW.loose_call HVV (k := 3) rfl rfl rfl rfl rfl rfl rfl rfl rfl (fun b e vs hdep hv => ?_)
        have h0 : vs 0 = _ := hv 0 (hdep 0 (by kernel_rfl))
        obtain ⟨ds, h2, hk2⟩ : AggV _ _ _ _ := hv 2 (hdep 2 (by kernel_rfl))
        simp only [List.map_toArray, List.map_cons, List.map_nil]
        rw [eval_on (k := 0) (j := 0) rfl (by kernel_rfl) (hdep 0 (by kernel_rfl)) (by kernel_rfl), h0, eval_on (k := 2) (j := 2) rfl (by kernel_rfl) (hdep 2 (by kernel_rfl)) (by kernel_rfl), h2]
        exact (EL.out _ _ _ (KM.out _ _ _ l3 (On.row (Kd.C_alloc g3 _) (e4.thens (e5.thens e)))) hk2).mono fun r W ⟨hr, hb⟩ => ⟨_, hr, rfl, hb⟩
      · exact BW.loose_not HVV (k := 4) rfl rfl rfl rfl rfl rfl (m := 3) (j := 3) rfl (by kernel_rfl) (by kernel_rfl) (by kernel_rfl) (c := true) (fun W v h => h) (fun W => rfl)
    · intro e vs hv
      have h0 : vs 0 = _ := hv 0 (by decide)
      have h1 : vs 1 = _ := hv 1 (by decide)
      have h3 : vs 3 = _ := hv 3 (by decide)
      have h4 : vs 4 = _ := hv 4 (by decide)
      obtain ⟨ds, h2, hkd⟩ : AggV _ _ _ _ := hv 2 (by decide)
      simp only [fillL, List.map_cons, List.map_nil, putSel, if_true, Act.put, List.setIfInBounds_toArray, List.set_cons_zero, List.set_cons_succ]
      rw [h0, h1, h2, h3, h4]
      clear hv h0 h1 h2 h3 h4 EL KM T1 HVV
      obtain ⟨e6, he6⟩ : ∃ e6 : On e4.now, e.now = e6.now := ⟨e5.thens e, rfl⟩
      rw [he6]
      clear he6 hkd e e5 vs
      go_wp2_with fail
      refine (MK.out eb.now e6.now (fun k => eb.now.heap.size ≤ k ∧ k < ec.now.heap.size) (.slice A3 X.f1.length c3) (Kd.R_below (Kd.R_alloc HR3.out _) (e4.thens e6).ok) (UP.out (e4.thens e6))).mono ?_
      rintro _ Wh ⟨m, rfl, hm0, hbh, hkh⟩
      have hm1 : decide (m < 0) = false := decide_eq_false (by omega)
      have R4 := Aside0.mk (Kd.R_kept (Kd.R_below hR4.out e6.ok) hkh (fun k hk hS => by have h5 : k < ec.now.heap.size := hS.2; have h6 : (ec.now.alloc (.cells #[.int .i64 X.f0, .slice A3 X.f1.length c3] 37)).heap.size ≤ k := hk; omega))
      have R2 := Aside0.mk (Kd.R_kept (Kd.R_below hR2.out (UP.out (e4.thens e6))) hkh (fun k hk hS => by have h5 : eb.now.heap.size ≤ k := hS.1; have h6 : k < eb.now.heap.size := hk; omega))
      obtain ⟨eh, rfl⟩ := eb.next hbh
      clear hbh hkh MK HR3 hm0
      have E0 : ∀ e : On eh.now, e.now.cell? ⟨w.heap.size, 0, none⟩ = some (.int .i64 x0.f0) := fun e => N0 (eh.thens e)
      have E1 : ∀ e : On eh.now, e.now.cell? ⟨w.heap.size, 1, none⟩ = some (.slice A1 x0.f1.length c1) := fun e => N1 (eh.thens e)
      go_wp2_with fail
      refine BW.call (e := On.here eh.now) (EQ.out _ _ _ _ _ l4 l2 (Kd.R_reads' R4.out).2.2 (Kd.R_reads' R2.out).2.2) (fun e7 => ?_)
      go_wp2_with fail
      refine (MV.out (fun k => ec.now.heap.size + 1 ≤ k) (.slice A4 V.length c4) (w.alloc (.cells #[.int .i64 x0.f0, .slice A1 x0.f1.length c1] 69)) e7.now (eh.thens e7).ok (Kd.R_mono (Kd.R_lower (Kd.R_below R4.out e7.ok) (by have := ec.ok.size; omega)) (fun k hk => by have h6 : (ec.now.alloc (.cells #[.int .i64 X.f0, .slice A3 X.f1.length c3] 37)).heap.size ≤ k := hk; omega))).mono ?_
      rintro _ Wj ⟨rfl, hR4j, hbj, hkj⟩
      have R2j := Aside0.mk (Kd.R_kept (Kd.R_below R2.out e7.ok) hkj (fun k hk hS => by have h5 : ec.now.heap.size + 1 ≤ k := hS; have h6 : k < eb.now.heap.size := hk; omega))
      obtain ⟨ej, rfl⟩ : ∃ e : On (w.alloc (.cells #[.int .i64 x0.f0, .slice A1 x0.f1.length c1] 69)), Wj = e.now := ⟨⟨_, hbj⟩, rfl⟩
      have hR4' := Kd.R_reads' hR4j
      have HV4 := Aside0.mk (fun e : On ej.now => HV.out e.now A4 c4 (by rw [hV']; exact l4) (On.row hR4'.2.2 e))
      rw [hV'] at HV4
      clear hR4j hbj hkj R4 R2 MV HV hR4' E0 E1
      have F0 : ∀ e : On ej.now, e.now.cell? ⟨w.heap.size, 0, none⟩ = some (.int .i64 x0.f0) := fun e => N0 (ej.thens e)
      have F1 : ∀ e : On ej.now, e.now.cell? ⟨w.heap.size, 1, none⟩ = some (.slice A1 x0.f1.length c1) := fun e => N1 (ej.thens e)
      have hMM : (M != M) = false := by simp
      go_wp2_with fail
      refine BW.call (e := On.here ej.now) (HV4.out _) (fun e8 => ?_)
      go_wp2_with fail
      refine (T0.out (ej.thens e8)).mono ?_
      rintro _ Wk ⟨v6, rfl, hS6, hb6⟩
      obtain ⟨A6, c6, rfl, l6, g6⟩ := Kd.S_reads hS6
      obtain ⟨e9, rfl⟩ := e8.next hb6
      clear hS6 hb6
      go_wp2_with fail
      refine (IM.out _ _ _ l6 g6).mono ?_
      rintro _ Wl ⟨v7, rfl, hR7, hb7⟩
      obtain ⟨A7, c7, rfl, l7, g7⟩ := Kd.R_reads hR7
      obtain ⟨e10, rfl⟩ := e9.next hb7
      clear hR7 hb7
      go_wp2_with fail
      refine BW.call (e := e10) (EQ.out _ _ _ _ _ l7 l2 g7 (On.row (Kd.R_reads' R2j.out).2.2 e10)) (fun e11 => ?_)
      go_wp2_with fail
      refine BW.call (e := e11) (HV4.out _) (fun e12 => ?_)
      go_wp2
      go_ret
      exact ⟨rfl, (ej.thens e12).boxed.ok⟩

end Go.Proofs.Ytadkhkpchankjaa.F
