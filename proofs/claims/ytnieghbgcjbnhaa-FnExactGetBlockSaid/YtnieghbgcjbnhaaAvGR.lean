/-
What functions of the program come to, walked one by one.
Conditions: none beside those that each theorem names.
-/
import Derived.Test.YtnieghbgcjbnhaaAvSG
import Derived.Test.YtnieghbgcjbnhaaAvH
import Derived.Test.YtnieghbgcjbnhaaAv28
set_option linter.unusedVariables false
set_option linter.unusedSimpArgs false
namespace Go.Proofs.Ytnieghbgcjbnhaa.Av
open Go.RowKit
set_option maxRecDepth 20000
set_option maxHeartbeats 4000000

noncomputable def sameQ (q r : S43) : Bool := q.f0 == r.f0 && (q.f1 == r.f1 && allEq q.f2 r.f2)
noncomputable def sameT (q r : S46) : Bool := q.f0 == r.f0 && (allEq q.f1 r.f1 && allEq q.f2 r.f2)
noncomputable def sameB (a b : S49) : Bool := a.f0 == b.f0 && (a.f1 == b.f1 && (a.f2 == b.f2 && (a.f3.toList == b.f3.toList && (a.f7 == b.f7 && (a.f9.toList == b.f9.toList && (sameQ a.f4 b.f4 && (sameT a.f5 b.f5 && (allEq a.f6 b.f6 && allEq a.f8 b.f8))))))))
theorem sameB_self (b : S49) : sameB b b = true := by simp [sameB, sameQ, sameT, allEq_self]

theorem sameB_eq {a b : S49} (h : a = b) : sameB a b = true := by rw [h]; exact sameB_self b
theorem gb_eq {l : List Int} {x y : S49} {a b : Bool} (h1 : gbR l x a) (hx : a = false → x = z49) (h2 : gbR l y b) (hy : b = false → y = z49) : x = y := by
  have e := gb_same h1 h2
  subst e
  cases a with
  | true => exact (h1.2 y (h2.1 rfl).1 (h2.1 rfl).2).2
  | false => rw [hx rfl, hy rfl]
def mkStr (k : Int) (j : Int) (x : ByteArray) : Prop := x = mt (k + j)
def mkInt (k : Int) (j : Int) (x : Int) : Prop := x = k + j
def mkVal (k : Int) (j : Int) (x : S107) : Prop := x.f0 = mt (k + 2 * j) ∧ x.f1 = k + 2 * j + 1
def mkQ (k : Int) (q : S43) : Prop := Upto (mkStr k) (fun n => q.f2[n]?) q.f2.length
def mkT (k : Int) (t : S46) : Prop := Upto (mkStr k) (fun n => t.f1[n]?) t.f1.length ∧ Upto (mkInt (k + t.f1.length)) (fun n => t.f2[n]?) t.f2.length
def mkB (k : Int) (b : S49) : Prop := mkQ k b.f4 ∧ mkT (k + b.f4.f2.length) b.f5 ∧ Upto (mkTx (k + b.f4.f2.length + b.f5.f1.length + b.f5.f2.length)) (fun n => b.f6[n]?) b.f6.length ∧ Upto (mkVal (k + b.f4.f2.length + b.f5.f1.length + b.f5.f2.length + 5 * b.f6.length)) (fun n => b.f8[n]?) b.f8.length
theorem map_id' {l q : List Int} (hA : ∀ (j : Nat) (x : Int), (j : Int) < l.length → l[j]? = some x → q[j]? = some (id x)) (hL : q.length = l.length) : q = l := by
  have := ts_end (f := id) (i := l.length) hA hL (by omega)
  simpa using this
theorem mkB_of {k : Int} {b : S49} {a0 a1 a2 : Int} {a3 : ByteArray} {b0 b1 c0 : Int} {q0 q1 : List ByteArray} {q2 : List Int} {q3 : List S26} {a7 : Bool} {q4 : List S107} {a9 : ByteArray} (hl0 : q0.length = b.f4.f2.length) (hl1 : q1.length = b.f5.f1.length) (hl2 : q2.length = b.f5.f2.length) (hl3 : q3.length = b.f6.length) (hl4 : q4.length = b.f8.length)
    (hm0 : Upto (mkStr k) (fun n => q0[n]?) b.f4.f2.length) (hm1 : Upto (mkStr (k + b.f4.f2.length)) (fun n => q1[n]?) b.f5.f1.length) (hm2 : Upto (mkInt (k + b.f4.f2.length + b.f5.f1.length)) (fun n => q2[n]?) b.f5.f2.length) (hm3 : Upto (mkTx (k + b.f4.f2.length + b.f5.f1.length + b.f5.f2.length)) (fun n => q3[n]?) b.f6.length) (hm4 : Upto (mkVal (k + b.f4.f2.length + b.f5.f1.length + b.f5.f2.length + 5 * b.f6.length)) (fun n => q4[n]?) b.f8.length) :
    mkB k ⟨a0, a1, a2, a3, ⟨b0, b1, q0⟩, ⟨c0, q1, q2⟩, q3, a7, q4, a9⟩ := by
  rw [← hl0, ← hl1, ← hl2, ← hl3, ← hl4] at *
  exact ⟨hm0, ⟨hm1, hm2⟩, hm3, hm4⟩
theorem u8_wf {l : List Int} (h : ∀ y ∈ l, (Lit.int .u8 y).wf = true) : u8s l := fun n hn => by
  have := h n hn
  simp only [Lit.wf, Bool.and_eq_true, decide_eq_true_eq] at this
  have h1 : IntKind.u8.min = 0 := by decide
  have h2 : IntKind.u8.max = 255 := by decide
  omega
theorem i_GetNamesR (l : List Int) (a : Int) (hl : l.length ≤ 2000000) : ∃ r0 : List ByteArray, ∃ r1 : Int, ∃ r2 : Bool, (SmN r0 ∧ (r2 = true → 0 ≤ a ∧ a < r1 ∧ r1 ≤ l.length) ∧ gsR l a r0 r1 r2) ∧ Fn Try.prog 183 [lV (l.map dB), iV a] (lookH []) (.tup [.c (.ref 64), .c (.d (.v (.int .i64 r1))), .c (.d (.v (.bool r2)))]) (lookH [(64, some (.row 1 9 (r0.map dS) false true))]) := by
 have key : ∃ x' h', ((fun x' h' => ∃ r0 : List ByteArray, ∃ r1 : Int, ∃ r2 : Bool, (SmN r0 ∧ (r2 = true → 0 ≤ a ∧ a < r1 ∧ r1 ≤ l.length) ∧ gsR l a r0 r1 r2) ∧ x' = .tup [.c (.ref 64), .c (.d (.v (.int .i64 r1))), .c (.d (.v (.bool r2)))] ∧ h' = [(64, some (.row 1 9 (r0.map dS) false true))])) x' h' ∧ Fn Try.prog 183 [lV (l.map dB), iV a] (lookH []) x' (lookH h') := by
  refine Fn.bodyX (N := 48) hτ Try.func183 rfl rfl rfl rfl ?_
  refine X.seq ?_
  refine X.rk ⟨[(0, lV (l.map dB)), (1, iV a)], [], 112⟩ hτ hmix (by kernel_rfl) (by kernel_rfl) rfl ?_
  refine X.seq ?_
  refine X.rs 2 hτ hmix (by kernel_rfl) ?_
  obtain ⟨r1, r2, r3, hr5, hf4⟩ := i_GetNum l a (by first | omega | assumption)
  obtain ⟨hgn0, hgn1, hgn2⟩ := hr5
  refine CH.call hf4 Try.func181 ⟨rfl, rfl⟩ [] (by kernel_rfl) (by kernel_rfl) (by kernel_rfl) (by kernel_rfl) ?_
  refine CH.go 7 hτ (by kernel_rfl) ?_
  refine CH.endk ⟨[(0, lV (l.map dB)), (7, iV r1), (8, iV r2), (9, bV r3)], [], 272⟩ (by kernel_rfl) (by kernel_rfl) rfl ?_
  refine X.seq ?_
  refine X.seq ?_
  refine X.rs 3 hτ hmix (by kernel_rfl) ?_
  rcases Bool.eq_false_or_eq_true (!r3) with hb6 | hb6
  ·refine CH.alt 22 (sV (.bool (!r3))) (sV (.bool true)) (by kernel_rfl) (by rw [hb6]) ?_
   refine CH.alt 23 (sV (.bool (!r3))) (sV (.bool true)) (by kernel_rfl) (by rw [hb6]) ?_
   replace hb6 := bnot_yes (hb6)
   refine CH.go 4 hτ (by kernel_rfl) ?_
   refine CH.endk ⟨[(0, lV (l.map dB)), (7, iV r1), (8, iV r2), (27, bV true)], [], 384⟩ (by kernel_rfl) (by kernel_rfl) rfl ?_
   refine X.ifT (by kernel_rfl) ?_
   refine X.seq ?_
   refine X.rk ⟨[(4, .e (.c (.nil))), (5, iV 0), (6, bV false)], [], 432⟩ hτ hmix (by kernel_rfl) (by kernel_rfl) rfl ?_
   refine X.ret ?_
   exact ⟨trivial, _, _, ⟨[], 0, false, (by first | exact ⟨⟨by simp, all_nil⟩, (fun h => by cases h), gs_bad hgn2 (.inl ‹_›)⟩ | exact ⟨⟨by simp, all_nil⟩, (fun h => by cases h), gs_bad hgn2 (.inr ‹_›)⟩ | exact ⟨⟨by simp, all_nil⟩, (fun h => by cases h), gs_bad2 hI (by omega) ‹_› (by omega) hgt2 ‹_›⟩ | exact ⟨⟨by omega, hS⟩, fun _ => ⟨by omega, by omega, by omega⟩, gs_end hI (by omega) ‹_›⟩), rfl, rfl⟩, .inr ⟨_, Wk.ownT 4 1 9 (by kernel_rfl) (by kernel_rfl) (by kernel_rfl), Ret.mk' [(64, 432)] (by kernel_rfl) (by kernel_rfl) (by kernel_rfl)⟩⟩
  ·refine CH.alt 22 (sV (.bool (!r3))) (sV (.bool false)) (by kernel_rfl) (by rw [hb6]) ?_
   refine CH.alt 23 (sV (.bool (!r3))) (sV (.bool false)) (by kernel_rfl) (by rw [hb6]) ?_
   replace hb6 := bnot_no (hb6)
   refine CH.go 1 hτ (by kernel_rfl) ?_
   obtain ⟨r7, hr9, hf8⟩ := i_inRange r1 0 100
   replace hr9 := hr9.symm; subst hr9
   refine CH.call hf8 Try.func72 ⟨rfl, rfl⟩ [] (by kernel_rfl) (by kernel_rfl) (by kernel_rfl) (by kernel_rfl) ?_
   refine CH.go 2 hτ (by kernel_rfl) ?_
   refine CH.endk ⟨[(0, lV (l.map dB)), (7, iV r1), (8, iV r2), (27, bV (!(inR r1 0 100)))], [], 384⟩ (by kernel_rfl) (by kernel_rfl) rfl ?_
   refine X.if_ (b := !(inR r1 0 100)) (by kernel_rfl) (fun hb11 => ?_) (fun hb11 => ?_)
   ·replace hb11 := inR_no (bnot_yes (hb11))
    refine X.seq ?_
    refine X.rk ⟨[(4, .e (.c (.nil))), (5, iV 0), (6, bV false)], [], 432⟩ hτ hmix (by kernel_rfl) (by kernel_rfl) rfl ?_
    refine X.ret ?_
    exact ⟨trivial, _, _, ⟨[], 0, false, (by first | exact ⟨⟨by simp, all_nil⟩, (fun h => by cases h), gs_bad hgn2 (.inl ‹_›)⟩ | exact ⟨⟨by simp, all_nil⟩, (fun h => by cases h), gs_bad hgn2 (.inr ‹_›)⟩ | exact ⟨⟨by simp, all_nil⟩, (fun h => by cases h), gs_bad2 hI (by omega) ‹_› (by omega) hgt2 ‹_›⟩ | exact ⟨⟨by omega, hS⟩, fun _ => ⟨by omega, by omega, by omega⟩, gs_end hI (by omega) ‹_›⟩), rfl, rfl⟩, .inr ⟨_, Wk.ownT 4 1 9 (by kernel_rfl) (by kernel_rfl) (by kernel_rfl), Ret.mk' [(64, 432)] (by kernel_rfl) (by kernel_rfl) (by kernel_rfl)⟩⟩
   ·replace hb11 := inR_yes (bnot_no (hb11))
    refine X.skip ?_
    refine X.seq ?_
    have hgo := hgn1 ‹_›
    have hng := hgn2
    refine X.rk ⟨[(0, lV (l.map dB)), (7, iV r1), (8, iV r2), (10, .e (.c (.nil)))], [], 400⟩ hτ hmix (by kernel_rfl) (by kernel_rfl) rfl ?_
    refine X.seq ?_
    refine X.seq ?_
    refine X.rk ⟨[(0, lV (l.map dB)), (8, iV r2), (10, .e (.c (.nil))), (28, iV r1), (29, iV 0)], [], 432⟩ hτ hmix (by kernel_rfl) (by kernel_rfl) rfl ?_
    refine X.block ?_
    refine X.weak (Wk.ownT 10 1 9 (by kernel_rfl) (by kernel_rfl) (by kernel_rfl)) ?_
    -- 6: v8 : Int, Lv10 : List ByteArray, v29 : Int
    refine X.loop (σ := { g : Int × (List ByteArray) × Int // (fun (v8 : Int) (Lv10 : List ByteArray) (v29 : Int) => 0 ≤ v29 ∧ v29 ≤ r1 ∧ r1 ≤ 100 ∧ a < v8 ∧ v8 ≤ l.length ∧ (Lv10.length : Int) = v29 ∧ (∀ s, s ∈ Lv10 → SmS s) ∧ gsI l a r1 v8 v29 Lv10) g.1 g.2.1 g.2.2 }) (fun g => (fun (v8 : Int) (Lv10 : List ByteArray) (v29 : Int) => ⟨[(0, lV (l.map dB)), (8, iV v8), (10, rV 432), (28, iV r1), (29, iV v29)], [(432, some (.row 1 9 (Lv10.map dS) false true))], 448⟩) g.1.1 g.1.2.1 g.1.2.2) (fun g => (fun (v8 : Int) (Lv10 : List ByteArray) (v29 : Int) => (r1 - v29).toNat) g.1.1 g.1.2.1 g.1.2.2) ⟨(r2, [], 0), ⟨by first | omega | (dsimp only; omega), by first | omega | (dsimp only; omega), by first | omega | (dsimp only; omega), by first | omega | (dsimp only; omega), by first | omega | (dsimp only; omega), by simp, all_nil, gs_zero hng⟩⟩ (Wk.less (by kernel_rfl)) (fun g => ?_)
    obtain ⟨⟨v8, Lv10, v29⟩, hg13⟩ := g
    have hg13 : 0 ≤ v29 ∧ v29 ≤ r1 ∧ r1 ≤ 100 ∧ a < v8 ∧ v8 ≤ l.length ∧ (Lv10.length : Int) = v29 ∧ (∀ s, s ∈ Lv10 → SmS s) ∧ gsI l a r1 v8 v29 Lv10 := hg13
    obtain ⟨_, _, _, _, _, _, hS, hI⟩ := hg13
    refine X.seq ?_
    refine X.rk ⟨[(0, lV (l.map dB)), (8, iV v8), (10, rV 432), (28, iV r1), (29, iV v29), (30, bV (decide ((v29 : Int) < r1)))], [(432, some (.row 1 9 (Lv10.map dS) false true))], 464⟩ hτ hmix (by kernel_rfl) (by kernel_rfl) rfl ?_
    refine X.seq ?_
    refine X.if_ (b := decide ((v29 : Int) < r1)) (by kernel_rfl) (fun hb14 => ?_) (fun hb14 => ?_)
    ·replace hb14 := of_decide_eq_true (hb14)
     refine X.skip ?_
     refine X.seq ?_
     refine X.block ?_
     refine X.seq ?_
     refine X.rs 2 hτ hmix (by kernel_rfl) ?_
     obtain ⟨r15, r16, r17, hr19, hf18⟩ := i_GetText l v8 (by first | omega | assumption)
     obtain ⟨hgt0, hgt1, hgt2, hgt3⟩ := hr19
     refine CH.call hf18 Try.func182 ⟨rfl, rfl⟩ [] (by kernel_rfl) (by kernel_rfl) (by kernel_rfl) (by kernel_rfl) ?_
     refine CH.go 7 hτ (by kernel_rfl) ?_
     refine CH.endk ⟨[(0, lV (l.map dB)), (10, rV 432), (11, .e (.c (.d (.v (.string r15))))), (12, iV r16), (13, bV r17), (28, iV r1), (29, iV v29)], [(432, some (.row 1 9 (Lv10.map dS) false true))], 624⟩ (by kernel_rfl) (by kernel_rfl) rfl ?_
     refine X.seq ?_
     refine X.seq ?_
     have hgp := hgt1
     refine X.rk ⟨[(0, lV (l.map dB)), (10, rV 432), (11, .e (.c (.d (.v (.string r15))))), (12, iV r16), (28, iV r1), (29, iV v29), (39, bV (!r17))], [(432, some (.row 1 9 (Lv10.map dS) false true))], 656⟩ hτ hmix (by kernel_rfl) (by kernel_rfl) rfl ?_
     refine X.if_ (b := !r17) (by kernel_rfl) (fun hb20 => ?_) (fun hb20 => ?_)
     ·replace hb20 := bnot_yes (hb20)
      refine X.seq ?_
      refine X.rk ⟨[(4, .e (.c (.nil))), (5, iV 0), (6, bV false)], [], 704⟩ hτ hmix (by kernel_rfl) (by kernel_rfl) rfl ?_
      refine X.ret ?_
      exact ⟨trivial, _, _, ⟨[], 0, false, (by first | exact ⟨⟨by simp, all_nil⟩, (fun h => by cases h), gs_bad hgn2 (.inl ‹_›)⟩ | exact ⟨⟨by simp, all_nil⟩, (fun h => by cases h), gs_bad hgn2 (.inr ‹_›)⟩ | exact ⟨⟨by simp, all_nil⟩, (fun h => by cases h), gs_bad2 hI (by omega) ‹_› (by omega) hgt2 ‹_›⟩ | exact ⟨⟨by omega, hS⟩, fun _ => ⟨by omega, by omega, by omega⟩, gs_end hI (by omega) ‹_›⟩), rfl, rfl⟩, .inr ⟨_, Wk.ownT 4 1 9 (by kernel_rfl) (by kernel_rfl) (by kernel_rfl), Ret.mk' [(64, 704)] (by kernel_rfl) (by kernel_rfl) (by kernel_rfl)⟩⟩
     ·replace hb20 := bnot_no (hb20)
      refine X.skip ?_
      refine X.seq ?_
      have hgp2 := hgt1 ‹_›
      refine X.rs 3 hτ hmix (by kernel_rfl) ?_
      have el21 : (Lv10.map dS).length = Lv10.length := List.length_map ..
      have el22 : (([r15] : List ByteArray).map dS).length = ([r15] : List ByteArray).length := List.length_map ..
      have el23 : ([r15] : List ByteArray).length = 1 := rfl
      refine CH.app hτ (rows := (Lv10.map dS)) (rows2 := (([r15] : List ByteArray).map dS)) (sz := 1) (bys := 16) true (by kernel_rfl) (by kernel_rfl) (fun _ => flat_d dS (fun x => rfl)) (flat_ok (f := dS) (fun x => rfl)) (by simp only [List.length_map] <;> (first | done | omega | (simp; done) | (simp; omega))) (by kernel_rfl) ?_
      refine CH.go 1 hτ (by kernel_rfl) ?_
      refine CH.endk ⟨[(0, lV (l.map dB)), (10, rV 704), (12, iV r16), (28, iV r1), (29, iV v29)], [(704, some (.row 1 9 ((Lv10.map dS) ++ (([r15] : List ByteArray).map dS)) false true))], 736⟩ (by kernel_rfl) (by kernel_rfl) (s2 := ⟨[(0, lV (l.map dB)), (10, rV 704), (12, iV r16), (28, iV r1), (29, iV v29)], [(704, some (.row 1 9 ((Lv10 ++ ([r15] : List ByteArray)).map dS) false true))], 736⟩) (congrArg (fun z : List (List D) => (⟨[(0, lV (l.map dB)), (10, rV 704), (12, iV r16), (28, iV r1), (29, iV v29)], [(704, some (.row 1 9 z false true))], 736⟩ : St)) (show (Lv10.map dS) ++ (([r15] : List ByteArray).map dS) = ((Lv10 ++ ([r15] : List ByteArray)).map dS) from List.map_append.symm)) ?_
      refine X.rk ⟨[(0, lV (l.map dB)), (8, iV r16), (10, rV 704), (28, iV r1), (29, iV v29)], [(704, some (.row 1 9 ((Lv10 ++ ([r15] : List ByteArray)).map dS) false true))], 768⟩ hτ hmix (by kernel_rfl) (by kernel_rfl) rfl ?_
      refine X.rk ⟨[(0, lV (l.map dB)), (8, iV r16), (10, rV 704), (28, iV r1), (29, iV (wrap64 (v29 + 1)))], [(704, some (.row 1 9 ((Lv10 ++ ([r15] : List ByteArray)).map dS) false true))], 800⟩ hτ hmix (by kernel_rfl) (by kernel_rfl) (s2 := ⟨[(0, lV (l.map dB)), (8, iV r16), (10, rV 704), (28, iV r1), (29, iV (v29 + 1))], [(704, some (.row 1 9 ((Lv10 ++ ([r15] : List ByteArray)).map dS) false true))], 800⟩) (congrArg (fun z : Int => (⟨[(0, lV (l.map dB)), (8, iV r16), (10, rV 704), (28, iV r1), (29, iV z)], [(704, some (.row 1 9 ((Lv10 ++ ([r15] : List ByteArray)).map dS) false true))], 800⟩ : St)) (show wrap64 (v29 + 1) = (v29 + 1) by rw [w64 (n := (v29 + 1)) (by omega) (by omega)])) ?_
      refine ⟨⟨(r16, (Lv10 ++ ([r15] : List ByteArray)), (v29 + 1)), ⟨by first | omega | (dsimp only; omega), by first | omega | (dsimp only; omega), by first | omega | (dsimp only; omega), by first | omega | (dsimp only; omega), by first | omega | (dsimp only; omega), by simp only [List.length_append, List.length_cons, List.length_nil]; (first | omega | (dsimp only; omega)), all_app hS (all_one hgt0), gs_step hI (by first | omega | (dsimp only; omega)) ‹_› (by first | omega | (dsimp only; omega)) hgt2⟩⟩, by first | exact rfl | omega | (dsimp only; omega) | (simp only [List.length_append, List.length_cons, List.length_nil, List.length_set]; omega) | (simp; done) | (simp; omega), Wk.mk' [(432, 704)] (by kernel_rfl) (by kernel_rfl) (by kernel_rfl)⟩
    ·replace hb14 := of_decide_eq_false (hb14)
     refine X.exit ?_
     refine X.seq ?_
     refine X.rk ⟨[(4, rV 432), (5, iV v8), (6, bV true)], [(432, some (.row 1 9 (Lv10.map dS) false true))], 544⟩ hτ hmix (by kernel_rfl) (by kernel_rfl) rfl ?_
     refine X.ret ?_
     exact ⟨trivial, _, _, ⟨Lv10, v8, true, (by first | exact ⟨⟨by simp, all_nil⟩, (fun h => by cases h), gs_bad hgn2 (.inl ‹_›)⟩ | exact ⟨⟨by simp, all_nil⟩, (fun h => by cases h), gs_bad hgn2 (.inr ‹_›)⟩ | exact ⟨⟨by simp, all_nil⟩, (fun h => by cases h), gs_bad2 hI (by omega) ‹_› (by omega) hgt2 ‹_›⟩ | exact ⟨⟨by omega, hS⟩, fun _ => ⟨by omega, by omega, by omega⟩, gs_end hI (by omega) ‹_›⟩), rfl, rfl⟩, .inl (Ret.mk' [(64, 432)] (by kernel_rfl) (by kernel_rfl) (by kernel_rfl))⟩
 obtain ⟨_, _, ⟨r0, r1, r2, h1_, rfl, rfl⟩, hf⟩ := key
 exact ⟨r0, r1, r2, h1_, hf⟩

theorem i_gnamesR (bs : List Int) (i0 : Int) (h0 : Bool) (hl : bs.length ≤ 4611686018427387904) (hi : 0 ≤ i0 ∧ i0 ≤ bs.length)  (hb : bs.length ≤ 2000000) : ∃ r0 : List ByteArray, ∃ i1 : Int, ∃ h1 : Bool, (SmN r0 ∧ ∀ n r, nmOk n → RS bs i0 h0 (namesB n ++ r) → RS bs i1 h1 r ∧ r0 = n) ∧ (0 ≤ i1 ∧ i1 ≤ bs.length) ∧ Fn Try.prog 136 [.pt 0 0 0] (lookH [(0, some (.box [.k 0 (.sl (bs.map dB)), .k 1 (.v (.int .i64 i0)), .k 2 (.v (.bool h0))]))]) (rV 64) (lookH [(0, some (.box [.k 0 (.sl (bs.map dB)), .d (.v (.int .i64 i1)), .d (.v (.bool h1))])), (64, some (.row 1 9 (r0.map dS) false true))]) := by
 have key : ∃ x' h', ((fun x' h' => ∃ r0 : List ByteArray, ∃ i1 : Int, ∃ h1 : Bool, (SmN r0 ∧ ∀ n r, nmOk n → RS bs i0 h0 (namesB n ++ r) → RS bs i1 h1 r ∧ r0 = n) ∧ (0 ≤ i1 ∧ i1 ≤ bs.length) ∧ x' = rV 64 ∧ h' = [(0, some (.box [.k 0 (.sl (bs.map dB)), .d (.v (.int .i64 i1)), .d (.v (.bool h1))])), (64, some (.row 1 9 (r0.map dS) false true))])) x' h' ∧ Fn Try.prog 136 [.pt 0 0 0] (lookH [(0, some (.box [.k 0 (.sl (bs.map dB)), .k 1 (.v (.int .i64 i0)), .k 2 (.v (.bool h0))]))]) x' (lookH h') := by
  refine Fn.bodyX (N := 35) hτ Try.func136 rfl rfl rfl rfl ?_
  refine X.seq ?_
  refine X.rk ⟨[(0, .pt 0 0 0)], [(0, some (.box [.k 0 (.sl (bs.map dB)), .d (.v (.int .i64 i0)), .d (.v (.bool h0))]))], 80⟩ hτ hmix (by kernel_rfl) (by kernel_rfl) rfl ?_
  refine X.seq ?_
  refine X.rs 8 hτ hmix (by kernel_rfl) ?_
  obtain ⟨r1, r2, r3, hr5, hf4⟩ := i_GetNamesR bs i0 (by first | omega | assumption)
  obtain ⟨hgs0, hgs1, hgs2⟩ := hr5
  refine CH.call hf4 Try.func183 ⟨rfl, rfl⟩ [] (by kernel_rfl) (by kernel_rfl) (by kernel_rfl) (by kernel_rfl) ?_
  refine CH.go 7 hτ (by kernel_rfl) ?_
  refine CH.endk ⟨[(0, .pt 0 0 0), (3, rV 208), (4, iV r2), (5, bV r3)], [(0, some (.box [.k 0 (.sl (bs.map dB)), .d (.v (.int .i64 i0)), .d (.v (.bool h0))])), (208, some (.row 1 9 (r1.map dS) false true))], 336⟩ (by kernel_rfl) (by kernel_rfl) rfl ?_
  refine X.seq ?_
  refine X.seq ?_
  refine X.rs 5 hτ hmix (by kernel_rfl) ?_
  rcases Bool.eq_false_or_eq_true (h0) with hb6 | hb6
  ·refine CH.alt 22 (sV (.bool (h0))) (sV (.bool true)) (by kernel_rfl) (by rw [hb6]) ?_
   refine CH.alt 23 (sV (.bool (h0))) (sV (.bool true)) (by kernel_rfl) (by rw [hb6]) ?_
   refine CH.go 3 hτ (by kernel_rfl) ?_
   refine CH.endk ⟨[(0, .pt 0 0 0), (3, rV 208), (4, iV r2), (26, bV true)], [(0, some (.box [.k 0 (.sl (bs.map dB)), .d (.v (.int .i64 i0)), .d (.v (.bool h0))])), (208, some (.row 1 9 (r1.map dS) false true))], 464⟩ (by kernel_rfl) (by kernel_rfl) rfl ?_
   refine X.ifT (by kernel_rfl) ?_
   refine X.seq ?_
   refine X.rk ⟨[], [(0, some (.box [.k 0 (.sl (bs.map dB)), .d (.v (.int .i64 i0)), .d (.v (.bool true))]))], 528⟩ hτ hmix (by kernel_rfl) (by kernel_rfl) rfl ?_
   refine X.seq ?_
   refine X.rk ⟨[(2, .e (.c (.nil)))], [(0, some (.box [.k 0 (.sl (bs.map dB)), .d (.v (.int .i64 i0)), .d (.v (.bool true))]))], 544⟩ hτ hmix (by kernel_rfl) (by kernel_rfl) rfl ?_
   refine X.ret ?_
   exact ⟨trivial, _, _, ⟨[], i0, true, (by first | exact ⟨⟨by simp, all_nil⟩, rd_nms0 hgs2 hi.1 (.inl ‹_›)⟩ | exact ⟨⟨by simp, all_nil⟩, rd_nms0 hgs2 hi.1 (.inr ‹_›)⟩ | exact ⟨hgs0, rd_nms1 hgs2 hi.1⟩), (by omega), rfl, rfl⟩, .inr ⟨_, Wk.ownT 2 1 9 (by kernel_rfl) (by kernel_rfl) (by kernel_rfl), Ret.mk' [(64, 544)] (by kernel_rfl) (by kernel_rfl) (by kernel_rfl)⟩⟩
  ·refine CH.alt 22 (sV (.bool (h0))) (sV (.bool false)) (by kernel_rfl) (by rw [hb6]) ?_
   refine CH.alt 23 (sV (.bool (h0))) (sV (.bool false)) (by kernel_rfl) (by rw [hb6]) ?_
   refine CH.go 3 hτ (by kernel_rfl) ?_
   refine CH.endk ⟨[(0, .pt 0 0 0), (3, rV 208), (4, iV r2), (26, bV (!r3))], [(0, some (.box [.k 0 (.sl (bs.map dB)), .d (.v (.int .i64 i0)), .d (.v (.bool h0))])), (208, some (.row 1 9 (r1.map dS) false true))], 464⟩ (by kernel_rfl) (by kernel_rfl) rfl ?_
   refine X.if_ (b := !r3) (by kernel_rfl) (fun hb7 => ?_) (fun hb7 => ?_)
   ·replace hb7 := bnot_yes (hb7)
    refine X.seq ?_
    refine X.rk ⟨[], [(0, some (.box [.k 0 (.sl (bs.map dB)), .d (.v (.int .i64 i0)), .d (.v (.bool true))]))], 528⟩ hτ hmix (by kernel_rfl) (by kernel_rfl) rfl ?_
    refine X.seq ?_
    refine X.rk ⟨[(2, .e (.c (.nil)))], [(0, some (.box [.k 0 (.sl (bs.map dB)), .d (.v (.int .i64 i0)), .d (.v (.bool true))]))], 544⟩ hτ hmix (by kernel_rfl) (by kernel_rfl) rfl ?_
    refine X.ret ?_
    exact ⟨trivial, _, _, ⟨[], i0, true, (by first | exact ⟨⟨by simp, all_nil⟩, rd_nms0 hgs2 hi.1 (.inl ‹_›)⟩ | exact ⟨⟨by simp, all_nil⟩, rd_nms0 hgs2 hi.1 (.inr ‹_›)⟩ | exact ⟨hgs0, rd_nms1 hgs2 hi.1⟩), (by omega), rfl, rfl⟩, .inr ⟨_, Wk.ownT 2 1 9 (by kernel_rfl) (by kernel_rfl) (by kernel_rfl), Ret.mk' [(64, 544)] (by kernel_rfl) (by kernel_rfl) (by kernel_rfl)⟩⟩
   ·replace hb7 := bnot_no (hb7)
    refine X.skip ?_
    refine X.seq ?_
    have hgo := hgs1 ‹_›
    refine X.rk ⟨[(3, rV 208)], [(0, some (.box [.k 0 (.sl (bs.map dB)), .d (.v (.int .i64 r2)), .d (.v (.bool h0))])), (208, some (.row 1 9 (r1.map dS) false true))], 544⟩ hτ hmix (by kernel_rfl) (by kernel_rfl) rfl ?_
    refine X.seq ?_
    refine X.rk ⟨[(2, rV 208)], [(0, some (.box [.k 0 (.sl (bs.map dB)), .d (.v (.int .i64 r2)), .d (.v (.bool h0))])), (208, some (.row 1 9 (r1.map dS) false true))], 576⟩ hτ hmix (by kernel_rfl) (by kernel_rfl) rfl ?_
    refine X.ret ?_
    exact ⟨trivial, _, _, ⟨r1, r2, h0, (by first | exact ⟨⟨by simp, all_nil⟩, rd_nms0 hgs2 hi.1 (.inl ‹_›)⟩ | exact ⟨⟨by simp, all_nil⟩, rd_nms0 hgs2 hi.1 (.inr ‹_›)⟩ | exact ⟨hgs0, rd_nms1 hgs2 hi.1⟩), (by omega), rfl, rfl⟩, .inl (Ret.mk' [(64, 208)] (by kernel_rfl) (by kernel_rfl) (by kernel_rfl))⟩
 obtain ⟨_, _, ⟨r0, i1, h1, h1_, h2_, rfl, rfl⟩, hf⟩ := key
 exact ⟨r0, i1, h1, h1_, h2_, hf⟩

theorem i_gblockR (bs : List Int) (i0 : Int) (h0 : Bool) (hl : bs.length ≤ 4611686018427387904) (hi : 0 ≤ i0 ∧ i0 ≤ bs.length)  (hb : bs.length ≤ 2000000) : ∃ r0 : S49, ∃ i1 : Int, ∃ h1 : Bool, (Sm49 r0 ∧ ∀ X, WB bs i0 h0 X → h1 = false ∧ r0 = X) ∧ (0 ≤ i1 ∧ i1 ≤ bs.length) ∧ Fn Try.prog 78 [.pt 0 0 0] (lookH [(0, some (.box [.k 0 (.sl (bs.map dB)), .k 1 (.v (.int .i64 i0)), .k 2 (.v (.bool h0))]))]) (.e (.agg [.d (.v (.int .i64 r0.f0)), .d (.v (.int .i64 r0.f1)), .d (.v (.int .i64 r0.f2)), .d (.v (.string r0.f3)), .d (.v (.int .i64 r0.f4.f0)), .d (.v (.int .i64 r0.f4.f1)), .ref 64, .d (.v (.int .i64 r0.f5.f0)), .ref 65, .ref 66, .ref 67, .d (.v (.bool r0.f7)), .ref 68, .d (.v (.string r0.f9))])) (lookH [(0, some (.box [.k 0 (.sl (bs.map dB)), .d (.v (.int .i64 i1)), .d (.v (.bool h1))])), (64, some (.row 1 9 (r0.f4.f2.map dS) false true)), (65, some (.row 1 9 (r0.f5.f1.map dS) false true)), (66, some (.row 1 3 (r0.f5.f2.map dI) false true)), (67, some (.row 5 26 (r0.f6.map d26) false true)), (68, some (.row 2 107 (r0.f8.map d107) false true))]) := by
 have key : ∃ x' h', ((fun x' h' => ∃ r0 : S49, ∃ i1 : Int, ∃ h1 : Bool, (Sm49 r0 ∧ ∀ X, WB bs i0 h0 X → h1 = false ∧ r0 = X) ∧ (0 ≤ i1 ∧ i1 ≤ bs.length) ∧ x' = .e (.agg [.d (.v (.int .i64 r0.f0)), .d (.v (.int .i64 r0.f1)), .d (.v (.int .i64 r0.f2)), .d (.v (.string r0.f3)), .d (.v (.int .i64 r0.f4.f0)), .d (.v (.int .i64 r0.f4.f1)), .ref 64, .d (.v (.int .i64 r0.f5.f0)), .ref 65, .ref 66, .ref 67, .d (.v (.bool r0.f7)), .ref 68, .d (.v (.string r0.f9))]) ∧ h' = [(0, some (.box [.k 0 (.sl (bs.map dB)), .d (.v (.int .i64 i1)), .d (.v (.bool h1))])), (64, some (.row 1 9 (r0.f4.f2.map dS) false true)), (65, some (.row 1 9 (r0.f5.f1.map dS) false true)), (66, some (.row 1 3 (r0.f5.f2.map dI) false true)), (67, some (.row 5 26 (r0.f6.map d26) false true)), (68, some (.row 2 107 (r0.f8.map d107) false true))])) x' h' ∧ Fn Try.prog 78 [.pt 0 0 0] (lookH [(0, some (.box [.k 0 (.sl (bs.map dB)), .k 1 (.v (.int .i64 i0)), .k 2 (.v (.bool h0))]))]) x' (lookH h') := by
  refine Fn.bodyX (N := 94) hτ Try.func78 rfl rfl rfl rfl ?_
  refine X.seq ?_
  refine X.rk ⟨[(0, .pt 0 0 0), (2, .pt 64 0 0)], [(0, some (.box [.k 0 (.sl (bs.map dB)), .d (.v (.int .i64 i0)), .d (.v (.bool h0))])), (64, some (.box [.d (.v (.int .i64 0)), .d (.v (.int .i64 0)), .d (.v (.int .i64 0)), .d (.v (.string (⟨#[]⟩ : ByteArray))), .d (.v (.int .i64 0)), .d (.v (.int .i64 0)), .nil, .d (.v (.int .i64 0)), .nil, .nil, .nil, .d (.v (.bool false)), .nil, .d (.v (.string (⟨#[]⟩ : ByteArray)))]))], 80⟩ hτ hmix (by kernel_rfl) (by kernel_rfl) rfl ?_
  refine X.seq ?_
  refine X.rs 1 hτ hmix (by kernel_rfl) ?_
  obtain ⟨r1, i4, h5, hr3, hi6, hf2⟩ := i_gnum bs i0 h0 (by first | assumption | omega) (by omega) (by first | assumption | omega)
  obtain ⟨hrb, hrf⟩ := hr3
  refine CH.call hf2 Try.func134 ⟨rfl, rfl⟩ [(0, 0)] (by kernel_rfl) (by kernel_rfl) (by kernel_rfl) (by kernel_rfl) ?_
  refine CH.go 3 hτ (by kernel_rfl) ?_
  refine CH.endk ⟨[(0, .pt 0 0 0), (2, .pt 64 0 0), (3, .pt 128 0 0)], [(0, some (.box [.k 0 (.sl (bs.map dB)), .d (.v (.int .i64 i4)), .d (.v (.bool h5))])), (64, some (.box [.d (.v (.int .i64 0)), .d (.v (.int .i64 0)), .d (.v (.int .i64 0)), .d (.v (.string (⟨#[]⟩ : ByteArray))), .d (.v (.int .i64 0)), .d (.v (.int .i64 0)), .nil, .d (.v (.int .i64 0)), .nil, .nil, .nil, .d (.v (.bool false)), .nil, .d (.v (.string (⟨#[]⟩ : ByteArray)))])), (128, some (.box [.d (.v (.int .i64 r1)), .d (.v (.int .i64 0)), .d (.v (.int .i64 0)), .d (.v (.string (⟨#[]⟩ : ByteArray))), .d (.v (.int .i64 0)), .d (.v (.int .i64 0)), .nil, .d (.v (.int .i64 0)), .nil, .nil, .nil, .d (.v (.bool false)), .nil, .d (.v (.string (⟨#[]⟩ : ByteArray)))]))], 160⟩ (by kernel_rfl) (by kernel_rfl) rfl ?_
  refine X.seq ?_
  have W0 := fun (X : S49) (hX : WB bs i0 h0 X) => hrf _ _ (wnum hX.bk.n0 (by decide) (by decide)) (wb0 X hX)
  refine X.rs 1 hτ hmix (by kernel_rfl) ?_
  obtain ⟨r7, i10, h11, hr9, hi12, hf8⟩ := i_gnum bs i4 h5 (by first | assumption | omega) (by omega) (by first | assumption | omega)
  obtain ⟨hrb, hrf⟩ := hr9
  refine CH.call hf8 Try.func134 ⟨rfl, rfl⟩ [(0, 0)] (by kernel_rfl) (by kernel_rfl) (by kernel_rfl) (by kernel_rfl) ?_
  refine CH.go 2 hτ (by kernel_rfl) ?_
  refine CH.endk ⟨[(0, .pt 0 0 0), (2, .pt 64 0 0), (3, .pt 128 0 0)], [(0, some (.box [.k 0 (.sl (bs.map dB)), .d (.v (.int .i64 i10)), .d (.v (.bool h11))])), (64, some (.box [.d (.v (.int .i64 0)), .d (.v (.int .i64 0)), .d (.v (.int .i64 0)), .d (.v (.string (⟨#[]⟩ : ByteArray))), .d (.v (.int .i64 0)), .d (.v (.int .i64 0)), .nil, .d (.v (.int .i64 0)), .nil, .nil, .nil, .d (.v (.bool false)), .nil, .d (.v (.string (⟨#[]⟩ : ByteArray)))])), (128, some (.box [.d (.v (.int .i64 r1)), .d (.v (.int .i64 r7)), .d (.v (.int .i64 0)), .d (.v (.string (⟨#[]⟩ : ByteArray))), .d (.v (.int .i64 0)), .d (.v (.int .i64 0)), .nil, .d (.v (.int .i64 0)), .nil, .nil, .nil, .d (.v (.bool false)), .nil, .d (.v (.string (⟨#[]⟩ : ByteArray)))]))], 224⟩ (by kernel_rfl) (by kernel_rfl) rfl ?_
  refine X.seq ?_
  have W1 := fun (X : S49) (hX : WB bs i0 h0 X) => hrf _ _ (wnum hX.bk.n1 (by decide) (by decide)) (W0 X hX).1
  refine X.rs 1 hτ hmix (by kernel_rfl) ?_
  obtain ⟨r13, i16, h17, hr15, hi18, hf14⟩ := i_gnum bs i10 h11 (by first | assumption | omega) (by omega) (by first | assumption | omega)
  obtain ⟨hrb, hrf⟩ := hr15
  refine CH.call hf14 Try.func134 ⟨rfl, rfl⟩ [(0, 0)] (by kernel_rfl) (by kernel_rfl) (by kernel_rfl) (by kernel_rfl) ?_
  refine CH.go 2 hτ (by kernel_rfl) ?_
  refine CH.endk ⟨[(0, .pt 0 0 0), (2, .pt 64 0 0), (3, .pt 128 0 0)], [(0, some (.box [.k 0 (.sl (bs.map dB)), .d (.v (.int .i64 i16)), .d (.v (.bool h17))])), (64, some (.box [.d (.v (.int .i64 0)), .d (.v (.int .i64 0)), .d (.v (.int .i64 0)), .d (.v (.string (⟨#[]⟩ : ByteArray))), .d (.v (.int .i64 0)), .d (.v (.int .i64 0)), .nil, .d (.v (.int .i64 0)), .nil, .nil, .nil, .d (.v (.bool false)), .nil, .d (.v (.string (⟨#[]⟩ : ByteArray)))])), (128, some (.box [.d (.v (.int .i64 r1)), .d (.v (.int .i64 r7)), .d (.v (.int .i64 r13)), .d (.v (.string (⟨#[]⟩ : ByteArray))), .d (.v (.int .i64 0)), .d (.v (.int .i64 0)), .nil, .d (.v (.int .i64 0)), .nil, .nil, .nil, .d (.v (.bool false)), .nil, .d (.v (.string (⟨#[]⟩ : ByteArray)))]))], 288⟩ (by kernel_rfl) (by kernel_rfl) rfl ?_
  refine X.seq ?_
  have W2 := fun (X : S49) (hX : WB bs i0 h0 X) => hrf _ _ (wnum hX.bk.n2 (by decide) (by decide)) (W1 X hX).1
  refine X.rs 1 hτ hmix (by kernel_rfl) ?_
  obtain ⟨r19, i22, h23, hr21, hi24, hf20⟩ := i_gtext bs i16 h17 (by first | assumption | omega) (by omega) (by first | assumption | omega)
  obtain ⟨hrs, hrf⟩ := hr21
  refine CH.call hf20 Try.func135 ⟨rfl, rfl⟩ [(0, 0)] (by kernel_rfl) (by kernel_rfl) (by kernel_rfl) (by kernel_rfl) ?_
  refine CH.go 2 hτ (by kernel_rfl) ?_
  refine CH.endk ⟨[(0, .pt 0 0 0), (2, .pt 64 0 0), (3, .pt 128 0 0)], [(0, some (.box [.k 0 (.sl (bs.map dB)), .d (.v (.int .i64 i22)), .d (.v (.bool h23))])), (64, some (.box [.d (.v (.int .i64 0)), .d (.v (.int .i64 0)), .d (.v (.int .i64 0)), .d (.v (.string (⟨#[]⟩ : ByteArray))), .d (.v (.int .i64 0)), .d (.v (.int .i64 0)), .nil, .d (.v (.int .i64 0)), .nil, .nil, .nil, .d (.v (.bool false)), .nil, .d (.v (.string (⟨#[]⟩ : ByteArray)))])), (128, some (.box [.d (.v (.int .i64 r1)), .d (.v (.int .i64 r7)), .d (.v (.int .i64 r13)), .d (.v (.string r19)), .d (.v (.int .i64 0)), .d (.v (.int .i64 0)), .nil, .d (.v (.int .i64 0)), .nil, .nil, .nil, .d (.v (.bool false)), .nil, .d (.v (.string (⟨#[]⟩ : ByteArray)))]))], 352⟩ (by kernel_rfl) (by kernel_rfl) rfl ?_
  refine X.seq ?_
  have hsB := hrs
  have W3 := fun (X : S49) (hX : WB bs i0 h0 X) => hrf _ _ (Nat.le_trans hX.bk.by_ (by decide)) (W2 X hX).1
  refine X.rs 1 hτ hmix (by kernel_rfl) ?_
  obtain ⟨r25, i28, h29, hr27, hi30, hf26⟩ := i_gnum bs i22 h23 (by first | assumption | omega) (by omega) (by first | assumption | omega)
  obtain ⟨hrb, hrf⟩ := hr27
  refine CH.call hf26 Try.func134 ⟨rfl, rfl⟩ [(0, 0)] (by kernel_rfl) (by kernel_rfl) (by kernel_rfl) (by kernel_rfl) ?_
  refine CH.go 3 hτ (by kernel_rfl) ?_
  refine CH.endk ⟨[(0, .pt 0 0 0), (2, .pt 64 0 0), (3, .pt 128 0 0)], [(0, some (.box [.k 0 (.sl (bs.map dB)), .d (.v (.int .i64 i28)), .d (.v (.bool h29))])), (64, some (.box [.d (.v (.int .i64 0)), .d (.v (.int .i64 0)), .d (.v (.int .i64 0)), .d (.v (.string (⟨#[]⟩ : ByteArray))), .d (.v (.int .i64 0)), .d (.v (.int .i64 0)), .nil, .d (.v (.int .i64 0)), .nil, .nil, .nil, .d (.v (.bool false)), .nil, .d (.v (.string (⟨#[]⟩ : ByteArray)))])), (128, some (.box [.d (.v (.int .i64 r1)), .d (.v (.int .i64 r7)), .d (.v (.int .i64 r13)), .d (.v (.string r19)), .d (.v (.int .i64 r25)), .d (.v (.int .i64 0)), .nil, .d (.v (.int .i64 0)), .nil, .nil, .nil, .d (.v (.bool false)), .nil, .d (.v (.string (⟨#[]⟩ : ByteArray)))]))], 432⟩ (by kernel_rfl) (by kernel_rfl) rfl ?_
  refine X.seq ?_
  have W4 := fun (X : S49) (hX : WB bs i0 h0 X) => hrf _ _ (wnum hX.bk.q0 (by decide) (by decide)) (W3 X hX).1
  refine X.rs 1 hτ hmix (by kernel_rfl) ?_
  obtain ⟨r31, i34, h35, hr33, hi36, hf32⟩ := i_gnum bs i28 h29 (by first | assumption | omega) (by omega) (by first | assumption | omega)
  obtain ⟨hrb, hrf⟩ := hr33
  refine CH.call hf32 Try.func134 ⟨rfl, rfl⟩ [(0, 0)] (by kernel_rfl) (by kernel_rfl) (by kernel_rfl) (by kernel_rfl) ?_
  refine CH.go 3 hτ (by kernel_rfl) ?_
  refine CH.endk ⟨[(0, .pt 0 0 0), (2, .pt 64 0 0), (3, .pt 128 0 0)], [(0, some (.box [.k 0 (.sl (bs.map dB)), .d (.v (.int .i64 i34)), .d (.v (.bool h35))])), (64, some (.box [.d (.v (.int .i64 0)), .d (.v (.int .i64 0)), .d (.v (.int .i64 0)), .d (.v (.string (⟨#[]⟩ : ByteArray))), .d (.v (.int .i64 0)), .d (.v (.int .i64 0)), .nil, .d (.v (.int .i64 0)), .nil, .nil, .nil, .d (.v (.bool false)), .nil, .d (.v (.string (⟨#[]⟩ : ByteArray)))])), (128, some (.box [.d (.v (.int .i64 r1)), .d (.v (.int .i64 r7)), .d (.v (.int .i64 r13)), .d (.v (.string r19)), .d (.v (.int .i64 r25)), .d (.v (.int .i64 r31)), .nil, .d (.v (.int .i64 0)), .nil, .nil, .nil, .d (.v (.bool false)), .nil, .d (.v (.string (⟨#[]⟩ : ByteArray)))]))], 512⟩ (by kernel_rfl) (by kernel_rfl) rfl ?_
  refine X.seq ?_
  have W5 := fun (X : S49) (hX : WB bs i0 h0 X) => hrf _ _ (wnum hX.bk.q1 (by decide) (by decide)) (W4 X hX).1
  refine X.rs 1 hτ hmix (by kernel_rfl) ?_
  obtain ⟨r37, i40, h41, hr39, hi42, hf38⟩ := i_gnamesR bs i34 h35 (by first | assumption | omega) (by omega) (by first | assumption | omega)
  obtain ⟨hrs, hrf⟩ := hr39
  refine CH.call hf38 Try.func136 ⟨rfl, rfl⟩ [(0, 0)] (by kernel_rfl) (by kernel_rfl) (by kernel_rfl) (by kernel_rfl) ?_
  refine CH.go 3 hτ (by kernel_rfl) ?_
  refine CH.endk ⟨[(0, .pt 0 0 0), (2, .pt 64 0 0), (3, .pt 128 0 0)], [(0, some (.box [.k 0 (.sl (bs.map dB)), .d (.v (.int .i64 i40)), .d (.v (.bool h41))])), (64, some (.box [.d (.v (.int .i64 0)), .d (.v (.int .i64 0)), .d (.v (.int .i64 0)), .d (.v (.string (⟨#[]⟩ : ByteArray))), .d (.v (.int .i64 0)), .d (.v (.int .i64 0)), .nil, .d (.v (.int .i64 0)), .nil, .nil, .nil, .d (.v (.bool false)), .nil, .d (.v (.string (⟨#[]⟩ : ByteArray)))])), (128, some (.box [.d (.v (.int .i64 r1)), .d (.v (.int .i64 r7)), .d (.v (.int .i64 r13)), .d (.v (.string r19)), .d (.v (.int .i64 r25)), .d (.v (.int .i64 r31)), .ref 528, .d (.v (.int .i64 0)), .nil, .nil, .nil, .d (.v (.bool false)), .nil, .d (.v (.string (⟨#[]⟩ : ByteArray)))])), (528, some (.row 1 9 (r37.map dS) false true))], 592⟩ (by kernel_rfl) (by kernel_rfl) rfl ?_
  refine X.seq ?_
  have hsQ := hrs
  have W6 := fun (X : S49) (hX : WB bs i0 h0 X) => hrf _ _ (wnms hX.bk.q2) (W5 X hX).1
  refine X.rs 1 hτ hmix (by kernel_rfl) ?_
  obtain ⟨r43, i46, h47, hr45, hi48, hf44⟩ := i_gnum bs i40 h41 (by first | assumption | omega) (by omega) (by first | assumption | omega)
  obtain ⟨hrb, hrf⟩ := hr45
  refine CH.call hf44 Try.func134 ⟨rfl, rfl⟩ [(0, 0)] (by kernel_rfl) (by kernel_rfl) (by kernel_rfl) (by kernel_rfl) ?_
  refine CH.go 3 hτ (by kernel_rfl) ?_
  refine CH.endk ⟨[(0, .pt 0 0 0), (2, .pt 64 0 0), (3, .pt 128 0 0)], [(0, some (.box [.k 0 (.sl (bs.map dB)), .d (.v (.int .i64 i46)), .d (.v (.bool h47))])), (64, some (.box [.d (.v (.int .i64 0)), .d (.v (.int .i64 0)), .d (.v (.int .i64 0)), .d (.v (.string (⟨#[]⟩ : ByteArray))), .d (.v (.int .i64 0)), .d (.v (.int .i64 0)), .nil, .d (.v (.int .i64 0)), .nil, .nil, .nil, .d (.v (.bool false)), .nil, .d (.v (.string (⟨#[]⟩ : ByteArray)))])), (128, some (.box [.d (.v (.int .i64 r1)), .d (.v (.int .i64 r7)), .d (.v (.int .i64 r13)), .d (.v (.string r19)), .d (.v (.int .i64 r25)), .d (.v (.int .i64 r31)), .ref 528, .d (.v (.int .i64 r43)), .nil, .nil, .nil, .d (.v (.bool false)), .nil, .d (.v (.string (⟨#[]⟩ : ByteArray)))])), (528, some (.row 1 9 (r37.map dS) false true))], 672⟩ (by kernel_rfl) (by kernel_rfl) rfl ?_
  refine X.seq ?_
  have W7 := fun (X : S49) (hX : WB bs i0 h0 X) => hrf _ _ (wnum hX.bk.t0 (by decide) (by decide)) (W6 X hX).1
  refine X.rs 1 hτ hmix (by kernel_rfl) ?_
  obtain ⟨r49, i52, h53, hr51, hi54, hf50⟩ := i_gnamesR bs i46 h47 (by first | assumption | omega) (by omega) (by first | assumption | omega)
  obtain ⟨hrs, hrf⟩ := hr51
  refine CH.call hf50 Try.func136 ⟨rfl, rfl⟩ [(0, 0)] (by kernel_rfl) (by kernel_rfl) (by kernel_rfl) (by kernel_rfl) ?_
  refine CH.go 3 hτ (by kernel_rfl) ?_
  refine CH.endk ⟨[(0, .pt 0 0 0), (2, .pt 64 0 0), (3, .pt 128 0 0)], [(0, some (.box [.k 0 (.sl (bs.map dB)), .d (.v (.int .i64 i52)), .d (.v (.bool h53))])), (64, some (.box [.d (.v (.int .i64 0)), .d (.v (.int .i64 0)), .d (.v (.int .i64 0)), .d (.v (.string (⟨#[]⟩ : ByteArray))), .d (.v (.int .i64 0)), .d (.v (.int .i64 0)), .nil, .d (.v (.int .i64 0)), .nil, .nil, .nil, .d (.v (.bool false)), .nil, .d (.v (.string (⟨#[]⟩ : ByteArray)))])), (128, some (.box [.d (.v (.int .i64 r1)), .d (.v (.int .i64 r7)), .d (.v (.int .i64 r13)), .d (.v (.string r19)), .d (.v (.int .i64 r25)), .d (.v (.int .i64 r31)), .ref 528, .d (.v (.int .i64 r43)), .ref 688, .nil, .nil, .d (.v (.bool false)), .nil, .d (.v (.string (⟨#[]⟩ : ByteArray)))])), (528, some (.row 1 9 (r37.map dS) false true)), (688, some (.row 1 9 (r49.map dS) false true))], 752⟩ (by kernel_rfl) (by kernel_rfl) rfl ?_
  refine X.seq ?_
  refine X.seq ?_
  have hsT := hrs
  have hsTl := hsT.1
  have W8 := fun (X : S49) (hX : WB bs i0 h0 X) => hrf _ _ (wnms hX.bk.t1) (W7 X hX).1
  have el55 : (r49.map dS).length = r49.length := List.length_map ..
  refine X.rk ⟨[(0, .pt 0 0 0), (2, .pt 64 0 0), (3, .pt 128 0 0), (42, iV ((r49.map dS).length : Int)), (43, iV 0)], [(0, some (.box [.k 0 (.sl (bs.map dB)), .d (.v (.int .i64 i52)), .d (.v (.bool h53))])), (64, some (.box [.d (.v (.int .i64 0)), .d (.v (.int .i64 0)), .d (.v (.int .i64 0)), .d (.v (.string (⟨#[]⟩ : ByteArray))), .d (.v (.int .i64 0)), .d (.v (.int .i64 0)), .nil, .d (.v (.int .i64 0)), .nil, .nil, .nil, .d (.v (.bool false)), .nil, .d (.v (.string (⟨#[]⟩ : ByteArray)))])), (128, some (.box [.d (.v (.int .i64 r1)), .d (.v (.int .i64 r7)), .d (.v (.int .i64 r13)), .d (.v (.string r19)), .d (.v (.int .i64 r25)), .d (.v (.int .i64 r31)), .ref 528, .d (.v (.int .i64 r43)), .ref 688, .nil, .nil, .d (.v (.bool false)), .nil, .d (.v (.string (⟨#[]⟩ : ByteArray)))])), (528, some (.row 1 9 (r37.map dS) false true)), (688, some (.row 1 9 (r49.map dS) false true))], 832⟩ hτ hmix (by kernel_rfl) (by kernel_rfl) rfl ?_
  refine X.block ?_
  refine X.weak (Wk.ownB 128 [.d (.v (.int .i64 r1)), .d (.v (.int .i64 r7)), .d (.v (.int .i64 r13)), .d (.v (.string r19)), .d (.v (.int .i64 r25)), .d (.v (.int .i64 r31)), .ref 528, .d (.v (.int .i64 r43)), .ref 688, .nil, .nil, .d (.v (.bool false)), .nil, .d (.v (.string (⟨#[]⟩ : ByteArray)))] 9 1 3 (by kernel_rfl) rfl (by kernel_rfl) (by kernel_rfl)) ?_
  -- 11: c0_1 : Int, c0_2 : Bool, Lc128_9 : List Int, v43 : Int
  refine X.loop (σ := { g : Int × Bool × (List Int) × Int // (fun (c0_1 : Int) (c0_2 : Bool) (Lc128_9 : List Int) (v43 : Int) => (0 ≤ c0_1 ∧ c0_1 ≤ bs.length) ∧ (0 ≤ v43 ∧ v43 ≤ ((r49.map dS).length : Int) ∧ ((Lc128_9.length : Int) = v43 ∧ Lc128_9.length ≤ 2000000) ∧ ∀ X, WB bs i0 h0 X → RS bs c0_1 c0_2 ((X.f5.f2.drop v43.toNat).flatMap numB ++ tl6 X) ∧ Lc128_9 = X.f5.f2.take v43.toNat)) g.1 g.2.1 g.2.2.1 g.2.2.2 }) (fun g => (fun (c0_1 : Int) (c0_2 : Bool) (Lc128_9 : List Int) (v43 : Int) => ⟨[(0, .pt 0 0 0), (2, .pt 64 0 0), (3, .pt 128 0 0), (42, iV ((r49.map dS).length : Int)), (43, iV v43)], [(0, some (.box [.k 0 (.sl (bs.map dB)), .d (.v (.int .i64 c0_1)), .d (.v (.bool c0_2))])), (64, some (.box [.d (.v (.int .i64 0)), .d (.v (.int .i64 0)), .d (.v (.int .i64 0)), .d (.v (.string (⟨#[]⟩ : ByteArray))), .d (.v (.int .i64 0)), .d (.v (.int .i64 0)), .nil, .d (.v (.int .i64 0)), .nil, .nil, .nil, .d (.v (.bool false)), .nil, .d (.v (.string (⟨#[]⟩ : ByteArray)))])), (128, some (.box [.d (.v (.int .i64 r1)), .d (.v (.int .i64 r7)), .d (.v (.int .i64 r13)), .d (.v (.string r19)), .d (.v (.int .i64 r25)), .d (.v (.int .i64 r31)), .ref 528, .d (.v (.int .i64 r43)), .ref 688, .ref 832, .nil, .d (.v (.bool false)), .nil, .d (.v (.string (⟨#[]⟩ : ByteArray)))])), (528, some (.row 1 9 (r37.map dS) false true)), (688, some (.row 1 9 (r49.map dS) false true)), (832, some (.row 1 3 (Lc128_9.map dI) false true))], 848⟩) g.1.1 g.1.2.1 g.1.2.2.1 g.1.2.2.2) (fun g => (fun (c0_1 : Int) (c0_2 : Bool) (Lc128_9 : List Int) (v43 : Int) => (((r49.map dS).length : Int) - v43).toNat) g.1.1 g.1.2.1 g.1.2.2.1 g.1.2.2.2) ⟨(i52, h53, [], 0), ⟨by first | omega | (dsimp only; omega), ⟨by first | omega | (dsimp only; omega), by first | omega | (dsimp only; omega), by simp, rd_zero (fun X hX => (W8 X hX).1)⟩⟩⟩ (Wk.less (by kernel_rfl)) (fun g => ?_)
  obtain ⟨⟨c0_1, c0_2, Lc128_9, v43⟩, hg57⟩ := g
  have hg57 : (0 ≤ c0_1 ∧ c0_1 ≤ bs.length) ∧ (0 ≤ v43 ∧ v43 ≤ ((r49.map dS).length : Int) ∧ ((Lc128_9.length : Int) = v43 ∧ Lc128_9.length ≤ 2000000) ∧ ∀ X, WB bs i0 h0 X → RS bs c0_1 c0_2 ((X.f5.f2.drop v43.toNat).flatMap numB ++ tl6 X) ∧ Lc128_9 = X.f5.f2.take v43.toNat) := hg57
  obtain ⟨⟨_, _⟩, ⟨_, _, ⟨_, h9l⟩, W8b⟩⟩ := hg57
  refine X.seq ?_
  refine X.rk ⟨[(0, .pt 0 0 0), (2, .pt 64 0 0), (3, .pt 128 0 0), (42, iV ((r49.map dS).length : Int)), (43, iV v43), (44, bV (decide ((v43 : Int) < ((r49.map dS).length : Int))))], [(0, some (.box [.k 0 (.sl (bs.map dB)), .d (.v (.int .i64 c0_1)), .d (.v (.bool c0_2))])), (64, some (.box [.d (.v (.int .i64 0)), .d (.v (.int .i64 0)), .d (.v (.int .i64 0)), .d (.v (.string (⟨#[]⟩ : ByteArray))), .d (.v (.int .i64 0)), .d (.v (.int .i64 0)), .nil, .d (.v (.int .i64 0)), .nil, .nil, .nil, .d (.v (.bool false)), .nil, .d (.v (.string (⟨#[]⟩ : ByteArray)))])), (128, some (.box [.d (.v (.int .i64 r1)), .d (.v (.int .i64 r7)), .d (.v (.int .i64 r13)), .d (.v (.string r19)), .d (.v (.int .i64 r25)), .d (.v (.int .i64 r31)), .ref 528, .d (.v (.int .i64 r43)), .ref 688, .ref 832, .nil, .d (.v (.bool false)), .nil, .d (.v (.string (⟨#[]⟩ : ByteArray)))])), (528, some (.row 1 9 (r37.map dS) false true)), (688, some (.row 1 9 (r49.map dS) false true)), (832, some (.row 1 3 (Lc128_9.map dI) false true))], 864⟩ hτ hmix (by kernel_rfl) (by kernel_rfl) rfl ?_
  refine X.seq ?_
  refine X.if_ (b := decide ((v43 : Int) < ((r49.map dS).length : Int))) (by kernel_rfl) (fun hb58 => ?_) (fun hb58 => ?_)
  ·replace hb58 := of_decide_eq_true (hb58)
   refine X.skip ?_
   refine X.seq ?_
   refine X.block ?_
   refine X.seq ?_
   refine X.rs 1 hτ hmix (by kernel_rfl) ?_
   obtain ⟨r59, i62, h63, hr61, hi64, hf60⟩ := i_gnum bs c0_1 c0_2 (by first | assumption | omega) (by omega) (by first | assumption | omega)
   obtain ⟨hrb, hrf⟩ := hr61
   refine CH.call hf60 Try.func134 ⟨rfl, rfl⟩ [(0, 0)] (by kernel_rfl) (by kernel_rfl) (by kernel_rfl) (by kernel_rfl) ?_
   refine CH.go 1 hτ (by kernel_rfl) ?_
   refine CH.endk ⟨[(0, .pt 0 0 0), (2, .pt 64 0 0), (3, .pt 128 0 0), (4, iV r59), (42, iV ((r49.map dS).length : Int)), (43, iV v43)], [(0, some (.box [.k 0 (.sl (bs.map dB)), .d (.v (.int .i64 i62)), .d (.v (.bool h63))])), (64, some (.box [.d (.v (.int .i64 0)), .d (.v (.int .i64 0)), .d (.v (.int .i64 0)), .d (.v (.string (⟨#[]⟩ : ByteArray))), .d (.v (.int .i64 0)), .d (.v (.int .i64 0)), .nil, .d (.v (.int .i64 0)), .nil, .nil, .nil, .d (.v (.bool false)), .nil, .d (.v (.string (⟨#[]⟩ : ByteArray)))])), (128, some (.box [.d (.v (.int .i64 r1)), .d (.v (.int .i64 r7)), .d (.v (.int .i64 r13)), .d (.v (.string r19)), .d (.v (.int .i64 r25)), .d (.v (.int .i64 r31)), .ref 528, .d (.v (.int .i64 r43)), .ref 688, .ref 832, .nil, .d (.v (.bool false)), .nil, .d (.v (.string (⟨#[]⟩ : ByteArray)))])), (528, some (.row 1 9 (r37.map dS) false true)), (688, some (.row 1 9 (r49.map dS) false true)), (832, some (.row 1 3 (Lc128_9.map dI) false true))], 912⟩ (by kernel_rfl) (by kernel_rfl) rfl ?_
   refine X.rs 5 hτ hmix (by kernel_rfl) ?_
   have el65 : (Lc128_9.map dI).length = Lc128_9.length := List.length_map ..
   have el66 : (([r59] : List Int).map dI).length = ([r59] : List Int).length := List.length_map ..
   have el67 : ([r59] : List Int).length = 1 := rfl
   refine CH.app hτ (rows := (Lc128_9.map dI)) (rows2 := (([r59] : List Int).map dI)) (sz := 1) (bys := 8) true (by kernel_rfl) (by kernel_rfl) (fun _ => flat_d dI (fun x => rfl)) (flat_ok (f := dI) (fun x => rfl)) (by simp only [List.length_map] <;> (first | done | omega | (simp; done) | (simp; omega))) (by kernel_rfl) ?_
   refine CH.go 3 hτ (by kernel_rfl) ?_
   refine CH.endk ⟨[(0, .pt 0 0 0), (2, .pt 64 0 0), (3, .pt 128 0 0), (42, iV ((r49.map dS).length : Int)), (43, iV v43)], [(0, some (.box [.k 0 (.sl (bs.map dB)), .d (.v (.int .i64 i62)), .d (.v (.bool h63))])), (64, some (.box [.d (.v (.int .i64 0)), .d (.v (.int .i64 0)), .d (.v (.int .i64 0)), .d (.v (.string (⟨#[]⟩ : ByteArray))), .d (.v (.int .i64 0)), .d (.v (.int .i64 0)), .nil, .d (.v (.int .i64 0)), .nil, .nil, .nil, .d (.v (.bool false)), .nil, .d (.v (.string (⟨#[]⟩ : ByteArray)))])), (128, some (.box [.d (.v (.int .i64 r1)), .d (.v (.int .i64 r7)), .d (.v (.int .i64 r13)), .d (.v (.string r19)), .d (.v (.int .i64 r25)), .d (.v (.int .i64 r31)), .ref 528, .d (.v (.int .i64 r43)), .ref 688, .ref 992, .nil, .d (.v (.bool false)), .nil, .d (.v (.string (⟨#[]⟩ : ByteArray)))])), (528, some (.row 1 9 (r37.map dS) false true)), (688, some (.row 1 9 (r49.map dS) false true)), (992, some (.row 1 3 ((Lc128_9.map dI) ++ (([r59] : List Int).map dI)) false true))], 1056⟩ (by kernel_rfl) (by kernel_rfl) (s2 := ⟨[(0, .pt 0 0 0), (2, .pt 64 0 0), (3, .pt 128 0 0), (42, iV ((r49.map dS).length : Int)), (43, iV v43)], [(0, some (.box [.k 0 (.sl (bs.map dB)), .d (.v (.int .i64 i62)), .d (.v (.bool h63))])), (64, some (.box [.d (.v (.int .i64 0)), .d (.v (.int .i64 0)), .d (.v (.int .i64 0)), .d (.v (.string (⟨#[]⟩ : ByteArray))), .d (.v (.int .i64 0)), .d (.v (.int .i64 0)), .nil, .d (.v (.int .i64 0)), .nil, .nil, .nil, .d (.v (.bool false)), .nil, .d (.v (.string (⟨#[]⟩ : ByteArray)))])), (128, some (.box [.d (.v (.int .i64 r1)), .d (.v (.int .i64 r7)), .d (.v (.int .i64 r13)), .d (.v (.string r19)), .d (.v (.int .i64 r25)), .d (.v (.int .i64 r31)), .ref 528, .d (.v (.int .i64 r43)), .ref 688, .ref 992, .nil, .d (.v (.bool false)), .nil, .d (.v (.string (⟨#[]⟩ : ByteArray)))])), (528, some (.row 1 9 (r37.map dS) false true)), (688, some (.row 1 9 (r49.map dS) false true)), (992, some (.row 1 3 ((Lc128_9 ++ ([r59] : List Int)).map dI) false true))], 1056⟩) (congrArg (fun z : List (List D) => (⟨[(0, .pt 0 0 0), (2, .pt 64 0 0), (3, .pt 128 0 0), (42, iV ((r49.map dS).length : Int)), (43, iV v43)], [(0, some (.box [.k 0 (.sl (bs.map dB)), .d (.v (.int .i64 i62)), .d (.v (.bool h63))])), (64, some (.box [.d (.v (.int .i64 0)), .d (.v (.int .i64 0)), .d (.v (.int .i64 0)), .d (.v (.string (⟨#[]⟩ : ByteArray))), .d (.v (.int .i64 0)), .d (.v (.int .i64 0)), .nil, .d (.v (.int .i64 0)), .nil, .nil, .nil, .d (.v (.bool false)), .nil, .d (.v (.string (⟨#[]⟩ : ByteArray)))])), (128, some (.box [.d (.v (.int .i64 r1)), .d (.v (.int .i64 r7)), .d (.v (.int .i64 r13)), .d (.v (.string r19)), .d (.v (.int .i64 r25)), .d (.v (.int .i64 r31)), .ref 528, .d (.v (.int .i64 r43)), .ref 688, .ref 992, .nil, .d (.v (.bool false)), .nil, .d (.v (.string (⟨#[]⟩ : ByteArray)))])), (528, some (.row 1 9 (r37.map dS) false true)), (688, some (.row 1 9 (r49.map dS) false true)), (992, some (.row 1 3 z false true))], 1056⟩ : St)) (show (Lc128_9.map dI) ++ (([r59] : List Int).map dI) = ((Lc128_9 ++ ([r59] : List Int)).map dI) from List.map_append.symm)) ?_
   refine X.rk ⟨[(0, .pt 0 0 0), (2, .pt 64 0 0), (3, .pt 128 0 0), (42, iV ((r49.map dS).length : Int)), (43, iV (wrap64 (v43 + 1)))], [(0, some (.box [.k 0 (.sl (bs.map dB)), .d (.v (.int .i64 i62)), .d (.v (.bool h63))])), (64, some (.box [.d (.v (.int .i64 0)), .d (.v (.int .i64 0)), .d (.v (.int .i64 0)), .d (.v (.string (⟨#[]⟩ : ByteArray))), .d (.v (.int .i64 0)), .d (.v (.int .i64 0)), .nil, .d (.v (.int .i64 0)), .nil, .nil, .nil, .d (.v (.bool false)), .nil, .d (.v (.string (⟨#[]⟩ : ByteArray)))])), (128, some (.box [.d (.v (.int .i64 r1)), .d (.v (.int .i64 r7)), .d (.v (.int .i64 r13)), .d (.v (.string r19)), .d (.v (.int .i64 r25)), .d (.v (.int .i64 r31)), .ref 528, .d (.v (.int .i64 r43)), .ref 688, .ref 992, .nil, .d (.v (.bool false)), .nil, .d (.v (.string (⟨#[]⟩ : ByteArray)))])), (528, some (.row 1 9 (r37.map dS) false true)), (688, some (.row 1 9 (r49.map dS) false true)), (992, some (.row 1 3 ((Lc128_9 ++ ([r59] : List Int)).map dI) false true))], 1088⟩ hτ hmix (by kernel_rfl) (by kernel_rfl) (s2 := ⟨[(0, .pt 0 0 0), (2, .pt 64 0 0), (3, .pt 128 0 0), (42, iV ((r49.map dS).length : Int)), (43, iV (v43 + 1))], [(0, some (.box [.k 0 (.sl (bs.map dB)), .d (.v (.int .i64 i62)), .d (.v (.bool h63))])), (64, some (.box [.d (.v (.int .i64 0)), .d (.v (.int .i64 0)), .d (.v (.int .i64 0)), .d (.v (.string (⟨#[]⟩ : ByteArray))), .d (.v (.int .i64 0)), .d (.v (.int .i64 0)), .nil, .d (.v (.int .i64 0)), .nil, .nil, .nil, .d (.v (.bool false)), .nil, .d (.v (.string (⟨#[]⟩ : ByteArray)))])), (128, some (.box [.d (.v (.int .i64 r1)), .d (.v (.int .i64 r7)), .d (.v (.int .i64 r13)), .d (.v (.string r19)), .d (.v (.int .i64 r25)), .d (.v (.int .i64 r31)), .ref 528, .d (.v (.int .i64 r43)), .ref 688, .ref 992, .nil, .d (.v (.bool false)), .nil, .d (.v (.string (⟨#[]⟩ : ByteArray)))])), (528, some (.row 1 9 (r37.map dS) false true)), (688, some (.row 1 9 (r49.map dS) false true)), (992, some (.row 1 3 ((Lc128_9 ++ ([r59] : List Int)).map dI) false true))], 1088⟩) (congrArg (fun z : Int => (⟨[(0, .pt 0 0 0), (2, .pt 64 0 0), (3, .pt 128 0 0), (42, iV ((r49.map dS).length : Int)), (43, iV z)], [(0, some (.box [.k 0 (.sl (bs.map dB)), .d (.v (.int .i64 i62)), .d (.v (.bool h63))])), (64, some (.box [.d (.v (.int .i64 0)), .d (.v (.int .i64 0)), .d (.v (.int .i64 0)), .d (.v (.string (⟨#[]⟩ : ByteArray))), .d (.v (.int .i64 0)), .d (.v (.int .i64 0)), .nil, .d (.v (.int .i64 0)), .nil, .nil, .nil, .d (.v (.bool false)), .nil, .d (.v (.string (⟨#[]⟩ : ByteArray)))])), (128, some (.box [.d (.v (.int .i64 r1)), .d (.v (.int .i64 r7)), .d (.v (.int .i64 r13)), .d (.v (.string r19)), .d (.v (.int .i64 r25)), .d (.v (.int .i64 r31)), .ref 528, .d (.v (.int .i64 r43)), .ref 688, .ref 992, .nil, .d (.v (.bool false)), .nil, .d (.v (.string (⟨#[]⟩ : ByteArray)))])), (528, some (.row 1 9 (r37.map dS) false true)), (688, some (.row 1 9 (r49.map dS) false true)), (992, some (.row 1 3 ((Lc128_9 ++ ([r59] : List Int)).map dI) false true))], 1088⟩ : St)) (show wrap64 (v43 + 1) = (v43 + 1) by rw [w64 (n := (v43 + 1)) (by omega) (by omega)])) ?_
   refine ⟨⟨(i62, h63, (Lc128_9 ++ ([r59] : List Int)), (v43 + 1)), ⟨by first | omega | (dsimp only; omega), ⟨by first | omega | (dsimp only; omega), by first | omega | (dsimp only; omega), by simp only [List.length_append, List.length_cons, List.length_nil]; (first | omega | (dsimp only; omega)), rd_next W8b hrf (by first | omega | (dsimp only; omega)) (fun X hX => by have hq1 := congrArg List.length (W8 X hX).2; have hq2 := hX.bk.t2.1; omega) (fun X hX x hx => wnum (hX.bk.t2.2 x hx) (by decide) (by decide))⟩⟩⟩, by first | exact rfl | omega | (dsimp only; omega) | (simp only [List.length_append, List.length_cons, List.length_nil, List.length_set]; omega) | (simp; done) | (simp; omega), Wk.mk' [(64, 64), (128, 128), (528, 528), (688, 688), (832, 992)] (by kernel_rfl) (by kernel_rfl) (by kernel_rfl)⟩
  ·replace hb58 := of_decide_eq_false (hb58)
   refine X.exit ?_
   refine X.seq ?_
   refine X.seq ?_
   have W9 := rd_end W8b (fun X hX => by have hq1 := congrArg List.length (W8 X hX).2; have hq2 := hX.bk.t2.1; omega)
   refine X.rs 1 hτ hmix (by kernel_rfl) ?_
   obtain ⟨r68, i71, h72, hr70, hi73, hf69⟩ := i_gcount bs c0_1 c0_2 (by first | assumption | omega) (by omega) 4 (by first | assumption | omega)
   obtain ⟨hrb, hrf⟩ := hr70
   refine CH.call hf69 Try.func137 ⟨rfl, rfl⟩ [(0, 0)] (by kernel_rfl) (by kernel_rfl) (by kernel_rfl) (by kernel_rfl) ?_
   refine CH.go 1 hτ (by kernel_rfl) ?_
   refine CH.endk ⟨[(0, .pt 0 0 0), (2, .pt 64 0 0), (3, .pt 128 0 0), (57, iV r68), (58, iV 0)], [(0, some (.box [.k 0 (.sl (bs.map dB)), .d (.v (.int .i64 i71)), .d (.v (.bool h72))])), (64, some (.box [.d (.v (.int .i64 0)), .d (.v (.int .i64 0)), .d (.v (.int .i64 0)), .d (.v (.string (⟨#[]⟩ : ByteArray))), .d (.v (.int .i64 0)), .d (.v (.int .i64 0)), .nil, .d (.v (.int .i64 0)), .nil, .nil, .nil, .d (.v (.bool false)), .nil, .d (.v (.string (⟨#[]⟩ : ByteArray)))])), (128, some (.box [.d (.v (.int .i64 r1)), .d (.v (.int .i64 r7)), .d (.v (.int .i64 r13)), .d (.v (.string r19)), .d (.v (.int .i64 r25)), .d (.v (.int .i64 r31)), .ref 528, .d (.v (.int .i64 r43)), .ref 688, .ref 832, .nil, .d (.v (.bool false)), .nil, .d (.v (.string (⟨#[]⟩ : ByteArray)))])), (528, some (.row 1 9 (r37.map dS) false true)), (688, some (.row 1 9 (r49.map dS) false true)), (832, some (.row 1 3 (Lc128_9.map dI) false true))], 912⟩ (by kernel_rfl) (by kernel_rfl) rfl ?_
   have W10 := fun (X : S49) (hX : WB bs i0 h0 X) => hrf _ _ (wcnt (by have := hX.bk.tx.1; omega) (by decide)) (W9 X hX).1
   have hcn := hrb
   refine X.block ?_
   refine X.weak (Wk.ownB 128 [.d (.v (.int .i64 r1)), .d (.v (.int .i64 r7)), .d (.v (.int .i64 r13)), .d (.v (.string r19)), .d (.v (.int .i64 r25)), .d (.v (.int .i64 r31)), .ref 528, .d (.v (.int .i64 r43)), .ref 688, .ref 832, .nil, .d (.v (.bool false)), .nil, .d (.v (.string (⟨#[]⟩ : ByteArray)))] 10 5 26 (by kernel_rfl) rfl (by kernel_rfl) (by kernel_rfl)) ?_
   -- 16: c0_1 : Int, c0_2 : Bool, Lc128_10 : List S26, v58 : Int
   refine X.loop (σ := { g : Int × Bool × (List S26) × Int // (fun (c0_1 : Int) (c0_2 : Bool) (Lc128_10 : List S26) (v58 : Int) => (0 ≤ c0_1 ∧ c0_1 ≤ bs.length) ∧ (0 ≤ v58 ∧ v58 ≤ r68 ∧ (Lc128_10.length : Int) = v58 ∧ (∀ x, x ∈ Lc128_10 → Sm26 x) ∧ ∀ X, WB bs i0 h0 X → RS bs c0_1 c0_2 ((X.f6.drop v58.toNat).flatMap encTx ++ tl7 X) ∧ Lc128_10 = X.f6.take v58.toNat)) g.1 g.2.1 g.2.2.1 g.2.2.2 }) (fun g => (fun (c0_1 : Int) (c0_2 : Bool) (Lc128_10 : List S26) (v58 : Int) => ⟨[(0, .pt 0 0 0), (2, .pt 64 0 0), (3, .pt 128 0 0), (57, iV r68), (58, iV v58)], [(0, some (.box [.k 0 (.sl (bs.map dB)), .d (.v (.int .i64 c0_1)), .d (.v (.bool c0_2))])), (64, some (.box [.d (.v (.int .i64 0)), .d (.v (.int .i64 0)), .d (.v (.int .i64 0)), .d (.v (.string (⟨#[]⟩ : ByteArray))), .d (.v (.int .i64 0)), .d (.v (.int .i64 0)), .nil, .d (.v (.int .i64 0)), .nil, .nil, .nil, .d (.v (.bool false)), .nil, .d (.v (.string (⟨#[]⟩ : ByteArray)))])), (128, some (.box [.d (.v (.int .i64 r1)), .d (.v (.int .i64 r7)), .d (.v (.int .i64 r13)), .d (.v (.string r19)), .d (.v (.int .i64 r25)), .d (.v (.int .i64 r31)), .ref 528, .d (.v (.int .i64 r43)), .ref 688, .ref 832, .ref 912, .d (.v (.bool false)), .nil, .d (.v (.string (⟨#[]⟩ : ByteArray)))])), (528, some (.row 1 9 (r37.map dS) false true)), (688, some (.row 1 9 (r49.map dS) false true)), (832, some (.row 1 3 (Lc128_9.map dI) false true)), (912, some (.row 5 26 (Lc128_10.map d26) false true))], 928⟩) g.1.1 g.1.2.1 g.1.2.2.1 g.1.2.2.2) (fun g => (fun (c0_1 : Int) (c0_2 : Bool) (Lc128_10 : List S26) (v58 : Int) => (r68 - v58).toNat) g.1.1 g.1.2.1 g.1.2.2.1 g.1.2.2.2) ⟨(i71, h72, [], 0), ⟨by first | omega | (dsimp only; omega), ⟨by first | omega | (dsimp only; omega), by first | omega | (dsimp only; omega), by simp, all_nil, rd_zero (fun X hX => (W10 X hX).1)⟩⟩⟩ (Wk.less (by kernel_rfl)) (fun g => ?_)
   obtain ⟨⟨c0_1, c0_2, Lc128_10, v58⟩, hg75⟩ := g
   have hg75 : (0 ≤ c0_1 ∧ c0_1 ≤ bs.length) ∧ (0 ≤ v58 ∧ v58 ≤ r68 ∧ (Lc128_10.length : Int) = v58 ∧ (∀ x, x ∈ Lc128_10 → Sm26 x) ∧ ∀ X, WB bs i0 h0 X → RS bs c0_1 c0_2 ((X.f6.drop v58.toNat).flatMap encTx ++ tl7 X) ∧ Lc128_10 = X.f6.take v58.toNat) := hg75
   obtain ⟨⟨_, _⟩, ⟨_, _, _, hxs, W10b⟩⟩ := hg75
   refine X.seq ?_
   refine X.rk ⟨[(0, .pt 0 0 0), (2, .pt 64 0 0), (3, .pt 128 0 0), (57, iV r68), (58, iV v58), (59, bV (decide ((v58 : Int) < r68)))], [(0, some (.box [.k 0 (.sl (bs.map dB)), .d (.v (.int .i64 c0_1)), .d (.v (.bool c0_2))])), (64, some (.box [.d (.v (.int .i64 0)), .d (.v (.int .i64 0)), .d (.v (.int .i64 0)), .d (.v (.string (⟨#[]⟩ : ByteArray))), .d (.v (.int .i64 0)), .d (.v (.int .i64 0)), .nil, .d (.v (.int .i64 0)), .nil, .nil, .nil, .d (.v (.bool false)), .nil, .d (.v (.string (⟨#[]⟩ : ByteArray)))])), (128, some (.box [.d (.v (.int .i64 r1)), .d (.v (.int .i64 r7)), .d (.v (.int .i64 r13)), .d (.v (.string r19)), .d (.v (.int .i64 r25)), .d (.v (.int .i64 r31)), .ref 528, .d (.v (.int .i64 r43)), .ref 688, .ref 832, .ref 912, .d (.v (.bool false)), .nil, .d (.v (.string (⟨#[]⟩ : ByteArray)))])), (528, some (.row 1 9 (r37.map dS) false true)), (688, some (.row 1 9 (r49.map dS) false true)), (832, some (.row 1 3 (Lc128_9.map dI) false true)), (912, some (.row 5 26 (Lc128_10.map d26) false true))], 944⟩ hτ hmix (by kernel_rfl) (by kernel_rfl) rfl ?_
   refine X.seq ?_
   refine X.if_ (b := decide ((v58 : Int) < r68)) (by kernel_rfl) (fun hb76 => ?_) (fun hb76 => ?_)
   ·replace hb76 := of_decide_eq_true (hb76)
    refine X.skip ?_
    refine X.seq ?_
    refine X.block ?_
    refine X.seq ?_
    refine X.rs 1 hτ hmix (by kernel_rfl) ?_
    obtain ⟨r77, i80, h81, hr79, hi82, hf78⟩ := i_gtx bs c0_1 c0_2 (by first | assumption | omega) (by omega) (by first | assumption | omega)
    obtain ⟨hrs, hrf⟩ := hr79
    refine CH.call hf78 Try.func138 ⟨rfl, rfl⟩ [(0, 0)] (by kernel_rfl) (by kernel_rfl) (by kernel_rfl) (by kernel_rfl) ?_
    refine CH.go 2 hτ (by kernel_rfl) ?_
    refine CH.endk ⟨[(0, .pt 0 0 0), (2, .pt 64 0 0), (3, .pt 128 0 0), (5, .pt 976 0 0), (57, iV r68), (58, iV v58)], [(0, some (.box [.k 0 (.sl (bs.map dB)), .d (.v (.int .i64 i80)), .d (.v (.bool h81))])), (64, some (.box [.d (.v (.int .i64 0)), .d (.v (.int .i64 0)), .d (.v (.int .i64 0)), .d (.v (.string (⟨#[]⟩ : ByteArray))), .d (.v (.int .i64 0)), .d (.v (.int .i64 0)), .nil, .d (.v (.int .i64 0)), .nil, .nil, .nil, .d (.v (.bool false)), .nil, .d (.v (.string (⟨#[]⟩ : ByteArray)))])), (128, some (.box [.d (.v (.int .i64 r1)), .d (.v (.int .i64 r7)), .d (.v (.int .i64 r13)), .d (.v (.string r19)), .d (.v (.int .i64 r25)), .d (.v (.int .i64 r31)), .ref 528, .d (.v (.int .i64 r43)), .ref 688, .ref 832, .ref 912, .d (.v (.bool false)), .nil, .d (.v (.string (⟨#[]⟩ : ByteArray)))])), (528, some (.row 1 9 (r37.map dS) false true)), (688, some (.row 1 9 (r49.map dS) false true)), (832, some (.row 1 3 (Lc128_9.map dI) false true)), (912, some (.row 5 26 (Lc128_10.map d26) false true)), (976, some (.box (cD (d26 r77))))], 1008⟩ (by kernel_rfl) (by kernel_rfl) rfl ?_
    refine X.rs 4 hτ hmix (by kernel_rfl) ?_
    have el83 : (Lc128_10.map d26).length = Lc128_10.length := List.length_map ..
    have el84 : (([r77] : List S26).map d26).length = ([r77] : List S26).length := List.length_map ..
    have el85 : ([r77] : List S26).length = 1 := rfl
    refine CH.app hτ (rows := (Lc128_10.map d26)) (rows2 := (([r77] : List S26).map d26)) (sz := 5) (bys := 56) true (by kernel_rfl) (by kernel_rfl) (fun _ => flat_d d26 (fun x => rfl)) (flat_ok (f := d26) (fun x => rfl)) (by simp only [List.length_map] <;> (first | done | omega | (simp; done) | (simp; omega))) (by kernel_rfl) ?_
    refine CH.go 2 hτ (by kernel_rfl) ?_
    refine CH.endk ⟨[(0, .pt 0 0 0), (2, .pt 64 0 0), (3, .pt 128 0 0), (57, iV r68), (58, iV v58)], [(0, some (.box [.k 0 (.sl (bs.map dB)), .d (.v (.int .i64 i80)), .d (.v (.bool h81))])), (64, some (.box [.d (.v (.int .i64 0)), .d (.v (.int .i64 0)), .d (.v (.int .i64 0)), .d (.v (.string (⟨#[]⟩ : ByteArray))), .d (.v (.int .i64 0)), .d (.v (.int .i64 0)), .nil, .d (.v (.int .i64 0)), .nil, .nil, .nil, .d (.v (.bool false)), .nil, .d (.v (.string (⟨#[]⟩ : ByteArray)))])), (128, some (.box [.d (.v (.int .i64 r1)), .d (.v (.int .i64 r7)), .d (.v (.int .i64 r13)), .d (.v (.string r19)), .d (.v (.int .i64 r25)), .d (.v (.int .i64 r31)), .ref 528, .d (.v (.int .i64 r43)), .ref 688, .ref 832, .ref 1072, .d (.v (.bool false)), .nil, .d (.v (.string (⟨#[]⟩ : ByteArray)))])), (528, some (.row 1 9 (r37.map dS) false true)), (688, some (.row 1 9 (r49.map dS) false true)), (832, some (.row 1 3 (Lc128_9.map dI) false true)), (1072, some (.row 5 26 ((Lc128_10.map d26) ++ (([r77] : List S26).map d26)) false true))], 1120⟩ (by kernel_rfl) (by kernel_rfl) (s2 := ⟨[(0, .pt 0 0 0), (2, .pt 64 0 0), (3, .pt 128 0 0), (57, iV r68), (58, iV v58)], [(0, some (.box [.k 0 (.sl (bs.map dB)), .d (.v (.int .i64 i80)), .d (.v (.bool h81))])), (64, some (.box [.d (.v (.int .i64 0)), .d (.v (.int .i64 0)), .d (.v (.int .i64 0)), .d (.v (.string (⟨#[]⟩ : ByteArray))), .d (.v (.int .i64 0)), .d (.v (.int .i64 0)), .nil, .d (.v (.int .i64 0)), .nil, .nil, .nil, .d (.v (.bool false)), .nil, .d (.v (.string (⟨#[]⟩ : ByteArray)))])), (128, some (.box [.d (.v (.int .i64 r1)), .d (.v (.int .i64 r7)), .d (.v (.int .i64 r13)), .d (.v (.string r19)), .d (.v (.int .i64 r25)), .d (.v (.int .i64 r31)), .ref 528, .d (.v (.int .i64 r43)), .ref 688, .ref 832, .ref 1072, .d (.v (.bool false)), .nil, .d (.v (.string (⟨#[]⟩ : ByteArray)))])), (528, some (.row 1 9 (r37.map dS) false true)), (688, some (.row 1 9 (r49.map dS) false true)), (832, some (.row 1 3 (Lc128_9.map dI) false true)), (1072, some (.row 5 26 ((Lc128_10 ++ ([r77] : List S26)).map d26) false true))], 1120⟩) (congrArg (fun z : List (List D) => (⟨[(0, .pt 0 0 0), (2, .pt 64 0 0), (3, .pt 128 0 0), (57, iV r68), (58, iV v58)], [(0, some (.box [.k 0 (.sl (bs.map dB)), .d (.v (.int .i64 i80)), .d (.v (.bool h81))])), (64, some (.box [.d (.v (.int .i64 0)), .d (.v (.int .i64 0)), .d (.v (.int .i64 0)), .d (.v (.string (⟨#[]⟩ : ByteArray))), .d (.v (.int .i64 0)), .d (.v (.int .i64 0)), .nil, .d (.v (.int .i64 0)), .nil, .nil, .nil, .d (.v (.bool false)), .nil, .d (.v (.string (⟨#[]⟩ : ByteArray)))])), (128, some (.box [.d (.v (.int .i64 r1)), .d (.v (.int .i64 r7)), .d (.v (.int .i64 r13)), .d (.v (.string r19)), .d (.v (.int .i64 r25)), .d (.v (.int .i64 r31)), .ref 528, .d (.v (.int .i64 r43)), .ref 688, .ref 832, .ref 1072, .d (.v (.bool false)), .nil, .d (.v (.string (⟨#[]⟩ : ByteArray)))])), (528, some (.row 1 9 (r37.map dS) false true)), (688, some (.row 1 9 (r49.map dS) false true)), (832, some (.row 1 3 (Lc128_9.map dI) false true)), (1072, some (.row 5 26 z false true))], 1120⟩ : St)) (show (Lc128_10.map d26) ++ (([r77] : List S26).map d26) = ((Lc128_10 ++ ([r77] : List S26)).map d26) from List.map_append.symm)) ?_
    refine X.rk ⟨[(0, .pt 0 0 0), (2, .pt 64 0 0), (3, .pt 128 0 0), (57, iV r68), (58, iV (wrap64 (v58 + 1)))], [(0, some (.box [.k 0 (.sl (bs.map dB)), .d (.v (.int .i64 i80)), .d (.v (.bool h81))])), (64, some (.box [.d (.v (.int .i64 0)), .d (.v (.int .i64 0)), .d (.v (.int .i64 0)), .d (.v (.string (⟨#[]⟩ : ByteArray))), .d (.v (.int .i64 0)), .d (.v (.int .i64 0)), .nil, .d (.v (.int .i64 0)), .nil, .nil, .nil, .d (.v (.bool false)), .nil, .d (.v (.string (⟨#[]⟩ : ByteArray)))])), (128, some (.box [.d (.v (.int .i64 r1)), .d (.v (.int .i64 r7)), .d (.v (.int .i64 r13)), .d (.v (.string r19)), .d (.v (.int .i64 r25)), .d (.v (.int .i64 r31)), .ref 528, .d (.v (.int .i64 r43)), .ref 688, .ref 832, .ref 1072, .d (.v (.bool false)), .nil, .d (.v (.string (⟨#[]⟩ : ByteArray)))])), (528, some (.row 1 9 (r37.map dS) false true)), (688, some (.row 1 9 (r49.map dS) false true)), (832, some (.row 1 3 (Lc128_9.map dI) false true)), (1072, some (.row 5 26 ((Lc128_10 ++ ([r77] : List S26)).map d26) false true))], 1152⟩ hτ hmix (by kernel_rfl) (by kernel_rfl) (s2 := ⟨[(0, .pt 0 0 0), (2, .pt 64 0 0), (3, .pt 128 0 0), (57, iV r68), (58, iV (v58 + 1))], [(0, some (.box [.k 0 (.sl (bs.map dB)), .d (.v (.int .i64 i80)), .d (.v (.bool h81))])), (64, some (.box [.d (.v (.int .i64 0)), .d (.v (.int .i64 0)), .d (.v (.int .i64 0)), .d (.v (.string (⟨#[]⟩ : ByteArray))), .d (.v (.int .i64 0)), .d (.v (.int .i64 0)), .nil, .d (.v (.int .i64 0)), .nil, .nil, .nil, .d (.v (.bool false)), .nil, .d (.v (.string (⟨#[]⟩ : ByteArray)))])), (128, some (.box [.d (.v (.int .i64 r1)), .d (.v (.int .i64 r7)), .d (.v (.int .i64 r13)), .d (.v (.string r19)), .d (.v (.int .i64 r25)), .d (.v (.int .i64 r31)), .ref 528, .d (.v (.int .i64 r43)), .ref 688, .ref 832, .ref 1072, .d (.v (.bool false)), .nil, .d (.v (.string (⟨#[]⟩ : ByteArray)))])), (528, some (.row 1 9 (r37.map dS) false true)), (688, some (.row 1 9 (r49.map dS) false true)), (832, some (.row 1 3 (Lc128_9.map dI) false true)), (1072, some (.row 5 26 ((Lc128_10 ++ ([r77] : List S26)).map d26) false true))], 1152⟩) (congrArg (fun z : Int => (⟨[(0, .pt 0 0 0), (2, .pt 64 0 0), (3, .pt 128 0 0), (57, iV r68), (58, iV z)], [(0, some (.box [.k 0 (.sl (bs.map dB)), .d (.v (.int .i64 i80)), .d (.v (.bool h81))])), (64, some (.box [.d (.v (.int .i64 0)), .d (.v (.int .i64 0)), .d (.v (.int .i64 0)), .d (.v (.string (⟨#[]⟩ : ByteArray))), .d (.v (.int .i64 0)), .d (.v (.int .i64 0)), .nil, .d (.v (.int .i64 0)), .nil, .nil, .nil, .d (.v (.bool false)), .nil, .d (.v (.string (⟨#[]⟩ : ByteArray)))])), (128, some (.box [.d (.v (.int .i64 r1)), .d (.v (.int .i64 r7)), .d (.v (.int .i64 r13)), .d (.v (.string r19)), .d (.v (.int .i64 r25)), .d (.v (.int .i64 r31)), .ref 528, .d (.v (.int .i64 r43)), .ref 688, .ref 832, .ref 1072, .d (.v (.bool false)), .nil, .d (.v (.string (⟨#[]⟩ : ByteArray)))])), (528, some (.row 1 9 (r37.map dS) false true)), (688, some (.row 1 9 (r49.map dS) false true)), (832, some (.row 1 3 (Lc128_9.map dI) false true)), (1072, some (.row 5 26 ((Lc128_10 ++ ([r77] : List S26)).map d26) false true))], 1152⟩ : St)) (show wrap64 (v58 + 1) = (v58 + 1) by rw [w64 (n := (v58 + 1)) (by omega) (by omega)])) ?_
    refine ⟨⟨(i80, h81, (Lc128_10 ++ ([r77] : List S26)), (v58 + 1)), ⟨by first | omega | (dsimp only; omega), ⟨by first | omega | (dsimp only; omega), by first | omega | (dsimp only; omega), by simp only [List.length_append, List.length_cons, List.length_nil]; (first | omega | (dsimp only; omega)), all_app hxs (all_one hrs), rd_next W10b hrf (by first | omega | (dsimp only; omega)) (fun X hX => by have hq1 := (W10 X hX).2; omega) (fun X hX x hx => hX.bk.tx.2 x hx)⟩⟩⟩, by first | exact rfl | omega | (dsimp only; omega) | (simp only [List.length_append, List.length_cons, List.length_nil, List.length_set]; omega) | (simp; done) | (simp; omega), Wk.mk' [(64, 64), (128, 128), (528, 528), (688, 688), (832, 832), (912, 1072)] (by kernel_rfl) (by kernel_rfl) (by kernel_rfl)⟩
   ·replace hb76 := of_decide_eq_false (hb76)
    refine X.exit ?_
    refine X.seq ?_
    have W11 := rd_end W10b (fun X hX => by have hq1 := (W10 X hX).2; omega)
    refine X.rs 1 hτ hmix (by kernel_rfl) ?_
    obtain ⟨r86, i89, h90, hr88, hi91, hf87⟩ := i_gnum bs c0_1 c0_2 (by first | assumption | omega) (by omega) (by first | assumption | omega)
    obtain ⟨hrb, hrf⟩ := hr88
    refine CH.call hf87 Try.func134 ⟨rfl, rfl⟩ [(0, 0)] (by kernel_rfl) (by kernel_rfl) (by kernel_rfl) (by kernel_rfl) ?_
    refine CH.go 3 hτ (by kernel_rfl) ?_
    refine CH.endk ⟨[(0, .pt 0 0 0), (2, .pt 64 0 0), (3, .pt 128 0 0)], [(0, some (.box [.k 0 (.sl (bs.map dB)), .d (.v (.int .i64 i89)), .d (.v (.bool h90))])), (64, some (.box [.d (.v (.int .i64 0)), .d (.v (.int .i64 0)), .d (.v (.int .i64 0)), .d (.v (.string (⟨#[]⟩ : ByteArray))), .d (.v (.int .i64 0)), .d (.v (.int .i64 0)), .nil, .d (.v (.int .i64 0)), .nil, .nil, .nil, .d (.v (.bool false)), .nil, .d (.v (.string (⟨#[]⟩ : ByteArray)))])), (128, some (.box [.d (.v (.int .i64 r1)), .d (.v (.int .i64 r7)), .d (.v (.int .i64 r13)), .d (.v (.string r19)), .d (.v (.int .i64 r25)), .d (.v (.int .i64 r31)), .ref 528, .d (.v (.int .i64 r43)), .ref 688, .ref 832, .ref 912, .d (.v (.bool (r86 == 1))), .nil, .d (.v (.string (⟨#[]⟩ : ByteArray)))])), (528, some (.row 1 9 (r37.map dS) false true)), (688, some (.row 1 9 (r49.map dS) false true)), (832, some (.row 1 3 (Lc128_9.map dI) false true)), (912, some (.row 5 26 (Lc128_10.map d26) false true))], 1024⟩ (by kernel_rfl) (by kernel_rfl) rfl ?_
    have W12 := fun (X : S49) (hX : WB bs i0 h0 X) => hrf _ _ (wbit) (W11 X hX).1
    refine X.seq ?_
    refine X.seq ?_
    refine X.rs 1 hτ hmix (by kernel_rfl) ?_
    obtain ⟨r92, i95, h96, hr94, hi97, hf93⟩ := i_gcount bs i89 h90 (by first | assumption | omega) (by omega) 12 (by first | assumption | omega)
    obtain ⟨hrb, hrf⟩ := hr94
    refine CH.call hf93 Try.func137 ⟨rfl, rfl⟩ [(0, 0)] (by kernel_rfl) (by kernel_rfl) (by kernel_rfl) (by kernel_rfl) ?_
    refine CH.go 1 hτ (by kernel_rfl) ?_
    refine CH.endk ⟨[(0, .pt 0 0 0), (2, .pt 64 0 0), (3, .pt 128 0 0), (74, iV r92), (75, iV 0)], [(0, some (.box [.k 0 (.sl (bs.map dB)), .d (.v (.int .i64 i95)), .d (.v (.bool h96))])), (64, some (.box [.d (.v (.int .i64 0)), .d (.v (.int .i64 0)), .d (.v (.int .i64 0)), .d (.v (.string (⟨#[]⟩ : ByteArray))), .d (.v (.int .i64 0)), .d (.v (.int .i64 0)), .nil, .d (.v (.int .i64 0)), .nil, .nil, .nil, .d (.v (.bool false)), .nil, .d (.v (.string (⟨#[]⟩ : ByteArray)))])), (128, some (.box [.d (.v (.int .i64 r1)), .d (.v (.int .i64 r7)), .d (.v (.int .i64 r13)), .d (.v (.string r19)), .d (.v (.int .i64 r25)), .d (.v (.int .i64 r31)), .ref 528, .d (.v (.int .i64 r43)), .ref 688, .ref 832, .ref 912, .d (.v (.bool (r86 == 1))), .nil, .d (.v (.string (⟨#[]⟩ : ByteArray)))])), (528, some (.row 1 9 (r37.map dS) false true)), (688, some (.row 1 9 (r49.map dS) false true)), (832, some (.row 1 3 (Lc128_9.map dI) false true)), (912, some (.row 5 26 (Lc128_10.map d26) false true))], 1072⟩ (by kernel_rfl) (by kernel_rfl) rfl ?_
    have W13 := fun (X : S49) (hX : WB bs i0 h0 X) => hrf _ _ (wcnt (by have := hX.bk.nx.1; omega) (by decide)) (W12 X hX).1
    have hcn2 := hrb
    refine X.block ?_
    refine X.weak (Wk.ownB 128 [.d (.v (.int .i64 r1)), .d (.v (.int .i64 r7)), .d (.v (.int .i64 r13)), .d (.v (.string r19)), .d (.v (.int .i64 r25)), .d (.v (.int .i64 r31)), .ref 528, .d (.v (.int .i64 r43)), .ref 688, .ref 832, .ref 912, .d (.v (.bool (r86 == 1))), .nil, .d (.v (.string (⟨#[]⟩ : ByteArray)))] 12 2 107 (by kernel_rfl) rfl (by kernel_rfl) (by kernel_rfl)) ?_
    -- 22: c0_1 : Int, c0_2 : Bool, Lc128_12 : List S107, v75 : Int
    refine X.loop (σ := { g : Int × Bool × (List S107) × Int // (fun (c0_1 : Int) (c0_2 : Bool) (Lc128_12 : List S107) (v75 : Int) => (0 ≤ c0_1 ∧ c0_1 ≤ bs.length) ∧ (0 ≤ v75 ∧ v75 ≤ r92 ∧ (Lc128_12.length : Int) = v75 ∧ (∀ x, x ∈ Lc128_12 → Sm107 x) ∧ ∀ X, WB bs i0 h0 X → RS bs c0_1 c0_2 ((X.f8.drop v75.toNat).flatMap encV ++ tl9 X) ∧ Lc128_12 = X.f8.take v75.toNat)) g.1 g.2.1 g.2.2.1 g.2.2.2 }) (fun g => (fun (c0_1 : Int) (c0_2 : Bool) (Lc128_12 : List S107) (v75 : Int) => ⟨[(0, .pt 0 0 0), (2, .pt 64 0 0), (3, .pt 128 0 0), (74, iV r92), (75, iV v75)], [(0, some (.box [.k 0 (.sl (bs.map dB)), .d (.v (.int .i64 c0_1)), .d (.v (.bool c0_2))])), (64, some (.box [.d (.v (.int .i64 0)), .d (.v (.int .i64 0)), .d (.v (.int .i64 0)), .d (.v (.string (⟨#[]⟩ : ByteArray))), .d (.v (.int .i64 0)), .d (.v (.int .i64 0)), .nil, .d (.v (.int .i64 0)), .nil, .nil, .nil, .d (.v (.bool false)), .nil, .d (.v (.string (⟨#[]⟩ : ByteArray)))])), (128, some (.box [.d (.v (.int .i64 r1)), .d (.v (.int .i64 r7)), .d (.v (.int .i64 r13)), .d (.v (.string r19)), .d (.v (.int .i64 r25)), .d (.v (.int .i64 r31)), .ref 528, .d (.v (.int .i64 r43)), .ref 688, .ref 832, .ref 912, .d (.v (.bool (r86 == 1))), .ref 1072, .d (.v (.string (⟨#[]⟩ : ByteArray)))])), (528, some (.row 1 9 (r37.map dS) false true)), (688, some (.row 1 9 (r49.map dS) false true)), (832, some (.row 1 3 (Lc128_9.map dI) false true)), (912, some (.row 5 26 (Lc128_10.map d26) false true)), (1072, some (.row 2 107 (Lc128_12.map d107) false true))], 1088⟩) g.1.1 g.1.2.1 g.1.2.2.1 g.1.2.2.2) (fun g => (fun (c0_1 : Int) (c0_2 : Bool) (Lc128_12 : List S107) (v75 : Int) => (r92 - v75).toNat) g.1.1 g.1.2.1 g.1.2.2.1 g.1.2.2.2) ⟨(i95, h96, [], 0), ⟨by first | omega | (dsimp only; omega), ⟨by first | omega | (dsimp only; omega), by first | omega | (dsimp only; omega), by simp, all_nil, rd_zero (fun X hX => (W13 X hX).1)⟩⟩⟩ (Wk.less (by kernel_rfl)) (fun g => ?_)
    obtain ⟨⟨c0_1, c0_2, Lc128_12, v75⟩, hg99⟩ := g
    have hg99 : (0 ≤ c0_1 ∧ c0_1 ≤ bs.length) ∧ (0 ≤ v75 ∧ v75 ≤ r92 ∧ (Lc128_12.length : Int) = v75 ∧ (∀ x, x ∈ Lc128_12 → Sm107 x) ∧ ∀ X, WB bs i0 h0 X → RS bs c0_1 c0_2 ((X.f8.drop v75.toNat).flatMap encV ++ tl9 X) ∧ Lc128_12 = X.f8.take v75.toNat) := hg99
    obtain ⟨⟨_, _⟩, ⟨_, _, _, hvs, W13b⟩⟩ := hg99
    refine X.seq ?_
    refine X.rk ⟨[(0, .pt 0 0 0), (2, .pt 64 0 0), (3, .pt 128 0 0), (74, iV r92), (75, iV v75), (76, bV (decide ((v75 : Int) < r92)))], [(0, some (.box [.k 0 (.sl (bs.map dB)), .d (.v (.int .i64 c0_1)), .d (.v (.bool c0_2))])), (64, some (.box [.d (.v (.int .i64 0)), .d (.v (.int .i64 0)), .d (.v (.int .i64 0)), .d (.v (.string (⟨#[]⟩ : ByteArray))), .d (.v (.int .i64 0)), .d (.v (.int .i64 0)), .nil, .d (.v (.int .i64 0)), .nil, .nil, .nil, .d (.v (.bool false)), .nil, .d (.v (.string (⟨#[]⟩ : ByteArray)))])), (128, some (.box [.d (.v (.int .i64 r1)), .d (.v (.int .i64 r7)), .d (.v (.int .i64 r13)), .d (.v (.string r19)), .d (.v (.int .i64 r25)), .d (.v (.int .i64 r31)), .ref 528, .d (.v (.int .i64 r43)), .ref 688, .ref 832, .ref 912, .d (.v (.bool (r86 == 1))), .ref 1072, .d (.v (.string (⟨#[]⟩ : ByteArray)))])), (528, some (.row 1 9 (r37.map dS) false true)), (688, some (.row 1 9 (r49.map dS) false true)), (832, some (.row 1 3 (Lc128_9.map dI) false true)), (912, some (.row 5 26 (Lc128_10.map d26) false true)), (1072, some (.row 2 107 (Lc128_12.map d107) false true))], 1104⟩ hτ hmix (by kernel_rfl) (by kernel_rfl) rfl ?_
    refine X.seq ?_
    refine X.if_ (b := decide ((v75 : Int) < r92)) (by kernel_rfl) (fun hb100 => ?_) (fun hb100 => ?_)
    ·replace hb100 := of_decide_eq_true (hb100)
     refine X.skip ?_
     refine X.seq ?_
     refine X.block ?_
     refine X.seq ?_
     refine X.rs 1 hτ hmix (by kernel_rfl) ?_
     obtain ⟨r101, i104, h105, hr103, hi106, hf102⟩ := i_gtext bs c0_1 c0_2 (by first | assumption | omega) (by omega) (by first | assumption | omega)
     obtain ⟨hrs, hrf⟩ := hr103
     refine CH.call hf102 Try.func135 ⟨rfl, rfl⟩ [(0, 0)] (by kernel_rfl) (by kernel_rfl) (by kernel_rfl) (by kernel_rfl) ?_
     refine CH.go 3 hτ (by kernel_rfl) ?_
     refine CH.endk ⟨[(0, .pt 0 0 0), (2, .pt 64 0 0), (3, .pt 128 0 0), (6, .pt 1152 0 0), (74, iV r92), (75, iV v75)], [(0, some (.box [.k 0 (.sl (bs.map dB)), .d (.v (.int .i64 i104)), .d (.v (.bool h105))])), (64, some (.box [.d (.v (.int .i64 0)), .d (.v (.int .i64 0)), .d (.v (.int .i64 0)), .d (.v (.string (⟨#[]⟩ : ByteArray))), .d (.v (.int .i64 0)), .d (.v (.int .i64 0)), .nil, .d (.v (.int .i64 0)), .nil, .nil, .nil, .d (.v (.bool false)), .nil, .d (.v (.string (⟨#[]⟩ : ByteArray)))])), (128, some (.box [.d (.v (.int .i64 r1)), .d (.v (.int .i64 r7)), .d (.v (.int .i64 r13)), .d (.v (.string r19)), .d (.v (.int .i64 r25)), .d (.v (.int .i64 r31)), .ref 528, .d (.v (.int .i64 r43)), .ref 688, .ref 832, .ref 912, .d (.v (.bool (r86 == 1))), .ref 1072, .d (.v (.string (⟨#[]⟩ : ByteArray)))])), (528, some (.row 1 9 (r37.map dS) false true)), (688, some (.row 1 9 (r49.map dS) false true)), (832, some (.row 1 3 (Lc128_9.map dI) false true)), (912, some (.row 5 26 (Lc128_10.map d26) false true)), (1072, some (.row 2 107 (Lc128_12.map d107) false true)), (1152, some (.box [.d (.v (.string r101)), .d (.v (.int .i64 0))]))], 1184⟩ (by kernel_rfl) (by kernel_rfl) rfl ?_
     refine X.seq ?_
     have hrt := hrf
     have hrts := hrs
     refine X.rs 1 hτ hmix (by kernel_rfl) ?_
     obtain ⟨r107, i110, h111, hr109, hi112, hf108⟩ := i_gnum bs i104 h105 (by first | assumption | omega) (by omega) (by first | assumption | omega)
     obtain ⟨hrb, hrf⟩ := hr109
     refine CH.call hf108 Try.func134 ⟨rfl, rfl⟩ [(0, 0)] (by kernel_rfl) (by kernel_rfl) (by kernel_rfl) (by kernel_rfl) ?_
     refine CH.go 2 hτ (by kernel_rfl) ?_
     refine CH.endk ⟨[(0, .pt 0 0 0), (2, .pt 64 0 0), (3, .pt 128 0 0), (6, .pt 1152 0 0), (74, iV r92), (75, iV v75)], [(0, some (.box [.k 0 (.sl (bs.map dB)), .d (.v (.int .i64 i110)), .d (.v (.bool h111))])), (64, some (.box [.d (.v (.int .i64 0)), .d (.v (.int .i64 0)), .d (.v (.int .i64 0)), .d (.v (.string (⟨#[]⟩ : ByteArray))), .d (.v (.int .i64 0)), .d (.v (.int .i64 0)), .nil, .d (.v (.int .i64 0)), .nil, .nil, .nil, .d (.v (.bool false)), .nil, .d (.v (.string (⟨#[]⟩ : ByteArray)))])), (128, some (.box [.d (.v (.int .i64 r1)), .d (.v (.int .i64 r7)), .d (.v (.int .i64 r13)), .d (.v (.string r19)), .d (.v (.int .i64 r25)), .d (.v (.int .i64 r31)), .ref 528, .d (.v (.int .i64 r43)), .ref 688, .ref 832, .ref 912, .d (.v (.bool (r86 == 1))), .ref 1072, .d (.v (.string (⟨#[]⟩ : ByteArray)))])), (528, some (.row 1 9 (r37.map dS) false true)), (688, some (.row 1 9 (r49.map dS) false true)), (832, some (.row 1 3 (Lc128_9.map dI) false true)), (912, some (.row 5 26 (Lc128_10.map d26) false true)), (1072, some (.row 2 107 (Lc128_12.map d107) false true)), (1152, some (.box [.d (.v (.string r101)), .d (.v (.int .i64 r107))]))], 1248⟩ (by kernel_rfl) (by kernel_rfl) rfl ?_
     refine X.rs 4 hτ hmix (by kernel_rfl) ?_
     have el113 : (Lc128_12.map d107).length = Lc128_12.length := List.length_map ..
     have el114 : (([(⟨r101, r107⟩ : S107)] : List S107).map d107).length = ([(⟨r101, r107⟩ : S107)] : List S107).length := List.length_map ..
     have el115 : ([(⟨r101, r107⟩ : S107)] : List S107).length = 1 := rfl
     refine CH.app hτ (rows := (Lc128_12.map d107)) (rows2 := (([(⟨r101, r107⟩ : S107)] : List S107).map d107)) (sz := 2) (bys := 24) true (by kernel_rfl) (by kernel_rfl) (fun _ => flat_d d107 (fun x => rfl)) (flat_ok (f := d107) (fun x => rfl)) (by simp only [List.length_map] <;> (first | done | omega | (simp; done) | (simp; omega))) (by kernel_rfl) ?_
     refine CH.go 2 hτ (by kernel_rfl) ?_
     refine CH.endk ⟨[(0, .pt 0 0 0), (2, .pt 64 0 0), (3, .pt 128 0 0), (74, iV r92), (75, iV v75)], [(0, some (.box [.k 0 (.sl (bs.map dB)), .d (.v (.int .i64 i110)), .d (.v (.bool h111))])), (64, some (.box [.d (.v (.int .i64 0)), .d (.v (.int .i64 0)), .d (.v (.int .i64 0)), .d (.v (.string (⟨#[]⟩ : ByteArray))), .d (.v (.int .i64 0)), .d (.v (.int .i64 0)), .nil, .d (.v (.int .i64 0)), .nil, .nil, .nil, .d (.v (.bool false)), .nil, .d (.v (.string (⟨#[]⟩ : ByteArray)))])), (128, some (.box [.d (.v (.int .i64 r1)), .d (.v (.int .i64 r7)), .d (.v (.int .i64 r13)), .d (.v (.string r19)), .d (.v (.int .i64 r25)), .d (.v (.int .i64 r31)), .ref 528, .d (.v (.int .i64 r43)), .ref 688, .ref 832, .ref 912, .d (.v (.bool (r86 == 1))), .ref 1312, .d (.v (.string (⟨#[]⟩ : ByteArray)))])), (528, some (.row 1 9 (r37.map dS) false true)), (688, some (.row 1 9 (r49.map dS) false true)), (832, some (.row 1 3 (Lc128_9.map dI) false true)), (912, some (.row 5 26 (Lc128_10.map d26) false true)), (1312, some (.row 2 107 ((Lc128_12.map d107) ++ (([(⟨r101, r107⟩ : S107)] : List S107).map d107)) false true))], 1360⟩ (by kernel_rfl) (by kernel_rfl) (s2 := ⟨[(0, .pt 0 0 0), (2, .pt 64 0 0), (3, .pt 128 0 0), (74, iV r92), (75, iV v75)], [(0, some (.box [.k 0 (.sl (bs.map dB)), .d (.v (.int .i64 i110)), .d (.v (.bool h111))])), (64, some (.box [.d (.v (.int .i64 0)), .d (.v (.int .i64 0)), .d (.v (.int .i64 0)), .d (.v (.string (⟨#[]⟩ : ByteArray))), .d (.v (.int .i64 0)), .d (.v (.int .i64 0)), .nil, .d (.v (.int .i64 0)), .nil, .nil, .nil, .d (.v (.bool false)), .nil, .d (.v (.string (⟨#[]⟩ : ByteArray)))])), (128, some (.box [.d (.v (.int .i64 r1)), .d (.v (.int .i64 r7)), .d (.v (.int .i64 r13)), .d (.v (.string r19)), .d (.v (.int .i64 r25)), .d (.v (.int .i64 r31)), .ref 528, .d (.v (.int .i64 r43)), .ref 688, .ref 832, .ref 912, .d (.v (.bool (r86 == 1))), .ref 1312, .d (.v (.string (⟨#[]⟩ : ByteArray)))])), (528, some (.row 1 9 (r37.map dS) false true)), (688, some (.row 1 9 (r49.map dS) false true)), (832, some (.row 1 3 (Lc128_9.map dI) false true)), (912, some (.row 5 26 (Lc128_10.map d26) false true)), (1312, some (.row 2 107 ((Lc128_12 ++ ([(⟨r101, r107⟩ : S107)] : List S107)).map d107) false true))], 1360⟩) (congrArg (fun z : List (List D) => (⟨[(0, .pt 0 0 0), (2, .pt 64 0 0), (3, .pt 128 0 0), (74, iV r92), (75, iV v75)], [(0, some (.box [.k 0 (.sl (bs.map dB)), .d (.v (.int .i64 i110)), .d (.v (.bool h111))])), (64, some (.box [.d (.v (.int .i64 0)), .d (.v (.int .i64 0)), .d (.v (.int .i64 0)), .d (.v (.string (⟨#[]⟩ : ByteArray))), .d (.v (.int .i64 0)), .d (.v (.int .i64 0)), .nil, .d (.v (.int .i64 0)), .nil, .nil, .nil, .d (.v (.bool false)), .nil, .d (.v (.string (⟨#[]⟩ : ByteArray)))])), (128, some (.box [.d (.v (.int .i64 r1)), .d (.v (.int .i64 r7)), .d (.v (.int .i64 r13)), .d (.v (.string r19)), .d (.v (.int .i64 r25)), .d (.v (.int .i64 r31)), .ref 528, .d (.v (.int .i64 r43)), .ref 688, .ref 832, .ref 912, .d (.v (.bool (r86 == 1))), .ref 1312, .d (.v (.string (⟨#[]⟩ : ByteArray)))])), (528, some (.row 1 9 (r37.map dS) false true)), (688, some (.row 1 9 (r49.map dS) false true)), (832, some (.row 1 3 (Lc128_9.map dI) false true)), (912, some (.row 5 26 (Lc128_10.map d26) false true)), (1312, some (.row 2 107 z false true))], 1360⟩ : St)) (show (Lc128_12.map d107) ++ (([(⟨r101, r107⟩ : S107)] : List S107).map d107) = ((Lc128_12 ++ ([(⟨r101, r107⟩ : S107)] : List S107)).map d107) from List.map_append.symm)) ?_
     refine X.rk ⟨[(0, .pt 0 0 0), (2, .pt 64 0 0), (3, .pt 128 0 0), (74, iV r92), (75, iV (wrap64 (v75 + 1)))], [(0, some (.box [.k 0 (.sl (bs.map dB)), .d (.v (.int .i64 i110)), .d (.v (.bool h111))])), (64, some (.box [.d (.v (.int .i64 0)), .d (.v (.int .i64 0)), .d (.v (.int .i64 0)), .d (.v (.string (⟨#[]⟩ : ByteArray))), .d (.v (.int .i64 0)), .d (.v (.int .i64 0)), .nil, .d (.v (.int .i64 0)), .nil, .nil, .nil, .d (.v (.bool false)), .nil, .d (.v (.string (⟨#[]⟩ : ByteArray)))])), (128, some (.box [.d (.v (.int .i64 r1)), .d (.v (.int .i64 r7)), .d (.v (.int .i64 r13)), .d (.v (.string r19)), .d (.v (.int .i64 r25)), .d (.v (.int .i64 r31)), .ref 528, .d (.v (.int .i64 r43)), .ref 688, .ref 832, .ref 912, .d (.v (.bool (r86 == 1))), .ref 1312, .d (.v (.string (⟨#[]⟩ : ByteArray)))])), (528, some (.row 1 9 (r37.map dS) false true)), (688, some (.row 1 9 (r49.map dS) false true)), (832, some (.row 1 3 (Lc128_9.map dI) false true)), (912, some (.row 5 26 (Lc128_10.map d26) false true)), (1312, some (.row 2 107 ((Lc128_12 ++ ([(⟨r101, r107⟩ : S107)] : List S107)).map d107) false true))], 1392⟩ hτ hmix (by kernel_rfl) (by kernel_rfl) (s2 := ⟨[(0, .pt 0 0 0), (2, .pt 64 0 0), (3, .pt 128 0 0), (74, iV r92), (75, iV (v75 + 1))], [(0, some (.box [.k 0 (.sl (bs.map dB)), .d (.v (.int .i64 i110)), .d (.v (.bool h111))])), (64, some (.box [.d (.v (.int .i64 0)), .d (.v (.int .i64 0)), .d (.v (.int .i64 0)), .d (.v (.string (⟨#[]⟩ : ByteArray))), .d (.v (.int .i64 0)), .d (.v (.int .i64 0)), .nil, .d (.v (.int .i64 0)), .nil, .nil, .nil, .d (.v (.bool false)), .nil, .d (.v (.string (⟨#[]⟩ : ByteArray)))])), (128, some (.box [.d (.v (.int .i64 r1)), .d (.v (.int .i64 r7)), .d (.v (.int .i64 r13)), .d (.v (.string r19)), .d (.v (.int .i64 r25)), .d (.v (.int .i64 r31)), .ref 528, .d (.v (.int .i64 r43)), .ref 688, .ref 832, .ref 912, .d (.v (.bool (r86 == 1))), .ref 1312, .d (.v (.string (⟨#[]⟩ : ByteArray)))])), (528, some (.row 1 9 (r37.map dS) false true)), (688, some (.row 1 9 (r49.map dS) false true)), (832, some (.row 1 3 (Lc128_9.map dI) false true)), (912, some (.row 5 26 (Lc128_10.map d26) false true)), (1312, some (.row 2 107 ((Lc128_12 ++ ([(⟨r101, r107⟩ : S107)] : List S107)).map d107) false true))], 1392⟩) (congrArg (fun z : Int => (⟨[(0, .pt 0 0 0), (2, .pt 64 0 0), (3, .pt 128 0 0), (74, iV r92), (75, iV z)], [(0, some (.box [.k 0 (.sl (bs.map dB)), .d (.v (.int .i64 i110)), .d (.v (.bool h111))])), (64, some (.box [.d (.v (.int .i64 0)), .d (.v (.int .i64 0)), .d (.v (.int .i64 0)), .d (.v (.string (⟨#[]⟩ : ByteArray))), .d (.v (.int .i64 0)), .d (.v (.int .i64 0)), .nil, .d (.v (.int .i64 0)), .nil, .nil, .nil, .d (.v (.bool false)), .nil, .d (.v (.string (⟨#[]⟩ : ByteArray)))])), (128, some (.box [.d (.v (.int .i64 r1)), .d (.v (.int .i64 r7)), .d (.v (.int .i64 r13)), .d (.v (.string r19)), .d (.v (.int .i64 r25)), .d (.v (.int .i64 r31)), .ref 528, .d (.v (.int .i64 r43)), .ref 688, .ref 832, .ref 912, .d (.v (.bool (r86 == 1))), .ref 1312, .d (.v (.string (⟨#[]⟩ : ByteArray)))])), (528, some (.row 1 9 (r37.map dS) false true)), (688, some (.row 1 9 (r49.map dS) false true)), (832, some (.row 1 3 (Lc128_9.map dI) false true)), (912, some (.row 5 26 (Lc128_10.map d26) false true)), (1312, some (.row 2 107 ((Lc128_12 ++ ([(⟨r101, r107⟩ : S107)] : List S107)).map d107) false true))], 1392⟩ : St)) (show wrap64 (v75 + 1) = (v75 + 1) by rw [w64 (n := (v75 + 1)) (by omega) (by omega)])) ?_
     refine ⟨⟨(i110, h111, (Lc128_12 ++ ([(⟨r101, r107⟩ : S107)] : List S107)), (v75 + 1)), ⟨by first | omega | (dsimp only; omega), ⟨by first | omega | (dsimp only; omega), by first | omega | (dsimp only; omega), by simp only [List.length_append, List.length_cons, List.length_nil]; (first | omega | (dsimp only; omega)), all_app hvs (all_one hrts), rd_next W13b (rd_v hrt hrf) (by first | omega | (dsimp only; omega)) (fun X hX => by have hq1 := (W13 X hX).2; omega) (fun X hX x hx => hX.bk.nx.2 x hx)⟩⟩⟩, by first | exact rfl | omega | (dsimp only; omega) | (simp only [List.length_append, List.length_cons, List.length_nil, List.length_set]; omega) | (simp; done) | (simp; omega), Wk.mk' [(64, 64), (128, 128), (528, 528), (688, 688), (832, 832), (912, 912), (1072, 1312)] (by kernel_rfl) (by kernel_rfl) (by kernel_rfl)⟩
    ·replace hb100 := of_decide_eq_false (hb100)
     refine X.exit ?_
     refine X.seq ?_
     have W14 := rd_end W13b (fun X hX => by have hq1 := (W13 X hX).2; omega)
     refine X.rs 1 hτ hmix (by kernel_rfl) ?_
     obtain ⟨r116, i119, h120, hr118, hi121, hf117⟩ := i_gtext bs c0_1 c0_2 (by first | assumption | omega) (by omega) (by first | assumption | omega)
     obtain ⟨hrs, hrf⟩ := hr118
     refine CH.call hf117 Try.func135 ⟨rfl, rfl⟩ [(0, 0)] (by kernel_rfl) (by kernel_rfl) (by kernel_rfl) (by kernel_rfl) ?_
     refine CH.go 2 hτ (by kernel_rfl) ?_
     refine CH.endk ⟨[(2, .pt 64 0 0), (3, .pt 128 0 0)], [(0, some (.box [.k 0 (.sl (bs.map dB)), .d (.v (.int .i64 i119)), .d (.v (.bool h120))])), (64, some (.box [.d (.v (.int .i64 0)), .d (.v (.int .i64 0)), .d (.v (.int .i64 0)), .d (.v (.string (⟨#[]⟩ : ByteArray))), .d (.v (.int .i64 0)), .d (.v (.int .i64 0)), .nil, .d (.v (.int .i64 0)), .nil, .nil, .nil, .d (.v (.bool false)), .nil, .d (.v (.string (⟨#[]⟩ : ByteArray)))])), (128, some (.box [.d (.v (.int .i64 r1)), .d (.v (.int .i64 r7)), .d (.v (.int .i64 r13)), .d (.v (.string r19)), .d (.v (.int .i64 r25)), .d (.v (.int .i64 r31)), .ref 528, .d (.v (.int .i64 r43)), .ref 688, .ref 832, .ref 912, .d (.v (.bool (r86 == 1))), .ref 1072, .d (.v (.string r116))])), (528, some (.row 1 9 (r37.map dS) false true)), (688, some (.row 1 9 (r49.map dS) false true)), (832, some (.row 1 3 (Lc128_9.map dI) false true)), (912, some (.row 5 26 (Lc128_10.map d26) false true)), (1072, some (.row 2 107 (Lc128_12.map d107) false true))], 1168⟩ (by kernel_rfl) (by kernel_rfl) rfl ?_
     refine X.seq ?_
     have W15 := fun (X : S49) (hX : WB bs i0 h0 X) => hrf _ _ (Nat.le_trans hX.bk.rt (by decide)) (by rw [List.append_nil]; exact (W14 X hX).1)
     refine X.rk ⟨[(2, .pt 64 0 0)], [(0, some (.box [.k 0 (.sl (bs.map dB)), .d (.v (.int .i64 i119)), .d (.v (.bool h120))])), (64, some (.box [.d (.v (.int .i64 r1)), .d (.v (.int .i64 r7)), .d (.v (.int .i64 r13)), .d (.v (.string r19)), .d (.v (.int .i64 r25)), .d (.v (.int .i64 r31)), .ref 528, .d (.v (.int .i64 r43)), .ref 688, .ref 832, .ref 912, .d (.v (.bool (r86 == 1))), .ref 1072, .d (.v (.string r116))])), (528, some (.row 1 9 (r37.map dS) false true)), (688, some (.row 1 9 (r49.map dS) false true)), (832, some (.row 1 3 (Lc128_9.map dI) false true)), (912, some (.row 5 26 (Lc128_10.map d26) false true)), (1072, some (.row 2 107 (Lc128_12.map d107) false true))], 1200⟩ hτ hmix (by kernel_rfl) (by kernel_rfl) rfl ?_
     refine X.ret ?_
     exact ⟨trivial, _, _, ⟨(⟨r1, r7, r13, r19, (⟨r25, r31, r37⟩ : S43), (⟨r43, r49, Lc128_9⟩ : S46), Lc128_10, (r86 == 1), Lc128_12, r116⟩ : S49), i119, h120, ⟨⟨hsB, hsQ, ⟨hsT, h9l⟩, ⟨by dsimp only; omega, hxs⟩, ⟨by dsimp only; omega, hvs⟩, hrs⟩, fun X hX => ⟨(W15 X hX).1.1, mkB_eq (W0 X hX).2 (W1 X hX).2 (W2 X hX).2 (W3 X hX).2 (W4 X hX).2 (W5 X hX).2 (W6 X hX).2 (W7 X hX).2 (W8 X hX).2 (W9 X hX).2 (W11 X hX).2 (bit_eq (W12 X hX).2) (W14 X hX).2 (W15 X hX).2⟩⟩, (by omega), rfl, rfl⟩, .inl (Ret.mk' [(64, 528), (65, 688), (66, 832), (67, 912), (68, 1072)] (by kernel_rfl) (by kernel_rfl) (by kernel_rfl))⟩
 obtain ⟨_, _, ⟨r0, i1, h1, h1_, h2_, rfl, rfl⟩, hf⟩ := key
 exact ⟨r0, i1, h1, h1_, h2_, hf⟩

theorem i_GetBlockR (l : List Int) (hl : l.length ≤ 2000000) (hu : u8s l) : ∃ r0 : S49, ∃ r1 : Bool, (Sm49 r0 ∧ gbR l r0 r1 ∧ (r1 = false → r0 = z49)) ∧ Fn Try.prog 26 [lV (l.map dB)] (lookH []) (.tup [.agg [.d (.v (.int .i64 r0.f0)), .d (.v (.int .i64 r0.f1)), .d (.v (.int .i64 r0.f2)), .d (.v (.string r0.f3)), .d (.v (.int .i64 r0.f4.f0)), .d (.v (.int .i64 r0.f4.f1)), .ref 64, .d (.v (.int .i64 r0.f5.f0)), .ref 65, .ref 66, .ref 67, .d (.v (.bool r0.f7)), .ref 68, .d (.v (.string r0.f9))], .c (.d (.v (.bool r1)))]) (lookH [(64, some (.row 1 9 (r0.f4.f2.map dS) false true)), (65, some (.row 1 9 (r0.f5.f1.map dS) false true)), (66, some (.row 1 3 (r0.f5.f2.map dI) false true)), (67, some (.row 5 26 (r0.f6.map d26) false true)), (68, some (.row 2 107 (r0.f8.map d107) false true))]) := by
 have key : ∃ x' h', ((fun x' h' => ∃ r0 : S49, ∃ r1 : Bool, (Sm49 r0 ∧ gbR l r0 r1 ∧ (r1 = false → r0 = z49)) ∧ x' = .tup [.agg [.d (.v (.int .i64 r0.f0)), .d (.v (.int .i64 r0.f1)), .d (.v (.int .i64 r0.f2)), .d (.v (.string r0.f3)), .d (.v (.int .i64 r0.f4.f0)), .d (.v (.int .i64 r0.f4.f1)), .ref 64, .d (.v (.int .i64 r0.f5.f0)), .ref 65, .ref 66, .ref 67, .d (.v (.bool r0.f7)), .ref 68, .d (.v (.string r0.f9))], .c (.d (.v (.bool r1)))] ∧ h' = [(64, some (.row 1 9 (r0.f4.f2.map dS) false true)), (65, some (.row 1 9 (r0.f5.f1.map dS) false true)), (66, some (.row 1 3 (r0.f5.f2.map dI) false true)), (67, some (.row 5 26 (r0.f6.map d26) false true)), (68, some (.row 2 107 (r0.f8.map d107) false true))])) x' h' ∧ Fn Try.prog 26 [lV (l.map dB)] (lookH []) x' (lookH h') := by
  refine Fn.bodyX (N := 25) hτ Try.func26 rfl rfl rfl rfl ?_
  refine X.seq ?_
  refine X.rk ⟨[(0, lV (l.map dB)), (2, .pt 64 0 0)], [(64, some (.box [.d (.v (.int .i64 0)), .d (.v (.int .i64 0)), .d (.v (.int .i64 0)), .d (.v (.string (⟨#[]⟩ : ByteArray))), .d (.v (.int .i64 0)), .d (.v (.int .i64 0)), .nil, .d (.v (.int .i64 0)), .nil, .nil, .nil, .d (.v (.bool false)), .nil, .d (.v (.string (⟨#[]⟩ : ByteArray)))]))], 96⟩ hτ hmix (by kernel_rfl) (by kernel_rfl) rfl ?_
  refine X.seq ?_
  refine X.rk ⟨[(0, lV (l.map dB)), (2, .pt 64 0 0), (4, .pt 128 0 0)], [(64, some (.box [.d (.v (.int .i64 0)), .d (.v (.int .i64 0)), .d (.v (.int .i64 0)), .d (.v (.string (⟨#[]⟩ : ByteArray))), .d (.v (.int .i64 0)), .d (.v (.int .i64 0)), .nil, .d (.v (.int .i64 0)), .nil, .nil, .nil, .d (.v (.bool false)), .nil, .d (.v (.string (⟨#[]⟩ : ByteArray)))])), (128, some (.box [.d (.sl (l.map dB)), .d (.v (.int .i64 0)), .d (.v (.bool false))]))], 160⟩ hτ hmix (by kernel_rfl) (by kernel_rfl) rfl ?_
  refine X.seq ?_
  refine X.rs 0 hτ hmix (by kernel_rfl) ?_
  obtain ⟨r1, i4, h5, hr3, hi6, hf2⟩ := i_gblockR l 0 false (by first | assumption | omega) (by omega) (by first | assumption | omega)
  obtain ⟨hgs, hgf⟩ := hr3
  refine CH.call hf2 Try.func78 ⟨rfl, rfl⟩ [(128, 0)] (by kernel_rfl) (by kernel_rfl) (by kernel_rfl) (by kernel_rfl) ?_
  refine CH.go 2 hτ (by kernel_rfl) ?_
  refine CH.endk ⟨[(0, lV (l.map dB)), (2, .pt 64 0 0), (4, .pt 128 0 0), (5, .pt 176 0 0)], [(64, some (.box [.d (.v (.int .i64 0)), .d (.v (.int .i64 0)), .d (.v (.int .i64 0)), .d (.v (.string (⟨#[]⟩ : ByteArray))), .d (.v (.int .i64 0)), .d (.v (.int .i64 0)), .nil, .d (.v (.int .i64 0)), .nil, .nil, .nil, .d (.v (.bool false)), .nil, .d (.v (.string (⟨#[]⟩ : ByteArray)))])), (128, some (.box [.d (.sl (l.map dB)), .d (.v (.int .i64 i4)), .d (.v (.bool h5))])), (160, some (.row 1 9 (r1.f4.f2.map dS) false true)), (161, some (.row 1 9 (r1.f5.f1.map dS) false true)), (162, some (.row 1 3 (r1.f5.f2.map dI) false true)), (163, some (.row 5 26 (r1.f6.map d26) false true)), (164, some (.row 2 107 (r1.f8.map d107) false true)), (176, some (.box [.d (.v (.int .i64 r1.f0)), .d (.v (.int .i64 r1.f1)), .d (.v (.int .i64 r1.f2)), .d (.v (.string r1.f3)), .d (.v (.int .i64 r1.f4.f0)), .d (.v (.int .i64 r1.f4.f1)), .ref 160, .d (.v (.int .i64 r1.f5.f0)), .ref 161, .ref 162, .ref 163, .d (.v (.bool r1.f7)), .ref 164, .d (.v (.string r1.f9))]))], 208⟩ (by kernel_rfl) (by kernel_rfl) rfl ?_
  refine X.seq ?_
  refine X.seq ?_
  refine X.rs 3 hτ hmix (by kernel_rfl) ?_
  rcases Bool.eq_false_or_eq_true (h5) with hb7 | hb7
  ·refine CH.alt 10 (sV (.bool (h5))) (sV (.bool true)) (by kernel_rfl) (by rw [hb7]) ?_
   refine CH.alt 11 (sV (.bool (h5))) (sV (.bool true)) (by kernel_rfl) (by rw [hb7]) ?_
   refine CH.go 11 hτ (by kernel_rfl) ?_
   refine CH.endk ⟨[(2, .pt 64 0 0), (5, .pt 176 0 0), (22, bV true)], [(64, some (.box [.d (.v (.int .i64 0)), .d (.v (.int .i64 0)), .d (.v (.int .i64 0)), .d (.v (.string (⟨#[]⟩ : ByteArray))), .d (.v (.int .i64 0)), .d (.v (.int .i64 0)), .nil, .d (.v (.int .i64 0)), .nil, .nil, .nil, .d (.v (.bool false)), .nil, .d (.v (.string (⟨#[]⟩ : ByteArray)))])), (160, some (.row 1 9 (r1.f4.f2.map dS) false true)), (161, some (.row 1 9 (r1.f5.f1.map dS) false true)), (162, some (.row 1 3 (r1.f5.f2.map dI) false true)), (163, some (.row 5 26 (r1.f6.map d26) false true)), (164, some (.row 2 107 (r1.f8.map d107) false true)), (176, some (.box [.d (.v (.int .i64 r1.f0)), .d (.v (.int .i64 r1.f1)), .d (.v (.int .i64 r1.f2)), .d (.v (.string r1.f3)), .d (.v (.int .i64 r1.f4.f0)), .d (.v (.int .i64 r1.f4.f1)), .ref 160, .d (.v (.int .i64 r1.f5.f0)), .ref 161, .ref 162, .ref 163, .d (.v (.bool r1.f7)), .ref 164, .d (.v (.string r1.f9))]))], 432⟩ (by kernel_rfl) (by kernel_rfl) rfl ?_
   refine X.ifT (by kernel_rfl) ?_
   refine X.seq ?_
   refine X.rk ⟨[(2, .pt 64 0 0), (3, bV false)], [(64, some (.box [.d (.v (.int .i64 0)), .d (.v (.int .i64 0)), .d (.v (.int .i64 0)), .d (.v (.string (⟨#[]⟩ : ByteArray))), .d (.v (.int .i64 0)), .d (.v (.int .i64 0)), .nil, .d (.v (.int .i64 0)), .nil, .nil, .nil, .d (.v (.bool false)), .nil, .d (.v (.string (⟨#[]⟩ : ByteArray)))]))], 480⟩ hτ hmix (by kernel_rfl) (by kernel_rfl) rfl ?_
   refine X.ret ?_
   exact ⟨trivial, _, _, ⟨(⟨0, 0, 0, (⟨#[]⟩ : ByteArray), (⟨0, 0, []⟩ : S43), (⟨0, [], []⟩ : S46), [], false, [], (⟨#[]⟩ : ByteArray)⟩ : S49), false, (by first | exact ⟨z_sm, gb_bad hu hgf (.inl ‹_›), fun _ => rfl⟩ | exact ⟨z_sm, gb_bad hu hgf (.inr (.inl ‹_›)), fun _ => rfl⟩ | exact ⟨z_sm, gb_bad hu hgf (.inr (.inr ‹_›)), fun _ => rfl⟩ | exact ⟨hgs, gb_yes hu hgf ‹_› ‹_›, fun h => by cases h⟩), rfl, rfl⟩, .inr ⟨_, (Wk.ownB 64 [.d (.v (.int .i64 0)), .d (.v (.int .i64 0)), .d (.v (.int .i64 0)), .d (.v (.string (⟨#[]⟩ : ByteArray))), .d (.v (.int .i64 0)), .d (.v (.int .i64 0)), .nil, .d (.v (.int .i64 0)), .nil, .nil, .nil, .d (.v (.bool false)), .nil, .d (.v (.string (⟨#[]⟩ : ByteArray)))] 6 1 9 (by kernel_rfl) rfl (by kernel_rfl) (by kernel_rfl)).trans ((Wk.ownB 64 [.d (.v (.int .i64 0)), .d (.v (.int .i64 0)), .d (.v (.int .i64 0)), .d (.v (.string (⟨#[]⟩ : ByteArray))), .d (.v (.int .i64 0)), .d (.v (.int .i64 0)), .ref 480, .d (.v (.int .i64 0)), .nil, .nil, .nil, .d (.v (.bool false)), .nil, .d (.v (.string (⟨#[]⟩ : ByteArray)))] 8 1 9 (by kernel_rfl) rfl (by kernel_rfl) (by kernel_rfl)).trans ((Wk.ownB 64 [.d (.v (.int .i64 0)), .d (.v (.int .i64 0)), .d (.v (.int .i64 0)), .d (.v (.string (⟨#[]⟩ : ByteArray))), .d (.v (.int .i64 0)), .d (.v (.int .i64 0)), .ref 480, .d (.v (.int .i64 0)), .ref 496, .nil, .nil, .d (.v (.bool false)), .nil, .d (.v (.string (⟨#[]⟩ : ByteArray)))] 9 1 3 (by kernel_rfl) rfl (by kernel_rfl) (by kernel_rfl)).trans ((Wk.ownB 64 [.d (.v (.int .i64 0)), .d (.v (.int .i64 0)), .d (.v (.int .i64 0)), .d (.v (.string (⟨#[]⟩ : ByteArray))), .d (.v (.int .i64 0)), .d (.v (.int .i64 0)), .ref 480, .d (.v (.int .i64 0)), .ref 496, .ref 512, .nil, .d (.v (.bool false)), .nil, .d (.v (.string (⟨#[]⟩ : ByteArray)))] 10 5 26 (by kernel_rfl) rfl (by kernel_rfl) (by kernel_rfl)).trans (Wk.ownB 64 [.d (.v (.int .i64 0)), .d (.v (.int .i64 0)), .d (.v (.int .i64 0)), .d (.v (.string (⟨#[]⟩ : ByteArray))), .d (.v (.int .i64 0)), .d (.v (.int .i64 0)), .ref 480, .d (.v (.int .i64 0)), .ref 496, .ref 512, .ref 528, .d (.v (.bool false)), .nil, .d (.v (.string (⟨#[]⟩ : ByteArray)))] 12 2 107 (by kernel_rfl) rfl (by kernel_rfl) (by kernel_rfl))))), Ret.mk' [(64, 480), (65, 496), (66, 512), (67, 528), (68, 544)] (by kernel_rfl) (by kernel_rfl) (by kernel_rfl)⟩⟩
  ·refine CH.alt 10 (sV (.bool (h5))) (sV (.bool false)) (by kernel_rfl) (by rw [hb7]) ?_
   refine CH.alt 11 (sV (.bool (h5))) (sV (.bool false)) (by kernel_rfl) (by rw [hb7]) ?_
   refine CH.go 1 hτ (by kernel_rfl) ?_
   obtain ⟨r8, hr10, hf9⟩ := i_BlockOk r1 (by exact hgs)
   replace hr10 := hr10.symm; subst hr10
   refine CH.call hf9 Try.func25 ⟨rfl, rfl⟩ [] (by kernel_rfl) (by kernel_rfl) (by kernel_rfl) (by kernel_rfl) ?_
   refine CH.go 3 hτ (by kernel_rfl) ?_
   rcases Bool.eq_false_or_eq_true (!(blockOk r1)) with hb12 | hb12
   ·refine CH.alt 14 (sV (.bool (!(blockOk r1)))) (sV (.bool true)) (by kernel_rfl) (by rw [hb12]) ?_
    refine CH.alt 15 (sV (.bool (!(blockOk r1)))) (sV (.bool true)) (by kernel_rfl) (by rw [hb12]) ?_
    refine CH.alt 16 (sV (.bool (!(blockOk r1)))) (sV (.bool true)) (by kernel_rfl) (by rw [hb12]) ?_
    replace hb12 := bnot_yes (hb12)
    refine CH.go 6 hτ (by kernel_rfl) ?_
    refine CH.endk ⟨[(2, .pt 64 0 0), (5, .pt 176 0 0), (22, bV true)], [(64, some (.box [.d (.v (.int .i64 0)), .d (.v (.int .i64 0)), .d (.v (.int .i64 0)), .d (.v (.string (⟨#[]⟩ : ByteArray))), .d (.v (.int .i64 0)), .d (.v (.int .i64 0)), .nil, .d (.v (.int .i64 0)), .nil, .nil, .nil, .d (.v (.bool false)), .nil, .d (.v (.string (⟨#[]⟩ : ByteArray)))])), (160, some (.row 1 9 (r1.f4.f2.map dS) false true)), (161, some (.row 1 9 (r1.f5.f1.map dS) false true)), (162, some (.row 1 3 (r1.f5.f2.map dI) false true)), (163, some (.row 5 26 (r1.f6.map d26) false true)), (164, some (.row 2 107 (r1.f8.map d107) false true)), (176, some (.box [.d (.v (.int .i64 r1.f0)), .d (.v (.int .i64 r1.f1)), .d (.v (.int .i64 r1.f2)), .d (.v (.string r1.f3)), .d (.v (.int .i64 r1.f4.f0)), .d (.v (.int .i64 r1.f4.f1)), .ref 160, .d (.v (.int .i64 r1.f5.f0)), .ref 161, .ref 162, .ref 163, .d (.v (.bool r1.f7)), .ref 164, .d (.v (.string r1.f9))]))], 432⟩ (by kernel_rfl) (by kernel_rfl) rfl ?_
    refine X.ifT (by kernel_rfl) ?_
    refine X.seq ?_
    refine X.rk ⟨[(2, .pt 64 0 0), (3, bV false)], [(64, some (.box [.d (.v (.int .i64 0)), .d (.v (.int .i64 0)), .d (.v (.int .i64 0)), .d (.v (.string (⟨#[]⟩ : ByteArray))), .d (.v (.int .i64 0)), .d (.v (.int .i64 0)), .nil, .d (.v (.int .i64 0)), .nil, .nil, .nil, .d (.v (.bool false)), .nil, .d (.v (.string (⟨#[]⟩ : ByteArray)))]))], 480⟩ hτ hmix (by kernel_rfl) (by kernel_rfl) rfl ?_
    refine X.ret ?_
    exact ⟨trivial, _, _, ⟨(⟨0, 0, 0, (⟨#[]⟩ : ByteArray), (⟨0, 0, []⟩ : S43), (⟨0, [], []⟩ : S46), [], false, [], (⟨#[]⟩ : ByteArray)⟩ : S49), false, (by first | exact ⟨z_sm, gb_bad hu hgf (.inl ‹_›), fun _ => rfl⟩ | exact ⟨z_sm, gb_bad hu hgf (.inr (.inl ‹_›)), fun _ => rfl⟩ | exact ⟨z_sm, gb_bad hu hgf (.inr (.inr ‹_›)), fun _ => rfl⟩ | exact ⟨hgs, gb_yes hu hgf ‹_› ‹_›, fun h => by cases h⟩), rfl, rfl⟩, .inr ⟨_, (Wk.ownB 64 [.d (.v (.int .i64 0)), .d (.v (.int .i64 0)), .d (.v (.int .i64 0)), .d (.v (.string (⟨#[]⟩ : ByteArray))), .d (.v (.int .i64 0)), .d (.v (.int .i64 0)), .nil, .d (.v (.int .i64 0)), .nil, .nil, .nil, .d (.v (.bool false)), .nil, .d (.v (.string (⟨#[]⟩ : ByteArray)))] 6 1 9 (by kernel_rfl) rfl (by kernel_rfl) (by kernel_rfl)).trans ((Wk.ownB 64 [.d (.v (.int .i64 0)), .d (.v (.int .i64 0)), .d (.v (.int .i64 0)), .d (.v (.string (⟨#[]⟩ : ByteArray))), .d (.v (.int .i64 0)), .d (.v (.int .i64 0)), .ref 480, .d (.v (.int .i64 0)), .nil, .nil, .nil, .d (.v (.bool false)), .nil, .d (.v (.string (⟨#[]⟩ : ByteArray)))] 8 1 9 (by kernel_rfl) rfl (by kernel_rfl) (by kernel_rfl)).trans ((Wk.ownB 64 [.d (.v (.int .i64 0)), .d (.v (.int .i64 0)), .d (.v (.int .i64 0)), .d (.v (.string (⟨#[]⟩ : ByteArray))), .d (.v (.int .i64 0)), .d (.v (.int .i64 0)), .ref 480, .d (.v (.int .i64 0)), .ref 496, .nil, .nil, .d (.v (.bool false)), .nil, .d (.v (.string (⟨#[]⟩ : ByteArray)))] 9 1 3 (by kernel_rfl) rfl (by kernel_rfl) (by kernel_rfl)).trans ((Wk.ownB 64 [.d (.v (.int .i64 0)), .d (.v (.int .i64 0)), .d (.v (.int .i64 0)), .d (.v (.string (⟨#[]⟩ : ByteArray))), .d (.v (.int .i64 0)), .d (.v (.int .i64 0)), .ref 480, .d (.v (.int .i64 0)), .ref 496, .ref 512, .nil, .d (.v (.bool false)), .nil, .d (.v (.string (⟨#[]⟩ : ByteArray)))] 10 5 26 (by kernel_rfl) rfl (by kernel_rfl) (by kernel_rfl)).trans (Wk.ownB 64 [.d (.v (.int .i64 0)), .d (.v (.int .i64 0)), .d (.v (.int .i64 0)), .d (.v (.string (⟨#[]⟩ : ByteArray))), .d (.v (.int .i64 0)), .d (.v (.int .i64 0)), .ref 480, .d (.v (.int .i64 0)), .ref 496, .ref 512, .ref 528, .d (.v (.bool false)), .nil, .d (.v (.string (⟨#[]⟩ : ByteArray)))] 12 2 107 (by kernel_rfl) rfl (by kernel_rfl) (by kernel_rfl))))), Ret.mk' [(64, 480), (65, 496), (66, 512), (67, 528), (68, 544)] (by kernel_rfl) (by kernel_rfl) (by kernel_rfl)⟩⟩
   ·refine CH.alt 14 (sV (.bool (!(blockOk r1)))) (sV (.bool false)) (by kernel_rfl) (by rw [hb12]) ?_
    refine CH.alt 15 (sV (.bool (!(blockOk r1)))) (sV (.bool false)) (by kernel_rfl) (by rw [hb12]) ?_
    refine CH.alt 16 (sV (.bool (!(blockOk r1)))) (sV (.bool false)) (by kernel_rfl) (by rw [hb12]) ?_
    replace hb12 := bnot_no (hb12)
    refine CH.go 1 hτ (by kernel_rfl) ?_
    obtain ⟨r13, hr15, hf14⟩ := i_putBlock r1 (by exact hgs)
    replace hr15 := hr15.symm; subst hr15
    refine CH.call hf14 Try.func65 ⟨rfl, rfl⟩ [] (by kernel_rfl) (by kernel_rfl) (by kernel_rfl) (by kernel_rfl) ?_
    refine CH.go 1 hτ (by kernel_rfl) ?_
    obtain ⟨r17, hr19, hf18⟩ := b_equal (encB r1) l
    replace hr19 := hr19.symm; subst hr19
    refine CH.call hf18 Try.func79 ⟨rfl, rfl⟩ [] (by kernel_rfl) (by kernel_rfl) (by kernel_rfl) (by kernel_rfl) ?_
    refine CH.go 2 hτ (by kernel_rfl) ?_
    refine CH.endk ⟨[(2, .pt 64 0 0), (5, .pt 176 0 0), (22, bV (!((strOf (encB r1)).toList == (strOf l).toList)))], [(64, some (.box [.d (.v (.int .i64 0)), .d (.v (.int .i64 0)), .d (.v (.int .i64 0)), .d (.v (.string (⟨#[]⟩ : ByteArray))), .d (.v (.int .i64 0)), .d (.v (.int .i64 0)), .nil, .d (.v (.int .i64 0)), .nil, .nil, .nil, .d (.v (.bool false)), .nil, .d (.v (.string (⟨#[]⟩ : ByteArray)))])), (160, some (.row 1 9 (r1.f4.f2.map dS) false true)), (161, some (.row 1 9 (r1.f5.f1.map dS) false true)), (162, some (.row 1 3 (r1.f5.f2.map dI) false true)), (163, some (.row 5 26 (r1.f6.map d26) false true)), (164, some (.row 2 107 (r1.f8.map d107) false true)), (176, some (.box [.d (.v (.int .i64 r1.f0)), .d (.v (.int .i64 r1.f1)), .d (.v (.int .i64 r1.f2)), .d (.v (.string r1.f3)), .d (.v (.int .i64 r1.f4.f0)), .d (.v (.int .i64 r1.f4.f1)), .ref 160, .d (.v (.int .i64 r1.f5.f0)), .ref 161, .ref 162, .ref 163, .d (.v (.bool r1.f7)), .ref 164, .d (.v (.string r1.f9))]))], 432⟩ (by kernel_rfl) (by kernel_rfl) rfl ?_
    refine X.if_ (b := !((strOf (encB r1)).toList == (strOf l).toList)) (by kernel_rfl) (fun hb21 => ?_) (fun hb21 => ?_)
    ·replace hb21 := beq_no (bnot_yes (hb21))
     refine X.seq ?_
     refine X.rk ⟨[(2, .pt 64 0 0), (3, bV false)], [(64, some (.box [.d (.v (.int .i64 0)), .d (.v (.int .i64 0)), .d (.v (.int .i64 0)), .d (.v (.string (⟨#[]⟩ : ByteArray))), .d (.v (.int .i64 0)), .d (.v (.int .i64 0)), .nil, .d (.v (.int .i64 0)), .nil, .nil, .nil, .d (.v (.bool false)), .nil, .d (.v (.string (⟨#[]⟩ : ByteArray)))]))], 480⟩ hτ hmix (by kernel_rfl) (by kernel_rfl) rfl ?_
     refine X.ret ?_
     exact ⟨trivial, _, _, ⟨(⟨0, 0, 0, (⟨#[]⟩ : ByteArray), (⟨0, 0, []⟩ : S43), (⟨0, [], []⟩ : S46), [], false, [], (⟨#[]⟩ : ByteArray)⟩ : S49), false, (by first | exact ⟨z_sm, gb_bad hu hgf (.inl ‹_›), fun _ => rfl⟩ | exact ⟨z_sm, gb_bad hu hgf (.inr (.inl ‹_›)), fun _ => rfl⟩ | exact ⟨z_sm, gb_bad hu hgf (.inr (.inr ‹_›)), fun _ => rfl⟩ | exact ⟨hgs, gb_yes hu hgf ‹_› ‹_›, fun h => by cases h⟩), rfl, rfl⟩, .inr ⟨_, (Wk.ownB 64 [.d (.v (.int .i64 0)), .d (.v (.int .i64 0)), .d (.v (.int .i64 0)), .d (.v (.string (⟨#[]⟩ : ByteArray))), .d (.v (.int .i64 0)), .d (.v (.int .i64 0)), .nil, .d (.v (.int .i64 0)), .nil, .nil, .nil, .d (.v (.bool false)), .nil, .d (.v (.string (⟨#[]⟩ : ByteArray)))] 6 1 9 (by kernel_rfl) rfl (by kernel_rfl) (by kernel_rfl)).trans ((Wk.ownB 64 [.d (.v (.int .i64 0)), .d (.v (.int .i64 0)), .d (.v (.int .i64 0)), .d (.v (.string (⟨#[]⟩ : ByteArray))), .d (.v (.int .i64 0)), .d (.v (.int .i64 0)), .ref 480, .d (.v (.int .i64 0)), .nil, .nil, .nil, .d (.v (.bool false)), .nil, .d (.v (.string (⟨#[]⟩ : ByteArray)))] 8 1 9 (by kernel_rfl) rfl (by kernel_rfl) (by kernel_rfl)).trans ((Wk.ownB 64 [.d (.v (.int .i64 0)), .d (.v (.int .i64 0)), .d (.v (.int .i64 0)), .d (.v (.string (⟨#[]⟩ : ByteArray))), .d (.v (.int .i64 0)), .d (.v (.int .i64 0)), .ref 480, .d (.v (.int .i64 0)), .ref 496, .nil, .nil, .d (.v (.bool false)), .nil, .d (.v (.string (⟨#[]⟩ : ByteArray)))] 9 1 3 (by kernel_rfl) rfl (by kernel_rfl) (by kernel_rfl)).trans ((Wk.ownB 64 [.d (.v (.int .i64 0)), .d (.v (.int .i64 0)), .d (.v (.int .i64 0)), .d (.v (.string (⟨#[]⟩ : ByteArray))), .d (.v (.int .i64 0)), .d (.v (.int .i64 0)), .ref 480, .d (.v (.int .i64 0)), .ref 496, .ref 512, .nil, .d (.v (.bool false)), .nil, .d (.v (.string (⟨#[]⟩ : ByteArray)))] 10 5 26 (by kernel_rfl) rfl (by kernel_rfl) (by kernel_rfl)).trans (Wk.ownB 64 [.d (.v (.int .i64 0)), .d (.v (.int .i64 0)), .d (.v (.int .i64 0)), .d (.v (.string (⟨#[]⟩ : ByteArray))), .d (.v (.int .i64 0)), .d (.v (.int .i64 0)), .ref 480, .d (.v (.int .i64 0)), .ref 496, .ref 512, .ref 528, .d (.v (.bool false)), .nil, .d (.v (.string (⟨#[]⟩ : ByteArray)))] 12 2 107 (by kernel_rfl) rfl (by kernel_rfl) (by kernel_rfl))))), Ret.mk' [(64, 480), (65, 496), (66, 512), (67, 528), (68, 544)] (by kernel_rfl) (by kernel_rfl) (by kernel_rfl)⟩⟩
    ·replace hb21 := beq_yes (bnot_no (hb21))
     refine X.skip ?_
     refine X.seq ?_
     refine X.rk ⟨[(2, .pt 64 0 0), (3, bV true)], [(64, some (.box [.d (.v (.int .i64 r1.f0)), .d (.v (.int .i64 r1.f1)), .d (.v (.int .i64 r1.f2)), .d (.v (.string r1.f3)), .d (.v (.int .i64 r1.f4.f0)), .d (.v (.int .i64 r1.f4.f1)), .ref 160, .d (.v (.int .i64 r1.f5.f0)), .ref 161, .ref 162, .ref 163, .d (.v (.bool r1.f7)), .ref 164, .d (.v (.string r1.f9))])), (160, some (.row 1 9 (r1.f4.f2.map dS) false true)), (161, some (.row 1 9 (r1.f5.f1.map dS) false true)), (162, some (.row 1 3 (r1.f5.f2.map dI) false true)), (163, some (.row 5 26 (r1.f6.map d26) false true)), (164, some (.row 2 107 (r1.f8.map d107) false true))], 480⟩ hτ hmix (by kernel_rfl) (by kernel_rfl) rfl ?_
     refine X.ret ?_
     exact ⟨trivial, _, _, ⟨r1, true, (by first | exact ⟨z_sm, gb_bad hu hgf (.inl ‹_›), fun _ => rfl⟩ | exact ⟨z_sm, gb_bad hu hgf (.inr (.inl ‹_›)), fun _ => rfl⟩ | exact ⟨z_sm, gb_bad hu hgf (.inr (.inr ‹_›)), fun _ => rfl⟩ | exact ⟨hgs, gb_yes hu hgf ‹_› ‹_›, fun h => by cases h⟩), rfl, rfl⟩, .inl (Ret.mk' [(64, 160), (65, 161), (66, 162), (67, 163), (68, 164)] (by kernel_rfl) (by kernel_rfl) (by kernel_rfl))⟩
 obtain ⟨_, _, ⟨r0, r1, h1_, rfl, rfl⟩, hf⟩ := key
 exact ⟨r0, r1, h1_, hf⟩

theorem l_toByteS (l : List Int) (hl : l.length ≤ 2000000) : ∃ r0 : List Int, (r0 = l) ∧ Fn Try.prog 42 [lV (l.map dB)] (lookH []) (rV 64) (lookH [(64, some (.row 1 5 (r0.map dB) false true))]) := by
 have key : ∃ x' h', ((fun x' h' => ∃ r0 : List Int, (r0 = l) ∧ x' = rV 64 ∧ h' = [(64, some (.row 1 5 (r0.map dB) false true))])) x' h' ∧ Fn Try.prog 42 [lV (l.map dB)] (lookH []) x' (lookH h') := by
  refine Fn.bodyX (N := 22) hτ Try.func42 rfl rfl rfl rfl ?_
  refine X.seq ?_
  refine X.rk ⟨[(0, lV (l.map dB))], [], 80⟩ hτ hmix (by kernel_rfl) (by kernel_rfl) rfl ?_
  refine X.seq ?_
  have el1 : (l.map dB).length = l.length := List.length_map ..
  refine X.rs 2 hτ hmix (by kernel_rfl) ?_
  refine CH.mks hτ (n := (l.map dB).length) (bys := 1) (by kernel_rfl) (by kernel_rfl) (by first | omega | (simp only [List.length_map]; omega) | (simp; omega)) (by first | omega | (simp only [List.length_map]; omega) | (simp; omega)) (by kernel_rfl) ?_
  refine CH.go 1 hτ (by kernel_rfl) ?_
  refine CH.endk ⟨[(0, lV (l.map dB)), (3, rV 112)], [(112, some (.row 1 5 (List.replicate ((l.map dB).length) (dB 0)) false true))], 144⟩ (by kernel_rfl) (by kernel_rfl) (s2 := ⟨[(0, lV (l.map dB)), (3, rV 112)], [(112, some (.row 1 5 ((List.replicate ((l.map dB).length) 0).map dB) false true))], 144⟩) (congrArg (fun z : List (List D) => (⟨[(0, lV (l.map dB)), (3, rV 112)], [(112, some (.row 1 5 z false true))], 144⟩ : St)) (show List.replicate ((l.map dB).length) (dB 0) = ((List.replicate ((l.map dB).length) 0).map dB) from List.map_replicate.symm)) ?_
  refine X.seq ?_
  refine X.seq ?_
  refine X.rk ⟨[(0, lV (l.map dB)), (3, rV 112), (4, iV 0)], [(112, some (.row 1 5 ((List.replicate ((l.map dB).length) 0).map dB) false true))], 160⟩ hτ hmix (by kernel_rfl) (by kernel_rfl) rfl ?_
  refine X.block ?_
  -- 3: Lv3 : List Int, v4 : Int
  refine X.loop (σ := { g : (List Int) × Int // (fun (Lv3 : List Int) (v4 : Int) => 0 ≤ v4 ∧ v4 ≤ l.length ∧ Lv3.length = l.length ∧ ∀ (j : Nat) (x : Int), (j : Int) < v4 → l[j]? = some x → Lv3[j]? = some (id x)) g.1 g.2 }) (fun g => (fun (Lv3 : List Int) (v4 : Int) => ⟨[(0, lV (l.map dB)), (3, rV 112), (4, iV v4)], [(112, some (.row 1 5 (Lv3.map dB) false true))], 160⟩) g.1.1 g.1.2) (fun g => (fun (Lv3 : List Int) (v4 : Int) => (l.length - v4).toNat) g.1.1 g.1.2) ⟨((List.replicate ((l.map dB).length) 0), 0), ⟨by first | omega | (dsimp only; omega), by first | omega | (dsimp only; omega), by simp, fun j x h => by first | omega | (dsimp only; omega)⟩⟩ (Wk.less (by kernel_rfl)) (fun g => ?_)
  obtain ⟨⟨Lv3, v4⟩, hg3⟩ := g
  have hg3 : 0 ≤ v4 ∧ v4 ≤ l.length ∧ Lv3.length = l.length ∧ ∀ (j : Nat) (x : Int), (j : Int) < v4 → l[j]? = some x → Lv3[j]? = some (id x) := hg3
  obtain ⟨_, _, hL, hA⟩ := hg3
  refine X.seq ?_
  refine X.seq ?_
  refine X.rk ⟨[(0, lV (l.map dB)), (3, rV 112), (4, iV v4), (11, bV (decide ((v4 : Int) < ((l.map dB).length : Int))))], [(112, some (.row 1 5 (Lv3.map dB) false true))], 224⟩ hτ hmix (by kernel_rfl) (by kernel_rfl) rfl ?_
  refine X.if_ (b := decide ((v4 : Int) < ((l.map dB).length : Int))) (by kernel_rfl) (fun hb4 => ?_) (fun hb4 => ?_)
  ·replace hb4 := of_decide_eq_true (hb4)
   refine X.skip ?_
   refine X.seq ?_
   refine X.block ?_
   refine X.rs 4 hτ hmix (by kernel_rfl) ?_
   obtain ⟨x5, hx5⟩ : ∃ x, l[Int.toNat v4]? = some x := ⟨_, List.getElem?_eq_getElem (by first | omega | (simp; done) | (simp; omega))⟩
   refine CH.idx hτ (dB x5) (rows := (l.map dB)) (n := v4) (sz := 1) (by kernel_rfl) (by kernel_rfl) (by first | omega | (simp; done) | (simp; omega)) (by rw [List.getElem?_map, hx5]; rfl) (by kernel_rfl) ?_
   refine CH.go 1 hτ (by kernel_rfl) ?_
   refine CH.idxR hτ (rows := (Lv3.map dB)) (n := v4) (b := 112) (by kernel_rfl) (by kernel_rfl) (by first | omega | (simp; done) | (simp; omega)) (by simp only [List.length_map, List.length_set]; first | omega | (simp; done) | (simp; omega)) (by kernel_rfl) ?_
   obtain ⟨x6, hx6⟩ : ∃ x, Lv3[Int.toNat v4]? = some x := ⟨_, List.getElem?_eq_getElem (by first | omega | (simp; done) | (simp; omega))⟩
   refine CH.row hτ (dB x6) (by kernel_rfl) (by kernel_rfl) (by rw [List.getElem?_map, hx6]; rfl) (by kernel_rfl) ?_
   refine CH.endk ⟨[(0, lV (l.map dB)), (3, rV 112), (4, iV v4)], [(112, some (.row 1 5 ((Lv3.map dB).set (Int.toNat v4) (dB x5)) false true))], 352⟩ (by kernel_rfl) (by kernel_rfl) (s2 := ⟨[(0, lV (l.map dB)), (3, rV 112), (4, iV v4)], [(112, some (.row 1 5 ((Lv3.set (Int.toNat v4) x5).map dB) false true))], 352⟩) (congrArg (fun z : List (List D) => (⟨[(0, lV (l.map dB)), (3, rV 112), (4, iV v4)], [(112, some (.row 1 5 z false true))], 352⟩ : St)) (show ((Lv3.map dB).set (Int.toNat v4) (dB x5)) = ((Lv3.set (Int.toNat v4) x5).map dB) from List.map_set.symm)) ?_
   refine X.rk ⟨[(0, lV (l.map dB)), (3, rV 112), (4, iV (wrap64 (v4 + 1)))], [(112, some (.row 1 5 ((Lv3.set (Int.toNat v4) x5).map dB) false true))], 400⟩ hτ hmix (by kernel_rfl) (by kernel_rfl) (s2 := ⟨[(0, lV (l.map dB)), (3, rV 112), (4, iV (v4 + 1))], [(112, some (.row 1 5 ((Lv3.set (Int.toNat v4) x5).map dB) false true))], 400⟩) (congrArg (fun z : Int => (⟨[(0, lV (l.map dB)), (3, rV 112), (4, iV z)], [(112, some (.row 1 5 ((Lv3.set (Int.toNat v4) x5).map dB) false true))], 400⟩ : St)) (show wrap64 (v4 + 1) = (v4 + 1) by rw [w64 (n := (v4 + 1)) (by omega) (by omega)])) ?_
   refine ⟨⟨((Lv3.set (Int.toNat v4) x5), (v4 + 1)), ⟨by first | omega | (dsimp only; omega), by first | omega | (dsimp only; omega), by simp; omega, ts_next (f := id) hA (by first | omega | (dsimp only; omega)) (by first | omega | (dsimp only; omega)) ‹_›⟩⟩, by first | exact rfl | omega | (dsimp only; omega) | (simp only [List.length_append, List.length_cons, List.length_nil, List.length_set]; omega) | (simp; done) | (simp; omega), Wk.mk' [(112, 112)] (by kernel_rfl) (by kernel_rfl) (by kernel_rfl)⟩
  ·replace hb4 := of_decide_eq_false (hb4)
   refine X.exit ?_
   refine X.seq ?_
   refine X.rk ⟨[(2, rV 112)], [(112, some (.row 1 5 (Lv3.map dB) false true))], 256⟩ hτ hmix (by kernel_rfl) (by kernel_rfl) rfl ?_
   refine X.ret ?_
   exact ⟨trivial, _, _, ⟨Lv3, map_id' (fun j x h hx => hA j x (by omega) hx) hL, rfl, rfl⟩, .inl (Ret.mk' [(64, 112)] (by kernel_rfl) (by kernel_rfl) (by kernel_rfl))⟩
 obtain ⟨_, _, ⟨r0, h1_, rfl, rfl⟩, hf⟩ := key
 exact ⟨r0, h1_, hf⟩

theorem l_eqByteS (l : List Int) (m : List Int) (hl : l.length ≤ 2000000) (hm : m.length ≤ 2000000) : ∃ r0 : Bool, (r0 = allEq l m) ∧ Fn Try.prog 44 [lV (l.map dB), lV (m.map dB)] (lookH []) (bV r0) (lookH []) := by
 have key : ∃ x' h', ((fun x' h' => ∃ r0 : Bool, (r0 = allEq l m) ∧ x' = bV r0 ∧ h' = [])) x' h' ∧ Fn Try.prog 44 [lV (l.map dB), lV (m.map dB)] (lookH []) x' (lookH h') := by
  refine Fn.bodyX (N := 26) hτ Try.func44 rfl rfl rfl rfl ?_
  refine X.seq ?_
  refine X.rk ⟨[(0, lV (l.map dB)), (1, lV (m.map dB))], [], 80⟩ hτ hmix (by kernel_rfl) (by kernel_rfl) rfl ?_
  refine X.seq ?_
  refine X.seq ?_
  have el1 : (l.map dB).length = l.length := List.length_map ..
  have el2 : (m.map dB).length = m.length := List.length_map ..
  refine X.rk ⟨[(0, lV (l.map dB)), (1, lV (m.map dB)), (10, bV (((l.map dB).length : Int) != ((m.map dB).length : Int)))], [], 160⟩ hτ hmix (by kernel_rfl) (by kernel_rfl) rfl ?_
  refine X.if_ (b := (((l.map dB).length : Int) != ((m.map dB).length : Int))) (by kernel_rfl) (fun hb3 => ?_) (fun hb3 => ?_)
  ·replace hb3 := bne_iff_ne.1 (hb3)
   refine X.seq ?_
   refine X.rk ⟨[(4, bV false)], [], 176⟩ hτ hmix (by kernel_rfl) (by kernel_rfl) rfl ?_
   refine X.ret ?_
   exact ⟨trivial, _, _, ⟨false, (by first | exact fls (fun h => by have := congrArg List.length h; omega) | exact fls (eq_no ‹_› ‹_› ‹_›) | exact tru (eq_all hA (by omega) (by omega))), rfl, rfl⟩, .inl (Ret.mk' [] (by kernel_rfl) (by kernel_rfl) (by kernel_rfl))⟩
  ·replace hb3 := bne_eq_false_iff_eq.1 (hb3)
   refine X.skip ?_
   refine X.seq ?_
   refine X.seq ?_
   refine X.rk ⟨[(0, lV (l.map dB)), (1, lV (m.map dB)), (5, iV 0)], [], 176⟩ hτ hmix (by kernel_rfl) (by kernel_rfl) rfl ?_
   refine X.block ?_
   -- 4: v5 : Int
   refine X.loop (σ := { g : Int // (fun (v5 : Int) => 0 ≤ v5 ∧ v5 ≤ l.length ∧ Upto (fun j x => m[j.toNat]? = some x) (fun n => l[n]?) v5) g }) (fun g => (fun (v5 : Int) => ⟨[(0, lV (l.map dB)), (1, lV (m.map dB)), (5, iV v5)], [], 176⟩) g.1) (fun g => (fun (v5 : Int) => (l.length - v5).toNat) g.1) ⟨0, ⟨by first | omega | (dsimp only; omega), by first | omega | (dsimp only; omega), upto_zero⟩⟩ (Wk.less (by kernel_rfl)) (fun g => ?_)
   obtain ⟨v5, hg5⟩ := g
   have hg5 : 0 ≤ v5 ∧ v5 ≤ l.length ∧ Upto (fun j x => m[j.toNat]? = some x) (fun n => l[n]?) v5 := hg5
   obtain ⟨_, _, hA⟩ := hg5
   refine X.seq ?_
   refine X.seq ?_
   refine X.rk ⟨[(0, lV (l.map dB)), (1, lV (m.map dB)), (5, iV v5), (14, bV (decide ((v5 : Int) < ((l.map dB).length : Int))))], [], 240⟩ hτ hmix (by kernel_rfl) (by kernel_rfl) rfl ?_
   refine X.if_ (b := decide ((v5 : Int) < ((l.map dB).length : Int))) (by kernel_rfl) (fun hb6 => ?_) (fun hb6 => ?_)
   ·replace hb6 := of_decide_eq_true (hb6)
    refine X.skip ?_
    refine X.seq ?_
    refine X.block ?_
    refine X.seq ?_
    refine X.rs 2 hτ hmix (by kernel_rfl) ?_
    obtain ⟨x7, hx7⟩ : ∃ x, l[Int.toNat v5]? = some x := ⟨_, List.getElem?_eq_getElem (by first | omega | (simp; done) | (simp; omega))⟩
    refine CH.idx hτ (dB x7) (rows := (l.map dB)) (n := v5) (sz := 1) (by kernel_rfl) (by kernel_rfl) (by first | omega | (simp; done) | (simp; omega)) (by rw [List.getElem?_map, hx7]; rfl) (by kernel_rfl) ?_
    refine CH.go 3 hτ (by kernel_rfl) ?_
    obtain ⟨x8, hx8⟩ : ∃ x, m[Int.toNat v5]? = some x := ⟨_, List.getElem?_eq_getElem (by first | omega | (simp; done) | (simp; omega))⟩
    refine CH.idx hτ (dB x8) (rows := (m.map dB)) (n := v5) (sz := 1) (by kernel_rfl) (by kernel_rfl) (by first | omega | (simp; done) | (simp; omega)) (by rw [List.getElem?_map, hx8]; rfl) (by kernel_rfl) ?_
    refine CH.go 2 hτ (by kernel_rfl) ?_
    refine CH.endk ⟨[(0, lV (l.map dB)), (1, lV (m.map dB)), (5, iV v5), (25, bV (x7 != x8))], [], 384⟩ (by kernel_rfl) (by kernel_rfl) rfl ?_
    refine X.if_ (b := (x7 != x8)) (by kernel_rfl) (fun hb9 => ?_) (fun hb9 => ?_)
    ·replace hb9 := bne_iff_ne.1 (hb9)
     refine X.seq ?_
     refine X.rk ⟨[(4, bV false)], [], 400⟩ hτ hmix (by kernel_rfl) (by kernel_rfl) rfl ?_
     refine X.ret ?_
     exact ⟨trivial, _, _, ⟨false, (by first | exact fls (fun h => by have := congrArg List.length h; omega) | exact fls (eq_no ‹_› ‹_› ‹_›) | exact tru (eq_all hA (by omega) (by omega))), rfl, rfl⟩, .inl (Ret.mk' [] (by kernel_rfl) (by kernel_rfl) (by kernel_rfl))⟩
    ·replace hb9 := bne_eq_false_iff_eq.1 (hb9)
     refine X.skip ?_
     refine X.rk ⟨[(0, lV (l.map dB)), (1, lV (m.map dB)), (5, iV (wrap64 (v5 + 1)))], [], 432⟩ hτ hmix (by kernel_rfl) (by kernel_rfl) (s2 := ⟨[(0, lV (l.map dB)), (1, lV (m.map dB)), (5, iV (v5 + 1))], [], 432⟩) (congrArg (fun z : Int => (⟨[(0, lV (l.map dB)), (1, lV (m.map dB)), (5, iV z)], [], 432⟩ : St)) (show wrap64 (v5 + 1) = (v5 + 1) by rw [w64 (n := (v5 + 1)) (by omega) (by omega)])) ?_
     refine ⟨⟨(v5 + 1), ⟨by first | omega | (dsimp only; omega), by first | omega | (dsimp only; omega), upto_nx (by first | omega | (dsimp only; omega)) hA ‹_› (eq_stp ‹_› ‹_›)⟩⟩, by first | exact rfl | omega | (dsimp only; omega) | (simp only [List.length_append, List.length_cons, List.length_nil, List.length_set]; omega) | (simp; done) | (simp; omega), Wk.mk' [] (by kernel_rfl) (by kernel_rfl) (by kernel_rfl)⟩
   ·replace hb6 := of_decide_eq_false (hb6)
    refine X.exit ?_
    refine X.seq ?_
    refine X.rk ⟨[(4, bV true)], [], 256⟩ hτ hmix (by kernel_rfl) (by kernel_rfl) rfl ?_
    refine X.ret ?_
    exact ⟨trivial, _, _, ⟨true, (by first | exact fls (fun h => by have := congrArg List.length h; omega) | exact fls (eq_no ‹_› ‹_› ‹_›) | exact tru (eq_all hA (by omega) (by omega))), rfl, rfl⟩, .inl (Ret.mk' [] (by kernel_rfl) (by kernel_rfl) (by kernel_rfl))⟩
 obtain ⟨_, _, ⟨r0, h1_, rfl, rfl⟩, hf⟩ := key
 exact ⟨r0, h1_, hf⟩

theorem l_eqStringS (l : List ByteArray) (m : List ByteArray) (hl : l.length ≤ 2000000) (hm : m.length ≤ 2000000) : ∃ r0 : Bool, (r0 = allEq l m) ∧ Fn Try.prog 167 [lV (l.map dS), lV (m.map dS)] (lookH []) (bV r0) (lookH []) := by
 have key : ∃ x' h', ((fun x' h' => ∃ r0 : Bool, (r0 = allEq l m) ∧ x' = bV r0 ∧ h' = [])) x' h' ∧ Fn Try.prog 167 [lV (l.map dS), lV (m.map dS)] (lookH []) x' (lookH h') := by
  refine Fn.bodyX (N := 26) hτ Try.func167 rfl rfl rfl rfl ?_
  refine X.seq ?_
  refine X.rk ⟨[(0, lV (l.map dS)), (1, lV (m.map dS))], [], 80⟩ hτ hmix (by kernel_rfl) (by kernel_rfl) rfl ?_
  refine X.seq ?_
  refine X.seq ?_
  have el1 : (l.map dS).length = l.length := List.length_map ..
  have el2 : (m.map dS).length = m.length := List.length_map ..
  refine X.rk ⟨[(0, lV (l.map dS)), (1, lV (m.map dS)), (10, bV (((l.map dS).length : Int) != ((m.map dS).length : Int)))], [], 160⟩ hτ hmix (by kernel_rfl) (by kernel_rfl) rfl ?_
  refine X.if_ (b := (((l.map dS).length : Int) != ((m.map dS).length : Int))) (by kernel_rfl) (fun hb3 => ?_) (fun hb3 => ?_)
  ·replace hb3 := bne_iff_ne.1 (hb3)
   refine X.seq ?_
   refine X.rk ⟨[(4, bV false)], [], 176⟩ hτ hmix (by kernel_rfl) (by kernel_rfl) rfl ?_
   refine X.ret ?_
   exact ⟨trivial, _, _, ⟨false, (by first | exact fls (fun h => by have := congrArg List.length h; omega) | exact fls (eq_noS ‹_› ‹_› ‹_›) | exact tru (eq_all hA (by omega) (by omega))), rfl, rfl⟩, .inl (Ret.mk' [] (by kernel_rfl) (by kernel_rfl) (by kernel_rfl))⟩
  ·replace hb3 := bne_eq_false_iff_eq.1 (hb3)
   refine X.skip ?_
   refine X.seq ?_
   refine X.seq ?_
   refine X.rk ⟨[(0, lV (l.map dS)), (1, lV (m.map dS)), (5, iV 0)], [], 176⟩ hτ hmix (by kernel_rfl) (by kernel_rfl) rfl ?_
   refine X.block ?_
   -- 4: v5 : Int
   refine X.loop (σ := { g : Int // (fun (v5 : Int) => 0 ≤ v5 ∧ v5 ≤ l.length ∧ Upto (fun j x => m[j.toNat]? = some x) (fun n => l[n]?) v5) g }) (fun g => (fun (v5 : Int) => ⟨[(0, lV (l.map dS)), (1, lV (m.map dS)), (5, iV v5)], [], 176⟩) g.1) (fun g => (fun (v5 : Int) => (l.length - v5).toNat) g.1) ⟨0, ⟨by first | omega | (dsimp only; omega), by first | omega | (dsimp only; omega), upto_zero⟩⟩ (Wk.less (by kernel_rfl)) (fun g => ?_)
   obtain ⟨v5, hg5⟩ := g
   have hg5 : 0 ≤ v5 ∧ v5 ≤ l.length ∧ Upto (fun j x => m[j.toNat]? = some x) (fun n => l[n]?) v5 := hg5
   obtain ⟨_, _, hA⟩ := hg5
   refine X.seq ?_
   refine X.seq ?_
   refine X.rk ⟨[(0, lV (l.map dS)), (1, lV (m.map dS)), (5, iV v5), (14, bV (decide ((v5 : Int) < ((l.map dS).length : Int))))], [], 240⟩ hτ hmix (by kernel_rfl) (by kernel_rfl) rfl ?_
   refine X.if_ (b := decide ((v5 : Int) < ((l.map dS).length : Int))) (by kernel_rfl) (fun hb6 => ?_) (fun hb6 => ?_)
   ·replace hb6 := of_decide_eq_true (hb6)
    refine X.skip ?_
    refine X.seq ?_
    refine X.block ?_
    refine X.seq ?_
    refine X.rs 2 hτ hmix (by kernel_rfl) ?_
    obtain ⟨x7, hx7⟩ : ∃ x, l[Int.toNat v5]? = some x := ⟨_, List.getElem?_eq_getElem (by first | omega | (simp; done) | (simp; omega))⟩
    refine CH.idx hτ (dS x7) (rows := (l.map dS)) (n := v5) (sz := 1) (by kernel_rfl) (by kernel_rfl) (by first | omega | (simp; done) | (simp; omega)) (by rw [List.getElem?_map, hx7]; rfl) (by kernel_rfl) ?_
    refine CH.go 3 hτ (by kernel_rfl) ?_
    obtain ⟨x8, hx8⟩ : ∃ x, m[Int.toNat v5]? = some x := ⟨_, List.getElem?_eq_getElem (by first | omega | (simp; done) | (simp; omega))⟩
    refine CH.idx hτ (dS x8) (rows := (m.map dS)) (n := v5) (sz := 1) (by kernel_rfl) (by kernel_rfl) (by first | omega | (simp; done) | (simp; omega)) (by rw [List.getElem?_map, hx8]; rfl) (by kernel_rfl) ?_
    refine CH.go 2 hτ (by kernel_rfl) ?_
    refine CH.endk ⟨[(0, lV (l.map dS)), (1, lV (m.map dS)), (5, iV v5), (25, bV (!(x7.toList == x8.toList)))], [], 384⟩ (by kernel_rfl) (by kernel_rfl) rfl ?_
    refine X.if_ (b := !(x7.toList == x8.toList)) (by kernel_rfl) (fun hb9 => ?_) (fun hb9 => ?_)
    ·replace hb9 := beq_no (bnot_yes (hb9))
     refine X.seq ?_
     refine X.rk ⟨[(4, bV false)], [], 400⟩ hτ hmix (by kernel_rfl) (by kernel_rfl) rfl ?_
     refine X.ret ?_
     exact ⟨trivial, _, _, ⟨false, (by first | exact fls (fun h => by have := congrArg List.length h; omega) | exact fls (eq_noS ‹_› ‹_› ‹_›) | exact tru (eq_all hA (by omega) (by omega))), rfl, rfl⟩, .inl (Ret.mk' [] (by kernel_rfl) (by kernel_rfl) (by kernel_rfl))⟩
    ·replace hb9 := beq_yes (bnot_no (hb9))
     refine X.skip ?_
     refine X.rk ⟨[(0, lV (l.map dS)), (1, lV (m.map dS)), (5, iV (wrap64 (v5 + 1)))], [], 432⟩ hτ hmix (by kernel_rfl) (by kernel_rfl) (s2 := ⟨[(0, lV (l.map dS)), (1, lV (m.map dS)), (5, iV (v5 + 1))], [], 432⟩) (congrArg (fun z : Int => (⟨[(0, lV (l.map dS)), (1, lV (m.map dS)), (5, iV z)], [], 432⟩ : St)) (show wrap64 (v5 + 1) = (v5 + 1) by rw [w64 (n := (v5 + 1)) (by omega) (by omega)])) ?_
     refine ⟨⟨(v5 + 1), ⟨by first | omega | (dsimp only; omega), by first | omega | (dsimp only; omega), upto_nx (by first | omega | (dsimp only; omega)) hA ‹_› (eq_stp ‹_› (tl_inj.1 ‹_›))⟩⟩, by first | exact rfl | omega | (dsimp only; omega) | (simp only [List.length_append, List.length_cons, List.length_nil, List.length_set]; omega) | (simp; done) | (simp; omega), Wk.mk' [] (by kernel_rfl) (by kernel_rfl) (by kernel_rfl)⟩
   ·replace hb6 := of_decide_eq_false (hb6)
    refine X.exit ?_
    refine X.seq ?_
    refine X.rk ⟨[(4, bV true)], [], 256⟩ hτ hmix (by kernel_rfl) (by kernel_rfl) rfl ?_
    refine X.ret ?_
    exact ⟨trivial, _, _, ⟨true, (by first | exact fls (fun h => by have := congrArg List.length h; omega) | exact fls (eq_noS ‹_› ‹_› ‹_›) | exact tru (eq_all hA (by omega) (by omega))), rfl, rfl⟩, .inl (Ret.mk' [] (by kernel_rfl) (by kernel_rfl) (by kernel_rfl))⟩
 obtain ⟨_, _, ⟨r0, h1_, rfl, rfl⟩, hf⟩ := key
 exact ⟨r0, h1_, hf⟩

theorem l_eqIntS (l : List Int) (m : List Int) (hl : l.length ≤ 2000000) (hm : m.length ≤ 2000000) : ∃ r0 : Bool, (r0 = allEq l m) ∧ Fn Try.prog 168 [lV (l.map dI), lV (m.map dI)] (lookH []) (bV r0) (lookH []) := by
 have key : ∃ x' h', ((fun x' h' => ∃ r0 : Bool, (r0 = allEq l m) ∧ x' = bV r0 ∧ h' = [])) x' h' ∧ Fn Try.prog 168 [lV (l.map dI), lV (m.map dI)] (lookH []) x' (lookH h') := by
  refine Fn.bodyX (N := 26) hτ Try.func168 rfl rfl rfl rfl ?_
  refine X.seq ?_
  refine X.rk ⟨[(0, lV (l.map dI)), (1, lV (m.map dI))], [], 80⟩ hτ hmix (by kernel_rfl) (by kernel_rfl) rfl ?_
  refine X.seq ?_
  refine X.seq ?_
  have el1 : (l.map dI).length = l.length := List.length_map ..
  have el2 : (m.map dI).length = m.length := List.length_map ..
  refine X.rk ⟨[(0, lV (l.map dI)), (1, lV (m.map dI)), (10, bV (((l.map dI).length : Int) != ((m.map dI).length : Int)))], [], 160⟩ hτ hmix (by kernel_rfl) (by kernel_rfl) rfl ?_
  refine X.if_ (b := (((l.map dI).length : Int) != ((m.map dI).length : Int))) (by kernel_rfl) (fun hb3 => ?_) (fun hb3 => ?_)
  ·replace hb3 := bne_iff_ne.1 (hb3)
   refine X.seq ?_
   refine X.rk ⟨[(4, bV false)], [], 176⟩ hτ hmix (by kernel_rfl) (by kernel_rfl) rfl ?_
   refine X.ret ?_
   exact ⟨trivial, _, _, ⟨false, (by first | exact fls (fun h => by have := congrArg List.length h; omega) | exact fls (eq_no ‹_› ‹_› ‹_›) | exact tru (eq_all hA (by omega) (by omega))), rfl, rfl⟩, .inl (Ret.mk' [] (by kernel_rfl) (by kernel_rfl) (by kernel_rfl))⟩
  ·replace hb3 := bne_eq_false_iff_eq.1 (hb3)
   refine X.skip ?_
   refine X.seq ?_
   refine X.seq ?_
   refine X.rk ⟨[(0, lV (l.map dI)), (1, lV (m.map dI)), (5, iV 0)], [], 176⟩ hτ hmix (by kernel_rfl) (by kernel_rfl) rfl ?_
   refine X.block ?_
   -- 4: v5 : Int
   refine X.loop (σ := { g : Int // (fun (v5 : Int) => 0 ≤ v5 ∧ v5 ≤ l.length ∧ Upto (fun j x => m[j.toNat]? = some x) (fun n => l[n]?) v5) g }) (fun g => (fun (v5 : Int) => ⟨[(0, lV (l.map dI)), (1, lV (m.map dI)), (5, iV v5)], [], 176⟩) g.1) (fun g => (fun (v5 : Int) => (l.length - v5).toNat) g.1) ⟨0, ⟨by first | omega | (dsimp only; omega), by first | omega | (dsimp only; omega), upto_zero⟩⟩ (Wk.less (by kernel_rfl)) (fun g => ?_)
   obtain ⟨v5, hg5⟩ := g
   have hg5 : 0 ≤ v5 ∧ v5 ≤ l.length ∧ Upto (fun j x => m[j.toNat]? = some x) (fun n => l[n]?) v5 := hg5
   obtain ⟨_, _, hA⟩ := hg5
   refine X.seq ?_
   refine X.seq ?_
   refine X.rk ⟨[(0, lV (l.map dI)), (1, lV (m.map dI)), (5, iV v5), (14, bV (decide ((v5 : Int) < ((l.map dI).length : Int))))], [], 240⟩ hτ hmix (by kernel_rfl) (by kernel_rfl) rfl ?_
   refine X.if_ (b := decide ((v5 : Int) < ((l.map dI).length : Int))) (by kernel_rfl) (fun hb6 => ?_) (fun hb6 => ?_)
   ·replace hb6 := of_decide_eq_true (hb6)
    refine X.skip ?_
    refine X.seq ?_
    refine X.block ?_
    refine X.seq ?_
    refine X.rs 2 hτ hmix (by kernel_rfl) ?_
    obtain ⟨x7, hx7⟩ : ∃ x, l[Int.toNat v5]? = some x := ⟨_, List.getElem?_eq_getElem (by first | omega | (simp; done) | (simp; omega))⟩
    refine CH.idx hτ (dI x7) (rows := (l.map dI)) (n := v5) (sz := 1) (by kernel_rfl) (by kernel_rfl) (by first | omega | (simp; done) | (simp; omega)) (by rw [List.getElem?_map, hx7]; rfl) (by kernel_rfl) ?_
    refine CH.go 3 hτ (by kernel_rfl) ?_
    obtain ⟨x8, hx8⟩ : ∃ x, m[Int.toNat v5]? = some x := ⟨_, List.getElem?_eq_getElem (by first | omega | (simp; done) | (simp; omega))⟩
    refine CH.idx hτ (dI x8) (rows := (m.map dI)) (n := v5) (sz := 1) (by kernel_rfl) (by kernel_rfl) (by first | omega | (simp; done) | (simp; omega)) (by rw [List.getElem?_map, hx8]; rfl) (by kernel_rfl) ?_
    refine CH.go 2 hτ (by kernel_rfl) ?_
    refine CH.endk ⟨[(0, lV (l.map dI)), (1, lV (m.map dI)), (5, iV v5), (25, bV (x7 != x8))], [], 384⟩ (by kernel_rfl) (by kernel_rfl) rfl ?_
    refine X.if_ (b := (x7 != x8)) (by kernel_rfl) (fun hb9 => ?_) (fun hb9 => ?_)
    ·replace hb9 := bne_iff_ne.1 (hb9)
     refine X.seq ?_
     refine X.rk ⟨[(4, bV false)], [], 400⟩ hτ hmix (by kernel_rfl) (by kernel_rfl) rfl ?_
     refine X.ret ?_
     exact ⟨trivial, _, _, ⟨false, (by first | exact fls (fun h => by have := congrArg List.length h; omega) | exact fls (eq_no ‹_› ‹_› ‹_›) | exact tru (eq_all hA (by omega) (by omega))), rfl, rfl⟩, .inl (Ret.mk' [] (by kernel_rfl) (by kernel_rfl) (by kernel_rfl))⟩
    ·replace hb9 := bne_eq_false_iff_eq.1 (hb9)
     refine X.skip ?_
     refine X.rk ⟨[(0, lV (l.map dI)), (1, lV (m.map dI)), (5, iV (wrap64 (v5 + 1)))], [], 432⟩ hτ hmix (by kernel_rfl) (by kernel_rfl) (s2 := ⟨[(0, lV (l.map dI)), (1, lV (m.map dI)), (5, iV (v5 + 1))], [], 432⟩) (congrArg (fun z : Int => (⟨[(0, lV (l.map dI)), (1, lV (m.map dI)), (5, iV z)], [], 432⟩ : St)) (show wrap64 (v5 + 1) = (v5 + 1) by rw [w64 (n := (v5 + 1)) (by omega) (by omega)])) ?_
     refine ⟨⟨(v5 + 1), ⟨by first | omega | (dsimp only; omega), by first | omega | (dsimp only; omega), upto_nx (by first | omega | (dsimp only; omega)) hA ‹_› (eq_stp ‹_› ‹_›)⟩⟩, by first | exact rfl | omega | (dsimp only; omega) | (simp only [List.length_append, List.length_cons, List.length_nil, List.length_set]; omega) | (simp; done) | (simp; omega), Wk.mk' [] (by kernel_rfl) (by kernel_rfl) (by kernel_rfl)⟩
   ·replace hb6 := of_decide_eq_false (hb6)
    refine X.exit ?_
    refine X.seq ?_
    refine X.rk ⟨[(4, bV true)], [], 256⟩ hτ hmix (by kernel_rfl) (by kernel_rfl) rfl ?_
    refine X.ret ?_
    exact ⟨trivial, _, _, ⟨true, (by first | exact fls (fun h => by have := congrArg List.length h; omega) | exact fls (eq_no ‹_› ‹_› ‹_›) | exact tru (eq_all hA (by omega) (by omega))), rfl, rfl⟩, .inl (Ret.mk' [] (by kernel_rfl) (by kernel_rfl) (by kernel_rfl))⟩
 obtain ⟨_, _, ⟨r0, h1_, rfl, rfl⟩, hf⟩ := key
 exact ⟨r0, h1_, hf⟩

theorem l_eqVal (a : S107) (b : S107) : ∃ r0 : Bool, (r0 = sm107 a b) ∧ Fn Try.prog 169 [.e (.agg [.d (.v (.string a.f0)), .d (.v (.int .i64 a.f1))]), .e (.agg [.d (.v (.string b.f0)), .d (.v (.int .i64 b.f1))])] (lookH []) (bV r0) (lookH []) := by
 have key : ∃ x' h', ((fun x' h' => ∃ r0 : Bool, (r0 = sm107 a b) ∧ x' = bV r0 ∧ h' = [])) x' h' ∧ Fn Try.prog 169 [.e (.agg [.d (.v (.string a.f0)), .d (.v (.int .i64 a.f1))]), .e (.agg [.d (.v (.string b.f0)), .d (.v (.int .i64 b.f1))])] (lookH []) x' (lookH h') := by
  refine Fn.bodyX (N := 15) hτ Try.func169 rfl rfl rfl rfl ?_
  refine X.seq ?_
  refine X.rk ⟨[(2, .pt 64 0 0), (3, .pt 80 0 0)], [(64, some (.box [.d (.v (.string a.f0)), .d (.v (.int .i64 a.f1))])), (80, some (.box [.d (.v (.string b.f0)), .d (.v (.int .i64 b.f1))]))], 112⟩ hτ hmix (by kernel_rfl) (by kernel_rfl) rfl ?_
  refine X.seq ?_
  refine X.seq ?_
  refine X.rk ⟨[(2, .pt 64 0 0), (3, .pt 80 0 0), (9, bV (!(a.f0.toList == b.f0.toList)))], [(64, some (.box [.d (.v (.string a.f0)), .d (.v (.int .i64 a.f1))])), (80, some (.box [.d (.v (.string b.f0)), .d (.v (.int .i64 b.f1))]))], 192⟩ hτ hmix (by kernel_rfl) (by kernel_rfl) rfl ?_
  refine X.if_ (b := !(a.f0.toList == b.f0.toList)) (by kernel_rfl) (fun hb1 => ?_) (fun hb1 => ?_)
  ·replace hb1 := beq_no (bnot_yes (hb1))
   refine X.seq ?_
   refine X.rk ⟨[(4, bV false)], [], 208⟩ hτ hmix (by kernel_rfl) (by kernel_rfl) rfl ?_
   refine X.ret ?_
   exact ⟨trivial, _, _, ⟨false, (by simp_all [sm107]), rfl, rfl⟩, .inl (Ret.mk' [] (by kernel_rfl) (by kernel_rfl) (by kernel_rfl))⟩
  ·replace hb1 := beq_yes (bnot_no (hb1))
   refine X.skip ?_
   refine X.seq ?_
   refine X.seq ?_
   refine X.rk ⟨[(14, bV (a.f1 != b.f1))], [], 272⟩ hτ hmix (by kernel_rfl) (by kernel_rfl) rfl ?_
   refine X.if_ (b := (a.f1 != b.f1)) (by kernel_rfl) (fun hb2 => ?_) (fun hb2 => ?_)
   ·replace hb2 := bne_iff_ne.1 (hb2)
    refine X.seq ?_
    refine X.rk ⟨[(4, bV false)], [], 288⟩ hτ hmix (by kernel_rfl) (by kernel_rfl) rfl ?_
    refine X.ret ?_
    exact ⟨trivial, _, _, ⟨false, (by simp_all [sm107]), rfl, rfl⟩, .inl (Ret.mk' [] (by kernel_rfl) (by kernel_rfl) (by kernel_rfl))⟩
   ·replace hb2 := bne_eq_false_iff_eq.1 (hb2)
    refine X.skip ?_
    refine X.seq ?_
    refine X.rk ⟨[(4, bV true)], [], 288⟩ hτ hmix (by kernel_rfl) (by kernel_rfl) rfl ?_
    refine X.ret ?_
    exact ⟨trivial, _, _, ⟨true, (by simp_all [sm107]), rfl, rfl⟩, .inl (Ret.mk' [] (by kernel_rfl) (by kernel_rfl) (by kernel_rfl))⟩
 obtain ⟨_, _, ⟨r0, h1_, rfl, rfl⟩, hf⟩ := key
 exact ⟨r0, h1_, hf⟩

theorem l_eqValS (l : List S107) (m : List S107) (hl : l.length ≤ 2000000) (hm : m.length ≤ 2000000) : ∃ r0 : Bool, (r0 = allEq l m) ∧ Fn Try.prog 108 [lV (l.map d107), lV (m.map d107)] (lookH []) (bV r0) (lookH []) := by
 have key : ∃ x' h', ((fun x' h' => ∃ r0 : Bool, (r0 = allEq l m) ∧ x' = bV r0 ∧ h' = [])) x' h' ∧ Fn Try.prog 108 [lV (l.map d107), lV (m.map d107)] (lookH []) x' (lookH h') := by
  refine Fn.bodyX (N := 27) hτ Try.func108 rfl rfl rfl rfl ?_
  refine X.seq ?_
  refine X.rk ⟨[(0, lV (l.map d107)), (1, lV (m.map d107))], [], 80⟩ hτ hmix (by kernel_rfl) (by kernel_rfl) rfl ?_
  refine X.seq ?_
  refine X.seq ?_
  have el1 : (l.map d107).length = l.length := List.length_map ..
  have el2 : (m.map d107).length = m.length := List.length_map ..
  refine X.rk ⟨[(0, lV (l.map d107)), (1, lV (m.map d107)), (10, bV (((l.map d107).length : Int) != ((m.map d107).length : Int)))], [], 160⟩ hτ hmix (by kernel_rfl) (by kernel_rfl) rfl ?_
  refine X.if_ (b := (((l.map d107).length : Int) != ((m.map d107).length : Int))) (by kernel_rfl) (fun hb3 => ?_) (fun hb3 => ?_)
  ·replace hb3 := bne_iff_ne.1 (hb3)
   refine X.seq ?_
   refine X.rk ⟨[(4, bV false)], [], 176⟩ hτ hmix (by kernel_rfl) (by kernel_rfl) rfl ?_
   refine X.ret ?_
   exact ⟨trivial, _, _, ⟨false, (by first | exact fls (fun h => by have := congrArg List.length h; omega) | exact fls (eq_no ‹_› ‹_› ‹_›) | exact tru (eq_all hA (by omega) (by omega))), rfl, rfl⟩, .inl (Ret.mk' [] (by kernel_rfl) (by kernel_rfl) (by kernel_rfl))⟩
  ·replace hb3 := bne_eq_false_iff_eq.1 (hb3)
   refine X.skip ?_
   refine X.seq ?_
   refine X.seq ?_
   refine X.rk ⟨[(0, lV (l.map d107)), (1, lV (m.map d107)), (5, iV 0)], [], 176⟩ hτ hmix (by kernel_rfl) (by kernel_rfl) rfl ?_
   refine X.block ?_
   -- 4: v5 : Int
   refine X.loop (σ := { g : Int // (fun (v5 : Int) => 0 ≤ v5 ∧ v5 ≤ l.length ∧ Upto (fun j x => m[j.toNat]? = some x) (fun n => l[n]?) v5) g }) (fun g => (fun (v5 : Int) => ⟨[(0, lV (l.map d107)), (1, lV (m.map d107)), (5, iV v5)], [], 176⟩) g.1) (fun g => (fun (v5 : Int) => (l.length - v5).toNat) g.1) ⟨0, ⟨by first | omega | (dsimp only; omega), by first | omega | (dsimp only; omega), upto_zero⟩⟩ (Wk.less (by kernel_rfl)) (fun g => ?_)
   obtain ⟨v5, hg5⟩ := g
   have hg5 : 0 ≤ v5 ∧ v5 ≤ l.length ∧ Upto (fun j x => m[j.toNat]? = some x) (fun n => l[n]?) v5 := hg5
   obtain ⟨_, _, hA⟩ := hg5
   refine X.seq ?_
   refine X.seq ?_
   refine X.rk ⟨[(0, lV (l.map d107)), (1, lV (m.map d107)), (5, iV v5), (14, bV (decide ((v5 : Int) < ((l.map d107).length : Int))))], [], 240⟩ hτ hmix (by kernel_rfl) (by kernel_rfl) rfl ?_
   refine X.if_ (b := decide ((v5 : Int) < ((l.map d107).length : Int))) (by kernel_rfl) (fun hb6 => ?_) (fun hb6 => ?_)
   ·replace hb6 := of_decide_eq_true (hb6)
    refine X.skip ?_
    refine X.seq ?_
    refine X.block ?_
    refine X.seq ?_
    refine X.rs 2 hτ hmix (by kernel_rfl) ?_
    obtain ⟨x7, hx7⟩ : ∃ x, l[Int.toNat v5]? = some x := ⟨_, List.getElem?_eq_getElem (by first | omega | (simp; done) | (simp; omega))⟩
    refine CH.idx hτ (d107 x7) (rows := (l.map d107)) (n := v5) (sz := 2) (by kernel_rfl) (by kernel_rfl) (by first | omega | (simp; done) | (simp; omega)) (by rw [List.getElem?_map, hx7]; rfl) (by kernel_rfl) ?_
    refine CH.go 3 hτ (by kernel_rfl) ?_
    obtain ⟨x8, hx8⟩ : ∃ x, m[Int.toNat v5]? = some x := ⟨_, List.getElem?_eq_getElem (by first | omega | (simp; done) | (simp; omega))⟩
    refine CH.idx hτ (d107 x8) (rows := (m.map d107)) (n := v5) (sz := 2) (by kernel_rfl) (by kernel_rfl) (by first | omega | (simp; done) | (simp; omega)) (by rw [List.getElem?_map, hx8]; rfl) (by kernel_rfl) ?_
    refine CH.go 1 hτ (by kernel_rfl) ?_
    obtain ⟨r9, hr11, hf10⟩ := l_eqVal x7 x8
    replace hr11 := hr11.symm; subst hr11
    refine CH.call hf10 Try.func169 ⟨rfl, rfl⟩ [] (by kernel_rfl) (by kernel_rfl) (by kernel_rfl) (by kernel_rfl) ?_
    refine CH.go 1 hτ (by kernel_rfl) ?_
    refine CH.endk ⟨[(0, lV (l.map d107)), (1, lV (m.map d107)), (5, iV v5), (26, bV (!(sm107 x7 x8)))], [], 400⟩ (by kernel_rfl) (by kernel_rfl) rfl ?_
    refine X.if_ (b := !(sm107 x7 x8)) (by kernel_rfl) (fun hb13 => ?_) (fun hb13 => ?_)
    ·replace hb13 := sm_no sm107_iff (bnot_yes (hb13))
     refine X.seq ?_
     refine X.rk ⟨[(4, bV false)], [], 416⟩ hτ hmix (by kernel_rfl) (by kernel_rfl) rfl ?_
     refine X.ret ?_
     exact ⟨trivial, _, _, ⟨false, (by first | exact fls (fun h => by have := congrArg List.length h; omega) | exact fls (eq_no ‹_› ‹_› ‹_›) | exact tru (eq_all hA (by omega) (by omega))), rfl, rfl⟩, .inl (Ret.mk' [] (by kernel_rfl) (by kernel_rfl) (by kernel_rfl))⟩
    ·replace hb13 := (sm107_iff _ _).1 (bnot_no (hb13))
     refine X.skip ?_
     refine X.rk ⟨[(0, lV (l.map d107)), (1, lV (m.map d107)), (5, iV (wrap64 (v5 + 1)))], [], 448⟩ hτ hmix (by kernel_rfl) (by kernel_rfl) (s2 := ⟨[(0, lV (l.map d107)), (1, lV (m.map d107)), (5, iV (v5 + 1))], [], 448⟩) (congrArg (fun z : Int => (⟨[(0, lV (l.map d107)), (1, lV (m.map d107)), (5, iV z)], [], 448⟩ : St)) (show wrap64 (v5 + 1) = (v5 + 1) by rw [w64 (n := (v5 + 1)) (by omega) (by omega)])) ?_
     refine ⟨⟨(v5 + 1), ⟨by first | omega | (dsimp only; omega), by first | omega | (dsimp only; omega), upto_nx (by first | omega | (dsimp only; omega)) hA ‹_› (eq_stp ‹_› ‹_›)⟩⟩, by first | exact rfl | omega | (dsimp only; omega) | (simp only [List.length_append, List.length_cons, List.length_nil, List.length_set]; omega) | (simp; done) | (simp; omega), Wk.mk' [] (by kernel_rfl) (by kernel_rfl) (by kernel_rfl)⟩
   ·replace hb6 := of_decide_eq_false (hb6)
    refine X.exit ?_
    refine X.seq ?_
    refine X.rk ⟨[(4, bV true)], [], 256⟩ hτ hmix (by kernel_rfl) (by kernel_rfl) rfl ?_
    refine X.ret ?_
    exact ⟨trivial, _, _, ⟨true, (by first | exact fls (fun h => by have := congrArg List.length h; omega) | exact fls (eq_no ‹_› ‹_› ‹_›) | exact tru (eq_all hA (by omega) (by omega))), rfl, rfl⟩, .inl (Ret.mk' [] (by kernel_rfl) (by kernel_rfl) (by kernel_rfl))⟩
 obtain ⟨_, _, ⟨r0, h1_, rfl, rfl⟩, hf⟩ := key
 exact ⟨r0, h1_, hf⟩

theorem l_eqQc (q : S43) (r : S43) (hq : q.f2.length ≤ 2000000) (hr : r.f2.length ≤ 2000000) : ∃ r0 : Bool, (r0 = sameQ q r) ∧ Fn Try.prog 106 [.e (.agg (cD (d43 q))), .e (.agg (cD (d43 r)))] (lookH []) (bV r0) (lookH []) := by
 have key : ∃ x' h', ((fun x' h' => ∃ r0 : Bool, (r0 = sameQ q r) ∧ x' = bV r0 ∧ h' = [])) x' h' ∧ Fn Try.prog 106 [.e (.agg (cD (d43 q))), .e (.agg (cD (d43 r)))] (lookH []) x' (lookH h') := by
  refine Fn.bodyX (N := 21) hτ Try.func106 rfl rfl rfl rfl ?_
  refine X.seq ?_
  refine X.rk ⟨[(2, .pt 64 0 0), (3, .pt 80 0 0)], [(64, some (.box (cD (d43 q)))), (80, some (.box (cD (d43 r))))], 112⟩ hτ hmix (by kernel_rfl) (by kernel_rfl) rfl ?_
  refine X.seq ?_
  refine X.seq ?_
  refine X.rk ⟨[(2, .pt 64 0 0), (3, .pt 80 0 0), (9, bV (q.f0 != r.f0))], [(64, some (.box (cD (d43 q)))), (80, some (.box (cD (d43 r))))], 192⟩ hτ hmix (by kernel_rfl) (by kernel_rfl) rfl ?_
  refine X.if_ (b := (q.f0 != r.f0)) (by kernel_rfl) (fun hb1 => ?_) (fun hb1 => ?_)
  ·replace hb1 := bne_iff_ne.1 (hb1)
   refine X.seq ?_
   refine X.rk ⟨[(4, bV false)], [], 208⟩ hτ hmix (by kernel_rfl) (by kernel_rfl) rfl ?_
   refine X.ret ?_
   exact ⟨trivial, _, _, ⟨false, (by simp_all [sameQ]), rfl, rfl⟩, .inl (Ret.mk' [] (by kernel_rfl) (by kernel_rfl) (by kernel_rfl))⟩
  ·replace hb1 := bne_eq_false_iff_eq.1 (hb1)
   refine X.skip ?_
   refine X.seq ?_
   refine X.seq ?_
   refine X.rk ⟨[(2, .pt 64 0 0), (3, .pt 80 0 0), (14, bV (q.f1 != r.f1))], [(64, some (.box (cD (d43 q)))), (80, some (.box (cD (d43 r))))], 272⟩ hτ hmix (by kernel_rfl) (by kernel_rfl) rfl ?_
   refine X.if_ (b := (q.f1 != r.f1)) (by kernel_rfl) (fun hb2 => ?_) (fun hb2 => ?_)
   ·replace hb2 := bne_iff_ne.1 (hb2)
    refine X.seq ?_
    refine X.rk ⟨[(4, bV false)], [], 288⟩ hτ hmix (by kernel_rfl) (by kernel_rfl) rfl ?_
    refine X.ret ?_
    exact ⟨trivial, _, _, ⟨false, (by simp_all [sameQ]), rfl, rfl⟩, .inl (Ret.mk' [] (by kernel_rfl) (by kernel_rfl) (by kernel_rfl))⟩
   ·replace hb2 := bne_eq_false_iff_eq.1 (hb2)
    refine X.skip ?_
    refine X.seq ?_
    refine X.seq ?_
    refine X.rs 4 hτ hmix (by kernel_rfl) ?_
    obtain ⟨r3, hr5, hf4⟩ := l_eqStringS q.f2 r.f2 (by first | assumption | omega) (by first | assumption | omega)
    replace hr5 := hr5.symm; subst hr5
    refine CH.call hf4 Try.func167 ⟨rfl, rfl⟩ [] (by kernel_rfl) (by kernel_rfl) (by kernel_rfl) (by kernel_rfl) ?_
    refine CH.go 1 hτ (by kernel_rfl) ?_
    refine CH.endk ⟨[(20, bV (!(allEq q.f2 r.f2)))], [], 368⟩ (by kernel_rfl) (by kernel_rfl) rfl ?_
    refine X.if_ (b := !(allEq q.f2 r.f2)) (by kernel_rfl) (fun hb7 => ?_) (fun hb7 => ?_)
    ·replace hb7 := bnot_yes (hb7)
     refine X.seq ?_
     refine X.rk ⟨[(4, bV false)], [], 384⟩ hτ hmix (by kernel_rfl) (by kernel_rfl) rfl ?_
     refine X.ret ?_
     exact ⟨trivial, _, _, ⟨false, (by simp_all [sameQ]), rfl, rfl⟩, .inl (Ret.mk' [] (by kernel_rfl) (by kernel_rfl) (by kernel_rfl))⟩
    ·replace hb7 := bnot_no (hb7)
     refine X.skip ?_
     refine X.seq ?_
     refine X.rk ⟨[(4, bV true)], [], 384⟩ hτ hmix (by kernel_rfl) (by kernel_rfl) rfl ?_
     refine X.ret ?_
     exact ⟨trivial, _, _, ⟨true, (by simp_all [sameQ]), rfl, rfl⟩, .inl (Ret.mk' [] (by kernel_rfl) (by kernel_rfl) (by kernel_rfl))⟩
 obtain ⟨_, _, ⟨r0, h1_, rfl, rfl⟩, hf⟩ := key
 exact ⟨r0, h1_, hf⟩

theorem l_eqTc (q : S46) (r : S46) (hq : q.f1.length ≤ 2000000) (hq2 : q.f2.length ≤ 2000000) (hr : r.f1.length ≤ 2000000) (hr2 : r.f2.length ≤ 2000000) : ∃ r0 : Bool, (r0 = sameT q r) ∧ Fn Try.prog 107 [.e (.agg (cD (d46 q))), .e (.agg (cD (d46 r)))] (lookH []) (bV r0) (lookH []) := by
 have key : ∃ x' h', ((fun x' h' => ∃ r0 : Bool, (r0 = sameT q r) ∧ x' = bV r0 ∧ h' = [])) x' h' ∧ Fn Try.prog 107 [.e (.agg (cD (d46 q))), .e (.agg (cD (d46 r)))] (lookH []) x' (lookH h') := by
  refine Fn.bodyX (N := 22) hτ Try.func107 rfl rfl rfl rfl ?_
  refine X.seq ?_
  refine X.rk ⟨[(2, .pt 64 0 0), (3, .pt 80 0 0)], [(64, some (.box (cD (d46 q)))), (80, some (.box (cD (d46 r))))], 112⟩ hτ hmix (by kernel_rfl) (by kernel_rfl) rfl ?_
  refine X.seq ?_
  refine X.seq ?_
  refine X.rk ⟨[(2, .pt 64 0 0), (3, .pt 80 0 0), (9, bV (q.f0 != r.f0))], [(64, some (.box (cD (d46 q)))), (80, some (.box (cD (d46 r))))], 192⟩ hτ hmix (by kernel_rfl) (by kernel_rfl) rfl ?_
  refine X.if_ (b := (q.f0 != r.f0)) (by kernel_rfl) (fun hb1 => ?_) (fun hb1 => ?_)
  ·replace hb1 := bne_iff_ne.1 (hb1)
   refine X.seq ?_
   refine X.rk ⟨[(4, bV false)], [], 208⟩ hτ hmix (by kernel_rfl) (by kernel_rfl) rfl ?_
   refine X.ret ?_
   exact ⟨trivial, _, _, ⟨false, (by simp_all [sameT]), rfl, rfl⟩, .inl (Ret.mk' [] (by kernel_rfl) (by kernel_rfl) (by kernel_rfl))⟩
  ·replace hb1 := bne_eq_false_iff_eq.1 (hb1)
   refine X.skip ?_
   refine X.seq ?_
   refine X.seq ?_
   refine X.rs 4 hτ hmix (by kernel_rfl) ?_
   obtain ⟨r2, hr4, hf3⟩ := l_eqStringS q.f1 r.f1 (by first | assumption | omega) (by first | assumption | omega)
   replace hr4 := hr4.symm; subst hr4
   refine CH.call hf3 Try.func167 ⟨rfl, rfl⟩ [] (by kernel_rfl) (by kernel_rfl) (by kernel_rfl) (by kernel_rfl) ?_
   refine CH.go 1 hτ (by kernel_rfl) ?_
   refine CH.endk ⟨[(2, .pt 64 0 0), (3, .pt 80 0 0), (15, bV (!(allEq q.f1 r.f1)))], [(64, some (.box (cD (d46 q)))), (80, some (.box (cD (d46 r))))], 288⟩ (by kernel_rfl) (by kernel_rfl) rfl ?_
   refine X.if_ (b := !(allEq q.f1 r.f1)) (by kernel_rfl) (fun hb6 => ?_) (fun hb6 => ?_)
   ·replace hb6 := bnot_yes (hb6)
    refine X.seq ?_
    refine X.rk ⟨[(4, bV false)], [], 304⟩ hτ hmix (by kernel_rfl) (by kernel_rfl) rfl ?_
    refine X.ret ?_
    exact ⟨trivial, _, _, ⟨false, (by simp_all [sameT]), rfl, rfl⟩, .inl (Ret.mk' [] (by kernel_rfl) (by kernel_rfl) (by kernel_rfl))⟩
   ·replace hb6 := bnot_no (hb6)
    refine X.skip ?_
    refine X.seq ?_
    refine X.seq ?_
    refine X.rs 4 hτ hmix (by kernel_rfl) ?_
    obtain ⟨r7, hr9, hf8⟩ := l_eqIntS q.f2 r.f2 (by first | assumption | omega) (by first | assumption | omega)
    replace hr9 := hr9.symm; subst hr9
    refine CH.call hf8 Try.func168 ⟨rfl, rfl⟩ [] (by kernel_rfl) (by kernel_rfl) (by kernel_rfl) (by kernel_rfl) ?_
    refine CH.go 1 hτ (by kernel_rfl) ?_
    refine CH.endk ⟨[(21, bV (!(allEq q.f2 r.f2)))], [], 384⟩ (by kernel_rfl) (by kernel_rfl) rfl ?_
    refine X.if_ (b := !(allEq q.f2 r.f2)) (by kernel_rfl) (fun hb11 => ?_) (fun hb11 => ?_)
    ·replace hb11 := bnot_yes (hb11)
     refine X.seq ?_
     refine X.rk ⟨[(4, bV false)], [], 400⟩ hτ hmix (by kernel_rfl) (by kernel_rfl) rfl ?_
     refine X.ret ?_
     exact ⟨trivial, _, _, ⟨false, (by simp_all [sameT]), rfl, rfl⟩, .inl (Ret.mk' [] (by kernel_rfl) (by kernel_rfl) (by kernel_rfl))⟩
    ·replace hb11 := bnot_no (hb11)
     refine X.skip ?_
     refine X.seq ?_
     refine X.rk ⟨[(4, bV true)], [], 400⟩ hτ hmix (by kernel_rfl) (by kernel_rfl) rfl ?_
     refine X.ret ?_
     exact ⟨trivial, _, _, ⟨true, (by simp_all [sameT]), rfl, rfl⟩, .inl (Ret.mk' [] (by kernel_rfl) (by kernel_rfl) (by kernel_rfl))⟩
 obtain ⟨_, _, ⟨r0, h1_, rfl, rfl⟩, hf⟩ := key
 exact ⟨r0, h1_, hf⟩

theorem l_eqBlock (a : S49) (b : S49) (ha : Sm49 a) (hb : Sm49 b) : ∃ r0 : Bool, (r0 = sameB a b) ∧ Fn Try.prog 43 [.e (.agg (cD (d49 a))), .e (.agg (cD (d49 b)))] (lookH []) (bV r0) (lookH []) := by
 have key : ∃ x' h', ((fun x' h' => ∃ r0 : Bool, (r0 = sameB a b) ∧ x' = bV r0 ∧ h' = [])) x' h' ∧ Fn Try.prog 43 [.e (.agg (cD (d49 a))), .e (.agg (cD (d49 b)))] (lookH []) x' (lookH h') := by
  refine Fn.bodyX (N := 59) hτ Try.func43 rfl rfl rfl rfl ?_
  refine X.seq ?_
  refine X.rk ⟨[(2, .pt 64 0 0), (3, .pt 80 0 0)], [(64, some (.box (cD (d49 a)))), (80, some (.box (cD (d49 b))))], 112⟩ hτ hmix (by kernel_rfl) (by kernel_rfl) rfl ?_
  refine X.seq ?_
  refine X.seq ?_
  refine X.rk ⟨[(2, .pt 64 0 0), (3, .pt 80 0 0), (9, bV (a.f0 != b.f0))], [(64, some (.box (cD (d49 a)))), (80, some (.box (cD (d49 b))))], 192⟩ hτ hmix (by kernel_rfl) (by kernel_rfl) rfl ?_
  refine X.if_ (b := (a.f0 != b.f0)) (by kernel_rfl) (fun hb1 => ?_) (fun hb1 => ?_)
  ·replace hb1 := bne_iff_ne.1 (hb1)
   refine X.seq ?_
   refine X.rk ⟨[(4, bV false)], [], 208⟩ hτ hmix (by kernel_rfl) (by kernel_rfl) rfl ?_
   refine X.ret ?_
   exact ⟨trivial, _, _, ⟨false, (by simp_all [sameB]), rfl, rfl⟩, .inl (Ret.mk' [] (by kernel_rfl) (by kernel_rfl) (by kernel_rfl))⟩
  ·replace hb1 := bne_eq_false_iff_eq.1 (hb1)
   refine X.skip ?_
   refine X.seq ?_
   refine X.seq ?_
   refine X.rk ⟨[(2, .pt 64 0 0), (3, .pt 80 0 0), (14, bV (a.f1 != b.f1))], [(64, some (.box (cD (d49 a)))), (80, some (.box (cD (d49 b))))], 272⟩ hτ hmix (by kernel_rfl) (by kernel_rfl) rfl ?_
   refine X.if_ (b := (a.f1 != b.f1)) (by kernel_rfl) (fun hb2 => ?_) (fun hb2 => ?_)
   ·replace hb2 := bne_iff_ne.1 (hb2)
    refine X.seq ?_
    refine X.rk ⟨[(4, bV false)], [], 288⟩ hτ hmix (by kernel_rfl) (by kernel_rfl) rfl ?_
    refine X.ret ?_
    exact ⟨trivial, _, _, ⟨false, (by simp_all [sameB]), rfl, rfl⟩, .inl (Ret.mk' [] (by kernel_rfl) (by kernel_rfl) (by kernel_rfl))⟩
   ·replace hb2 := bne_eq_false_iff_eq.1 (hb2)
    refine X.skip ?_
    refine X.seq ?_
    refine X.seq ?_
    refine X.rk ⟨[(2, .pt 64 0 0), (3, .pt 80 0 0), (19, bV (a.f2 != b.f2))], [(64, some (.box (cD (d49 a)))), (80, some (.box (cD (d49 b))))], 352⟩ hτ hmix (by kernel_rfl) (by kernel_rfl) rfl ?_
    refine X.if_ (b := (a.f2 != b.f2)) (by kernel_rfl) (fun hb3 => ?_) (fun hb3 => ?_)
    ·replace hb3 := bne_iff_ne.1 (hb3)
     refine X.seq ?_
     refine X.rk ⟨[(4, bV false)], [], 368⟩ hτ hmix (by kernel_rfl) (by kernel_rfl) rfl ?_
     refine X.ret ?_
     exact ⟨trivial, _, _, ⟨false, (by simp_all [sameB]), rfl, rfl⟩, .inl (Ret.mk' [] (by kernel_rfl) (by kernel_rfl) (by kernel_rfl))⟩
    ·replace hb3 := bne_eq_false_iff_eq.1 (hb3)
     refine X.skip ?_
     refine X.seq ?_
     refine X.seq ?_
     refine X.rk ⟨[(2, .pt 64 0 0), (3, .pt 80 0 0), (24, bV (!(a.f3.toList == b.f3.toList)))], [(64, some (.box (cD (d49 a)))), (80, some (.box (cD (d49 b))))], 432⟩ hτ hmix (by kernel_rfl) (by kernel_rfl) rfl ?_
     refine X.if_ (b := !(a.f3.toList == b.f3.toList)) (by kernel_rfl) (fun hb4 => ?_) (fun hb4 => ?_)
     ·replace hb4 := beq_no (bnot_yes (hb4))
      refine X.seq ?_
      refine X.rk ⟨[(4, bV false)], [], 448⟩ hτ hmix (by kernel_rfl) (by kernel_rfl) rfl ?_
      refine X.ret ?_
      exact ⟨trivial, _, _, ⟨false, (by simp_all [sameB]), rfl, rfl⟩, .inl (Ret.mk' [] (by kernel_rfl) (by kernel_rfl) (by kernel_rfl))⟩
     ·replace hb4 := beq_yes (bnot_no (hb4))
      refine X.skip ?_
      refine X.seq ?_
      refine X.seq ?_
      refine X.rs 4 hτ hmix (by kernel_rfl) ?_
      obtain ⟨r5, hr7, hf6⟩ := l_eqQc a.f4 b.f4 (by exact ha.2.1.1) (by exact hb.2.1.1)
      replace hr7 := hr7.symm; subst hr7
      refine CH.call hf6 Try.func106 ⟨rfl, rfl⟩ [] (by kernel_rfl) (by kernel_rfl) (by kernel_rfl) (by kernel_rfl) ?_
      refine CH.go 1 hτ (by kernel_rfl) ?_
      refine CH.endk ⟨[(2, .pt 64 0 0), (3, .pt 80 0 0), (30, bV (!(sameQ a.f4 b.f4)))], [(64, some (.box (cD (d49 a)))), (80, some (.box (cD (d49 b))))], 528⟩ (by kernel_rfl) (by kernel_rfl) rfl ?_
      refine X.if_ (b := !(sameQ a.f4 b.f4)) (by kernel_rfl) (fun hb9 => ?_) (fun hb9 => ?_)
      ·replace hb9 := bnot_yes (hb9)
       refine X.seq ?_
       refine X.rk ⟨[(4, bV false)], [], 544⟩ hτ hmix (by kernel_rfl) (by kernel_rfl) rfl ?_
       refine X.ret ?_
       exact ⟨trivial, _, _, ⟨false, (by simp_all [sameB]), rfl, rfl⟩, .inl (Ret.mk' [] (by kernel_rfl) (by kernel_rfl) (by kernel_rfl))⟩
      ·replace hb9 := bnot_no (hb9)
       refine X.skip ?_
       refine X.seq ?_
       refine X.seq ?_
       refine X.rs 4 hτ hmix (by kernel_rfl) ?_
       obtain ⟨r10, hr12, hf11⟩ := l_eqTc a.f5 b.f5 (by exact ha.2.2.1.1.1) (by exact ha.2.2.1.2) (by exact hb.2.2.1.1.1) (by exact hb.2.2.1.2)
       replace hr12 := hr12.symm; subst hr12
       refine CH.call hf11 Try.func107 ⟨rfl, rfl⟩ [] (by kernel_rfl) (by kernel_rfl) (by kernel_rfl) (by kernel_rfl) ?_
       refine CH.go 1 hτ (by kernel_rfl) ?_
       refine CH.endk ⟨[(2, .pt 64 0 0), (3, .pt 80 0 0), (36, bV (!(sameT a.f5 b.f5)))], [(64, some (.box (cD (d49 a)))), (80, some (.box (cD (d49 b))))], 624⟩ (by kernel_rfl) (by kernel_rfl) rfl ?_
       refine X.if_ (b := !(sameT a.f5 b.f5)) (by kernel_rfl) (fun hb14 => ?_) (fun hb14 => ?_)
       ·replace hb14 := bnot_yes (hb14)
        refine X.seq ?_
        refine X.rk ⟨[(4, bV false)], [], 640⟩ hτ hmix (by kernel_rfl) (by kernel_rfl) rfl ?_
        refine X.ret ?_
        exact ⟨trivial, _, _, ⟨false, (by simp_all [sameB]), rfl, rfl⟩, .inl (Ret.mk' [] (by kernel_rfl) (by kernel_rfl) (by kernel_rfl))⟩
       ·replace hb14 := bnot_no (hb14)
        refine X.skip ?_
        refine X.seq ?_
        refine X.seq ?_
        refine X.rs 4 hτ hmix (by kernel_rfl) ?_
        obtain ⟨r15, hr17, hf16⟩ := l_eqTxS a.f6 b.f6 (by exact ha.2.2.2.1.1) (by exact hb.2.2.2.1.1)
        replace hr17 := hr17.symm; subst hr17
        refine CH.call hf16 Try.func19 ⟨rfl, rfl⟩ [] (by kernel_rfl) (by kernel_rfl) (by kernel_rfl) (by kernel_rfl) ?_
        refine CH.go 1 hτ (by kernel_rfl) ?_
        refine CH.endk ⟨[(2, .pt 64 0 0), (3, .pt 80 0 0), (42, bV (!(allEq a.f6 b.f6)))], [(64, some (.box (cD (d49 a)))), (80, some (.box (cD (d49 b))))], 720⟩ (by kernel_rfl) (by kernel_rfl) rfl ?_
        refine X.if_ (b := !(allEq a.f6 b.f6)) (by kernel_rfl) (fun hb19 => ?_) (fun hb19 => ?_)
        ·replace hb19 := bnot_yes (hb19)
         refine X.seq ?_
         refine X.rk ⟨[(4, bV false)], [], 736⟩ hτ hmix (by kernel_rfl) (by kernel_rfl) rfl ?_
         refine X.ret ?_
         exact ⟨trivial, _, _, ⟨false, (by simp_all [sameB]), rfl, rfl⟩, .inl (Ret.mk' [] (by kernel_rfl) (by kernel_rfl) (by kernel_rfl))⟩
        ·replace hb19 := bnot_no (hb19)
         refine X.skip ?_
         refine X.seq ?_
         refine X.seq ?_
         refine X.rs 4 hτ hmix (by kernel_rfl) ?_
         refine CH.eqB (t := 4) (ng := true) (a := a.f7) (b := b.f7) (by kernel_rfl) (by kernel_rfl) Try.underlying4 ?_
         refine CH.endk ⟨[(2, .pt 64 0 0), (3, .pt 80 0 0), (47, bV (!(a.f7 == b.f7)))], [(64, some (.box (cD (d49 a)))), (80, some (.box (cD (d49 b))))], 800⟩ (by kernel_rfl) (by kernel_rfl) rfl ?_
         refine X.if_ (b := !(a.f7 == b.f7)) (by kernel_rfl) (fun hb20 => ?_) (fun hb20 => ?_)
         ·replace hb20 := beq_eq_false_iff_ne.1 (bnot_yes (hb20))
          refine X.seq ?_
          refine X.rk ⟨[(4, bV false)], [], 816⟩ hτ hmix (by kernel_rfl) (by kernel_rfl) rfl ?_
          refine X.ret ?_
          exact ⟨trivial, _, _, ⟨false, (by simp_all [sameB]), rfl, rfl⟩, .inl (Ret.mk' [] (by kernel_rfl) (by kernel_rfl) (by kernel_rfl))⟩
         ·replace hb20 := eq_of_beq (bnot_no (hb20))
          refine X.skip ?_
          refine X.seq ?_
          refine X.seq ?_
          refine X.rs 4 hτ hmix (by kernel_rfl) ?_
          obtain ⟨r21, hr23, hf22⟩ := l_eqValS a.f8 b.f8 (by exact ha.2.2.2.2.1.1) (by exact hb.2.2.2.2.1.1)
          replace hr23 := hr23.symm; subst hr23
          refine CH.call hf22 Try.func108 ⟨rfl, rfl⟩ [] (by kernel_rfl) (by kernel_rfl) (by kernel_rfl) (by kernel_rfl) ?_
          refine CH.go 1 hτ (by kernel_rfl) ?_
          refine CH.endk ⟨[(2, .pt 64 0 0), (3, .pt 80 0 0), (53, bV (!(allEq a.f8 b.f8)))], [(64, some (.box (cD (d49 a)))), (80, some (.box (cD (d49 b))))], 896⟩ (by kernel_rfl) (by kernel_rfl) rfl ?_
          refine X.if_ (b := !(allEq a.f8 b.f8)) (by kernel_rfl) (fun hb25 => ?_) (fun hb25 => ?_)
          ·replace hb25 := bnot_yes (hb25)
           refine X.seq ?_
           refine X.rk ⟨[(4, bV false)], [], 912⟩ hτ hmix (by kernel_rfl) (by kernel_rfl) rfl ?_
           refine X.ret ?_
           exact ⟨trivial, _, _, ⟨false, (by simp_all [sameB]), rfl, rfl⟩, .inl (Ret.mk' [] (by kernel_rfl) (by kernel_rfl) (by kernel_rfl))⟩
          ·replace hb25 := bnot_no (hb25)
           refine X.skip ?_
           refine X.seq ?_
           refine X.seq ?_
           refine X.rk ⟨[(58, bV (!(a.f9.toList == b.f9.toList)))], [], 976⟩ hτ hmix (by kernel_rfl) (by kernel_rfl) rfl ?_
           refine X.if_ (b := !(a.f9.toList == b.f9.toList)) (by kernel_rfl) (fun hb26 => ?_) (fun hb26 => ?_)
           ·replace hb26 := beq_no (bnot_yes (hb26))
            refine X.seq ?_
            refine X.rk ⟨[(4, bV false)], [], 992⟩ hτ hmix (by kernel_rfl) (by kernel_rfl) rfl ?_
            refine X.ret ?_
            exact ⟨trivial, _, _, ⟨false, (by simp_all [sameB]), rfl, rfl⟩, .inl (Ret.mk' [] (by kernel_rfl) (by kernel_rfl) (by kernel_rfl))⟩
           ·replace hb26 := beq_yes (bnot_no (hb26))
            refine X.skip ?_
            refine X.seq ?_
            refine X.rk ⟨[(4, bV true)], [], 992⟩ hτ hmix (by kernel_rfl) (by kernel_rfl) rfl ?_
            refine X.ret ?_
            exact ⟨trivial, _, _, ⟨true, (by simp_all [sameB]), rfl, rfl⟩, .inl (Ret.mk' [] (by kernel_rfl) (by kernel_rfl) (by kernel_rfl))⟩
 obtain ⟨_, _, ⟨r0, h1_, rfl, rfl⟩, hf⟩ := key
 exact ⟨r0, h1_, hf⟩

theorem l_markByteS (l : List Int) (k : Int) (hl : l.length ≤ 2000000) (hk : 0 ≤ k ∧ k ≤ 100000000) : ∃ r0 : Int, ∃ q0 : List Int, (q0.length = l.length ∧ 0 ≤ r0) ∧ Fn Try.prog 45 [rV 0, iV k] (lookH [(0, some (.row 1 5 (l.map dB) false true))]) (iV r0) (lookH [(0, some (.row 1 5 (q0.map dB) false true))]) := by
 have key : ∃ x' h', ((fun x' h' => ∃ r0 : Int, ∃ q0 : List Int, (q0.length = l.length ∧ 0 ≤ r0) ∧ x' = iV r0 ∧ h' = [(0, some (.row 1 5 (q0.map dB) false true))])) x' h' ∧ Fn Try.prog 45 [rV 0, iV k] (lookH [(0, some (.row 1 5 (l.map dB) false true))]) x' (lookH h') := by
  refine Fn.bodyX (N := 20) hτ Try.func45 rfl rfl rfl rfl ?_
  refine X.seq ?_
  refine X.rk ⟨[(0, rV 0), (1, iV k)], [(0, some (.row 1 5 (l.map dB) false true))], 80⟩ hτ hmix (by kernel_rfl) (by kernel_rfl) rfl ?_
  refine X.seq ?_
  refine X.seq ?_
  refine X.rk ⟨[(0, rV 0), (1, iV k), (5, iV 0)], [(0, some (.row 1 5 (l.map dB) false true))], 96⟩ hτ hmix (by kernel_rfl) (by kernel_rfl) rfl ?_
  refine X.block ?_
  -- 2: L0 : List Int, v1 : Int, v5 : Int
  refine X.loop (σ := { g : (List Int) × Int × Int // (fun (L0 : List Int) (v1 : Int) (v5 : Int) => 0 ≤ v5 ∧ v5 ≤ l.length ∧ v1 = k + v5 ∧ L0.length = l.length) g.1 g.2.1 g.2.2 }) (fun g => (fun (L0 : List Int) (v1 : Int) (v5 : Int) => ⟨[(0, rV 0), (1, iV v1), (5, iV v5)], [(0, some (.row 1 5 (L0.map dB) false true))], 96⟩) g.1.1 g.1.2.1 g.1.2.2) (fun g => (fun (L0 : List Int) (v1 : Int) (v5 : Int) => (l.length - v5).toNat) g.1.1 g.1.2.1 g.1.2.2) ⟨(l, k, 0), ⟨by first | omega | (dsimp only; omega), by first | omega | (dsimp only; omega), by first | omega | (dsimp only; omega), rfl⟩⟩ (Wk.less (by kernel_rfl)) (fun g => ?_)
  obtain ⟨⟨L0, v1, v5⟩, hg2⟩ := g
  have hg2 : 0 ≤ v5 ∧ v5 ≤ l.length ∧ v1 = k + v5 ∧ L0.length = l.length := hg2
  obtain ⟨_, _, _, hL⟩ := hg2
  refine X.seq ?_
  refine X.seq ?_
  have hlb : (l.map dB).length = l.length := List.length_map ..
  have el3 : (L0.map dB).length = L0.length := List.length_map ..
  refine X.rk ⟨[(0, rV 0), (1, iV v1), (5, iV v5), (9, bV (decide ((v5 : Int) < ((L0.map dB).length : Int))))], [(0, some (.row 1 5 (L0.map dB) false true))], 160⟩ hτ hmix (by kernel_rfl) (by kernel_rfl) rfl ?_
  refine X.if_ (b := decide ((v5 : Int) < ((L0.map dB).length : Int))) (by kernel_rfl) (fun hb4 => ?_) (fun hb4 => ?_)
  ·replace hb4 := of_decide_eq_true (hb4)
   refine X.skip ?_
   refine X.seq ?_
   refine X.block ?_
   refine X.seq ?_
   refine X.rs 4 hτ hmix (by kernel_rfl) ?_
   refine CH.idxR hτ (rows := (L0.map dB)) (n := v5) (b := 0) (by kernel_rfl) (by kernel_rfl) (by first | omega | (simp; done) | (simp; omega)) (by simp only [List.length_map, List.length_set]; first | omega | (simp; done) | (simp; omega)) (by kernel_rfl) ?_
   obtain ⟨x5, hx5⟩ : ∃ x, L0[Int.toNat v5]? = some x := ⟨_, List.getElem?_eq_getElem (by first | omega | (simp; done) | (simp; omega))⟩
   refine CH.row hτ (dB x5) (by kernel_rfl) (by kernel_rfl) (by rw [List.getElem?_map, hx5]; rfl) (by kernel_rfl) ?_
   refine CH.endk ⟨[(0, rV 0), (1, iV v1), (5, iV v5)], [(0, some (.row 1 5 ((L0.map dB).set (Int.toNat v5) (dB (wr .u8 (v1)))) false true))], 256⟩ (by kernel_rfl) (by kernel_rfl) (s2 := ⟨[(0, rV 0), (1, iV v1), (5, iV v5)], [(0, some (.row 1 5 ((L0.set (Int.toNat v5) (wr .u8 (v1))).map dB) false true))], 256⟩) (congrArg (fun z : List (List D) => (⟨[(0, rV 0), (1, iV v1), (5, iV v5)], [(0, some (.row 1 5 z false true))], 256⟩ : St)) (show ((L0.map dB).set (Int.toNat v5) (dB (wr .u8 (v1)))) = ((L0.set (Int.toNat v5) (wr .u8 (v1))).map dB) from List.map_set.symm)) ?_
   refine X.rk ⟨[(0, rV 0), (1, iV (wrap64 (v1 + 1))), (5, iV v5)], [(0, some (.row 1 5 ((L0.set (Int.toNat v5) (wr .u8 (v1))).map dB) false true))], 304⟩ hτ hmix (by kernel_rfl) (by kernel_rfl) (s2 := ⟨[(0, rV 0), (1, iV (v1 + 1)), (5, iV v5)], [(0, some (.row 1 5 ((L0.set (Int.toNat v5) (wr .u8 (v1))).map dB) false true))], 304⟩) (congrArg (fun z : Int => (⟨[(0, rV 0), (1, iV z), (5, iV v5)], [(0, some (.row 1 5 ((L0.set (Int.toNat v5) (wr .u8 (v1))).map dB) false true))], 304⟩ : St)) (show wrap64 (v1 + 1) = (v1 + 1) by rw [w64 (n := (v1 + 1)) (by omega) (by omega)])) ?_
   refine X.rk ⟨[(0, rV 0), (1, iV (v1 + 1)), (5, iV (wrap64 (v5 + 1)))], [(0, some (.row 1 5 ((L0.set (Int.toNat v5) (wr .u8 (v1))).map dB) false true))], 352⟩ hτ hmix (by kernel_rfl) (by kernel_rfl) (s2 := ⟨[(0, rV 0), (1, iV (v1 + 1)), (5, iV (v5 + 1))], [(0, some (.row 1 5 ((L0.set (Int.toNat v5) (wr .u8 (v1))).map dB) false true))], 352⟩) (congrArg (fun z : Int => (⟨[(0, rV 0), (1, iV (v1 + 1)), (5, iV z)], [(0, some (.row 1 5 ((L0.set (Int.toNat v5) (wr .u8 (v1))).map dB) false true))], 352⟩ : St)) (show wrap64 (v5 + 1) = (v5 + 1) by rw [w64 (n := (v5 + 1)) (by omega) (by omega)])) ?_
   refine ⟨⟨((L0.set (Int.toNat v5) (wr .u8 (v1))), (v1 + 1), (v5 + 1)), ⟨by first | omega | (dsimp only; omega), by first | omega | (dsimp only; omega), by first | omega | (dsimp only; omega), by simp only [List.length_set]; omega⟩⟩, by first | exact rfl | omega | (dsimp only; omega) | (simp only [List.length_append, List.length_cons, List.length_nil, List.length_set]; omega) | (simp; done) | (simp; omega), Wk.mk' [] (by kernel_rfl) (by kernel_rfl) (by kernel_rfl)⟩
  ·replace hb4 := of_decide_eq_false (hb4)
   refine X.exit ?_
   refine X.seq ?_
   refine X.rk ⟨[(4, iV v1)], [(0, some (.row 1 5 (L0.map dB) false true))], 192⟩ hτ hmix (by kernel_rfl) (by kernel_rfl) rfl ?_
   refine X.ret ?_
   exact ⟨trivial, _, _, ⟨v1, L0, ⟨hL, by omega⟩, rfl, rfl⟩, .inl (Ret.mk' [] (by kernel_rfl) (by kernel_rfl) (by kernel_rfl))⟩
 obtain ⟨_, _, ⟨r0, q0, h1_, rfl, rfl⟩, hf⟩ := key
 exact ⟨r0, q0, h1_, hf⟩

theorem l_markStringS (l : List ByteArray) (k : Int) (hl : l.length ≤ 2000000) (hk : 0 ≤ k ∧ k ≤ 100000000) : ∃ r0 : Int, ∃ q0 : List ByteArray, (q0.length = l.length ∧ r0 = k + l.length ∧ Upto (mkStr k) (fun n => q0[n]?) l.length) ∧ Fn Try.prog 170 [rV 0, iV k] (lookH [(0, some (.row 1 9 (l.map dS) false true))]) (iV r0) (lookH [(0, some (.row 1 9 (q0.map dS) false true))]) := by
 have key : ∃ x' h', ((fun x' h' => ∃ r0 : Int, ∃ q0 : List ByteArray, (q0.length = l.length ∧ r0 = k + l.length ∧ Upto (mkStr k) (fun n => q0[n]?) l.length) ∧ x' = iV r0 ∧ h' = [(0, some (.row 1 9 (q0.map dS) false true))])) x' h' ∧ Fn Try.prog 170 [rV 0, iV k] (lookH [(0, some (.row 1 9 (l.map dS) false true))]) x' (lookH h') := by
  refine Fn.bodyX (N := 20) hτ Try.func170 rfl rfl rfl rfl ?_
  refine X.seq ?_
  refine X.rk ⟨[(0, rV 0), (1, iV k)], [(0, some (.row 1 9 (l.map dS) false true))], 80⟩ hτ hmix (by kernel_rfl) (by kernel_rfl) rfl ?_
  refine X.seq ?_
  refine X.seq ?_
  refine X.rk ⟨[(0, rV 0), (1, iV k), (5, iV 0)], [(0, some (.row 1 9 (l.map dS) false true))], 96⟩ hτ hmix (by kernel_rfl) (by kernel_rfl) rfl ?_
  refine X.block ?_
  -- 2: L0 : List ByteArray, v1 : Int, v5 : Int
  refine X.loop (σ := { g : (List ByteArray) × Int × Int // (fun (L0 : List ByteArray) (v1 : Int) (v5 : Int) => 0 ≤ v5 ∧ v5 ≤ l.length ∧ v1 = k + 1 * v5 ∧ L0.length = l.length ∧ Upto (mkStr k) (fun n => L0[n]?) v5) g.1 g.2.1 g.2.2 }) (fun g => (fun (L0 : List ByteArray) (v1 : Int) (v5 : Int) => ⟨[(0, rV 0), (1, iV v1), (5, iV v5)], [(0, some (.row 1 9 (L0.map dS) false true))], 96⟩) g.1.1 g.1.2.1 g.1.2.2) (fun g => (fun (L0 : List ByteArray) (v1 : Int) (v5 : Int) => (l.length - v5).toNat) g.1.1 g.1.2.1 g.1.2.2) ⟨(l, k, 0), ⟨by first | omega | (dsimp only; omega), by first | omega | (dsimp only; omega), by first | omega | (dsimp only; omega), rfl, upto_zero⟩⟩ (Wk.less (by kernel_rfl)) (fun g => ?_)
  obtain ⟨⟨L0, v1, v5⟩, hg2⟩ := g
  have hg2 : 0 ≤ v5 ∧ v5 ≤ l.length ∧ v1 = k + 1 * v5 ∧ L0.length = l.length ∧ Upto (mkStr k) (fun n => L0[n]?) v5 := hg2
  obtain ⟨_, _, _, hL, hA⟩ := hg2
  refine X.seq ?_
  refine X.seq ?_
  have hlb : (l.map dS).length = l.length := List.length_map ..
  have el3 : (L0.map dS).length = L0.length := List.length_map ..
  refine X.rk ⟨[(0, rV 0), (1, iV v1), (5, iV v5), (9, bV (decide ((v5 : Int) < ((L0.map dS).length : Int))))], [(0, some (.row 1 9 (L0.map dS) false true))], 160⟩ hτ hmix (by kernel_rfl) (by kernel_rfl) rfl ?_
  refine X.if_ (b := decide ((v5 : Int) < ((L0.map dS).length : Int))) (by kernel_rfl) (fun hb4 => ?_) (fun hb4 => ?_)
  ·replace hb4 := of_decide_eq_true (hb4)
   refine X.skip ?_
   refine X.seq ?_
   refine X.block ?_
   refine X.seq ?_
   refine X.rs 3 hτ hmix (by kernel_rfl) ?_
   obtain ⟨r5, hr7, hf6⟩ := l_markText v1 (by omega)
   replace hr7 := hr7.symm; subst hr7
   refine CH.call hf6 Try.func63 ⟨rfl, rfl⟩ [] (by kernel_rfl) (by kernel_rfl) (by kernel_rfl) (by kernel_rfl) ?_
   refine CH.idxR hτ (rows := (L0.map dS)) (n := v5) (b := 0) (by kernel_rfl) (by kernel_rfl) (by first | omega | (simp; done) | (simp; omega)) (by simp only [List.length_map, List.length_set]; first | omega | (simp; done) | (simp; omega)) (by kernel_rfl) ?_
   obtain ⟨x9, hx9⟩ : ∃ x, L0[Int.toNat v5]? = some x := ⟨_, List.getElem?_eq_getElem (by first | omega | (simp; done) | (simp; omega))⟩
   refine CH.row hτ (dS x9) (by kernel_rfl) (by kernel_rfl) (by rw [List.getElem?_map, hx9]; rfl) (by kernel_rfl) ?_
   refine CH.endk ⟨[(0, rV 0), (1, iV v1), (5, iV v5)], [(0, some (.row 1 9 ((L0.map dS).set (Int.toNat v5) (dS (mt v1))) false true))], 256⟩ (by kernel_rfl) (by kernel_rfl) (s2 := ⟨[(0, rV 0), (1, iV v1), (5, iV v5)], [(0, some (.row 1 9 ((L0.set (Int.toNat v5) (mt v1)).map dS) false true))], 256⟩) (congrArg (fun z : List (List D) => (⟨[(0, rV 0), (1, iV v1), (5, iV v5)], [(0, some (.row 1 9 z false true))], 256⟩ : St)) (show ((L0.map dS).set (Int.toNat v5) (dS (mt v1))) = ((L0.set (Int.toNat v5) (mt v1)).map dS) from List.map_set.symm)) ?_
   refine X.rk ⟨[(0, rV 0), (1, iV (wrap64 (v1 + 1))), (5, iV v5)], [(0, some (.row 1 9 ((L0.set (Int.toNat v5) (mt v1)).map dS) false true))], 304⟩ hτ hmix (by kernel_rfl) (by kernel_rfl) (s2 := ⟨[(0, rV 0), (1, iV (v1 + 1)), (5, iV v5)], [(0, some (.row 1 9 ((L0.set (Int.toNat v5) (mt v1)).map dS) false true))], 304⟩) (congrArg (fun z : Int => (⟨[(0, rV 0), (1, iV z), (5, iV v5)], [(0, some (.row 1 9 ((L0.set (Int.toNat v5) (mt v1)).map dS) false true))], 304⟩ : St)) (show wrap64 (v1 + 1) = (v1 + 1) by rw [w64 (n := (v1 + 1)) (by omega) (by omega)])) ?_
   refine X.rk ⟨[(0, rV 0), (1, iV (v1 + 1)), (5, iV (wrap64 (v5 + 1)))], [(0, some (.row 1 9 ((L0.set (Int.toNat v5) (mt v1)).map dS) false true))], 352⟩ hτ hmix (by kernel_rfl) (by kernel_rfl) (s2 := ⟨[(0, rV 0), (1, iV (v1 + 1)), (5, iV (v5 + 1))], [(0, some (.row 1 9 ((L0.set (Int.toNat v5) (mt v1)).map dS) false true))], 352⟩) (congrArg (fun z : Int => (⟨[(0, rV 0), (1, iV (v1 + 1)), (5, iV z)], [(0, some (.row 1 9 ((L0.set (Int.toNat v5) (mt v1)).map dS) false true))], 352⟩ : St)) (show wrap64 (v5 + 1) = (v5 + 1) by rw [w64 (n := (v5 + 1)) (by omega) (by omega)])) ?_
   refine ⟨⟨((L0.set (Int.toNat v5) (mt v1)), (v1 + 1), (v5 + 1)), ⟨by first | omega | (dsimp only; omega), by first | omega | (dsimp only; omega), by first | omega | (dsimp only; omega), by simp only [List.length_set]; omega, by (try simp only [List.set_set]); exact set_all hA (by first | omega | (dsimp only; omega)) (by show mt _ = mt _; congr 1; omega)⟩⟩, by first | exact rfl | omega | (dsimp only; omega) | (simp only [List.length_append, List.length_cons, List.length_nil, List.length_set]; omega) | (simp; done) | (simp; omega), Wk.mk' [] (by kernel_rfl) (by kernel_rfl) (by kernel_rfl)⟩
  ·replace hb4 := of_decide_eq_false (hb4)
   refine X.exit ?_
   refine X.seq ?_
   refine X.rk ⟨[(4, iV v1)], [(0, some (.row 1 9 (L0.map dS) false true))], 192⟩ hτ hmix (by kernel_rfl) (by kernel_rfl) rfl ?_
   refine X.ret ?_
   exact ⟨trivial, _, _, ⟨v1, L0, ⟨hL, by omega, upto_all hA (by omega)⟩, rfl, rfl⟩, .inl (Ret.mk' [] (by kernel_rfl) (by kernel_rfl) (by kernel_rfl))⟩
 obtain ⟨_, _, ⟨r0, q0, h1_, rfl, rfl⟩, hf⟩ := key
 exact ⟨r0, q0, h1_, hf⟩

theorem l_markIntS (l : List Int) (k : Int) (hl : l.length ≤ 2000000) (hk : 0 ≤ k ∧ k ≤ 100000000) : ∃ r0 : Int, ∃ q0 : List Int, (q0.length = l.length ∧ r0 = k + l.length ∧ Upto (mkInt k) (fun n => q0[n]?) l.length) ∧ Fn Try.prog 171 [rV 0, iV k] (lookH [(0, some (.row 1 3 (l.map dI) false true))]) (iV r0) (lookH [(0, some (.row 1 3 (q0.map dI) false true))]) := by
 have key : ∃ x' h', ((fun x' h' => ∃ r0 : Int, ∃ q0 : List Int, (q0.length = l.length ∧ r0 = k + l.length ∧ Upto (mkInt k) (fun n => q0[n]?) l.length) ∧ x' = iV r0 ∧ h' = [(0, some (.row 1 3 (q0.map dI) false true))])) x' h' ∧ Fn Try.prog 171 [rV 0, iV k] (lookH [(0, some (.row 1 3 (l.map dI) false true))]) x' (lookH h') := by
  refine Fn.bodyX (N := 19) hτ Try.func171 rfl rfl rfl rfl ?_
  refine X.seq ?_
  refine X.rk ⟨[(0, rV 0), (1, iV k)], [(0, some (.row 1 3 (l.map dI) false true))], 80⟩ hτ hmix (by kernel_rfl) (by kernel_rfl) rfl ?_
  refine X.seq ?_
  refine X.seq ?_
  refine X.rk ⟨[(0, rV 0), (1, iV k), (5, iV 0)], [(0, some (.row 1 3 (l.map dI) false true))], 96⟩ hτ hmix (by kernel_rfl) (by kernel_rfl) rfl ?_
  refine X.block ?_
  -- 2: L0 : List Int, v1 : Int, v5 : Int
  refine X.loop (σ := { g : (List Int) × Int × Int // (fun (L0 : List Int) (v1 : Int) (v5 : Int) => 0 ≤ v5 ∧ v5 ≤ l.length ∧ v1 = k + 1 * v5 ∧ L0.length = l.length ∧ Upto (mkInt k) (fun n => L0[n]?) v5) g.1 g.2.1 g.2.2 }) (fun g => (fun (L0 : List Int) (v1 : Int) (v5 : Int) => ⟨[(0, rV 0), (1, iV v1), (5, iV v5)], [(0, some (.row 1 3 (L0.map dI) false true))], 96⟩) g.1.1 g.1.2.1 g.1.2.2) (fun g => (fun (L0 : List Int) (v1 : Int) (v5 : Int) => (l.length - v5).toNat) g.1.1 g.1.2.1 g.1.2.2) ⟨(l, k, 0), ⟨by first | omega | (dsimp only; omega), by first | omega | (dsimp only; omega), by first | omega | (dsimp only; omega), rfl, upto_zero⟩⟩ (Wk.less (by kernel_rfl)) (fun g => ?_)
  obtain ⟨⟨L0, v1, v5⟩, hg2⟩ := g
  have hg2 : 0 ≤ v5 ∧ v5 ≤ l.length ∧ v1 = k + 1 * v5 ∧ L0.length = l.length ∧ Upto (mkInt k) (fun n => L0[n]?) v5 := hg2
  obtain ⟨_, _, _, hL, hA⟩ := hg2
  refine X.seq ?_
  refine X.seq ?_
  have hlb : (l.map dI).length = l.length := List.length_map ..
  have el3 : (L0.map dI).length = L0.length := List.length_map ..
  refine X.rk ⟨[(0, rV 0), (1, iV v1), (5, iV v5), (9, bV (decide ((v5 : Int) < ((L0.map dI).length : Int))))], [(0, some (.row 1 3 (L0.map dI) false true))], 160⟩ hτ hmix (by kernel_rfl) (by kernel_rfl) rfl ?_
  refine X.if_ (b := decide ((v5 : Int) < ((L0.map dI).length : Int))) (by kernel_rfl) (fun hb4 => ?_) (fun hb4 => ?_)
  ·replace hb4 := of_decide_eq_true (hb4)
   refine X.skip ?_
   refine X.seq ?_
   refine X.block ?_
   refine X.seq ?_
   refine X.rs 3 hτ hmix (by kernel_rfl) ?_
   refine CH.idxR hτ (rows := (L0.map dI)) (n := v5) (b := 0) (by kernel_rfl) (by kernel_rfl) (by first | omega | (simp; done) | (simp; omega)) (by simp only [List.length_map, List.length_set]; first | omega | (simp; done) | (simp; omega)) (by kernel_rfl) ?_
   obtain ⟨x5, hx5⟩ : ∃ x, L0[Int.toNat v5]? = some x := ⟨_, List.getElem?_eq_getElem (by first | omega | (simp; done) | (simp; omega))⟩
   refine CH.row hτ (dI x5) (by kernel_rfl) (by kernel_rfl) (by rw [List.getElem?_map, hx5]; rfl) (by kernel_rfl) ?_
   refine CH.endk ⟨[(0, rV 0), (1, iV v1), (5, iV v5)], [(0, some (.row 1 3 ((L0.map dI).set (Int.toNat v5) (dI v1)) false true))], 240⟩ (by kernel_rfl) (by kernel_rfl) (s2 := ⟨[(0, rV 0), (1, iV v1), (5, iV v5)], [(0, some (.row 1 3 ((L0.set (Int.toNat v5) v1).map dI) false true))], 240⟩) (congrArg (fun z : List (List D) => (⟨[(0, rV 0), (1, iV v1), (5, iV v5)], [(0, some (.row 1 3 z false true))], 240⟩ : St)) (show ((L0.map dI).set (Int.toNat v5) (dI v1)) = ((L0.set (Int.toNat v5) v1).map dI) from List.map_set.symm)) ?_
   refine X.rk ⟨[(0, rV 0), (1, iV (wrap64 (v1 + 1))), (5, iV v5)], [(0, some (.row 1 3 ((L0.set (Int.toNat v5) v1).map dI) false true))], 288⟩ hτ hmix (by kernel_rfl) (by kernel_rfl) (s2 := ⟨[(0, rV 0), (1, iV (v1 + 1)), (5, iV v5)], [(0, some (.row 1 3 ((L0.set (Int.toNat v5) v1).map dI) false true))], 288⟩) (congrArg (fun z : Int => (⟨[(0, rV 0), (1, iV z), (5, iV v5)], [(0, some (.row 1 3 ((L0.set (Int.toNat v5) v1).map dI) false true))], 288⟩ : St)) (show wrap64 (v1 + 1) = (v1 + 1) by rw [w64 (n := (v1 + 1)) (by omega) (by omega)])) ?_
   refine X.rk ⟨[(0, rV 0), (1, iV (v1 + 1)), (5, iV (wrap64 (v5 + 1)))], [(0, some (.row 1 3 ((L0.set (Int.toNat v5) v1).map dI) false true))], 336⟩ hτ hmix (by kernel_rfl) (by kernel_rfl) (s2 := ⟨[(0, rV 0), (1, iV (v1 + 1)), (5, iV (v5 + 1))], [(0, some (.row 1 3 ((L0.set (Int.toNat v5) v1).map dI) false true))], 336⟩) (congrArg (fun z : Int => (⟨[(0, rV 0), (1, iV (v1 + 1)), (5, iV z)], [(0, some (.row 1 3 ((L0.set (Int.toNat v5) v1).map dI) false true))], 336⟩ : St)) (show wrap64 (v5 + 1) = (v5 + 1) by rw [w64 (n := (v5 + 1)) (by omega) (by omega)])) ?_
   refine ⟨⟨((L0.set (Int.toNat v5) v1), (v1 + 1), (v5 + 1)), ⟨by first | omega | (dsimp only; omega), by first | omega | (dsimp only; omega), by first | omega | (dsimp only; omega), by simp only [List.length_set]; omega, by (try simp only [List.set_set]); exact set_all hA (by first | omega | (dsimp only; omega)) (by show _ = k + _; omega)⟩⟩, by first | exact rfl | omega | (dsimp only; omega) | (simp only [List.length_append, List.length_cons, List.length_nil, List.length_set]; omega) | (simp; done) | (simp; omega), Wk.mk' [] (by kernel_rfl) (by kernel_rfl) (by kernel_rfl)⟩
  ·replace hb4 := of_decide_eq_false (hb4)
   refine X.exit ?_
   refine X.seq ?_
   refine X.rk ⟨[(4, iV v1)], [(0, some (.row 1 3 (L0.map dI) false true))], 192⟩ hτ hmix (by kernel_rfl) (by kernel_rfl) rfl ?_
   refine X.ret ?_
   exact ⟨trivial, _, _, ⟨v1, L0, ⟨hL, by omega, upto_all hA (by omega)⟩, rfl, rfl⟩, .inl (Ret.mk' [] (by kernel_rfl) (by kernel_rfl) (by kernel_rfl))⟩
 obtain ⟨_, _, ⟨r0, q0, h1_, rfl, rfl⟩, hf⟩ := key
 exact ⟨r0, q0, h1_, hf⟩

theorem l_markValS (l : List S107) (k : Int) (hl : l.length ≤ 2000000) (hk : 0 ≤ k ∧ k ≤ 100000000) : ∃ r0 : Int, ∃ q0 : List S107, (q0.length = l.length ∧ r0 = k + 2 * l.length ∧ Upto (mkVal k) (fun n => q0[n]?) l.length) ∧ Fn Try.prog 111 [rV 0, iV k] (lookH [(0, some (.row 2 107 (l.map d107) false true))]) (iV r0) (lookH [(0, some (.row 2 107 (q0.map d107) false true))]) := by
 have key : ∃ x' h', ((fun x' h' => ∃ r0 : Int, ∃ q0 : List S107, (q0.length = l.length ∧ r0 = k + 2 * l.length ∧ Upto (mkVal k) (fun n => q0[n]?) l.length) ∧ x' = iV r0 ∧ h' = [(0, some (.row 2 107 (q0.map d107) false true))])) x' h' ∧ Fn Try.prog 111 [rV 0, iV k] (lookH [(0, some (.row 2 107 (l.map d107) false true))]) x' (lookH h') := by
  refine Fn.bodyX (N := 28) hτ Try.func111 rfl rfl rfl rfl ?_
  refine X.seq ?_
  refine X.rk ⟨[(0, rV 0), (1, iV k)], [(0, some (.row 2 107 (l.map d107) false true))], 80⟩ hτ hmix (by kernel_rfl) (by kernel_rfl) rfl ?_
  refine X.seq ?_
  refine X.seq ?_
  refine X.rk ⟨[(0, rV 0), (1, iV k), (5, iV 0)], [(0, some (.row 2 107 (l.map d107) false true))], 96⟩ hτ hmix (by kernel_rfl) (by kernel_rfl) rfl ?_
  refine X.block ?_
  -- 2: L0 : List S107, v1 : Int, v5 : Int
  refine X.loop (σ := { g : (List S107) × Int × Int // (fun (L0 : List S107) (v1 : Int) (v5 : Int) => 0 ≤ v5 ∧ v5 ≤ l.length ∧ v1 = k + 2 * v5 ∧ L0.length = l.length ∧ Upto (mkVal k) (fun n => L0[n]?) v5) g.1 g.2.1 g.2.2 }) (fun g => (fun (L0 : List S107) (v1 : Int) (v5 : Int) => ⟨[(0, rV 0), (1, iV v1), (5, iV v5)], [(0, some (.row 2 107 (L0.map d107) false true))], 96⟩) g.1.1 g.1.2.1 g.1.2.2) (fun g => (fun (L0 : List S107) (v1 : Int) (v5 : Int) => (l.length - v5).toNat) g.1.1 g.1.2.1 g.1.2.2) ⟨(l, k, 0), ⟨by first | omega | (dsimp only; omega), by first | omega | (dsimp only; omega), by first | omega | (dsimp only; omega), rfl, upto_zero⟩⟩ (Wk.less (by kernel_rfl)) (fun g => ?_)
  obtain ⟨⟨L0, v1, v5⟩, hg2⟩ := g
  have hg2 : 0 ≤ v5 ∧ v5 ≤ l.length ∧ v1 = k + 2 * v5 ∧ L0.length = l.length ∧ Upto (mkVal k) (fun n => L0[n]?) v5 := hg2
  obtain ⟨_, _, _, hL, hA⟩ := hg2
  refine X.seq ?_
  refine X.seq ?_
  have hlb : (l.map d107).length = l.length := List.length_map ..
  have el3 : (L0.map d107).length = L0.length := List.length_map ..
  refine X.rk ⟨[(0, rV 0), (1, iV v1), (5, iV v5), (9, bV (decide ((v5 : Int) < ((L0.map d107).length : Int))))], [(0, some (.row 2 107 (L0.map d107) false true))], 160⟩ hτ hmix (by kernel_rfl) (by kernel_rfl) rfl ?_
  refine X.if_ (b := decide ((v5 : Int) < ((L0.map d107).length : Int))) (by kernel_rfl) (fun hb4 => ?_) (fun hb4 => ?_)
  ·replace hb4 := of_decide_eq_true (hb4)
   refine X.skip ?_
   refine X.seq ?_
   refine X.block ?_
   refine X.seq ?_
   refine X.rs 3 hτ hmix (by kernel_rfl) ?_
   obtain ⟨r5, hr7, hf6⟩ := l_markText v1 (by omega)
   replace hr7 := hr7.symm; subst hr7
   refine CH.call hf6 Try.func63 ⟨rfl, rfl⟩ [] (by kernel_rfl) (by kernel_rfl) (by kernel_rfl) (by kernel_rfl) ?_
   refine CH.idxR hτ (rows := (L0.map d107)) (n := v5) (b := 0) (by kernel_rfl) (by kernel_rfl) (by first | omega | (simp; done) | (simp; omega)) (by simp only [List.length_map, List.length_set]; first | omega | (simp; done) | (simp; omega)) (by kernel_rfl) ?_
   refine CH.go 1 hτ (by kernel_rfl) ?_
   obtain ⟨x9, hx9⟩ : ∃ x, L0[Int.toNat v5]? = some x := ⟨_, List.getElem?_eq_getElem (by first | omega | (simp; done) | (simp; omega))⟩
   refine CH.row hτ (d107 x9) (by kernel_rfl) (by kernel_rfl) (by rw [List.getElem?_map, hx9]; rfl) (by kernel_rfl) ?_
   refine CH.endk ⟨[(0, rV 0), (1, iV v1), (5, iV v5)], [(0, some (.row 2 107 ((L0.map d107).set (Int.toNat v5) (d107 (⟨(mt v1), x9.f1⟩ : S107))) false true))], 272⟩ (by kernel_rfl) (by kernel_rfl) (s2 := ⟨[(0, rV 0), (1, iV v1), (5, iV v5)], [(0, some (.row 2 107 ((L0.set (Int.toNat v5) (⟨(mt v1), x9.f1⟩ : S107)).map d107) false true))], 272⟩) (congrArg (fun z : List (List D) => (⟨[(0, rV 0), (1, iV v1), (5, iV v5)], [(0, some (.row 2 107 z false true))], 272⟩ : St)) (show ((L0.map d107).set (Int.toNat v5) (d107 (⟨(mt v1), x9.f1⟩ : S107))) = ((L0.set (Int.toNat v5) (⟨(mt v1), x9.f1⟩ : S107)).map d107) from List.map_set.symm)) ?_
   refine X.seq ?_
   refine X.rk ⟨[(0, rV 0), (1, iV (wrap64 (v1 + 1))), (5, iV v5)], [(0, some (.row 2 107 ((L0.set (Int.toNat v5) (⟨(mt v1), x9.f1⟩ : S107)).map d107) false true))], 320⟩ hτ hmix (by kernel_rfl) (by kernel_rfl) (s2 := ⟨[(0, rV 0), (1, iV (v1 + 1)), (5, iV v5)], [(0, some (.row 2 107 ((L0.set (Int.toNat v5) (⟨(mt v1), x9.f1⟩ : S107)).map d107) false true))], 320⟩) (congrArg (fun z : Int => (⟨[(0, rV 0), (1, iV z), (5, iV v5)], [(0, some (.row 2 107 ((L0.set (Int.toNat v5) (⟨(mt v1), x9.f1⟩ : S107)).map d107) false true))], 320⟩ : St)) (show wrap64 (v1 + 1) = (v1 + 1) by rw [w64 (n := (v1 + 1)) (by omega) (by omega)])) ?_
   refine X.seq ?_
   refine X.rs 3 hτ hmix (by kernel_rfl) ?_
   refine CH.idxR hτ (rows := ((L0.set (Int.toNat v5) (⟨(mt v1), x9.f1⟩ : S107)).map d107)) (n := v5) (b := 0) (by kernel_rfl) (by kernel_rfl) (by first | omega | (simp; done) | (simp; omega)) (by simp only [List.length_map, List.length_set]; first | omega | (simp; done) | (simp; omega)) (by kernel_rfl) ?_
   refine CH.go 1 hτ (by kernel_rfl) ?_
   obtain ⟨x10, hx10⟩ : ∃ x, (L0.set (Int.toNat v5) (⟨(mt v1), x9.f1⟩ : S107))[Int.toNat v5]? = some x := ⟨_, List.getElem?_eq_getElem (by first | omega | (simp; done) | (simp; omega))⟩
   have qhx10 := set_get hx10
   refine CH.row hτ (d107 x10) (by kernel_rfl) (by kernel_rfl) (by rw [List.getElem?_map, hx10]; rfl) (by kernel_rfl) ?_
   refine CH.endk ⟨[(0, rV 0), (1, iV (v1 + 1)), (5, iV v5)], [(0, some (.row 2 107 (((L0.set (Int.toNat v5) (⟨(mt v1), x9.f1⟩ : S107)).map d107).set (Int.toNat v5) (d107 (⟨x10.f0, (v1 + 1)⟩ : S107))) false true))], 416⟩ (by kernel_rfl) (by kernel_rfl) (s2 := ⟨[(0, rV 0), (1, iV (v1 + 1)), (5, iV v5)], [(0, some (.row 2 107 (((L0.set (Int.toNat v5) (⟨(mt v1), x9.f1⟩ : S107)).set (Int.toNat v5) (⟨x10.f0, (v1 + 1)⟩ : S107)).map d107) false true))], 416⟩) (congrArg (fun z : List (List D) => (⟨[(0, rV 0), (1, iV (v1 + 1)), (5, iV v5)], [(0, some (.row 2 107 z false true))], 416⟩ : St)) (show (((L0.set (Int.toNat v5) (⟨(mt v1), x9.f1⟩ : S107)).map d107).set (Int.toNat v5) (d107 (⟨x10.f0, (v1 + 1)⟩ : S107))) = (((L0.set (Int.toNat v5) (⟨(mt v1), x9.f1⟩ : S107)).set (Int.toNat v5) (⟨x10.f0, (v1 + 1)⟩ : S107)).map d107) from List.map_set.symm)) ?_
   refine X.rk ⟨[(0, rV 0), (1, iV (wrap64 ((v1 + 1) + 1))), (5, iV v5)], [(0, some (.row 2 107 (((L0.set (Int.toNat v5) (⟨(mt v1), x9.f1⟩ : S107)).set (Int.toNat v5) (⟨x10.f0, (v1 + 1)⟩ : S107)).map d107) false true))], 464⟩ hτ hmix (by kernel_rfl) (by kernel_rfl) (s2 := ⟨[(0, rV 0), (1, iV ((v1 + 1) + 1)), (5, iV v5)], [(0, some (.row 2 107 (((L0.set (Int.toNat v5) (⟨(mt v1), x9.f1⟩ : S107)).set (Int.toNat v5) (⟨x10.f0, (v1 + 1)⟩ : S107)).map d107) false true))], 464⟩) (congrArg (fun z : Int => (⟨[(0, rV 0), (1, iV z), (5, iV v5)], [(0, some (.row 2 107 (((L0.set (Int.toNat v5) (⟨(mt v1), x9.f1⟩ : S107)).set (Int.toNat v5) (⟨x10.f0, (v1 + 1)⟩ : S107)).map d107) false true))], 464⟩ : St)) (show wrap64 ((v1 + 1) + 1) = ((v1 + 1) + 1) by rw [w64 (n := ((v1 + 1) + 1)) (by omega) (by omega)])) ?_
   refine X.rk ⟨[(0, rV 0), (1, iV ((v1 + 1) + 1)), (5, iV (wrap64 (v5 + 1)))], [(0, some (.row 2 107 (((L0.set (Int.toNat v5) (⟨(mt v1), x9.f1⟩ : S107)).set (Int.toNat v5) (⟨x10.f0, (v1 + 1)⟩ : S107)).map d107) false true))], 512⟩ hτ hmix (by kernel_rfl) (by kernel_rfl) (s2 := ⟨[(0, rV 0), (1, iV ((v1 + 1) + 1)), (5, iV (v5 + 1))], [(0, some (.row 2 107 (((L0.set (Int.toNat v5) (⟨(mt v1), x9.f1⟩ : S107)).set (Int.toNat v5) (⟨x10.f0, (v1 + 1)⟩ : S107)).map d107) false true))], 512⟩) (congrArg (fun z : Int => (⟨[(0, rV 0), (1, iV ((v1 + 1) + 1)), (5, iV z)], [(0, some (.row 2 107 (((L0.set (Int.toNat v5) (⟨(mt v1), x9.f1⟩ : S107)).set (Int.toNat v5) (⟨x10.f0, (v1 + 1)⟩ : S107)).map d107) false true))], 512⟩ : St)) (show wrap64 (v5 + 1) = (v5 + 1) by rw [w64 (n := (v5 + 1)) (by omega) (by omega)])) ?_
   refine ⟨⟨(((L0.set (Int.toNat v5) (⟨(mt v1), x9.f1⟩ : S107)).set (Int.toNat v5) (⟨x10.f0, (v1 + 1)⟩ : S107)), ((v1 + 1) + 1), (v5 + 1)), ⟨by first | omega | (dsimp only; omega), by first | omega | (dsimp only; omega), by first | omega | (dsimp only; omega), by simp only [List.length_set]; omega, by (try simp only [List.set_set]); exact set_all hA (by first | omega | (dsimp only; omega)) (by subst_vars; exact ⟨rfl, by dsimp only⟩)⟩⟩, by first | exact rfl | omega | (dsimp only; omega) | (simp only [List.length_append, List.length_cons, List.length_nil, List.length_set]; omega) | (simp; done) | (simp; omega), Wk.mk' [] (by kernel_rfl) (by kernel_rfl) (by kernel_rfl)⟩
  ·replace hb4 := of_decide_eq_false (hb4)
   refine X.exit ?_
   refine X.seq ?_
   refine X.rk ⟨[(4, iV v1)], [(0, some (.row 2 107 (L0.map d107) false true))], 192⟩ hτ hmix (by kernel_rfl) (by kernel_rfl) rfl ?_
   refine X.ret ?_
   exact ⟨trivial, _, _, ⟨v1, L0, ⟨hL, by omega, upto_all hA (by omega)⟩, rfl, rfl⟩, .inl (Ret.mk' [] (by kernel_rfl) (by kernel_rfl) (by kernel_rfl))⟩
 obtain ⟨_, _, ⟨r0, q0, h1_, rfl, rfl⟩, hf⟩ := key
 exact ⟨r0, q0, h1_, hf⟩

theorem l_heldStringS (l : List ByteArray) (k : Int) (hl : l.length ≤ 2000000) (hk : 0 ≤ k ∧ k ≤ 100000000) : ∃ r0 : Int, ((-1 ≤ r0 ∧ r0 ≤ k + l.length) ∧ (Upto (mkStr k) (fun n => l[n]?) l.length → r0 = k + l.length)) ∧ Fn Try.prog 172 [lV (l.map dS), iV k] (lookH []) (iV r0) (lookH []) := by
 have key : ∃ x' h', ((fun x' h' => ∃ r0 : Int, ((-1 ≤ r0 ∧ r0 ≤ k + l.length) ∧ (Upto (mkStr k) (fun n => l[n]?) l.length → r0 = k + l.length)) ∧ x' = iV r0 ∧ h' = [])) x' h' ∧ Fn Try.prog 172 [lV (l.map dS), iV k] (lookH []) x' (lookH h') := by
  refine Fn.bodyX (N := 22) hτ Try.func172 rfl rfl rfl rfl ?_
  refine X.seq ?_
  refine X.rk ⟨[(0, lV (l.map dS)), (1, iV k)], [], 80⟩ hτ hmix (by kernel_rfl) (by kernel_rfl) rfl ?_
  refine X.seq ?_
  refine X.seq ?_
  refine X.rk ⟨[(0, lV (l.map dS)), (1, iV k), (5, iV 0)], [], 96⟩ hτ hmix (by kernel_rfl) (by kernel_rfl) rfl ?_
  refine X.block ?_
  -- 2: v1 : Int, v5 : Int
  refine X.loop (σ := { g : Int × Int // (fun (v1 : Int) (v5 : Int) => 0 ≤ v5 ∧ v5 ≤ l.length ∧ v1 = k + 1 * v5) g.1 g.2 }) (fun g => (fun (v1 : Int) (v5 : Int) => ⟨[(0, lV (l.map dS)), (1, iV v1), (5, iV v5)], [], 96⟩) g.1.1 g.1.2) (fun g => (fun (v1 : Int) (v5 : Int) => (l.length - v5).toNat) g.1.1 g.1.2) ⟨(k, 0), ⟨by first | omega | (dsimp only; omega), by first | omega | (dsimp only; omega), by first | omega | (dsimp only; omega)⟩⟩ (Wk.less (by kernel_rfl)) (fun g => ?_)
  obtain ⟨⟨v1, v5⟩, hg2⟩ := g
  have hg2 : 0 ≤ v5 ∧ v5 ≤ l.length ∧ v1 = k + 1 * v5 := hg2
  obtain ⟨_, _, _⟩ := hg2
  refine X.seq ?_
  refine X.seq ?_
  have el3 : (l.map dS).length = l.length := List.length_map ..
  refine X.rk ⟨[(0, lV (l.map dS)), (1, iV v1), (5, iV v5), (9, bV (decide ((v5 : Int) < ((l.map dS).length : Int))))], [], 160⟩ hτ hmix (by kernel_rfl) (by kernel_rfl) rfl ?_
  refine X.if_ (b := decide ((v5 : Int) < ((l.map dS).length : Int))) (by kernel_rfl) (fun hb4 => ?_) (fun hb4 => ?_)
  ·replace hb4 := of_decide_eq_true (hb4)
   refine X.skip ?_
   refine X.seq ?_
   refine X.block ?_
   refine X.seq ?_
   refine X.seq ?_
   refine X.rs 2 hτ hmix (by kernel_rfl) ?_
   obtain ⟨x5, hx5⟩ : ∃ x, l[Int.toNat v5]? = some x := ⟨_, List.getElem?_eq_getElem (by first | omega | (simp; done) | (simp; omega))⟩
   refine CH.idx hτ (dS x5) (rows := (l.map dS)) (n := v5) (sz := 1) (by kernel_rfl) (by kernel_rfl) (by first | omega | (simp; done) | (simp; omega)) (by rw [List.getElem?_map, hx5]; rfl) (by kernel_rfl) ?_
   refine CH.go 2 hτ (by kernel_rfl) ?_
   obtain ⟨r6, hr8, hf7⟩ := l_markText v1 (by omega)
   replace hr8 := hr8.symm; subst hr8
   refine CH.call hf7 Try.func63 ⟨rfl, rfl⟩ [] (by kernel_rfl) (by kernel_rfl) (by kernel_rfl) (by kernel_rfl) ?_
   refine CH.go 1 hτ (by kernel_rfl) ?_
   refine CH.endk ⟨[(0, lV (l.map dS)), (1, iV v1), (5, iV v5), (18, bV (!(x5.toList == (mt v1).toList)))], [], 272⟩ (by kernel_rfl) (by kernel_rfl) rfl ?_
   refine X.if_ (b := !(x5.toList == (mt v1).toList)) (by kernel_rfl) (fun hb10 => ?_) (fun hb10 => ?_)
   ·replace hb10 := beq_no (bnot_yes (hb10))
    refine X.seq ?_
    refine X.rk ⟨[(4, iV (-1))], [], 288⟩ hτ hmix (by kernel_rfl) (by kernel_rfl) rfl ?_
    refine X.ret ?_
    exact ⟨trivial, _, _, ⟨(-1), ⟨by omega, (fun hM => by first | omega | (have hq := hM _ _ (by omega) (by omega) (‹l[_]? = some _›); exfalso; exact ‹¬ _› (by rw [show _ = mt _ from hq]; congr 2; omega)))⟩, rfl, rfl⟩, .inl (Ret.mk' [] (by kernel_rfl) (by kernel_rfl) (by kernel_rfl))⟩
   ·replace hb10 := beq_yes (bnot_no (hb10))
    refine X.skip ?_
    refine X.rk ⟨[(0, lV (l.map dS)), (1, iV (wrap64 (v1 + 1))), (5, iV v5)], [], 320⟩ hτ hmix (by kernel_rfl) (by kernel_rfl) (s2 := ⟨[(0, lV (l.map dS)), (1, iV (v1 + 1)), (5, iV v5)], [], 320⟩) (congrArg (fun z : Int => (⟨[(0, lV (l.map dS)), (1, iV z), (5, iV v5)], [], 320⟩ : St)) (show wrap64 (v1 + 1) = (v1 + 1) by rw [w64 (n := (v1 + 1)) (by omega) (by omega)])) ?_
    refine X.rk ⟨[(0, lV (l.map dS)), (1, iV (v1 + 1)), (5, iV (wrap64 (v5 + 1)))], [], 368⟩ hτ hmix (by kernel_rfl) (by kernel_rfl) (s2 := ⟨[(0, lV (l.map dS)), (1, iV (v1 + 1)), (5, iV (v5 + 1))], [], 368⟩) (congrArg (fun z : Int => (⟨[(0, lV (l.map dS)), (1, iV (v1 + 1)), (5, iV z)], [], 368⟩ : St)) (show wrap64 (v5 + 1) = (v5 + 1) by rw [w64 (n := (v5 + 1)) (by omega) (by omega)])) ?_
    refine ⟨⟨((v1 + 1), (v5 + 1)), ⟨by first | omega | (dsimp only; omega), by first | omega | (dsimp only; omega), by first | omega | (dsimp only; omega)⟩⟩, by first | exact rfl | omega | (dsimp only; omega) | (simp only [List.length_append, List.length_cons, List.length_nil, List.length_set]; omega) | (simp; done) | (simp; omega), Wk.mk' [] (by kernel_rfl) (by kernel_rfl) (by kernel_rfl)⟩
  ·replace hb4 := of_decide_eq_false (hb4)
   refine X.exit ?_
   refine X.seq ?_
   refine X.rk ⟨[(4, iV v1)], [], 192⟩ hτ hmix (by kernel_rfl) (by kernel_rfl) rfl ?_
   refine X.ret ?_
   exact ⟨trivial, _, _, ⟨v1, ⟨by omega, (fun hM => by first | omega | (have hq := hM _ _ (by omega) (by omega) (‹l[_]? = some _›); exfalso; exact ‹¬ _› (by rw [show _ = mt _ from hq]; congr 2; omega)))⟩, rfl, rfl⟩, .inl (Ret.mk' [] (by kernel_rfl) (by kernel_rfl) (by kernel_rfl))⟩
 obtain ⟨_, _, ⟨r0, h1_, rfl, rfl⟩, hf⟩ := key
 exact ⟨r0, h1_, hf⟩

theorem l_heldIntS (l : List Int) (k : Int) (hl : l.length ≤ 2000000) (hk : 0 ≤ k ∧ k ≤ 100000000) : ∃ r0 : Int, ((-1 ≤ r0 ∧ r0 ≤ k + l.length) ∧ (Upto (mkInt k) (fun n => l[n]?) l.length → r0 = k + l.length)) ∧ Fn Try.prog 173 [lV (l.map dI), iV k] (lookH []) (iV r0) (lookH []) := by
 have key : ∃ x' h', ((fun x' h' => ∃ r0 : Int, ((-1 ≤ r0 ∧ r0 ≤ k + l.length) ∧ (Upto (mkInt k) (fun n => l[n]?) l.length → r0 = k + l.length)) ∧ x' = iV r0 ∧ h' = [])) x' h' ∧ Fn Try.prog 173 [lV (l.map dI), iV k] (lookH []) x' (lookH h') := by
  refine Fn.bodyX (N := 21) hτ Try.func173 rfl rfl rfl rfl ?_
  refine X.seq ?_
  refine X.rk ⟨[(0, lV (l.map dI)), (1, iV k)], [], 80⟩ hτ hmix (by kernel_rfl) (by kernel_rfl) rfl ?_
  refine X.seq ?_
  refine X.seq ?_
  refine X.rk ⟨[(0, lV (l.map dI)), (1, iV k), (5, iV 0)], [], 96⟩ hτ hmix (by kernel_rfl) (by kernel_rfl) rfl ?_
  refine X.block ?_
  -- 2: v1 : Int, v5 : Int
  refine X.loop (σ := { g : Int × Int // (fun (v1 : Int) (v5 : Int) => 0 ≤ v5 ∧ v5 ≤ l.length ∧ v1 = k + 1 * v5) g.1 g.2 }) (fun g => (fun (v1 : Int) (v5 : Int) => ⟨[(0, lV (l.map dI)), (1, iV v1), (5, iV v5)], [], 96⟩) g.1.1 g.1.2) (fun g => (fun (v1 : Int) (v5 : Int) => (l.length - v5).toNat) g.1.1 g.1.2) ⟨(k, 0), ⟨by first | omega | (dsimp only; omega), by first | omega | (dsimp only; omega), by first | omega | (dsimp only; omega)⟩⟩ (Wk.less (by kernel_rfl)) (fun g => ?_)
  obtain ⟨⟨v1, v5⟩, hg2⟩ := g
  have hg2 : 0 ≤ v5 ∧ v5 ≤ l.length ∧ v1 = k + 1 * v5 := hg2
  obtain ⟨_, _, _⟩ := hg2
  refine X.seq ?_
  refine X.seq ?_
  have el3 : (l.map dI).length = l.length := List.length_map ..
  refine X.rk ⟨[(0, lV (l.map dI)), (1, iV v1), (5, iV v5), (9, bV (decide ((v5 : Int) < ((l.map dI).length : Int))))], [], 160⟩ hτ hmix (by kernel_rfl) (by kernel_rfl) rfl ?_
  refine X.if_ (b := decide ((v5 : Int) < ((l.map dI).length : Int))) (by kernel_rfl) (fun hb4 => ?_) (fun hb4 => ?_)
  ·replace hb4 := of_decide_eq_true (hb4)
   refine X.skip ?_
   refine X.seq ?_
   refine X.block ?_
   refine X.seq ?_
   refine X.seq ?_
   refine X.rs 2 hτ hmix (by kernel_rfl) ?_
   obtain ⟨x5, hx5⟩ : ∃ x, l[Int.toNat v5]? = some x := ⟨_, List.getElem?_eq_getElem (by first | omega | (simp; done) | (simp; omega))⟩
   refine CH.idx hτ (dI x5) (rows := (l.map dI)) (n := v5) (sz := 1) (by kernel_rfl) (by kernel_rfl) (by first | omega | (simp; done) | (simp; omega)) (by rw [List.getElem?_map, hx5]; rfl) (by kernel_rfl) ?_
   refine CH.go 3 hτ (by kernel_rfl) ?_
   refine CH.endk ⟨[(0, lV (l.map dI)), (1, iV v1), (5, iV v5), (17, bV (x5 != v1))], [], 256⟩ (by kernel_rfl) (by kernel_rfl) rfl ?_
   refine X.if_ (b := (x5 != v1)) (by kernel_rfl) (fun hb6 => ?_) (fun hb6 => ?_)
   ·replace hb6 := bne_iff_ne.1 (hb6)
    refine X.seq ?_
    refine X.rk ⟨[(4, iV (-1))], [], 272⟩ hτ hmix (by kernel_rfl) (by kernel_rfl) rfl ?_
    refine X.ret ?_
    exact ⟨trivial, _, _, ⟨(-1), ⟨by omega, (fun hM => by first | omega | (have hq := hM _ _ (by omega) (by omega) (‹l[_]? = some _›); exfalso; have hq2 : _ = k + _ := hq; omega))⟩, rfl, rfl⟩, .inl (Ret.mk' [] (by kernel_rfl) (by kernel_rfl) (by kernel_rfl))⟩
   ·replace hb6 := bne_eq_false_iff_eq.1 (hb6)
    refine X.skip ?_
    refine X.rk ⟨[(0, lV (l.map dI)), (1, iV (wrap64 (v1 + 1))), (5, iV v5)], [], 304⟩ hτ hmix (by kernel_rfl) (by kernel_rfl) (s2 := ⟨[(0, lV (l.map dI)), (1, iV (v1 + 1)), (5, iV v5)], [], 304⟩) (congrArg (fun z : Int => (⟨[(0, lV (l.map dI)), (1, iV z), (5, iV v5)], [], 304⟩ : St)) (show wrap64 (v1 + 1) = (v1 + 1) by rw [w64 (n := (v1 + 1)) (by omega) (by omega)])) ?_
    refine X.rk ⟨[(0, lV (l.map dI)), (1, iV (v1 + 1)), (5, iV (wrap64 (v5 + 1)))], [], 352⟩ hτ hmix (by kernel_rfl) (by kernel_rfl) (s2 := ⟨[(0, lV (l.map dI)), (1, iV (v1 + 1)), (5, iV (v5 + 1))], [], 352⟩) (congrArg (fun z : Int => (⟨[(0, lV (l.map dI)), (1, iV (v1 + 1)), (5, iV z)], [], 352⟩ : St)) (show wrap64 (v5 + 1) = (v5 + 1) by rw [w64 (n := (v5 + 1)) (by omega) (by omega)])) ?_
    refine ⟨⟨((v1 + 1), (v5 + 1)), ⟨by first | omega | (dsimp only; omega), by first | omega | (dsimp only; omega), by first | omega | (dsimp only; omega)⟩⟩, by first | exact rfl | omega | (dsimp only; omega) | (simp only [List.length_append, List.length_cons, List.length_nil, List.length_set]; omega) | (simp; done) | (simp; omega), Wk.mk' [] (by kernel_rfl) (by kernel_rfl) (by kernel_rfl)⟩
  ·replace hb4 := of_decide_eq_false (hb4)
   refine X.exit ?_
   refine X.seq ?_
   refine X.rk ⟨[(4, iV v1)], [], 192⟩ hτ hmix (by kernel_rfl) (by kernel_rfl) rfl ?_
   refine X.ret ?_
   exact ⟨trivial, _, _, ⟨v1, ⟨by omega, (fun hM => by first | omega | (have hq := hM _ _ (by omega) (by omega) (‹l[_]? = some _›); exfalso; have hq2 : _ = k + _ := hq; omega))⟩, rfl, rfl⟩, .inl (Ret.mk' [] (by kernel_rfl) (by kernel_rfl) (by kernel_rfl))⟩
 obtain ⟨_, _, ⟨r0, h1_, rfl, rfl⟩, hf⟩ := key
 exact ⟨r0, h1_, hf⟩

theorem l_heldValS (l : List S107) (k : Int) (hl : l.length ≤ 2000000) (hk : 0 ≤ k ∧ k ≤ 100000000) : ∃ r0 : Int, ((-1 ≤ r0 ∧ r0 ≤ k + 2 * l.length) ∧ (Upto (mkVal k) (fun n => l[n]?) l.length → r0 = k + 2 * l.length)) ∧ Fn Try.prog 114 [lV (l.map d107), iV k] (lookH []) (iV r0) (lookH []) := by
 have key : ∃ x' h', ((fun x' h' => ∃ r0 : Int, ((-1 ≤ r0 ∧ r0 ≤ k + 2 * l.length) ∧ (Upto (mkVal k) (fun n => l[n]?) l.length → r0 = k + 2 * l.length)) ∧ x' = iV r0 ∧ h' = [])) x' h' ∧ Fn Try.prog 114 [lV (l.map d107), iV k] (lookH []) x' (lookH h') := by
  refine Fn.bodyX (N := 32) hτ Try.func114 rfl rfl rfl rfl ?_
  refine X.seq ?_
  refine X.rk ⟨[(0, lV (l.map d107)), (1, iV k)], [], 80⟩ hτ hmix (by kernel_rfl) (by kernel_rfl) rfl ?_
  refine X.seq ?_
  refine X.seq ?_
  refine X.rk ⟨[(0, lV (l.map d107)), (1, iV k), (5, iV 0)], [], 96⟩ hτ hmix (by kernel_rfl) (by kernel_rfl) rfl ?_
  refine X.block ?_
  -- 2: v1 : Int, v5 : Int
  refine X.loop (σ := { g : Int × Int // (fun (v1 : Int) (v5 : Int) => 0 ≤ v5 ∧ v5 ≤ l.length ∧ v1 = k + 2 * v5) g.1 g.2 }) (fun g => (fun (v1 : Int) (v5 : Int) => ⟨[(0, lV (l.map d107)), (1, iV v1), (5, iV v5)], [], 96⟩) g.1.1 g.1.2) (fun g => (fun (v1 : Int) (v5 : Int) => (l.length - v5).toNat) g.1.1 g.1.2) ⟨(k, 0), ⟨by first | omega | (dsimp only; omega), by first | omega | (dsimp only; omega), by first | omega | (dsimp only; omega)⟩⟩ (Wk.less (by kernel_rfl)) (fun g => ?_)
  obtain ⟨⟨v1, v5⟩, hg2⟩ := g
  have hg2 : 0 ≤ v5 ∧ v5 ≤ l.length ∧ v1 = k + 2 * v5 := hg2
  obtain ⟨_, _, _⟩ := hg2
  refine X.seq ?_
  refine X.seq ?_
  have el3 : (l.map d107).length = l.length := List.length_map ..
  refine X.rk ⟨[(0, lV (l.map d107)), (1, iV v1), (5, iV v5), (9, bV (decide ((v5 : Int) < ((l.map d107).length : Int))))], [], 160⟩ hτ hmix (by kernel_rfl) (by kernel_rfl) rfl ?_
  refine X.if_ (b := decide ((v5 : Int) < ((l.map d107).length : Int))) (by kernel_rfl) (fun hb4 => ?_) (fun hb4 => ?_)
  ·replace hb4 := of_decide_eq_true (hb4)
   refine X.skip ?_
   refine X.seq ?_
   refine X.block ?_
   refine X.seq ?_
   refine X.seq ?_
   refine X.rs 2 hτ hmix (by kernel_rfl) ?_
   obtain ⟨x5, hx5⟩ : ∃ x, l[Int.toNat v5]? = some x := ⟨_, List.getElem?_eq_getElem (by first | omega | (simp; done) | (simp; omega))⟩
   refine CH.idx hτ (d107 x5) (rows := (l.map d107)) (n := v5) (sz := 2) (by kernel_rfl) (by kernel_rfl) (by first | omega | (simp; done) | (simp; omega)) (by rw [List.getElem?_map, hx5]; rfl) (by kernel_rfl) ?_
   refine CH.go 3 hτ (by kernel_rfl) ?_
   obtain ⟨r6, hr8, hf7⟩ := l_markText v1 (by omega)
   replace hr8 := hr8.symm; subst hr8
   refine CH.call hf7 Try.func63 ⟨rfl, rfl⟩ [] (by kernel_rfl) (by kernel_rfl) (by kernel_rfl) (by kernel_rfl) ?_
   refine CH.go 1 hτ (by kernel_rfl) ?_
   refine CH.endk ⟨[(0, lV (l.map d107)), (1, iV v1), (5, iV v5), (19, bV (!(x5.f0.toList == (mt v1).toList)))], [], 288⟩ (by kernel_rfl) (by kernel_rfl) rfl ?_
   refine X.if_ (b := !(x5.f0.toList == (mt v1).toList)) (by kernel_rfl) (fun hb10 => ?_) (fun hb10 => ?_)
   ·replace hb10 := beq_no (bnot_yes (hb10))
    refine X.seq ?_
    refine X.rk ⟨[(4, iV (-1))], [], 304⟩ hτ hmix (by kernel_rfl) (by kernel_rfl) rfl ?_
    refine X.ret ?_
    exact ⟨trivial, _, _, ⟨(-1), ⟨by omega, (fun hM => by first | omega | (have hq := hM _ _ (by omega) (by omega) (‹l[_]? = some _›); exfalso; first | (have := hq.2; omega) | (exact ‹¬ _› (by rw [hq.1]; congr 2; omega))))⟩, rfl, rfl⟩, .inl (Ret.mk' [] (by kernel_rfl) (by kernel_rfl) (by kernel_rfl))⟩
   ·replace hb10 := beq_yes (bnot_no (hb10))
    refine X.skip ?_
    refine X.seq ?_
    refine X.rk ⟨[(0, lV (l.map d107)), (1, iV (wrap64 (v1 + 1))), (5, iV v5)], [], 336⟩ hτ hmix (by kernel_rfl) (by kernel_rfl) (s2 := ⟨[(0, lV (l.map d107)), (1, iV (v1 + 1)), (5, iV v5)], [], 336⟩) (congrArg (fun z : Int => (⟨[(0, lV (l.map d107)), (1, iV z), (5, iV v5)], [], 336⟩ : St)) (show wrap64 (v1 + 1) = (v1 + 1) by rw [w64 (n := (v1 + 1)) (by omega) (by omega)])) ?_
    refine X.seq ?_
    refine X.seq ?_
    refine X.rs 2 hτ hmix (by kernel_rfl) ?_
    refine CH.idx hτ (d107 x5) (rows := (l.map d107)) (n := v5) (sz := 2) (by kernel_rfl) (by kernel_rfl) (by first | omega | (simp; done) | (simp; omega)) (by rw [List.getElem?_map, hx5]; rfl) (by kernel_rfl) ?_
    refine CH.go 4 hτ (by kernel_rfl) ?_
    refine CH.endk ⟨[(0, lV (l.map d107)), (1, iV (v1 + 1)), (5, iV v5), (28, bV (x5.f1 != (v1 + 1)))], [], 448⟩ (by kernel_rfl) (by kernel_rfl) rfl ?_
    refine X.if_ (b := (x5.f1 != (v1 + 1))) (by kernel_rfl) (fun hb11 => ?_) (fun hb11 => ?_)
    ·replace hb11 := bne_iff_ne.1 (hb11)
     refine X.seq ?_
     refine X.rk ⟨[(4, iV (-1))], [], 464⟩ hτ hmix (by kernel_rfl) (by kernel_rfl) rfl ?_
     refine X.ret ?_
     exact ⟨trivial, _, _, ⟨(-1), ⟨by omega, (fun hM => by first | omega | (have hq := hM _ _ (by omega) (by omega) (‹l[_]? = some _›); exfalso; first | (have := hq.2; omega) | (exact ‹¬ _› (by rw [hq.1]; congr 2; omega))))⟩, rfl, rfl⟩, .inl (Ret.mk' [] (by kernel_rfl) (by kernel_rfl) (by kernel_rfl))⟩
    ·replace hb11 := bne_eq_false_iff_eq.1 (hb11)
     refine X.skip ?_
     refine X.rk ⟨[(0, lV (l.map d107)), (1, iV (wrap64 ((v1 + 1) + 1))), (5, iV v5)], [], 496⟩ hτ hmix (by kernel_rfl) (by kernel_rfl) (s2 := ⟨[(0, lV (l.map d107)), (1, iV ((v1 + 1) + 1)), (5, iV v5)], [], 496⟩) (congrArg (fun z : Int => (⟨[(0, lV (l.map d107)), (1, iV z), (5, iV v5)], [], 496⟩ : St)) (show wrap64 ((v1 + 1) + 1) = ((v1 + 1) + 1) by rw [w64 (n := ((v1 + 1) + 1)) (by omega) (by omega)])) ?_
     refine X.rk ⟨[(0, lV (l.map d107)), (1, iV ((v1 + 1) + 1)), (5, iV (wrap64 (v5 + 1)))], [], 544⟩ hτ hmix (by kernel_rfl) (by kernel_rfl) (s2 := ⟨[(0, lV (l.map d107)), (1, iV ((v1 + 1) + 1)), (5, iV (v5 + 1))], [], 544⟩) (congrArg (fun z : Int => (⟨[(0, lV (l.map d107)), (1, iV ((v1 + 1) + 1)), (5, iV z)], [], 544⟩ : St)) (show wrap64 (v5 + 1) = (v5 + 1) by rw [w64 (n := (v5 + 1)) (by omega) (by omega)])) ?_
     refine ⟨⟨(((v1 + 1) + 1), (v5 + 1)), ⟨by first | omega | (dsimp only; omega), by first | omega | (dsimp only; omega), by first | omega | (dsimp only; omega)⟩⟩, by first | exact rfl | omega | (dsimp only; omega) | (simp only [List.length_append, List.length_cons, List.length_nil, List.length_set]; omega) | (simp; done) | (simp; omega), Wk.mk' [] (by kernel_rfl) (by kernel_rfl) (by kernel_rfl)⟩
  ·replace hb4 := of_decide_eq_false (hb4)
   refine X.exit ?_
   refine X.seq ?_
   refine X.rk ⟨[(4, iV v1)], [], 192⟩ hτ hmix (by kernel_rfl) (by kernel_rfl) rfl ?_
   refine X.ret ?_
   exact ⟨trivial, _, _, ⟨v1, ⟨by omega, (fun hM => by first | omega | (have hq := hM _ _ (by omega) (by omega) (‹l[_]? = some _›); exfalso; first | (have := hq.2; omega) | (exact ‹¬ _› (by rw [hq.1]; congr 2; omega))))⟩, rfl, rfl⟩, .inl (Ret.mk' [] (by kernel_rfl) (by kernel_rfl) (by kernel_rfl))⟩
 obtain ⟨_, _, ⟨r0, h1_, rfl, rfl⟩, hf⟩ := key
 exact ⟨r0, h1_, hf⟩

theorem l_markQc (q : S43) (k : Int) (hl : q.f2.length ≤ 2000000) (hk : 0 ≤ k ∧ k ≤ 50000000) : ∃ r0 : Int, ∃ q0 : List ByteArray, (q0.length = q.f2.length ∧ r0 = k + q.f2.length ∧ Upto (mkStr k) (fun n => q0[n]?) q.f2.length) ∧ Fn Try.prog 109 [.e (.agg [.d (.v (.int .i64 q.f0)), .d (.v (.int .i64 q.f1)), .ref 0]), iV k] (lookH [(0, some (.row 1 9 (q.f2.map dS) false true))]) (iV r0) (lookH [(0, some (.row 1 9 (q0.map dS) false true))]) := by
 have key : ∃ x' h', ((fun x' h' => ∃ r0 : Int, ∃ q0 : List ByteArray, (q0.length = q.f2.length ∧ r0 = k + q.f2.length ∧ Upto (mkStr k) (fun n => q0[n]?) q.f2.length) ∧ x' = iV r0 ∧ h' = [(0, some (.row 1 9 (q0.map dS) false true))])) x' h' ∧ Fn Try.prog 109 [.e (.agg [.d (.v (.int .i64 q.f0)), .d (.v (.int .i64 q.f1)), .ref 0]), iV k] (lookH [(0, some (.row 1 9 (q.f2.map dS) false true))]) x' (lookH h') := by
  refine Fn.bodyX (N := 10) hτ Try.func109 rfl rfl rfl rfl ?_
  refine X.seq ?_
  refine X.rk ⟨[(1, iV k), (2, .pt 64 0 0)], [(0, some (.row 1 9 (q.f2.map dS) false true)), (64, some (.box [.d (.v (.int .i64 q.f0)), .d (.v (.int .i64 q.f1)), .ref 0]))], 96⟩ hτ hmix (by kernel_rfl) (by kernel_rfl) rfl ?_
  refine X.seq ?_
  refine X.rs 3 hτ hmix (by kernel_rfl) ?_
  obtain ⟨r1, q2, hr4, hf3⟩ := l_markStringS q.f2 k (by first | assumption | omega) (by first | assumption | omega)
  obtain ⟨hql, hqk, hqm⟩ := hr4
  refine CH.callB hf3 Try.func170 ⟨rfl, rfl⟩ 0 1 9 (q.f2.map dS) true 9 (q2.map dS) (by kernel_rfl) (by kernel_rfl) (by kernel_rfl) (by kernel_rfl) (by kernel_rfl) (by first | (simp; done) | (simp; omega)) (by kernel_rfl) ?_
  refine CH.go 1 hτ (by kernel_rfl) ?_
  refine CH.endk ⟨[(1, iV r1)], [(0, some (.row 1 9 (q2.map dS) false true))], 176⟩ (by kernel_rfl) (by kernel_rfl) rfl ?_
  refine X.seq ?_
  refine X.rk ⟨[(4, iV r1)], [(0, some (.row 1 9 (q2.map dS) false true))], 208⟩ hτ hmix (by kernel_rfl) (by kernel_rfl) rfl ?_
  refine X.ret ?_
  exact ⟨trivial, _, _, ⟨r1, q2, ⟨hql, by omega, hqm⟩, rfl, rfl⟩, .inl (Ret.mk' [] (by kernel_rfl) (by kernel_rfl) (by kernel_rfl))⟩
 obtain ⟨_, _, ⟨r0, q0, h1_, rfl, rfl⟩, hf⟩ := key
 exact ⟨r0, q0, h1_, hf⟩

theorem l_markTc (t : S46) (k : Int) (hl : t.f1.length ≤ 2000000) (hl2 : t.f2.length ≤ 2000000) (hk : 0 ≤ k ∧ k ≤ 50000000) : ∃ r0 : Int, ∃ q0 : List ByteArray, ∃ q1 : List Int, (q0.length = t.f1.length ∧ q1.length = t.f2.length ∧ r0 = k + t.f1.length + t.f2.length ∧ Upto (mkStr k) (fun n => q0[n]?) t.f1.length ∧ Upto (mkInt (k + t.f1.length)) (fun n => q1[n]?) t.f2.length) ∧ Fn Try.prog 110 [.e (.agg [.d (.v (.int .i64 t.f0)), .ref 0, .ref 1]), iV k] (lookH [(0, some (.row 1 9 (t.f1.map dS) false true)), (1, some (.row 1 3 (t.f2.map dI) false true))]) (iV r0) (lookH [(0, some (.row 1 9 (q0.map dS) false true)), (1, some (.row 1 3 (q1.map dI) false true))]) := by
 have key : ∃ x' h', ((fun x' h' => ∃ r0 : Int, ∃ q0 : List ByteArray, ∃ q1 : List Int, (q0.length = t.f1.length ∧ q1.length = t.f2.length ∧ r0 = k + t.f1.length + t.f2.length ∧ Upto (mkStr k) (fun n => q0[n]?) t.f1.length ∧ Upto (mkInt (k + t.f1.length)) (fun n => q1[n]?) t.f2.length) ∧ x' = iV r0 ∧ h' = [(0, some (.row 1 9 (q0.map dS) false true)), (1, some (.row 1 3 (q1.map dI) false true))])) x' h' ∧ Fn Try.prog 110 [.e (.agg [.d (.v (.int .i64 t.f0)), .ref 0, .ref 1]), iV k] (lookH [(0, some (.row 1 9 (t.f1.map dS) false true)), (1, some (.row 1 3 (t.f2.map dI) false true))]) x' (lookH h') := by
  refine Fn.bodyX (N := 14) hτ Try.func110 rfl rfl rfl rfl ?_
  refine X.seq ?_
  refine X.rk ⟨[(1, iV k), (2, .pt 64 0 0)], [(0, some (.row 1 9 (t.f1.map dS) false true)), (1, some (.row 1 3 (t.f2.map dI) false true)), (64, some (.box [.d (.v (.int .i64 t.f0)), .ref 0, .ref 1]))], 96⟩ hτ hmix (by kernel_rfl) (by kernel_rfl) rfl ?_
  refine X.seq ?_
  refine X.rs 3 hτ hmix (by kernel_rfl) ?_
  obtain ⟨r1, q2, hr4, hf3⟩ := l_markStringS t.f1 k (by first | assumption | omega) (by first | assumption | omega)
  obtain ⟨hql, hqk, hqm⟩ := hr4
  refine CH.callB hf3 Try.func170 ⟨rfl, rfl⟩ 0 1 9 (t.f1.map dS) true 9 (q2.map dS) (by kernel_rfl) (by kernel_rfl) (by kernel_rfl) (by kernel_rfl) (by kernel_rfl) (by first | (simp; done) | (simp; omega)) (by kernel_rfl) ?_
  refine CH.go 1 hτ (by kernel_rfl) ?_
  refine CH.endk ⟨[(1, iV r1), (2, .pt 64 0 0)], [(0, some (.row 1 9 (q2.map dS) false true)), (1, some (.row 1 3 (t.f2.map dI) false true)), (64, some (.box [.d (.v (.int .i64 t.f0)), .ref 0, .ref 1]))], 176⟩ (by kernel_rfl) (by kernel_rfl) rfl ?_
  refine X.seq ?_
  have e1 := hql
  have e2 := hqk
  have e3 := hqm
  refine X.rs 3 hτ hmix (by kernel_rfl) ?_
  obtain ⟨r5, q6, hr8, hf7⟩ := l_markIntS t.f2 r1 (by first | assumption | omega) (by first | assumption | omega)
  obtain ⟨hql, hqk, hqm⟩ := hr8
  refine CH.callB hf7 Try.func171 ⟨rfl, rfl⟩ 1 1 3 (t.f2.map dI) true 3 (q6.map dI) (by kernel_rfl) (by kernel_rfl) (by kernel_rfl) (by kernel_rfl) (by kernel_rfl) (by first | (simp; done) | (simp; omega)) (by kernel_rfl) ?_
  refine CH.go 1 hτ (by kernel_rfl) ?_
  refine CH.endk ⟨[(1, iV r5)], [(0, some (.row 1 9 (q2.map dS) false true)), (1, some (.row 1 3 (q6.map dI) false true))], 256⟩ (by kernel_rfl) (by kernel_rfl) rfl ?_
  refine X.seq ?_
  refine X.rk ⟨[(4, iV r5)], [(0, some (.row 1 9 (q2.map dS) false true)), (1, some (.row 1 3 (q6.map dI) false true))], 288⟩ hτ hmix (by kernel_rfl) (by kernel_rfl) rfl ?_
  refine X.ret ?_
  exact ⟨trivial, _, _, ⟨r5, q2, q6, ⟨e1, hql, by omega, e3, by rw [← e2]; exact hqm⟩, rfl, rfl⟩, .inl (Ret.mk' [] (by kernel_rfl) (by kernel_rfl) (by kernel_rfl))⟩
 obtain ⟨_, _, ⟨r0, q0, q1, h1_, rfl, rfl⟩, hf⟩ := key
 exact ⟨r0, q0, q1, h1_, hf⟩

theorem l_markBlock (b : S49) (k : Int) (hb : Sm49 b) (hk : 0 ≤ k ∧ k ≤ 1000) : ∃ r0 : Int, ∃ q0 : List ByteArray, ∃ q1 : List ByteArray, ∃ q2 : List Int, ∃ q3 : List S26, ∃ q4 : List S107, (q0.length = b.f4.f2.length ∧ q1.length = b.f5.f1.length ∧ q2.length = b.f5.f2.length ∧ q3.length = b.f6.length ∧ q4.length = b.f8.length ∧ r0 = k + b.f4.f2.length + b.f5.f1.length + b.f5.f2.length + 5 * b.f6.length + 2 * b.f8.length ∧ Upto (mkStr k) (fun n => q0[n]?) b.f4.f2.length ∧ Upto (mkStr (k + b.f4.f2.length)) (fun n => q1[n]?) b.f5.f1.length ∧ Upto (mkInt (k + b.f4.f2.length + b.f5.f1.length)) (fun n => q2[n]?) b.f5.f2.length ∧ Upto (mkTx (k + b.f4.f2.length + b.f5.f1.length + b.f5.f2.length)) (fun n => q3[n]?) b.f6.length ∧ Upto (mkVal (k + b.f4.f2.length + b.f5.f1.length + b.f5.f2.length + 5 * b.f6.length)) (fun n => q4[n]?) b.f8.length) ∧ Fn Try.prog 46 [.e (.agg [.d (.v (.int .i64 b.f0)), .d (.v (.int .i64 b.f1)), .d (.v (.int .i64 b.f2)), .d (.v (.string b.f3)), .d (.v (.int .i64 b.f4.f0)), .d (.v (.int .i64 b.f4.f1)), .ref 0, .d (.v (.int .i64 b.f5.f0)), .ref 1, .ref 2, .ref 3, .d (.v (.bool b.f7)), .ref 4, .d (.v (.string b.f9))]), iV k] (lookH [(0, some (.row 1 9 (b.f4.f2.map dS) false true)), (1, some (.row 1 9 (b.f5.f1.map dS) false true)), (2, some (.row 1 3 (b.f5.f2.map dI) false true)), (3, some (.row 5 26 (b.f6.map d26) false true)), (4, some (.row 2 107 (b.f8.map d107) false true))]) (iV r0) (lookH [(0, some (.row 1 9 (q0.map dS) false true)), (1, some (.row 1 9 (q1.map dS) false true)), (2, some (.row 1 3 (q2.map dI) false true)), (3, some (.row 5 26 (q3.map d26) false true)), (4, some (.row 2 107 (q4.map d107) false true))]) := by
 have key : ∃ x' h', ((fun x' h' => ∃ r0 : Int, ∃ q0 : List ByteArray, ∃ q1 : List ByteArray, ∃ q2 : List Int, ∃ q3 : List S26, ∃ q4 : List S107, (q0.length = b.f4.f2.length ∧ q1.length = b.f5.f1.length ∧ q2.length = b.f5.f2.length ∧ q3.length = b.f6.length ∧ q4.length = b.f8.length ∧ r0 = k + b.f4.f2.length + b.f5.f1.length + b.f5.f2.length + 5 * b.f6.length + 2 * b.f8.length ∧ Upto (mkStr k) (fun n => q0[n]?) b.f4.f2.length ∧ Upto (mkStr (k + b.f4.f2.length)) (fun n => q1[n]?) b.f5.f1.length ∧ Upto (mkInt (k + b.f4.f2.length + b.f5.f1.length)) (fun n => q2[n]?) b.f5.f2.length ∧ Upto (mkTx (k + b.f4.f2.length + b.f5.f1.length + b.f5.f2.length)) (fun n => q3[n]?) b.f6.length ∧ Upto (mkVal (k + b.f4.f2.length + b.f5.f1.length + b.f5.f2.length + 5 * b.f6.length)) (fun n => q4[n]?) b.f8.length) ∧ x' = iV r0 ∧ h' = [(0, some (.row 1 9 (q0.map dS) false true)), (1, some (.row 1 9 (q1.map dS) false true)), (2, some (.row 1 3 (q2.map dI) false true)), (3, some (.row 5 26 (q3.map d26) false true)), (4, some (.row 2 107 (q4.map d107) false true))])) x' h' ∧ Fn Try.prog 46 [.e (.agg [.d (.v (.int .i64 b.f0)), .d (.v (.int .i64 b.f1)), .d (.v (.int .i64 b.f2)), .d (.v (.string b.f3)), .d (.v (.int .i64 b.f4.f0)), .d (.v (.int .i64 b.f4.f1)), .ref 0, .d (.v (.int .i64 b.f5.f0)), .ref 1, .ref 2, .ref 3, .d (.v (.bool b.f7)), .ref 4, .d (.v (.string b.f9))]), iV k] (lookH [(0, some (.row 1 9 (b.f4.f2.map dS) false true)), (1, some (.row 1 9 (b.f5.f1.map dS) false true)), (2, some (.row 1 3 (b.f5.f2.map dI) false true)), (3, some (.row 5 26 (b.f6.map d26) false true)), (4, some (.row 2 107 (b.f8.map d107) false true))]) x' (lookH h') := by
  refine Fn.bodyX (N := 22) hτ Try.func46 rfl rfl rfl rfl ?_
  refine X.seq ?_
  refine X.rk ⟨[(1, iV k), (2, .pt 64 0 0)], [(0, some (.row 1 9 (b.f4.f2.map dS) false true)), (1, some (.row 1 9 (b.f5.f1.map dS) false true)), (2, some (.row 1 3 (b.f5.f2.map dI) false true)), (3, some (.row 5 26 (b.f6.map d26) false true)), (4, some (.row 2 107 (b.f8.map d107) false true)), (64, some (.box [.d (.v (.int .i64 b.f0)), .d (.v (.int .i64 b.f1)), .d (.v (.int .i64 b.f2)), .d (.v (.string b.f3)), .d (.v (.int .i64 b.f4.f0)), .d (.v (.int .i64 b.f4.f1)), .ref 0, .d (.v (.int .i64 b.f5.f0)), .ref 1, .ref 2, .ref 3, .d (.v (.bool b.f7)), .ref 4, .d (.v (.string b.f9))]))], 96⟩ hτ hmix (by kernel_rfl) (by kernel_rfl) rfl ?_
  refine X.seq ?_
  obtain ⟨_, hbq, ⟨⟨hbt1, _⟩, hbt2⟩, ⟨hbx, _⟩, ⟨hbv, _⟩, _⟩ := hb
  have hbq1 := hbq.1
  refine X.rs 3 hτ hmix (by kernel_rfl) ?_
  obtain ⟨r1, q2, hr4, hf3⟩ := l_markQc b.f4 k (by first | assumption | omega) (by first | assumption | omega)
  obtain ⟨hl0, hk0, hm0⟩ := hr4
  refine CH.callB hf3 Try.func109 ⟨rfl, rfl⟩ 0 1 9 (b.f4.f2.map dS) true 9 (q2.map dS) (by kernel_rfl) (by kernel_rfl) (by kernel_rfl) (by kernel_rfl) (by kernel_rfl) (by first | (simp; done) | (simp; omega)) (by kernel_rfl) ?_
  refine CH.go 1 hτ (by kernel_rfl) ?_
  refine CH.endk ⟨[(1, iV r1), (2, .pt 64 0 0)], [(0, some (.row 1 9 (q2.map dS) false true)), (1, some (.row 1 9 (b.f5.f1.map dS) false true)), (2, some (.row 1 3 (b.f5.f2.map dI) false true)), (3, some (.row 5 26 (b.f6.map d26) false true)), (4, some (.row 2 107 (b.f8.map d107) false true)), (64, some (.box [.d (.v (.int .i64 b.f0)), .d (.v (.int .i64 b.f1)), .d (.v (.int .i64 b.f2)), .d (.v (.string b.f3)), .d (.v (.int .i64 b.f4.f0)), .d (.v (.int .i64 b.f4.f1)), .ref 0, .d (.v (.int .i64 b.f5.f0)), .ref 1, .ref 2, .ref 3, .d (.v (.bool b.f7)), .ref 4, .d (.v (.string b.f9))]))], 176⟩ (by kernel_rfl) (by kernel_rfl) rfl ?_
  refine X.seq ?_
  refine X.rs 3 hτ hmix (by kernel_rfl) ?_
  obtain ⟨r5, q6, q7, hr9, hf8⟩ := l_markTc b.f5 r1 (by first | assumption | omega) (by first | assumption | omega) (by first | assumption | omega)
  obtain ⟨hl1, hl2, hk1, hm1, hm2⟩ := hr9
  refine CH.callG hf8 Try.func110 ⟨rfl, rfl⟩ [(1, 0), (2, 1)] (by kernel_rfl) (by kernel_rfl) (by kernel_rfl) (nb := true) (fun _ => (back_cons 1 9 (b.f5.f1.map dS) true 9 (q6.map dS) (by kernel_rfl) (by kernel_rfl) (by first | (simp; done) | (simp; omega)) (back_cons 1 3 (b.f5.f2.map dI) true 3 (q7.map dI) (by kernel_rfl) (by kernel_rfl) (by first | (simp; done) | (simp; omega)) back_nil))) (by kernel_rfl) ?_
  refine CH.go 1 hτ (by kernel_rfl) ?_
  refine CH.endk ⟨[(1, iV r5), (2, .pt 64 0 0)], [(0, some (.row 1 9 (q2.map dS) false true)), (1, some (.row 1 9 (q6.map dS) false true)), (2, some (.row 1 3 (q7.map dI) false true)), (3, some (.row 5 26 (b.f6.map d26) false true)), (4, some (.row 2 107 (b.f8.map d107) false true)), (64, some (.box [.d (.v (.int .i64 b.f0)), .d (.v (.int .i64 b.f1)), .d (.v (.int .i64 b.f2)), .d (.v (.string b.f3)), .d (.v (.int .i64 b.f4.f0)), .d (.v (.int .i64 b.f4.f1)), .ref 0, .d (.v (.int .i64 b.f5.f0)), .ref 1, .ref 2, .ref 3, .d (.v (.bool b.f7)), .ref 4, .d (.v (.string b.f9))]))], 256⟩ (by kernel_rfl) (by kernel_rfl) rfl ?_
  refine X.seq ?_
  have e0 := hk0
  have e1 := hk1
  refine X.rs 3 hτ hmix (by kernel_rfl) ?_
  obtain ⟨r10, q11, hr13, hf12⟩ := l_markTxS b.f6 r5 (by first | assumption | omega) (by omega)
  obtain ⟨hql, hqk, hqm⟩ := hr13
  refine CH.callB hf12 Try.func20 ⟨rfl, rfl⟩ 3 5 26 (b.f6.map d26) true 26 (q11.map d26) (by kernel_rfl) (by kernel_rfl) (by kernel_rfl) (by kernel_rfl) (by kernel_rfl) (by first | (simp; done) | (simp; omega)) (by kernel_rfl) ?_
  refine CH.go 1 hτ (by kernel_rfl) ?_
  refine CH.endk ⟨[(1, iV r10), (2, .pt 64 0 0)], [(0, some (.row 1 9 (q2.map dS) false true)), (1, some (.row 1 9 (q6.map dS) false true)), (2, some (.row 1 3 (q7.map dI) false true)), (3, some (.row 5 26 (q11.map d26) false true)), (4, some (.row 2 107 (b.f8.map d107) false true)), (64, some (.box [.d (.v (.int .i64 b.f0)), .d (.v (.int .i64 b.f1)), .d (.v (.int .i64 b.f2)), .d (.v (.string b.f3)), .d (.v (.int .i64 b.f4.f0)), .d (.v (.int .i64 b.f4.f1)), .ref 0, .d (.v (.int .i64 b.f5.f0)), .ref 1, .ref 2, .ref 3, .d (.v (.bool b.f7)), .ref 4, .d (.v (.string b.f9))]))], 336⟩ (by kernel_rfl) (by kernel_rfl) rfl ?_
  refine X.seq ?_
  have e2 := hql
  have e3 := hqk
  have e4 := hqm
  refine X.rs 3 hτ hmix (by kernel_rfl) ?_
  obtain ⟨r14, q15, hr17, hf16⟩ := l_markValS b.f8 r10 (by first | assumption | omega) (by first | assumption | omega)
  obtain ⟨hql, hqk, hqm⟩ := hr17
  refine CH.callB hf16 Try.func111 ⟨rfl, rfl⟩ 4 2 107 (b.f8.map d107) true 107 (q15.map d107) (by kernel_rfl) (by kernel_rfl) (by kernel_rfl) (by kernel_rfl) (by kernel_rfl) (by first | (simp; done) | (simp; omega)) (by kernel_rfl) ?_
  refine CH.go 1 hτ (by kernel_rfl) ?_
  refine CH.endk ⟨[(1, iV r14)], [(0, some (.row 1 9 (q2.map dS) false true)), (1, some (.row 1 9 (q6.map dS) false true)), (2, some (.row 1 3 (q7.map dI) false true)), (3, some (.row 5 26 (q11.map d26) false true)), (4, some (.row 2 107 (q15.map d107) false true))], 416⟩ (by kernel_rfl) (by kernel_rfl) rfl ?_
  refine X.seq ?_
  refine X.rk ⟨[(4, iV r14)], [(0, some (.row 1 9 (q2.map dS) false true)), (1, some (.row 1 9 (q6.map dS) false true)), (2, some (.row 1 3 (q7.map dI) false true)), (3, some (.row 5 26 (q11.map d26) false true)), (4, some (.row 2 107 (q15.map d107) false true))], 448⟩ hτ hmix (by kernel_rfl) (by kernel_rfl) rfl ?_
  refine X.ret ?_
  exact ⟨trivial, _, _, ⟨r14, q2, q6, q7, q11, q15, ⟨hl0, hl1, hl2, e2, hql, by omega, hm0, by rw [← e0]; exact hm1, by rw [← e0]; exact hm2, by rw [← e0, ← e1]; exact e4, by rw [← e0, ← e1, ← e3]; exact hqm⟩, rfl, rfl⟩, .inl (Ret.mk' [] (by kernel_rfl) (by kernel_rfl) (by kernel_rfl))⟩
 obtain ⟨_, _, ⟨r0, q0, q1, q2, q3, q4, h1_, rfl, rfl⟩, hf⟩ := key
 exact ⟨r0, q0, q1, q2, q3, q4, h1_, hf⟩

theorem l_heldQc (q : S43) (k : Int) (hl : q.f2.length ≤ 2000000) (hk : 0 ≤ k ∧ k ≤ 50000000) : ∃ r0 : Int, ((-1 ≤ r0 ∧ r0 ≤ k + q.f2.length) ∧ (mkQ k q → r0 = k + q.f2.length)) ∧ Fn Try.prog 112 [.e (.agg (cD (d43 q))), iV k] (lookH []) (iV r0) (lookH []) := by
 have key : ∃ x' h', ((fun x' h' => ∃ r0 : Int, ((-1 ≤ r0 ∧ r0 ≤ k + q.f2.length) ∧ (mkQ k q → r0 = k + q.f2.length)) ∧ x' = iV r0 ∧ h' = [])) x' h' ∧ Fn Try.prog 112 [.e (.agg (cD (d43 q))), iV k] (lookH []) x' (lookH h') := by
  refine Fn.bodyX (N := 12) hτ Try.func112 rfl rfl rfl rfl ?_
  refine X.seq ?_
  refine X.rk ⟨[(1, iV k), (2, .pt 64 0 0)], [(64, some (.box (cD (d43 q))))], 96⟩ hτ hmix (by kernel_rfl) (by kernel_rfl) rfl ?_
  refine X.seq ?_
  refine X.rs 3 hτ hmix (by kernel_rfl) ?_
  obtain ⟨r1, hr3, hf2⟩ := l_heldStringS q.f2 k (by first | assumption | omega) (by first | assumption | omega)
  obtain ⟨hhb, hhd⟩ := hr3
  refine CH.call hf2 Try.func172 ⟨rfl, rfl⟩ [] (by kernel_rfl) (by kernel_rfl) (by kernel_rfl) (by kernel_rfl) ?_
  refine CH.go 1 hτ (by kernel_rfl) ?_
  refine CH.endk ⟨[(1, iV r1)], [], 176⟩ (by kernel_rfl) (by kernel_rfl) rfl ?_
  refine X.seq ?_
  refine X.seq ?_
  refine X.rk ⟨[(1, iV r1), (10, bV (decide ((r1 : Int) < 0)))], [], 208⟩ hτ hmix (by kernel_rfl) (by kernel_rfl) rfl ?_
  refine X.if_ (b := decide ((r1 : Int) < 0)) (by kernel_rfl) (fun hb4 => ?_) (fun hb4 => ?_)
  ·replace hb4 := of_decide_eq_true (hb4)
   refine X.seq ?_
   refine X.rk ⟨[(4, iV (-1))], [], 224⟩ hτ hmix (by kernel_rfl) (by kernel_rfl) rfl ?_
   refine X.ret ?_
   exact ⟨trivial, _, _, ⟨(-1), ⟨by omega, (fun hM => by have := hhd hM; omega)⟩, rfl, rfl⟩, .inl (Ret.mk' [] (by kernel_rfl) (by kernel_rfl) (by kernel_rfl))⟩
  ·replace hb4 := of_decide_eq_false (hb4)
   refine X.skip ?_
   refine X.seq ?_
   refine X.rk ⟨[(4, iV r1)], [], 240⟩ hτ hmix (by kernel_rfl) (by kernel_rfl) rfl ?_
   refine X.ret ?_
   exact ⟨trivial, _, _, ⟨r1, ⟨by omega, (fun hM => by have := hhd hM; omega)⟩, rfl, rfl⟩, .inl (Ret.mk' [] (by kernel_rfl) (by kernel_rfl) (by kernel_rfl))⟩
 obtain ⟨_, _, ⟨r0, h1_, rfl, rfl⟩, hf⟩ := key
 exact ⟨r0, h1_, hf⟩

theorem l_heldTc (t : S46) (k : Int) (hl : t.f1.length ≤ 2000000) (hl2 : t.f2.length ≤ 2000000) (hk : 0 ≤ k ∧ k ≤ 50000000) : ∃ r0 : Int, ((-1 ≤ r0 ∧ r0 ≤ k + t.f1.length + t.f2.length) ∧ (mkT k t → r0 = k + t.f1.length + t.f2.length)) ∧ Fn Try.prog 113 [.e (.agg (cD (d46 t))), iV k] (lookH []) (iV r0) (lookH []) := by
 have key : ∃ x' h', ((fun x' h' => ∃ r0 : Int, ((-1 ≤ r0 ∧ r0 ≤ k + t.f1.length + t.f2.length) ∧ (mkT k t → r0 = k + t.f1.length + t.f2.length)) ∧ x' = iV r0 ∧ h' = [])) x' h' ∧ Fn Try.prog 113 [.e (.agg (cD (d46 t))), iV k] (lookH []) x' (lookH h') := by
  refine Fn.bodyX (N := 18) hτ Try.func113 rfl rfl rfl rfl ?_
  refine X.seq ?_
  refine X.rk ⟨[(1, iV k), (2, .pt 64 0 0)], [(64, some (.box (cD (d46 t))))], 96⟩ hτ hmix (by kernel_rfl) (by kernel_rfl) rfl ?_
  refine X.seq ?_
  refine X.rs 3 hτ hmix (by kernel_rfl) ?_
  obtain ⟨r1, hr3, hf2⟩ := l_heldStringS t.f1 k (by first | assumption | omega) (by first | assumption | omega)
  obtain ⟨hhb, hhd⟩ := hr3
  refine CH.call hf2 Try.func172 ⟨rfl, rfl⟩ [] (by kernel_rfl) (by kernel_rfl) (by kernel_rfl) (by kernel_rfl) ?_
  refine CH.go 1 hτ (by kernel_rfl) ?_
  refine CH.endk ⟨[(1, iV r1), (2, .pt 64 0 0)], [(64, some (.box (cD (d46 t))))], 176⟩ (by kernel_rfl) (by kernel_rfl) rfl ?_
  refine X.seq ?_
  refine X.seq ?_
  have g1 := hhd
  refine X.rk ⟨[(1, iV r1), (2, .pt 64 0 0), (10, bV (decide ((r1 : Int) < 0)))], [(64, some (.box (cD (d46 t))))], 208⟩ hτ hmix (by kernel_rfl) (by kernel_rfl) rfl ?_
  refine X.if_ (b := decide ((r1 : Int) < 0)) (by kernel_rfl) (fun hb4 => ?_) (fun hb4 => ?_)
  ·replace hb4 := of_decide_eq_true (hb4)
   refine X.seq ?_
   refine X.rk ⟨[(4, iV (-1))], [], 224⟩ hτ hmix (by kernel_rfl) (by kernel_rfl) rfl ?_
   refine X.ret ?_
   exact ⟨trivial, _, _, ⟨(-1), (by first | exact ⟨by omega, fun hM => by have e1 := g1 hM.1; exfalso; omega⟩ | exact ⟨by omega, fun hM => by have e1 := g1 hM.1; have e2 := hhd (by rw [e1]; exact hM.2); omega⟩), rfl, rfl⟩, .inl (Ret.mk' [] (by kernel_rfl) (by kernel_rfl) (by kernel_rfl))⟩
  ·replace hb4 := of_decide_eq_false (hb4)
   refine X.skip ?_
   refine X.seq ?_
   refine X.rs 3 hτ hmix (by kernel_rfl) ?_
   obtain ⟨r5, hr7, hf6⟩ := l_heldIntS t.f2 r1 (by first | assumption | omega) (by first | assumption | omega)
   obtain ⟨hhb, hhd⟩ := hr7
   refine CH.call hf6 Try.func173 ⟨rfl, rfl⟩ [] (by kernel_rfl) (by kernel_rfl) (by kernel_rfl) (by kernel_rfl) ?_
   refine CH.go 1 hτ (by kernel_rfl) ?_
   refine CH.endk ⟨[(1, iV r5)], [], 288⟩ (by kernel_rfl) (by kernel_rfl) rfl ?_
   refine X.seq ?_
   refine X.seq ?_
   refine X.rk ⟨[(1, iV r5), (16, bV (decide ((r5 : Int) < 0)))], [], 320⟩ hτ hmix (by kernel_rfl) (by kernel_rfl) rfl ?_
   refine X.if_ (b := decide ((r5 : Int) < 0)) (by kernel_rfl) (fun hb8 => ?_) (fun hb8 => ?_)
   ·replace hb8 := of_decide_eq_true (hb8)
    refine X.seq ?_
    refine X.rk ⟨[(4, iV (-1))], [], 336⟩ hτ hmix (by kernel_rfl) (by kernel_rfl) rfl ?_
    refine X.ret ?_
    exact ⟨trivial, _, _, ⟨(-1), (by first | exact ⟨by omega, fun hM => by have e1 := g1 hM.1; exfalso; omega⟩ | exact ⟨by omega, fun hM => by have e1 := g1 hM.1; have e2 := hhd (by rw [e1]; exact hM.2); omega⟩), rfl, rfl⟩, .inl (Ret.mk' [] (by kernel_rfl) (by kernel_rfl) (by kernel_rfl))⟩
   ·replace hb8 := of_decide_eq_false (hb8)
    refine X.skip ?_
    refine X.seq ?_
    refine X.rk ⟨[(4, iV r5)], [], 352⟩ hτ hmix (by kernel_rfl) (by kernel_rfl) rfl ?_
    refine X.ret ?_
    exact ⟨trivial, _, _, ⟨r5, (by first | exact ⟨by omega, fun hM => by have e1 := g1 hM.1; exfalso; omega⟩ | exact ⟨by omega, fun hM => by have e1 := g1 hM.1; have e2 := hhd (by rw [e1]; exact hM.2); omega⟩), rfl, rfl⟩, .inl (Ret.mk' [] (by kernel_rfl) (by kernel_rfl) (by kernel_rfl))⟩
 obtain ⟨_, _, ⟨r0, h1_, rfl, rfl⟩, hf⟩ := key
 exact ⟨r0, h1_, hf⟩

theorem l_heldBlock (b : S49) (k : Int) (hbq1 : b.f4.f2.length ≤ 2000000) (hbt1 : b.f5.f1.length ≤ 2000000) (hbt2 : b.f5.f2.length ≤ 2000000) (hbx : b.f6.length ≤ 2000000) (hbv : b.f8.length ≤ 2000000) (hk : 0 ≤ k ∧ k ≤ 1000) : ∃ r0 : Int, ((-1 ≤ r0) ∧ (mkB k b → r0 = k + b.f4.f2.length + b.f5.f1.length + b.f5.f2.length + 5 * b.f6.length + 2 * b.f8.length)) ∧ Fn Try.prog 47 [.e (.agg (cD (d49 b))), iV k] (lookH []) (iV r0) (lookH []) := by
 have key : ∃ x' h', ((fun x' h' => ∃ r0 : Int, ((-1 ≤ r0) ∧ (mkB k b → r0 = k + b.f4.f2.length + b.f5.f1.length + b.f5.f2.length + 5 * b.f6.length + 2 * b.f8.length)) ∧ x' = iV r0 ∧ h' = [])) x' h' ∧ Fn Try.prog 47 [.e (.agg (cD (d49 b))), iV k] (lookH []) x' (lookH h') := by
  refine Fn.bodyX (N := 30) hτ Try.func47 rfl rfl rfl rfl ?_
  refine X.seq ?_
  refine X.rk ⟨[(1, iV k), (2, .pt 64 0 0)], [(64, some (.box (cD (d49 b))))], 96⟩ hτ hmix (by kernel_rfl) (by kernel_rfl) rfl ?_
  refine X.seq ?_
  refine X.rs 3 hτ hmix (by kernel_rfl) ?_
  obtain ⟨r1, hr3, hf2⟩ := l_heldQc b.f4 k (by first | assumption | omega) (by first | assumption | omega)
  obtain ⟨hhb, hhq⟩ := hr3
  refine CH.call hf2 Try.func112 ⟨rfl, rfl⟩ [] (by kernel_rfl) (by kernel_rfl) (by kernel_rfl) (by kernel_rfl) ?_
  refine CH.go 1 hτ (by kernel_rfl) ?_
  refine CH.endk ⟨[(1, iV r1), (2, .pt 64 0 0)], [(64, some (.box (cD (d49 b))))], 176⟩ (by kernel_rfl) (by kernel_rfl) rfl ?_
  refine X.seq ?_
  refine X.seq ?_
  have g1 := hhq
  refine X.rk ⟨[(1, iV r1), (2, .pt 64 0 0), (10, bV (decide ((r1 : Int) < 0)))], [(64, some (.box (cD (d49 b))))], 208⟩ hτ hmix (by kernel_rfl) (by kernel_rfl) rfl ?_
  refine X.if_ (b := decide ((r1 : Int) < 0)) (by kernel_rfl) (fun hb4 => ?_) (fun hb4 => ?_)
  ·replace hb4 := of_decide_eq_true (hb4)
   refine X.seq ?_
   refine X.rk ⟨[(4, iV (-1))], [], 224⟩ hτ hmix (by kernel_rfl) (by kernel_rfl) rfl ?_
   refine X.ret ?_
   exact ⟨trivial, _, _, ⟨(-1), (by first | exact ⟨by omega, fun hM => by have e1 := g1 hM.1; exfalso; omega⟩ | exact ⟨by omega, fun hM => by have e1 := g1 hM.1; have e2 := g2 (by rw [e1]; exact hM.2.1); exfalso; omega⟩ | exact ⟨by omega, fun hM => by have e1 := g1 hM.1; have e2 := g2 (by rw [e1]; exact hM.2.1); have e3 := g3 (by rw [e2, e1]; exact hM.2.2.1); exfalso; omega⟩ | exact ⟨by omega, fun hM => by have e1 := g1 hM.1; have e2 := g2 (by rw [e1]; exact hM.2.1); have e3 := g3 (by rw [e2, e1]; exact hM.2.2.1); have e4 := g4 (by rw [e3, e2, e1]; exact hM.2.2.2); omega⟩), rfl, rfl⟩, .inl (Ret.mk' [] (by kernel_rfl) (by kernel_rfl) (by kernel_rfl))⟩
  ·replace hb4 := of_decide_eq_false (hb4)
   refine X.skip ?_
   refine X.seq ?_
   refine X.rs 3 hτ hmix (by kernel_rfl) ?_
   obtain ⟨r5, hr7, hf6⟩ := l_heldTc b.f5 r1 (by first | assumption | omega) (by first | assumption | omega) (by first | assumption | omega)
   obtain ⟨hhb, hht⟩ := hr7
   refine CH.call hf6 Try.func113 ⟨rfl, rfl⟩ [] (by kernel_rfl) (by kernel_rfl) (by kernel_rfl) (by kernel_rfl) ?_
   refine CH.go 1 hτ (by kernel_rfl) ?_
   refine CH.endk ⟨[(1, iV r5), (2, .pt 64 0 0)], [(64, some (.box (cD (d49 b))))], 288⟩ (by kernel_rfl) (by kernel_rfl) rfl ?_
   refine X.seq ?_
   refine X.seq ?_
   have g2 := hht
   refine X.rk ⟨[(1, iV r5), (2, .pt 64 0 0), (16, bV (decide ((r5 : Int) < 0)))], [(64, some (.box (cD (d49 b))))], 320⟩ hτ hmix (by kernel_rfl) (by kernel_rfl) rfl ?_
   refine X.if_ (b := decide ((r5 : Int) < 0)) (by kernel_rfl) (fun hb8 => ?_) (fun hb8 => ?_)
   ·replace hb8 := of_decide_eq_true (hb8)
    refine X.seq ?_
    refine X.rk ⟨[(4, iV (-1))], [], 336⟩ hτ hmix (by kernel_rfl) (by kernel_rfl) rfl ?_
    refine X.ret ?_
    exact ⟨trivial, _, _, ⟨(-1), (by first | exact ⟨by omega, fun hM => by have e1 := g1 hM.1; exfalso; omega⟩ | exact ⟨by omega, fun hM => by have e1 := g1 hM.1; have e2 := g2 (by rw [e1]; exact hM.2.1); exfalso; omega⟩ | exact ⟨by omega, fun hM => by have e1 := g1 hM.1; have e2 := g2 (by rw [e1]; exact hM.2.1); have e3 := g3 (by rw [e2, e1]; exact hM.2.2.1); exfalso; omega⟩ | exact ⟨by omega, fun hM => by have e1 := g1 hM.1; have e2 := g2 (by rw [e1]; exact hM.2.1); have e3 := g3 (by rw [e2, e1]; exact hM.2.2.1); have e4 := g4 (by rw [e3, e2, e1]; exact hM.2.2.2); omega⟩), rfl, rfl⟩, .inl (Ret.mk' [] (by kernel_rfl) (by kernel_rfl) (by kernel_rfl))⟩
   ·replace hb8 := of_decide_eq_false (hb8)
    refine X.skip ?_
    refine X.seq ?_
    refine X.rs 3 hτ hmix (by kernel_rfl) ?_
    obtain ⟨r9, hr11, hf10⟩ := l_heldTxS b.f6 r5 (by first | assumption | omega) (by omega)
    obtain ⟨hhb, hhd⟩ := hr11
    refine CH.call hf10 Try.func21 ⟨rfl, rfl⟩ [] (by kernel_rfl) (by kernel_rfl) (by kernel_rfl) (by kernel_rfl) ?_
    refine CH.go 1 hτ (by kernel_rfl) ?_
    refine CH.endk ⟨[(1, iV r9), (2, .pt 64 0 0)], [(64, some (.box (cD (d49 b))))], 400⟩ (by kernel_rfl) (by kernel_rfl) rfl ?_
    refine X.seq ?_
    refine X.seq ?_
    have g3 := hhd
    refine X.rk ⟨[(1, iV r9), (2, .pt 64 0 0), (22, bV (decide ((r9 : Int) < 0)))], [(64, some (.box (cD (d49 b))))], 432⟩ hτ hmix (by kernel_rfl) (by kernel_rfl) rfl ?_
    refine X.if_ (b := decide ((r9 : Int) < 0)) (by kernel_rfl) (fun hb12 => ?_) (fun hb12 => ?_)
    ·replace hb12 := of_decide_eq_true (hb12)
     refine X.seq ?_
     refine X.rk ⟨[(4, iV (-1))], [], 448⟩ hτ hmix (by kernel_rfl) (by kernel_rfl) rfl ?_
     refine X.ret ?_
     exact ⟨trivial, _, _, ⟨(-1), (by first | exact ⟨by omega, fun hM => by have e1 := g1 hM.1; exfalso; omega⟩ | exact ⟨by omega, fun hM => by have e1 := g1 hM.1; have e2 := g2 (by rw [e1]; exact hM.2.1); exfalso; omega⟩ | exact ⟨by omega, fun hM => by have e1 := g1 hM.1; have e2 := g2 (by rw [e1]; exact hM.2.1); have e3 := g3 (by rw [e2, e1]; exact hM.2.2.1); exfalso; omega⟩ | exact ⟨by omega, fun hM => by have e1 := g1 hM.1; have e2 := g2 (by rw [e1]; exact hM.2.1); have e3 := g3 (by rw [e2, e1]; exact hM.2.2.1); have e4 := g4 (by rw [e3, e2, e1]; exact hM.2.2.2); omega⟩), rfl, rfl⟩, .inl (Ret.mk' [] (by kernel_rfl) (by kernel_rfl) (by kernel_rfl))⟩
    ·replace hb12 := of_decide_eq_false (hb12)
     refine X.skip ?_
     refine X.seq ?_
     refine X.rs 3 hτ hmix (by kernel_rfl) ?_
     obtain ⟨r13, hr15, hf14⟩ := l_heldValS b.f8 r9 (by first | assumption | omega) (by first | assumption | omega)
     obtain ⟨hhb, hhd⟩ := hr15
     refine CH.call hf14 Try.func114 ⟨rfl, rfl⟩ [] (by kernel_rfl) (by kernel_rfl) (by kernel_rfl) (by kernel_rfl) ?_
     refine CH.go 1 hτ (by kernel_rfl) ?_
     refine CH.endk ⟨[(1, iV r13)], [], 512⟩ (by kernel_rfl) (by kernel_rfl) rfl ?_
     refine X.seq ?_
     refine X.seq ?_
     have g4 := hhd
     refine X.rk ⟨[(1, iV r13), (28, bV (decide ((r13 : Int) < 0)))], [], 544⟩ hτ hmix (by kernel_rfl) (by kernel_rfl) rfl ?_
     refine X.if_ (b := decide ((r13 : Int) < 0)) (by kernel_rfl) (fun hb16 => ?_) (fun hb16 => ?_)
     ·replace hb16 := of_decide_eq_true (hb16)
      refine X.seq ?_
      refine X.rk ⟨[(4, iV (-1))], [], 560⟩ hτ hmix (by kernel_rfl) (by kernel_rfl) rfl ?_
      refine X.ret ?_
      exact ⟨trivial, _, _, ⟨(-1), (by first | exact ⟨by omega, fun hM => by have e1 := g1 hM.1; exfalso; omega⟩ | exact ⟨by omega, fun hM => by have e1 := g1 hM.1; have e2 := g2 (by rw [e1]; exact hM.2.1); exfalso; omega⟩ | exact ⟨by omega, fun hM => by have e1 := g1 hM.1; have e2 := g2 (by rw [e1]; exact hM.2.1); have e3 := g3 (by rw [e2, e1]; exact hM.2.2.1); exfalso; omega⟩ | exact ⟨by omega, fun hM => by have e1 := g1 hM.1; have e2 := g2 (by rw [e1]; exact hM.2.1); have e3 := g3 (by rw [e2, e1]; exact hM.2.2.1); have e4 := g4 (by rw [e3, e2, e1]; exact hM.2.2.2); omega⟩), rfl, rfl⟩, .inl (Ret.mk' [] (by kernel_rfl) (by kernel_rfl) (by kernel_rfl))⟩
     ·replace hb16 := of_decide_eq_false (hb16)
      refine X.skip ?_
      refine X.seq ?_
      refine X.rk ⟨[(4, iV r13)], [], 576⟩ hτ hmix (by kernel_rfl) (by kernel_rfl) rfl ?_
      refine X.ret ?_
      exact ⟨trivial, _, _, ⟨r13, (by first | exact ⟨by omega, fun hM => by have e1 := g1 hM.1; exfalso; omega⟩ | exact ⟨by omega, fun hM => by have e1 := g1 hM.1; have e2 := g2 (by rw [e1]; exact hM.2.1); exfalso; omega⟩ | exact ⟨by omega, fun hM => by have e1 := g1 hM.1; have e2 := g2 (by rw [e1]; exact hM.2.1); have e3 := g3 (by rw [e2, e1]; exact hM.2.2.1); exfalso; omega⟩ | exact ⟨by omega, fun hM => by have e1 := g1 hM.1; have e2 := g2 (by rw [e1]; exact hM.2.1); have e3 := g3 (by rw [e2, e1]; exact hM.2.2.1); have e4 := g4 (by rw [e3, e2, e1]; exact hM.2.2.2); omega⟩), rfl, rfl⟩, .inl (Ret.mk' [] (by kernel_rfl) (by kernel_rfl) (by kernel_rfl))⟩
 obtain ⟨_, _, ⟨r0, h1_, rfl, rfl⟩, hf⟩ := key
 exact ⟨r0, h1_, hf⟩
end Go.Proofs.Ytnieghbgcjbnhaa.Av
