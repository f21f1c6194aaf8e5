/-
What functions of the program come to, walked one by one.
Conditions: none beside those that each theorem names.
-/
import Derived.Test.YtnieghbgcjbnhaaAvG
import Derived.Test.YtnieghbgcjbnhaaAvD
set_option linter.unusedVariables false
set_option linter.unusedSimpArgs false
namespace Go.Proofs.Ytnieghbgcjbnhaa.Av
open Go.RowKit
set_option maxRecDepth 20000
set_option maxHeartbeats 4000000

theorem and1_yes {x : Int} (h : wr .i64 (BitVec.ofInt 64 x &&& BitVec.ofInt 64 1).toNat = 1) (h0 : 0 ≤ x) (h1 : x < 9223372036854775808) : x % 2 = 1 := by rw [← and1 h0 h1]; exact h
theorem and1_no {x : Int} (h : wr .i64 (BitVec.ofInt 64 x &&& BitVec.ofInt 64 1).toNat ≠ 1) (h0 : 0 ≤ x) (h1 : x < 9223372036854775808) : ¬ x % 2 = 1 := by rw [← and1 h0 h1]; exact h
theorem shr1 (x : Int) : x / 2 ^ min (Int.toNat 1) 64 = x / 2 := rfl
/-- An order, read at a place. -/
def gxR (l : List Int) (a : Int) (x : S26) (r1 : Int) (r2 : Bool) : Prop := ∀ t r, txOk t = true → 0 ≤ a → l.drop a.toNat = encTx t ++ r → r2 = true ∧ x = t ∧ l.drop r1.toNat = r
theorem tx_l {t : S26} {l r : List Int} {a : Int} (he : l.drop a.toNat = encTx t ++ r) : l.drop a.toNat = numB t.f0 ++ (textB t.f1 ++ (textB t.f2 ++ (numB t.f3 ++ (numB t.f4 ++ r)))) := by
  simpa only [encTx, List.append_assoc] using he
theorem z120_sm : Sm26 z26 := ⟨by show (0 : Nat) ≤ 2000000; omega, by show (0 : Nat) ≤ 2000000; omega⟩
theorem rd_tx {bs : List Int} {i nx : Int} {h ok : Bool} {x : S26} (hg : gxR bs i x nx ok) (hi : 0 ≤ i) : ∀ t r, txOk t = true → RS bs i h (encTx t ++ r) → RS bs nx (!ok) r ∧ x = t := fun t r ht hR => by
  obtain ⟨g1, g2, g3⟩ := hg t r ht hi hR.2
  exact ⟨⟨by rw [g1]; rfl, g3⟩, g2⟩
def encTc (t : S46) : List Int := numB t.f0 ++ (namesB t.f1 ++ t.f2.flatMap numB)
def tcB (t : S46) : Prop := (0 ≤ t.f0 ∧ t.f0 ≤ 10000) ∧ (t.f1.length ≤ 20 ∧ ∀ s, s ∈ t.f1 → s.size ≤ 8) ∧ t.f2.length = t.f1.length ∧ ∀ h, h ∈ t.f2 → 0 ≤ h ∧ h ≤ 10000
def WT (bs : List Int) (i : Int) (h : Bool) (p : S46 × List Int) : Prop := tcB p.1 ∧ RS bs i h (encTc p.1 ++ p.2)
theorem wt0 {bs : List Int} {i : Int} {h : Bool} (p : S46 × List Int) (hp : WT bs i h p) : RS bs i h (numB p.1.f0 ++ (namesB p.1.f1 ++ (p.1.f2.flatMap numB ++ p.2))) := by
  have := hp.2
  simpa only [encTc, List.append_assoc] using this
theorem tc_eq {t : S46} {a : Int} {b : List ByteArray} {c : List Int} (h0 : a = t.f0) (h1 : b = t.f1) (h2 : c = t.f2) : (⟨a, b, c⟩ : S46) = t := by subst h0 h1 h2; rfl
theorem wtc {bs : List Int} {i : Int} {h : Bool} {X : S49} (hX : BK X) (hR : RS bs i h (tl3 X)) : WT bs i h (X.f5, tl6 X) := ⟨⟨hX.t0, hX.t1, hX.t2⟩, by
  show RS bs i h (encTc X.f5 ++ tl6 X)
  have : encTc X.f5 ++ tl6 X = tl3 X := by simp only [encTc, tl3, tl4, tl5, List.append_assoc]
  rw [this]
  exact hR⟩
theorem gb_same {l : List Int} {x y : S49} {a b : Bool} (h1 : gbR l x a) (h2 : gbR l y b) : a = b := by
  cases a with
  | true => exact ((h2.2 x (h1.1 rfl).1 (h1.1 rfl).2).1).symm
  | false => cases b with
    | false => rfl
    | true =>
      have := (h1.2 y (h2.1 rfl).1 (h2.1 rfl).2).1
      cases this
theorem encTc_l (x : S46) (o : List Int) : ((o ++ numB x.f0) ++ namesB x.f1) ++ x.f2.flatMap numB = o ++ encTc x := by simp only [encTc, List.append_assoc]
def encQc (q : S43) : List Int := (numB q.f0 ++ numB q.f1) ++ namesB q.f2
theorem encTc_len {t : S46} (h : Sm46 t) : (encTc t).length ≤ 10 + 2000005 * t.f1.length + 5 * t.f2.length := by
  have h1 := (numB_len t.f0).1
  have h2 := namesB_len h.1
  have h3 := flat_le (f := numB) (l := t.f2) (c := 5) fun y _ => (numB_len y).1
  simp only [encTc, List.length_append]
  omega
theorem encQc_len {t : S43} (h : Sm43 t) : (encQc t).length ≤ 15 + 2000005 * t.f2.length := by
  have h1 := (numB_len t.f0).1
  have h2 := (numB_len t.f1).1
  have h3 := namesB_len h
  simp only [encQc, List.length_append]
  omega
def preS1 (x : S49) : List Int := (((((numB x.f0 ++ numB x.f1) ++ numB x.f2) ++ textB x.f3) ++ encQc x.f4) ++ encTc x.f5) ++ numB x.f6.length
def preS2 (x : S49) : List Int := ((preS1 x ++ x.f6.flatMap encTx) ++ numB (bit x.f7)) ++ numB x.f8.length
theorem preS_eq (x : S49) : (preS2 x ++ x.f8.flatMap encV) ++ textB x.f9 = encB x := by
  simp only [preS2, preS1, encQc, encTc, encB, preB1, preB2, preB3, List.append_assoc]
theorem mkB_eq2 {X : S49} {a0 a1 a2 : Int} {a3 : ByteArray} {b0 b1 : Int} {b2 : List ByteArray} {c : S46} {a6 : List S26} {a7 : Bool} {a8 : List S107} {a9 : ByteArray}
    (h0 : a0 = X.f0) (h1 : a1 = X.f1) (h2 : a2 = X.f2) (h3 : a3 = X.f3) (q0 : b0 = X.f4.f0) (q1 : b1 = X.f4.f1) (q2 : b2 = X.f4.f2) (t : c = X.f5) (h6 : a6 = X.f6) (h7 : a7 = X.f7) (h8 : a8 = X.f8) (h9 : a9 = X.f9) : (⟨a0, a1, a2, a3, ⟨b0, b1, b2⟩, c, a6, a7, a8, a9⟩ : S49) = X := by
  subst h0 h1 h2 h3 q0 q1 q2 t h6 h7 h8 h9
  rfl
theorem gb_bad2 {l : List Int} {x y : S49} {bad : Bool} (hl : u8s l) (hX : ∀ X, WB l 0 false X → bad = false ∧ x = X) (h1 : blockOk x = true) (h2 : (strOf (putB x)).toList ≠ (strOf l).toList) : gbR l y false := gb_bad hl hX (.inr (.inr (by rw [← putB_ok h1]; exact h2)))
theorem gb_yes2 {l : List Int} {x : S49} {bad : Bool} (hl : u8s l) (hX : ∀ X, WB l 0 false X → bad = false ∧ x = X) (h1 : blockOk x = true) (h2 : (strOf (putB x)).toList = (strOf l).toList) : gbR l x true := gb_yes hl hX h1 (by rw [← putB_ok h1]; exact h2)
theorem s_PutNum (b : List Int) (n : Int) (hb : b.length ≤ 100000000000000) : ∃ r0 : List Int, (r0 = b ++ numB n) ∧ Fn Try.prog 149 [lV (b.map dB), iV n] (lookH []) (rV 64) (lookH [(64, some (.row 1 5 (r0.map dB) false true))]) := by
 have key : ∃ x' h', ((fun x' h' => ∃ r0 : List Int, (r0 = b ++ numB n) ∧ x' = rV 64 ∧ h' = [(64, some (.row 1 5 (r0.map dB) false true))])) x' h' ∧ Fn Try.prog 149 [lV (b.map dB), iV n] (lookH []) x' (lookH h') := by
  refine Fn.bodyX (N := 37) hτ Try.func149 rfl rfl rfl rfl ?_
  refine X.seq ?_
  refine X.rk ⟨[(0, lV (b.map dB)), (1, iV n)], [], 80⟩ hτ hmix (by kernel_rfl) (by kernel_rfl) rfl ?_
  refine X.seq ?_
  refine X.rs 2 hτ hmix (by kernel_rfl) ?_
  have el1 : (b.map dB).length = b.length := List.length_map ..
  refine CH.app hτ (rows := []) (rows2 := (b.map dB)) (sz := 1) (bys := 1) true (by kernel_rfl) (by kernel_rfl) (fun _ => flat_d dB (fun x => rfl)) (flat_ok (f := dB) (fun x => rfl)) (by simp only [List.length_map] <;> (first | done | omega | (simp; done) | (simp; omega))) (by kernel_rfl) ?_
  refine CH.go 1 hτ (by kernel_rfl) ?_
  refine CH.endk ⟨[(1, iV n), (5, rV 112)], [(112, some (.row 1 5 (b.map dB) false true))], 144⟩ (by kernel_rfl) (by kernel_rfl) rfl ?_
  -- join: v1 : Int
  refine X.seqJ (σ := { g : Int // (fun (v1 : Int) => v1 = mmx false n 1000000000 ∧ True) g }) (fun g => (fun (v1 : Int) => ⟨[(1, iV v1), (5, rV 112)], [(112, some (.row 1 5 (b.map dB) false true))], 192⟩) g.1) ?_ (fun g => ?_)
  ·refine X.seq ?_
   refine X.rk ⟨[(1, iV n), (5, rV 112), (11, bV (decide ((n : Int) > 1000000000)))], [(112, some (.row 1 5 (b.map dB) false true))], 176⟩ hτ hmix (by kernel_rfl) (by kernel_rfl) rfl ?_
   refine X.if_ (b := decide ((n : Int) > 1000000000)) (by kernel_rfl) (fun hb3 => ?_) (fun hb3 => ?_)
   ·replace hb3 := of_decide_eq_true (hb3)
    refine X.rk ⟨[(1, iV 1000000000), (5, rV 112)], [(112, some (.row 1 5 (b.map dB) false true))], 192⟩ hτ hmix (by kernel_rfl) (by kernel_rfl) rfl ?_
    refine ⟨⟨1000000000, ⟨by simp only [mmx]; split <;> omega, trivial⟩⟩, Wk.mk' [(112, 112)] (by kernel_rfl) (by kernel_rfl) (by kernel_rfl)⟩
   ·replace hb3 := of_decide_eq_false (hb3)
    refine X.skip ?_
    refine ⟨⟨n, ⟨by simp only [mmx]; split <;> omega, trivial⟩⟩, Wk.mk' [(112, 112)] (by kernel_rfl) (by kernel_rfl) (by kernel_rfl)⟩
  ·obtain ⟨v1, hg2⟩ := g
   have hg2 : v1 = mmx false n 1000000000 ∧ True := hg2
   obtain ⟨hJ1, _⟩ := hg2
   -- join: v1 : Int
   refine X.seqJ (σ := { g : Int // (fun (v1 : Int) => v1 = clampN n ∧ True) g }) (fun g => (fun (v1 : Int) => ⟨[(1, iV v1), (5, rV 112)], [(112, some (.row 1 5 (b.map dB) false true))], 240⟩) g.1) ?_ (fun g => ?_)
   ·refine X.seq ?_
    refine X.rk ⟨[(1, iV v1), (5, rV 112), (13, bV (decide ((v1 : Int) < (-1000000000))))], [(112, some (.row 1 5 (b.map dB) false true))], 224⟩ hτ hmix (by kernel_rfl) (by kernel_rfl) rfl ?_
    refine X.if_ (b := decide ((v1 : Int) < (-1000000000))) (by kernel_rfl) (fun hb5 => ?_) (fun hb5 => ?_)
    ·replace hb5 := of_decide_eq_true (hb5)
     refine X.rk ⟨[(1, iV (-1000000000)), (5, rV 112)], [(112, some (.row 1 5 (b.map dB) false true))], 240⟩ hτ hmix (by kernel_rfl) (by kernel_rfl) rfl ?_
     refine ⟨⟨(-1000000000), ⟨by rw [clampN, ← hJ1]; simp only [mmx]; split <;> omega, trivial⟩⟩, Wk.mk' [(112, 112)] (by kernel_rfl) (by kernel_rfl) (by kernel_rfl)⟩
    ·replace hb5 := of_decide_eq_false (hb5)
     refine X.skip ?_
     refine ⟨⟨v1, ⟨by rw [clampN, ← hJ1]; simp only [mmx]; split <;> omega, trivial⟩⟩, Wk.mk' [(112, 112)] (by kernel_rfl) (by kernel_rfl) (by kernel_rfl)⟩
   ·obtain ⟨v1, hg4⟩ := g
    have hg4 : v1 = clampN n ∧ True := hg4
    obtain ⟨hJ2, _⟩ := hg4
    refine X.seq ?_
    have hcl := clampN_bd n
    rw [← hJ2] at hcl
    refine X.rk ⟨[(1, iV v1), (5, rV 112), (6, iV (wrap64 (2 * v1)))], [(112, some (.row 1 5 (b.map dB) false true))], 288⟩ hτ hmix (by kernel_rfl) (by kernel_rfl) (s2 := ⟨[(1, iV v1), (5, rV 112), (6, iV (2 * v1))], [(112, some (.row 1 5 (b.map dB) false true))], 288⟩) (congrArg (fun z : Int => (⟨[(1, iV v1), (5, rV 112), (6, iV z)], [(112, some (.row 1 5 (b.map dB) false true))], 288⟩ : St)) (show wrap64 (2 * v1) = (2 * v1) by rw [w64 (n := (2 * v1)) (by omega) (by omega)])) ?_
    -- join: v6 : Int
    refine X.seqJ (σ := { g : Int // (fun (v6 : Int) => v6 = zz (clampN n) ∧ True) g }) (fun g => (fun (v6 : Int) => ⟨[(5, rV 112), (6, iV v6)], [(112, some (.row 1 5 (b.map dB) false true))], 384⟩) g.1) ?_ (fun g => ?_)
    ·refine X.seq ?_
     refine X.rk ⟨[(1, iV v1), (5, rV 112), (6, iV (2 * v1)), (17, bV (decide ((v1 : Int) < 0)))], [(112, some (.row 1 5 (b.map dB) false true))], 320⟩ hτ hmix (by kernel_rfl) (by kernel_rfl) rfl ?_
     refine X.if_ (b := decide ((v1 : Int) < 0)) (by kernel_rfl) (fun hb7 => ?_) (fun hb7 => ?_)
     ·replace hb7 := of_decide_eq_true (hb7)
      refine X.rk ⟨[(5, rV 112), (6, iV (wrap64 ((wrap64 ((-2) * v1)) - 1)))], [(112, some (.row 1 5 (b.map dB) false true))], 384⟩ hτ hmix (by kernel_rfl) (by kernel_rfl) (s2 := ⟨[(5, rV 112), (6, iV ((((-2) * v1)) - 1))], [(112, some (.row 1 5 (b.map dB) false true))], 384⟩) (congrArg (fun z : Int => (⟨[(5, rV 112), (6, iV z)], [(112, some (.row 1 5 (b.map dB) false true))], 384⟩ : St)) (show wrap64 ((wrap64 ((-2) * v1)) - 1) = ((((-2) * v1)) - 1) by rw [w64 (n := ((-2) * v1)) (by omega) (by omega), w64 (n := ((((-2) * v1)) - 1)) (by omega) (by omega)])) ?_
      refine ⟨⟨((((-2) * v1)) - 1), ⟨by rw [← hJ2]; unfold zz; first | rw [if_pos ‹_›] | rw [if_neg ‹_›], trivial⟩⟩, Wk.mk' [(112, 112)] (by kernel_rfl) (by kernel_rfl) (by kernel_rfl)⟩
     ·replace hb7 := of_decide_eq_false (hb7)
      refine X.skip ?_
      refine ⟨⟨(2 * v1), ⟨by rw [← hJ2]; unfold zz; first | rw [if_pos ‹_›] | rw [if_neg ‹_›], trivial⟩⟩, Wk.mk' [(112, 112)] (by kernel_rfl) (by kernel_rfl) (by kernel_rfl)⟩
    ·obtain ⟨v6, hg6⟩ := g
     have hg6 : v6 = zz (clampN n) ∧ True := hg6
     obtain ⟨hJ, _⟩ := hg6
     refine X.seq ?_
     refine X.block ?_
     -- 9: Lv5 : List Int, v6 : Int
     refine X.loop (σ := { g : (List Int) × Int // (fun (Lv5 : List Int) (v6 : Int) => 0 ≤ v6 ∧ v6 ≤ 2000000000 ∧ Lv5.length + v6 ≤ b.length + 2000000000 ∧ Lv5 ++ leb v6.toNat = b ++ numB n) g.1 g.2 }) (fun g => (fun (Lv5 : List Int) (v6 : Int) => ⟨[(5, rV 112), (6, iV v6)], [(112, some (.row 1 5 (Lv5.map dB) false true))], 384⟩) g.1.1 g.1.2) (fun g => (fun (Lv5 : List Int) (v6 : Int) => v6.toNat) g.1.1 g.1.2) ⟨(b, v6), ⟨by have := zz_bd n; omega, by have := zz_bd n; omega, by have := zz_bd n; simp; omega, by rw [hJ]; rfl⟩⟩ (Wk.less (by kernel_rfl)) (fun g => ?_)
     obtain ⟨⟨Lv5, v6⟩, hg9⟩ := g
     have hg9 : 0 ≤ v6 ∧ v6 ≤ 2000000000 ∧ Lv5.length + v6 ≤ b.length + 2000000000 ∧ Lv5 ++ leb v6.toNat = b ++ numB n := hg9
     obtain ⟨_, _, _, hC⟩ := hg9
     refine X.seq ?_
     refine X.seq ?_
     refine X.rk ⟨[(5, rV 112), (6, iV v6), (22, bV (decide ((v6 : Int) > 127)))], [(112, some (.row 1 5 (Lv5.map dB) false true))], 416⟩ hτ hmix (by kernel_rfl) (by kernel_rfl) rfl ?_
     refine X.if_ (b := decide ((v6 : Int) > 127)) (by kernel_rfl) (fun hb10 => ?_) (fun hb10 => ?_)
     ·replace hb10 := of_decide_eq_true (hb10)
      refine X.skip ?_
      refine X.block ?_
      refine X.seq ?_
      have fa11 := and_le v6 127 7 rfl (by decide)
      refine X.rs 6 hτ hmix (by kernel_rfl) ?_
      have el12 : (Lv5.map dB).length = Lv5.length := List.length_map ..
      have el13 : (([wr .u8 (wr .i64 ((BitVec.ofInt 64 (wr .i64 ((BitVec.ofInt 64 v6 &&& BitVec.ofInt 64 127).toNat)) ||| BitVec.ofInt 64 128).toNat))] : List Int).map dB).length = ([wr .u8 (wr .i64 ((BitVec.ofInt 64 (wr .i64 ((BitVec.ofInt 64 v6 &&& BitVec.ofInt 64 127).toNat)) ||| BitVec.ofInt 64 128).toNat))] : List Int).length := List.length_map ..
      have el14 : ([wr .u8 (wr .i64 ((BitVec.ofInt 64 (wr .i64 ((BitVec.ofInt 64 v6 &&& BitVec.ofInt 64 127).toNat)) ||| BitVec.ofInt 64 128).toNat))] : List Int).length = 1 := rfl
      refine CH.app hτ (rows := (Lv5.map dB)) (rows2 := (([wr .u8 (wr .i64 ((BitVec.ofInt 64 (wr .i64 ((BitVec.ofInt 64 v6 &&& BitVec.ofInt 64 127).toNat)) ||| BitVec.ofInt 64 128).toNat))] : List Int).map dB)) (sz := 1) (bys := 1) true (by kernel_rfl) (by kernel_rfl) (fun _ => flat_d dB (fun x => rfl)) (flat_ok (f := dB) (fun x => rfl)) (by simp only [List.length_map] <;> (first | done | omega | (simp; done) | (simp; omega))) (by kernel_rfl) ?_
      refine CH.go 1 hτ (by kernel_rfl) ?_
      refine CH.endk ⟨[(5, rV 512), (6, iV v6)], [(512, some (.row 1 5 ((Lv5.map dB) ++ (([wr .u8 (wr .i64 ((BitVec.ofInt 64 (wr .i64 ((BitVec.ofInt 64 v6 &&& BitVec.ofInt 64 127).toNat)) ||| BitVec.ofInt 64 128).toNat))] : List Int).map dB)) false true))], 544⟩ (by kernel_rfl) (by kernel_rfl) (s2 := ⟨[(5, rV 512), (6, iV v6)], [(512, some (.row 1 5 ((Lv5 ++ ([wr .u8 (wr .i64 ((BitVec.ofInt 64 (wr .i64 ((BitVec.ofInt 64 v6 &&& BitVec.ofInt 64 127).toNat)) ||| BitVec.ofInt 64 128).toNat))] : List Int)).map dB) false true))], 544⟩) (congrArg (fun z : List (List D) => (⟨[(5, rV 512), (6, iV v6)], [(512, some (.row 1 5 z false true))], 544⟩ : St)) (show (Lv5.map dB) ++ (([wr .u8 (wr .i64 ((BitVec.ofInt 64 (wr .i64 ((BitVec.ofInt 64 v6 &&& BitVec.ofInt 64 127).toNat)) ||| BitVec.ofInt 64 128).toNat))] : List Int).map dB) = ((Lv5 ++ ([wr .u8 (wr .i64 ((BitVec.ofInt 64 (wr .i64 ((BitVec.ofInt 64 v6 &&& BitVec.ofInt 64 127).toNat)) ||| BitVec.ofInt 64 128).toNat))] : List Int)).map dB) from List.map_append.symm)) ?_
      refine X.rk ⟨[(5, rV 512), (6, iV (v6 / 2 ^ min (Int.toNat 7) 64))], [(512, some (.row 1 5 ((Lv5 ++ ([wr .u8 (wr .i64 ((BitVec.ofInt 64 (wr .i64 ((BitVec.ofInt 64 v6 &&& BitVec.ofInt 64 127).toNat)) ||| BitVec.ofInt 64 128).toNat))] : List Int)).map dB) false true))], 592⟩ hτ hmix (by kernel_rfl) (by kernel_rfl) rfl ?_
      have hsh := shr7 v6
      refine ⟨⟨((Lv5 ++ ([wr .u8 (wr .i64 ((BitVec.ofInt 64 (wr .i64 ((BitVec.ofInt 64 v6 &&& BitVec.ofInt 64 127).toNat)) ||| BitVec.ofInt 64 128).toNat))] : List Int)), v6 / 2 ^ min (Int.toNat 7) 64), ⟨by first | omega | (dsimp only; omega), by first | omega | (dsimp only; omega), by simp only [List.length_append, List.length_cons, List.length_nil]; (first | omega | (dsimp only; omega)), lb_next' ‹_› (by first | omega | (dsimp only; omega)) hC⟩⟩, by first | exact rfl | omega | (dsimp only; omega) | (simp only [List.length_append, List.length_cons, List.length_nil, List.length_set]; omega) | (simp; done) | (simp; omega), Wk.mk' [(112, 512)] (by kernel_rfl) (by kernel_rfl) (by kernel_rfl)⟩
     ·replace hb10 := of_decide_eq_false (hb10)
      refine X.exit ?_
      refine X.seq ?_
      refine X.rs 4 hτ hmix (by kernel_rfl) ?_
      have el15 : (Lv5.map dB).length = Lv5.length := List.length_map ..
      have el16 : (([wr .u8 (v6)] : List Int).map dB).length = ([wr .u8 (v6)] : List Int).length := List.length_map ..
      have el17 : ([wr .u8 (v6)] : List Int).length = 1 := rfl
      refine CH.app hτ (rows := (Lv5.map dB)) (rows2 := (([wr .u8 (v6)] : List Int).map dB)) (sz := 1) (bys := 1) true (by kernel_rfl) (by kernel_rfl) (fun _ => flat_d dB (fun x => rfl)) (flat_ok (f := dB) (fun x => rfl)) (by simp only [List.length_map] <;> (first | done | omega | (simp; done) | (simp; omega))) (by kernel_rfl) ?_
      refine CH.go 1 hτ (by kernel_rfl) ?_
      refine CH.endk ⟨[(4, rV 480)], [(480, some (.row 1 5 ((Lv5.map dB) ++ (([wr .u8 (v6)] : List Int).map dB)) false true))], 512⟩ (by kernel_rfl) (by kernel_rfl) (s2 := ⟨[(4, rV 480)], [(480, some (.row 1 5 ((Lv5 ++ ([wr .u8 (v6)] : List Int)).map dB) false true))], 512⟩) (congrArg (fun z : List (List D) => (⟨[(4, rV 480)], [(480, some (.row 1 5 z false true))], 512⟩ : St)) (show (Lv5.map dB) ++ (([wr .u8 (v6)] : List Int).map dB) = ((Lv5 ++ ([wr .u8 (v6)] : List Int)).map dB) from List.map_append.symm)) ?_
      refine X.ret ?_
      exact ⟨trivial, _, _, ⟨(Lv5 ++ ([wr .u8 (v6)] : List Int)), (lb_end ‹_› (by omega) hC), rfl, rfl⟩, .inl (Ret.mk' [(64, 480)] (by kernel_rfl) (by kernel_rfl) (by kernel_rfl))⟩
 obtain ⟨_, _, ⟨r0, h1_, rfl, rfl⟩, hf⟩ := key
 exact ⟨r0, h1_, hf⟩

theorem s_PutText (b : List Int) (s : ByteArray) (hb : b.length ≤ 90000000000000) (hs : SmS s) : ∃ r0 : List Int, (r0 = b ++ textB s) ∧ Fn Try.prog 148 [lV (b.map dB), .e (.c (.d (.v (.string s))))] (lookH []) (rV 64) (lookH [(64, some (.row 1 5 (r0.map dB) false true))]) := by
 have key : ∃ x' h', ((fun x' h' => ∃ r0 : List Int, (r0 = b ++ textB s) ∧ x' = rV 64 ∧ h' = [(64, some (.row 1 5 (r0.map dB) false true))])) x' h' ∧ Fn Try.prog 148 [lV (b.map dB), .e (.c (.d (.v (.string s))))] (lookH []) x' (lookH h') := by
  refine Fn.bodyX (N := 11) hτ Try.func148 rfl rfl rfl rfl ?_
  refine X.seq ?_
  refine X.rk ⟨[(0, lV (b.map dB)), (1, .e (.c (.d (.v (.string s)))))], [], 80⟩ hτ hmix (by kernel_rfl) (by kernel_rfl) rfl ?_
  refine X.seq ?_
  have hm : s.size ≤ 2000000 := hs
  refine X.rs 3 hτ hmix (by kernel_rfl) ?_
  obtain ⟨r1, hr3, hf2⟩ := s_PutNum b (s.size : Int) (by first | omega | (simp only [List.length_append, List.length_nil]; omega))
  replace hr3 := hr3.symm; subst hr3
  have hnb := (numB_len (s.size : Int)).1
  refine CH.call hf2 Try.func149 ⟨rfl, rfl⟩ [] (by kernel_rfl) (by kernel_rfl) (by kernel_rfl) (by kernel_rfl) ?_
  refine CH.go 1 hτ (by kernel_rfl) ?_
  have el5 : ((b ++ numB (s.size : Int)).map dB).length = (b ++ numB (s.size : Int)).length := List.length_map ..
  have el6 : (b ++ numB (s.size : Int)).length = b.length + (numB (s.size : Int)).length := List.length_append
  have el7 := bys_len s
  refine CH.aps hτ (rows := ((b ++ numB (s.size : Int)).map dB)) (y := s) (el := 5) (by kernel_rfl) (by kernel_rfl) (by first | omega | (simp only [List.length_map, List.length_append]; omega) | (simp; omega)) (by kernel_rfl) (by kernel_rfl) ?_
  refine CH.go 1 hτ (by kernel_rfl) ?_
  refine CH.endk ⟨[(4, rV 160)], [(160, some (.row 1 5 (((b ++ numB (s.size : Int)).map dB) ++ (bys s).map dB) false true))], 192⟩ (by kernel_rfl) (by kernel_rfl) (s2 := ⟨[(4, rV 160)], [(160, some (.row 1 5 (((b ++ numB (s.size : Int)) ++ (bys s)).map dB) false true))], 192⟩) (congrArg (fun z : List (List D) => (⟨[(4, rV 160)], [(160, some (.row 1 5 z false true))], 192⟩ : St)) (show ((b ++ numB (s.size : Int)).map dB) ++ (bys s).map dB = (((b ++ numB (s.size : Int)) ++ (bys s)).map dB) from List.map_append.symm)) ?_
  refine X.ret ?_
  exact ⟨trivial, _, _, ⟨((b ++ numB (s.size : Int)) ++ (bys s)), (by rw [List.append_assoc]; rfl), rfl, rfl⟩, .inl (Ret.mk' [(64, 160)] (by kernel_rfl) (by kernel_rfl) (by kernel_rfl))⟩
 obtain ⟨_, _, ⟨r0, h1_, rfl, rfl⟩, hf⟩ := key
 exact ⟨r0, h1_, hf⟩

theorem s_PutNames (b : List Int) (l : List ByteArray) (hb : b.length ≤ 50000000000000) (hl : SmN l) : ∃ r0 : List Int, (r0 = b ++ namesB l) ∧ Fn Try.prog 190 [lV (b.map dB), lV (l.map dS)] (lookH []) (rV 64) (lookH [(64, some (.row 1 5 (r0.map dB) false true))]) := by
 have key : ∃ x' h', ((fun x' h' => ∃ r0 : List Int, (r0 = b ++ namesB l) ∧ x' = rV 64 ∧ h' = [(64, some (.row 1 5 (r0.map dB) false true))])) x' h' ∧ Fn Try.prog 190 [lV (b.map dB), lV (l.map dS)] (lookH []) x' (lookH h') := by
  refine Fn.bodyX (N := 24) hτ Try.func190 rfl rfl rfl rfl ?_
  refine X.seq ?_
  refine X.rk ⟨[(0, lV (b.map dB)), (1, lV (l.map dS))], [], 80⟩ hτ hmix (by kernel_rfl) (by kernel_rfl) rfl ?_
  refine X.seq ?_
  have hm := hl.1
  have el1 : (l.map dS).length = l.length := List.length_map ..
  refine X.rs 3 hτ hmix (by kernel_rfl) ?_
  obtain ⟨r2, hr4, hf3⟩ := s_PutNum b ((l.map dS).length : Int) (by first | omega | (simp only [List.length_append, List.length_nil]; omega))
  replace hr4 := hr4.symm; subst hr4
  have hnb := (numB_len ((l.map dS).length : Int)).1
  refine CH.call hf3 Try.func149 ⟨rfl, rfl⟩ [] (by kernel_rfl) (by kernel_rfl) (by kernel_rfl) (by kernel_rfl) ?_
  refine CH.go 1 hτ (by kernel_rfl) ?_
  refine CH.endk ⟨[(1, lV (l.map dS)), (5, rV 128)], [(128, some (.row 1 5 ((b ++ numB ((l.map dS).length : Int)).map dB) false true))], 160⟩ (by kernel_rfl) (by kernel_rfl) rfl ?_
  refine X.seq ?_
  refine X.seq ?_
  refine X.rk ⟨[(1, lV (l.map dS)), (5, rV 128), (6, iV 0)], [(128, some (.row 1 5 ((b ++ numB ((l.map dS).length : Int)).map dB) false true))], 176⟩ hτ hmix (by kernel_rfl) (by kernel_rfl) rfl ?_
  refine X.block ?_
  -- 3: Lv5 : List Int, v6 : Int
  refine X.loop (σ := { g : (List Int) × Int // (fun (Lv5 : List Int) (v6 : Int) => 0 ≤ v6 ∧ v6 ≤ l.length ∧ Lv5.length ≤ b.length + 5 + 2000005 * v6.toNat ∧ Lv5 = (b ++ numB l.length) ++ (l.take v6.toNat).flatMap textB) g.1 g.2 }) (fun g => (fun (Lv5 : List Int) (v6 : Int) => ⟨[(1, lV (l.map dS)), (5, rV 128), (6, iV v6)], [(128, some (.row 1 5 (Lv5.map dB) false true))], 176⟩) g.1.1 g.1.2) (fun g => (fun (Lv5 : List Int) (v6 : Int) => (l.length - v6).toNat) g.1.1 g.1.2) ⟨((b ++ numB ((l.map dS).length : Int)), 0), ⟨by first | omega | (dsimp only; omega), by first | omega | (dsimp only; omega), by simp only [List.length_append]; omega, (by simp only [List.length_map]; exact (List.append_nil _).symm)⟩⟩ (Wk.less (by kernel_rfl)) (fun g => ?_)
  obtain ⟨⟨Lv5, v6⟩, hg7⟩ := g
  have hg7 : 0 ≤ v6 ∧ v6 ≤ l.length ∧ Lv5.length ≤ b.length + 5 + 2000005 * v6.toNat ∧ Lv5 = (b ++ numB l.length) ++ (l.take v6.toNat).flatMap textB := hg7
  obtain ⟨_, _, _, hq2⟩ := hg7
  refine X.seq ?_
  refine X.seq ?_
  refine X.rk ⟨[(1, lV (l.map dS)), (5, rV 128), (6, iV v6), (14, bV (decide ((v6 : Int) < ((l.map dS).length : Int))))], [(128, some (.row 1 5 (Lv5.map dB) false true))], 240⟩ hτ hmix (by kernel_rfl) (by kernel_rfl) rfl ?_
  refine X.if_ (b := decide ((v6 : Int) < ((l.map dS).length : Int))) (by kernel_rfl) (fun hb8 => ?_) (fun hb8 => ?_)
  ·replace hb8 := of_decide_eq_true (hb8)
   refine X.skip ?_
   refine X.seq ?_
   refine X.block ?_
   refine X.rs 3 hτ hmix (by kernel_rfl) ?_
   obtain ⟨x9, hx9⟩ : ∃ x, l[Int.toNat v6]? = some x := ⟨_, List.getElem?_eq_getElem (by first | omega | (simp; done) | (simp; omega))⟩
   have hxs := all_at hl.2 hx9; have hxs2 : _ ≤ 2000000 := hxs
   refine CH.idx hτ (dS x9) (rows := (l.map dS)) (n := v6) (sz := 1) (by kernel_rfl) (by kernel_rfl) (by first | omega | (simp; done) | (simp; omega)) (by rw [List.getElem?_map, hx9]; rfl) (by kernel_rfl) ?_
   refine CH.go 1 hτ (by kernel_rfl) ?_
   obtain ⟨r10, hr12, hf11⟩ := s_PutText Lv5 x9 (by first | omega | (simp only [List.length_append, List.length_nil]; omega)) (by assumption)
   replace hr12 := hr12.symm; subst hr12
   have htl := textB_len x9
   refine CH.call hf11 Try.func148 ⟨rfl, rfl⟩ [] (by kernel_rfl) (by kernel_rfl) (by kernel_rfl) (by kernel_rfl) ?_
   refine CH.go 1 hτ (by kernel_rfl) ?_
   refine CH.endk ⟨[(1, lV (l.map dS)), (5, rV 320), (6, iV v6)], [(320, some (.row 1 5 ((Lv5 ++ textB x9).map dB) false true))], 352⟩ (by kernel_rfl) (by kernel_rfl) rfl ?_
   refine X.rk ⟨[(1, lV (l.map dS)), (5, rV 320), (6, iV (wrap64 (v6 + 1)))], [(320, some (.row 1 5 ((Lv5 ++ textB x9).map dB) false true))], 400⟩ hτ hmix (by kernel_rfl) (by kernel_rfl) (s2 := ⟨[(1, lV (l.map dS)), (5, rV 320), (6, iV (v6 + 1))], [(320, some (.row 1 5 ((Lv5 ++ textB x9).map dB) false true))], 400⟩) (congrArg (fun z : Int => (⟨[(1, lV (l.map dS)), (5, rV 320), (6, iV z)], [(320, some (.row 1 5 ((Lv5 ++ textB x9).map dB) false true))], 400⟩ : St)) (show wrap64 (v6 + 1) = (v6 + 1) by rw [w64 (n := (v6 + 1)) (by omega) (by omega)])) ?_
   refine ⟨⟨((Lv5 ++ textB x9), (v6 + 1)), ⟨by first | omega | (dsimp only; omega), by first | omega | (dsimp only; omega), by simp only [List.length_append]; omega, fm_next (by first | omega | (dsimp only; omega)) ‹_› hq2⟩⟩, by first | exact rfl | omega | (dsimp only; omega) | (simp only [List.length_append, List.length_cons, List.length_nil, List.length_set]; omega) | (simp; done) | (simp; omega), Wk.mk' [(128, 320)] (by kernel_rfl) (by kernel_rfl) (by kernel_rfl)⟩
  ·replace hb8 := of_decide_eq_false (hb8)
   refine X.exit ?_
   refine X.seq ?_
   refine X.rk ⟨[(4, rV 128)], [(128, some (.row 1 5 (Lv5.map dB) false true))], 272⟩ hτ hmix (by kernel_rfl) (by kernel_rfl) rfl ?_
   refine X.ret ?_
   exact ⟨trivial, _, _, ⟨Lv5, (by rw [fm_end (by omega) hq2, List.append_assoc]; rfl), rfl, rfl⟩, .inl (Ret.mk' [(64, 128)] (by kernel_rfl) (by kernel_rfl) (by kernel_rfl))⟩
 obtain ⟨_, _, ⟨r0, h1_, rfl, rfl⟩, hf⟩ := key
 exact ⟨r0, h1_, hf⟩

theorem s_l9PutQc (b : List Int) (q : S43) (hb : b.length ≤ 40000000000000) (hq : Sm43 q) : ∃ r0 : List Int, (r0 = b ++ encQc q) ∧ Fn Try.prog 151 [lV (b.map dB), .e (.agg (cD (d43 q)))] (lookH []) (rV 64) (lookH [(64, some (.row 1 5 (r0.map dB) false true))]) := by
 have key : ∃ x' h', ((fun x' h' => ∃ r0 : List Int, (r0 = b ++ encQc q) ∧ x' = rV 64 ∧ h' = [(64, some (.row 1 5 (r0.map dB) false true))])) x' h' ∧ Fn Try.prog 151 [lV (b.map dB), .e (.agg (cD (d43 q)))] (lookH []) x' (lookH h') := by
  refine Fn.bodyX (N := 15) hτ Try.func151 rfl rfl rfl rfl ?_
  refine X.seq ?_
  refine X.rk ⟨[(0, lV (b.map dB)), (3, .pt 64 0 0)], [(64, some (.box (cD (d43 q))))], 96⟩ hτ hmix (by kernel_rfl) (by kernel_rfl) rfl ?_
  refine X.seq ?_
  have hq2 : SmN q.f2 := hq
  have hq3 := hq2.1
  refine X.rs 3 hτ hmix (by kernel_rfl) ?_
  obtain ⟨r1, hr3, hf2⟩ := s_PutNum b q.f0 (by first | omega | (simp only [List.length_append, List.length_nil]; omega))
  replace hr3 := hr3.symm; subst hr3
  have hnb := (numB_len q.f0).1
  refine CH.call hf2 Try.func149 ⟨rfl, rfl⟩ [] (by kernel_rfl) (by kernel_rfl) (by kernel_rfl) (by kernel_rfl) ?_
  refine CH.go 2 hτ (by kernel_rfl) ?_
  obtain ⟨r5, hr7, hf6⟩ := s_PutNum (b ++ numB q.f0) q.f1 (by first | omega | (simp only [List.length_append, List.length_nil]; omega))
  replace hr7 := hr7.symm; subst hr7
  have hnb := (numB_len q.f1).1
  refine CH.call hf6 Try.func149 ⟨rfl, rfl⟩ [] (by kernel_rfl) (by kernel_rfl) (by kernel_rfl) (by kernel_rfl) ?_
  refine CH.go 2 hτ (by kernel_rfl) ?_
  obtain ⟨r9, hr11, hf10⟩ := s_PutNames ((b ++ numB q.f0) ++ numB q.f1) q.f2 (by first | omega | (simp only [List.length_append, List.length_nil]; omega)) (by assumption)
  replace hr11 := hr11.symm; subst hr11
  have hnm := namesB_len (l := q.f2) ‹_›
  refine CH.call hf10 Try.func190 ⟨rfl, rfl⟩ [] (by kernel_rfl) (by kernel_rfl) (by kernel_rfl) (by kernel_rfl) ?_
  refine CH.go 1 hτ (by kernel_rfl) ?_
  refine CH.endk ⟨[(4, rV 240)], [(240, some (.row 1 5 ((((b ++ numB q.f0) ++ numB q.f1) ++ namesB q.f2).map dB) false true))], 272⟩ (by kernel_rfl) (by kernel_rfl) rfl ?_
  refine X.ret ?_
  exact ⟨trivial, _, _, ⟨(((b ++ numB q.f0) ++ numB q.f1) ++ namesB q.f2), (by simp only [encQc, List.append_assoc]), rfl, rfl⟩, .inl (Ret.mk' [(64, 240)] (by kernel_rfl) (by kernel_rfl) (by kernel_rfl))⟩
 obtain ⟨_, _, ⟨r0, h1_, rfl, rfl⟩, hf⟩ := key
 exact ⟨r0, h1_, hf⟩

theorem s_l9PutTc (b : List Int) (t : S46) (hb : b.length ≤ 40000000000000) (ht : Sm46 t) : ∃ r0 : List Int, (r0 = b ++ encTc t) ∧ Fn Try.prog 150 [lV (b.map dB), .e (.agg (cD (d46 t)))] (lookH []) (rV 64) (lookH [(64, some (.row 1 5 (r0.map dB) false true))]) := by
 have key : ∃ x' h', ((fun x' h' => ∃ r0 : List Int, (r0 = b ++ encTc t) ∧ x' = rV 64 ∧ h' = [(64, some (.row 1 5 (r0.map dB) false true))])) x' h' ∧ Fn Try.prog 150 [lV (b.map dB), .e (.agg (cD (d46 t)))] (lookH []) x' (lookH h') := by
  refine Fn.bodyX (N := 28) hτ Try.func150 rfl rfl rfl rfl ?_
  refine X.seq ?_
  refine X.rk ⟨[(0, lV (b.map dB)), (3, .pt 64 0 0)], [(64, some (.box (cD (d46 t))))], 96⟩ hτ hmix (by kernel_rfl) (by kernel_rfl) rfl ?_
  refine X.seq ?_
  obtain ⟨ht1, ht2⟩ := ht
  have ht1l := ht1.1
  refine X.rs 3 hτ hmix (by kernel_rfl) ?_
  obtain ⟨r1, hr3, hf2⟩ := s_PutNum b t.f0 (by first | omega | (simp only [List.length_append, List.length_nil]; omega))
  replace hr3 := hr3.symm; subst hr3
  have hnb := (numB_len t.f0).1
  refine CH.call hf2 Try.func149 ⟨rfl, rfl⟩ [] (by kernel_rfl) (by kernel_rfl) (by kernel_rfl) (by kernel_rfl) ?_
  refine CH.go 2 hτ (by kernel_rfl) ?_
  obtain ⟨r5, hr7, hf6⟩ := s_PutNames (b ++ numB t.f0) t.f1 (by first | omega | (simp only [List.length_append, List.length_nil]; omega)) (by assumption)
  replace hr7 := hr7.symm; subst hr7
  have hnm := namesB_len (l := t.f1) ‹_›
  refine CH.call hf6 Try.func190 ⟨rfl, rfl⟩ [] (by kernel_rfl) (by kernel_rfl) (by kernel_rfl) (by kernel_rfl) ?_
  refine CH.go 1 hτ (by kernel_rfl) ?_
  refine CH.endk ⟨[(0, rV 192), (3, .pt 64 0 0)], [(64, some (.box (cD (d46 t)))), (192, some (.row 1 5 (((b ++ numB t.f0) ++ namesB t.f1).map dB) false true))], 224⟩ (by kernel_rfl) (by kernel_rfl) rfl ?_
  refine X.seq ?_
  refine X.seq ?_
  refine X.rk ⟨[(0, rV 192), (3, .pt 64 0 0), (5, iV 0)], [(64, some (.box (cD (d46 t)))), (192, some (.row 1 5 (((b ++ numB t.f0) ++ namesB t.f1).map dB) false true))], 240⟩ hτ hmix (by kernel_rfl) (by kernel_rfl) rfl ?_
  refine X.block ?_
  -- 3: Lv0 : List Int, v5 : Int
  refine X.loop (σ := { g : (List Int) × Int // (fun (Lv0 : List Int) (v5 : Int) => 0 ≤ v5 ∧ v5 ≤ t.f2.length ∧ Lv0.length ≤ 50000000000000 + 5 * v5.toNat ∧ Lv0 = ((b ++ numB t.f0) ++ namesB t.f1) ++ (t.f2.take v5.toNat).flatMap numB) g.1 g.2 }) (fun g => (fun (Lv0 : List Int) (v5 : Int) => ⟨[(0, rV 192), (3, .pt 64 0 0), (5, iV v5)], [(64, some (.box (cD (d46 t)))), (192, some (.row 1 5 (Lv0.map dB) false true))], 240⟩) g.1.1 g.1.2) (fun g => (fun (Lv0 : List Int) (v5 : Int) => (t.f2.length - v5).toNat) g.1.1 g.1.2) ⟨(((b ++ numB t.f0) ++ namesB t.f1), 0), ⟨by first | omega | (dsimp only; omega), by first | omega | (dsimp only; omega), by simp only [List.length_append]; omega, (List.append_nil _).symm⟩⟩ (Wk.less (by kernel_rfl)) (fun g => ?_)
  obtain ⟨⟨Lv0, v5⟩, hg10⟩ := g
  have hg10 : 0 ≤ v5 ∧ v5 ≤ t.f2.length ∧ Lv0.length ≤ 50000000000000 + 5 * v5.toNat ∧ Lv0 = ((b ++ numB t.f0) ++ namesB t.f1) ++ (t.f2.take v5.toNat).flatMap numB := hg10
  obtain ⟨_, _, _, hq2⟩ := hg10
  refine X.seq ?_
  refine X.seq ?_
  have el11 : (t.f2.map dI).length = t.f2.length := List.length_map ..
  refine X.rk ⟨[(0, rV 192), (3, .pt 64 0 0), (5, iV v5), (17, bV (decide ((v5 : Int) < ((t.f2.map dI).length : Int))))], [(64, some (.box (cD (d46 t)))), (192, some (.row 1 5 (Lv0.map dB) false true))], 320⟩ hτ hmix (by kernel_rfl) (by kernel_rfl) rfl ?_
  refine X.if_ (b := decide ((v5 : Int) < ((t.f2.map dI).length : Int))) (by kernel_rfl) (fun hb12 => ?_) (fun hb12 => ?_)
  ·replace hb12 := of_decide_eq_true (hb12)
   refine X.skip ?_
   refine X.seq ?_
   refine X.block ?_
   refine X.rs 4 hτ hmix (by kernel_rfl) ?_
   obtain ⟨x13, hx13⟩ : ∃ x, t.f2[Int.toNat v5]? = some x := ⟨_, List.getElem?_eq_getElem (by first | omega | (simp; done) | (simp; omega))⟩
   refine CH.idx hτ (dI x13) (rows := (t.f2.map dI)) (n := v5) (sz := 1) (by kernel_rfl) (by kernel_rfl) (by first | omega | (simp; done) | (simp; omega)) (by rw [List.getElem?_map, hx13]; rfl) (by kernel_rfl) ?_
   refine CH.go 1 hτ (by kernel_rfl) ?_
   obtain ⟨r14, hr16, hf15⟩ := s_PutNum Lv0 x13 (by first | omega | (simp only [List.length_append, List.length_nil]; omega))
   replace hr16 := hr16.symm; subst hr16
   have hnb := (numB_len x13).1
   refine CH.call hf15 Try.func149 ⟨rfl, rfl⟩ [] (by kernel_rfl) (by kernel_rfl) (by kernel_rfl) (by kernel_rfl) ?_
   refine CH.go 1 hτ (by kernel_rfl) ?_
   refine CH.endk ⟨[(0, rV 416), (3, .pt 64 0 0), (5, iV v5)], [(64, some (.box (cD (d46 t)))), (416, some (.row 1 5 ((Lv0 ++ numB x13).map dB) false true))], 448⟩ (by kernel_rfl) (by kernel_rfl) rfl ?_
   refine X.rk ⟨[(0, rV 416), (3, .pt 64 0 0), (5, iV (wrap64 (v5 + 1)))], [(64, some (.box (cD (d46 t)))), (416, some (.row 1 5 ((Lv0 ++ numB x13).map dB) false true))], 496⟩ hτ hmix (by kernel_rfl) (by kernel_rfl) (s2 := ⟨[(0, rV 416), (3, .pt 64 0 0), (5, iV (v5 + 1))], [(64, some (.box (cD (d46 t)))), (416, some (.row 1 5 ((Lv0 ++ numB x13).map dB) false true))], 496⟩) (congrArg (fun z : Int => (⟨[(0, rV 416), (3, .pt 64 0 0), (5, iV z)], [(64, some (.box (cD (d46 t)))), (416, some (.row 1 5 ((Lv0 ++ numB x13).map dB) false true))], 496⟩ : St)) (show wrap64 (v5 + 1) = (v5 + 1) by rw [w64 (n := (v5 + 1)) (by omega) (by omega)])) ?_
   refine ⟨⟨((Lv0 ++ numB x13), (v5 + 1)), ⟨by first | omega | (dsimp only; omega), by first | omega | (dsimp only; omega), by simp only [List.length_append]; omega, fm_next (by first | omega | (dsimp only; omega)) ‹_› hq2⟩⟩, by first | exact rfl | omega | (dsimp only; omega) | (simp only [List.length_append, List.length_cons, List.length_nil, List.length_set]; omega) | (simp; done) | (simp; omega), Wk.mk' [(64, 64), (192, 416)] (by kernel_rfl) (by kernel_rfl) (by kernel_rfl)⟩
  ·replace hb12 := of_decide_eq_false (hb12)
   refine X.exit ?_
   refine X.seq ?_
   refine X.rk ⟨[(4, rV 192)], [(192, some (.row 1 5 (Lv0.map dB) false true))], 352⟩ hτ hmix (by kernel_rfl) (by kernel_rfl) rfl ?_
   refine X.ret ?_
   exact ⟨trivial, _, _, ⟨Lv0, (by rw [fm_end (by omega) hq2]; exact encTc_l t b), rfl, rfl⟩, .inl (Ret.mk' [(64, 192)] (by kernel_rfl) (by kernel_rfl) (by kernel_rfl))⟩
 obtain ⟨_, _, ⟨r0, h1_, rfl, rfl⟩, hf⟩ := key
 exact ⟨r0, h1_, hf⟩

theorem s_l5Put (b : List Int) (t : S26) (hb : b.length ≤ 80000000000000) (ht : Sm26 t) : ∃ r0 : List Int, (r0 = b ++ encTx t) ∧ Fn Try.prog 152 [lV (b.map dB), .e (.agg (cD (d26 t)))] (lookH []) (rV 64) (lookH [(64, some (.row 1 5 (r0.map dB) false true))]) := by
 have key : ∃ x' h', ((fun x' h' => ∃ r0 : List Int, (r0 = b ++ encTx t) ∧ x' = rV 64 ∧ h' = [(64, some (.row 1 5 (r0.map dB) false true))])) x' h' ∧ Fn Try.prog 152 [lV (b.map dB), .e (.agg (cD (d26 t)))] (lookH []) x' (lookH h') := by
  refine Fn.bodyX (N := 21) hτ Try.func152 rfl rfl rfl rfl ?_
  refine X.seq ?_
  refine X.rk ⟨[(0, lV (b.map dB)), (3, .pt 64 0 0)], [(64, some (.box (cD (d26 t))))], 96⟩ hτ hmix (by kernel_rfl) (by kernel_rfl) rfl ?_
  refine X.seq ?_
  have hs1 := ht.1
  have hs2 := ht.2
  have hs3 : _ ≤ 2000000 := hs1
  have hs4 : _ ≤ 2000000 := hs2
  refine X.rs 3 hτ hmix (by kernel_rfl) ?_
  obtain ⟨r1, hr3, hf2⟩ := s_PutNum b t.f0 (by first | omega | (simp only [List.length_append, List.length_nil]; omega))
  replace hr3 := hr3.symm; subst hr3
  have hnb := (numB_len t.f0).1
  refine CH.call hf2 Try.func149 ⟨rfl, rfl⟩ [] (by kernel_rfl) (by kernel_rfl) (by kernel_rfl) (by kernel_rfl) ?_
  refine CH.go 2 hτ (by kernel_rfl) ?_
  obtain ⟨r5, hr7, hf6⟩ := s_PutText (b ++ numB t.f0) t.f1 (by first | omega | (simp only [List.length_append, List.length_nil]; omega)) (by assumption)
  replace hr7 := hr7.symm; subst hr7
  have htl := textB_len t.f1
  refine CH.call hf6 Try.func148 ⟨rfl, rfl⟩ [] (by kernel_rfl) (by kernel_rfl) (by kernel_rfl) (by kernel_rfl) ?_
  refine CH.go 2 hτ (by kernel_rfl) ?_
  obtain ⟨r9, hr11, hf10⟩ := s_PutText ((b ++ numB t.f0) ++ textB t.f1) t.f2 (by first | omega | (simp only [List.length_append, List.length_nil]; omega)) (by assumption)
  replace hr11 := hr11.symm; subst hr11
  have htl := textB_len t.f2
  refine CH.call hf10 Try.func148 ⟨rfl, rfl⟩ [] (by kernel_rfl) (by kernel_rfl) (by kernel_rfl) (by kernel_rfl) ?_
  refine CH.go 2 hτ (by kernel_rfl) ?_
  obtain ⟨r13, hr15, hf14⟩ := s_PutNum (((b ++ numB t.f0) ++ textB t.f1) ++ textB t.f2) t.f3 (by first | omega | (simp only [List.length_append, List.length_nil]; omega))
  replace hr15 := hr15.symm; subst hr15
  have hnb := (numB_len t.f3).1
  refine CH.call hf14 Try.func149 ⟨rfl, rfl⟩ [] (by kernel_rfl) (by kernel_rfl) (by kernel_rfl) (by kernel_rfl) ?_
  refine CH.go 2 hτ (by kernel_rfl) ?_
  obtain ⟨r17, hr19, hf18⟩ := s_PutNum ((((b ++ numB t.f0) ++ textB t.f1) ++ textB t.f2) ++ numB t.f3) t.f4 (by first | omega | (simp only [List.length_append, List.length_nil]; omega))
  replace hr19 := hr19.symm; subst hr19
  have hnb := (numB_len t.f4).1
  refine CH.call hf18 Try.func149 ⟨rfl, rfl⟩ [] (by kernel_rfl) (by kernel_rfl) (by kernel_rfl) (by kernel_rfl) ?_
  refine CH.go 1 hτ (by kernel_rfl) ?_
  refine CH.endk ⟨[(4, rV 336)], [(336, some (.row 1 5 ((((((b ++ numB t.f0) ++ textB t.f1) ++ textB t.f2) ++ numB t.f3) ++ numB t.f4).map dB) false true))], 368⟩ (by kernel_rfl) (by kernel_rfl) rfl ?_
  refine X.ret ?_
  exact ⟨trivial, _, _, ⟨(((((b ++ numB t.f0) ++ textB t.f1) ++ textB t.f2) ++ numB t.f3) ++ numB t.f4), (by simp only [encTx, List.append_assoc]), rfl, rfl⟩, .inl (Ret.mk' [(64, 336)] (by kernel_rfl) (by kernel_rfl) (by kernel_rfl))⟩
 obtain ⟨_, _, ⟨r0, h1_, rfl, rfl⟩, hf⟩ := key
 exact ⟨r0, h1_, hf⟩

theorem s_PutBlock (bk : S49) (hx : Sm49 bk) : ∃ r0 : List Int, (r0 = putB bk) ∧ Fn Try.prog 93 [.e (.agg (cD (d49 bk)))] (lookH []) (rV 64) (lookH [(64, some (.row 1 5 (r0.map dB) false true))]) := by
 have key : ∃ x' h', ((fun x' h' => ∃ r0 : List Int, (r0 = putB bk) ∧ x' = rV 64 ∧ h' = [(64, some (.row 1 5 (r0.map dB) false true))])) x' h' ∧ Fn Try.prog 93 [.e (.agg (cD (d49 bk)))] (lookH []) x' (lookH h') := by
  refine Fn.bodyX (N := 84) hτ Try.func93 rfl rfl rfl rfl ?_
  refine X.seq ?_
  refine X.rk ⟨[(1, .pt 64 0 0)], [(64, some (.box (cD (d49 bk))))], 96⟩ hτ hmix (by kernel_rfl) (by kernel_rfl) rfl ?_
  refine X.seq ?_
  refine X.seq ?_
  refine X.rs 1 hτ hmix (by kernel_rfl) ?_
  obtain ⟨r1, hr3, hf2⟩ := s_BlockOk bk (by assumption)
  replace hr3 := hr3.symm; subst hr3
  refine CH.call hf2 Try.func24 ⟨rfl, rfl⟩ [] (by kernel_rfl) (by kernel_rfl) (by kernel_rfl) (by kernel_rfl) ?_
  refine CH.go 1 hτ (by kernel_rfl) ?_
  refine CH.endk ⟨[(1, .pt 64 0 0), (9, bV (!(blockOk bk)))], [(64, some (.box (cD (d49 bk))))], 144⟩ (by kernel_rfl) (by kernel_rfl) rfl ?_
  refine X.if_ (b := !(blockOk bk)) (by kernel_rfl) (fun hb5 => ?_) (fun hb5 => ?_)
  ·replace hb5 := bnot_yes (hb5)
   refine X.seq ?_
   refine X.rk ⟨[(2, rV 144)], [(144, some (.row 1 5 [] false true))], 176⟩ hτ hmix (by kernel_rfl) (by kernel_rfl) rfl ?_
   refine X.ret ?_
   exact ⟨trivial, _, _, ⟨[], (by first | exact (putB_no ‹_›).symm | exact (by rw [hE3, preS_eq]; exact (putB_ok hok).symm)), rfl, rfl⟩, .inl (Ret.mk' [(64, 144)] (by kernel_rfl) (by kernel_rfl) (by kernel_rfl))⟩
  ·replace hb5 := bnot_no (hb5)
   refine X.skip ?_
   refine X.seq ?_
   have hok := (‹blockOk _ = true›)
   obtain ⟨hb3, hbq, hbt, hbx, hbv, hb9⟩ := hx
   have hq1l := hbq.1
   have ht2 := hbt.2
   have ht1l := hbt.1.1
   have hxl := hbx.1
   have hvl := hbv.1
   have hl3 : bk.f3.size ≤ 2000000 := hb3
   have hl9 : bk.f9.size ≤ 2000000 := hb9
   refine X.rs 3 hτ hmix (by kernel_rfl) ?_
   obtain ⟨r6, hr8, hf7⟩ := s_PutNum ([]) bk.f0 (by first | omega | (simp only [List.length_append, List.length_nil]; omega))
   replace hr8 := hr8.symm; subst hr8
   have hnb := (numB_len bk.f0).1
   refine CH.call hf7 Try.func149 ⟨rfl, rfl⟩ [] (by kernel_rfl) (by kernel_rfl) (by kernel_rfl) (by kernel_rfl) ?_
   refine CH.go 2 hτ (by kernel_rfl) ?_
   obtain ⟨r10, hr12, hf11⟩ := s_PutNum (([]) ++ numB bk.f0) bk.f1 (by first | omega | (simp only [List.length_append, List.length_nil]; omega))
   replace hr12 := hr12.symm; subst hr12
   have hnb := (numB_len bk.f1).1
   refine CH.call hf11 Try.func149 ⟨rfl, rfl⟩ [] (by kernel_rfl) (by kernel_rfl) (by kernel_rfl) (by kernel_rfl) ?_
   refine CH.go 2 hτ (by kernel_rfl) ?_
   obtain ⟨r14, hr16, hf15⟩ := s_PutNum ((([]) ++ numB bk.f0) ++ numB bk.f1) bk.f2 (by first | omega | (simp only [List.length_append, List.length_nil]; omega))
   replace hr16 := hr16.symm; subst hr16
   have hnb := (numB_len bk.f2).1
   refine CH.call hf15 Try.func149 ⟨rfl, rfl⟩ [] (by kernel_rfl) (by kernel_rfl) (by kernel_rfl) (by kernel_rfl) ?_
   refine CH.go 2 hτ (by kernel_rfl) ?_
   obtain ⟨r18, hr20, hf19⟩ := s_PutText (((([]) ++ numB bk.f0) ++ numB bk.f1) ++ numB bk.f2) bk.f3 (by first | omega | (simp only [List.length_append, List.length_nil]; omega)) (by assumption)
   replace hr20 := hr20.symm; subst hr20
   have htl := textB_len bk.f3
   refine CH.call hf19 Try.func148 ⟨rfl, rfl⟩ [] (by kernel_rfl) (by kernel_rfl) (by kernel_rfl) (by kernel_rfl) ?_
   refine CH.go 1 hτ (by kernel_rfl) ?_
   refine CH.endk ⟨[(1, .pt 64 0 0), (3, rV 336)], [(64, some (.box (cD (d49 bk)))), (336, some (.row 1 5 (((((([]) ++ numB bk.f0) ++ numB bk.f1) ++ numB bk.f2) ++ textB bk.f3).map dB) false true))], 368⟩ (by kernel_rfl) (by kernel_rfl) rfl ?_
   refine X.seq ?_
   refine X.rs 3 hτ hmix (by kernel_rfl) ?_
   obtain ⟨r22, hr24, hf23⟩ := s_l9PutQc ((((([]) ++ numB bk.f0) ++ numB bk.f1) ++ numB bk.f2) ++ textB bk.f3) bk.f4 (by first | omega | (simp only [List.length_append, List.length_nil]; omega)) (by assumption)
   replace hr24 := hr24.symm; subst hr24
   have hql := encQc_len (t := bk.f4) ‹_›
   refine CH.call hf23 Try.func151 ⟨rfl, rfl⟩ [] (by kernel_rfl) (by kernel_rfl) (by kernel_rfl) (by kernel_rfl) ?_
   refine CH.go 2 hτ (by kernel_rfl) ?_
   obtain ⟨r26, hr28, hf27⟩ := s_l9PutTc (((((([]) ++ numB bk.f0) ++ numB bk.f1) ++ numB bk.f2) ++ textB bk.f3) ++ encQc bk.f4) bk.f5 (by first | omega | (simp only [List.length_append, List.length_nil]; omega)) (by assumption)
   replace hr28 := hr28.symm; subst hr28
   have htcl := encTc_len (t := bk.f5) ‹_›
   refine CH.call hf27 Try.func150 ⟨rfl, rfl⟩ [] (by kernel_rfl) (by kernel_rfl) (by kernel_rfl) (by kernel_rfl) ?_
   refine CH.go 3 hτ (by kernel_rfl) ?_
   have el30 : (bk.f6.map d26).length = bk.f6.length := List.length_map ..
   obtain ⟨r31, hr33, hf32⟩ := s_PutNum ((((((([]) ++ numB bk.f0) ++ numB bk.f1) ++ numB bk.f2) ++ textB bk.f3) ++ encQc bk.f4) ++ encTc bk.f5) ((bk.f6.map d26).length : Int) (by first | omega | (simp only [List.length_append, List.length_nil]; omega))
   replace hr33 := hr33.symm; subst hr33
   have hnb := (numB_len ((bk.f6.map d26).length : Int)).1
   refine CH.call hf32 Try.func149 ⟨rfl, rfl⟩ [] (by kernel_rfl) (by kernel_rfl) (by kernel_rfl) (by kernel_rfl) ?_
   refine CH.go 1 hτ (by kernel_rfl) ?_
   refine CH.endk ⟨[(1, .pt 64 0 0), (3, rV 528)], [(64, some (.box (cD (d49 bk)))), (528, some (.row 1 5 ((((((((([]) ++ numB bk.f0) ++ numB bk.f1) ++ numB bk.f2) ++ textB bk.f3) ++ encQc bk.f4) ++ encTc bk.f5) ++ numB ((bk.f6.map d26).length : Int)).map dB) false true))], 560⟩ (by kernel_rfl) (by kernel_rfl) rfl ?_
   refine X.seq ?_
   refine X.seq ?_
   refine X.rk ⟨[(1, .pt 64 0 0), (3, rV 528), (4, iV 0)], [(64, some (.box (cD (d49 bk)))), (528, some (.row 1 5 ((((((((([]) ++ numB bk.f0) ++ numB bk.f1) ++ numB bk.f2) ++ textB bk.f3) ++ encQc bk.f4) ++ encTc bk.f5) ++ numB ((bk.f6.map d26).length : Int)).map dB) false true))], 576⟩ hτ hmix (by kernel_rfl) (by kernel_rfl) rfl ?_
   refine X.block ?_
   -- 6: Lv3 : List Int, v4 : Int
   refine X.loop (σ := { g : (List Int) × Int // (fun (Lv3 : List Int) (v4 : Int) => 0 ≤ v4 ∧ v4 ≤ bk.f6.length ∧ Lv3.length ≤ 9100000000000 + 4000025 * v4.toNat ∧ Lv3 = preS1 bk ++ (bk.f6.take v4.toNat).flatMap encTx) g.1 g.2 }) (fun g => (fun (Lv3 : List Int) (v4 : Int) => ⟨[(1, .pt 64 0 0), (3, rV 528), (4, iV v4)], [(64, some (.box (cD (d49 bk)))), (528, some (.row 1 5 (Lv3.map dB) false true))], 576⟩) g.1.1 g.1.2) (fun g => (fun (Lv3 : List Int) (v4 : Int) => (bk.f6.length - v4).toNat) g.1.1 g.1.2) ⟨((((((((([]) ++ numB bk.f0) ++ numB bk.f1) ++ numB bk.f2) ++ textB bk.f3) ++ encQc bk.f4) ++ encTc bk.f5) ++ numB ((bk.f6.map d26).length : Int)), 0), ⟨by first | omega | (dsimp only; omega), by first | omega | (dsimp only; omega), by simp only [List.length_append, List.length_nil]; (first | omega | (dsimp only; omega)), (by (try simp only [List.length_map]); exact (List.append_nil _).symm)⟩⟩ (Wk.less (by kernel_rfl)) (fun g => ?_)
   obtain ⟨⟨Lv3, v4⟩, hg36⟩ := g
   have hg36 : 0 ≤ v4 ∧ v4 ≤ bk.f6.length ∧ Lv3.length ≤ 9100000000000 + 4000025 * v4.toNat ∧ Lv3 = preS1 bk ++ (bk.f6.take v4.toNat).flatMap encTx := hg36
   obtain ⟨_, _, _, hq2⟩ := hg36
   refine X.seq ?_
   refine X.seq ?_
   refine X.rk ⟨[(1, .pt 64 0 0), (3, rV 528), (4, iV v4), (39, bV (decide ((v4 : Int) < ((bk.f6.map d26).length : Int))))], [(64, some (.box (cD (d49 bk)))), (528, some (.row 1 5 (Lv3.map dB) false true))], 656⟩ hτ hmix (by kernel_rfl) (by kernel_rfl) rfl ?_
   refine X.if_ (b := decide ((v4 : Int) < ((bk.f6.map d26).length : Int))) (by kernel_rfl) (fun hb37 => ?_) (fun hb37 => ?_)
   ·replace hb37 := of_decide_eq_true (hb37)
    refine X.skip ?_
    refine X.seq ?_
    refine X.block ?_
    refine X.rs 4 hτ hmix (by kernel_rfl) ?_
    obtain ⟨x38, hx38⟩ : ∃ x, bk.f6[Int.toNat v4]? = some x := ⟨_, List.getElem?_eq_getElem (by first | omega | (simp; done) | (simp; omega))⟩
    have hxt := all_at hbx.2 hx38
    refine CH.idx hτ (d26 x38) (rows := (bk.f6.map d26)) (n := v4) (sz := 5) (by kernel_rfl) (by kernel_rfl) (by first | omega | (simp; done) | (simp; omega)) (by rw [List.getElem?_map, hx38]; rfl) (by kernel_rfl) ?_
    refine CH.go 1 hτ (by kernel_rfl) ?_
    obtain ⟨r39, hr41, hf40⟩ := s_l5Put Lv3 x38 (by first | omega | (simp only [List.length_append, List.length_nil]; omega)) (by assumption)
    replace hr41 := hr41.symm; subst hr41
    have hxl := encTx_len (t := x38) ‹_›
    refine CH.call hf40 Try.func152 ⟨rfl, rfl⟩ [] (by kernel_rfl) (by kernel_rfl) (by kernel_rfl) (by kernel_rfl) ?_
    refine CH.go 1 hτ (by kernel_rfl) ?_
    refine CH.endk ⟨[(1, .pt 64 0 0), (3, rV 752), (4, iV v4)], [(64, some (.box (cD (d49 bk)))), (752, some (.row 1 5 ((Lv3 ++ encTx x38).map dB) false true))], 784⟩ (by kernel_rfl) (by kernel_rfl) rfl ?_
    refine X.rk ⟨[(1, .pt 64 0 0), (3, rV 752), (4, iV (wrap64 (v4 + 1)))], [(64, some (.box (cD (d49 bk)))), (752, some (.row 1 5 ((Lv3 ++ encTx x38).map dB) false true))], 832⟩ hτ hmix (by kernel_rfl) (by kernel_rfl) (s2 := ⟨[(1, .pt 64 0 0), (3, rV 752), (4, iV (v4 + 1))], [(64, some (.box (cD (d49 bk)))), (752, some (.row 1 5 ((Lv3 ++ encTx x38).map dB) false true))], 832⟩) (congrArg (fun z : Int => (⟨[(1, .pt 64 0 0), (3, rV 752), (4, iV z)], [(64, some (.box (cD (d49 bk)))), (752, some (.row 1 5 ((Lv3 ++ encTx x38).map dB) false true))], 832⟩ : St)) (show wrap64 (v4 + 1) = (v4 + 1) by rw [w64 (n := (v4 + 1)) (by omega) (by omega)])) ?_
    refine ⟨⟨((Lv3 ++ encTx x38), (v4 + 1)), ⟨by first | omega | (dsimp only; omega), by first | omega | (dsimp only; omega), by simp only [List.length_append]; omega, fm_next (by first | omega | (dsimp only; omega)) ‹_› hq2⟩⟩, by first | exact rfl | omega | (dsimp only; omega) | (simp only [List.length_append, List.length_cons, List.length_nil, List.length_set]; omega) | (simp; done) | (simp; omega), Wk.mk' [(64, 64), (528, 752)] (by kernel_rfl) (by kernel_rfl) (by kernel_rfl)⟩
   ·replace hb37 := of_decide_eq_false (hb37)
    refine X.exit ?_
    refine X.seq ?_
    have hE2 := fm_end (by omega) hq2
    refine X.rk ⟨[(1, .pt 64 0 0), (3, rV 528), (5, iV 0)], [(64, some (.box (cD (d49 bk)))), (528, some (.row 1 5 (Lv3.map dB) false true))], 672⟩ hτ hmix (by kernel_rfl) (by kernel_rfl) rfl ?_
    -- join: v5 : Int
    refine X.seqJ (σ := { g : Int // (fun (v5 : Int) => v5 = bit bk.f7 ∧ True) g }) (fun g => (fun (v5 : Int) => ⟨[(1, .pt 64 0 0), (3, rV 528), (5, iV v5)], [(64, some (.box (cD (d49 bk)))), (528, some (.row 1 5 (Lv3.map dB) false true))], 720⟩) g.1) ?_ (fun g => ?_)
    ·refine X.seq ?_
     refine X.rk ⟨[(1, .pt 64 0 0), (3, rV 528), (5, iV 0), (50, bV bk.f7)], [(64, some (.box (cD (d49 bk)))), (528, some (.row 1 5 (Lv3.map dB) false true))], 704⟩ hτ hmix (by kernel_rfl) (by kernel_rfl) rfl ?_
     refine X.if_ (b := bk.f7) (by kernel_rfl) (fun hb44 => ?_) (fun hb44 => ?_)
     ·refine X.rk ⟨[(1, .pt 64 0 0), (3, rV 528), (5, iV 1)], [(64, some (.box (cD (d49 bk)))), (528, some (.row 1 5 (Lv3.map dB) false true))], 720⟩ hτ hmix (by kernel_rfl) (by kernel_rfl) rfl ?_
      refine ⟨⟨1, ⟨by unfold bit; first | rw [if_pos ‹_›] | rw [if_neg (by simp [*])], trivial⟩⟩, Wk.mk' [(64, 64), (528, 528)] (by kernel_rfl) (by kernel_rfl) (by kernel_rfl)⟩
     ·refine X.skip ?_
      refine ⟨⟨0, ⟨by unfold bit; first | rw [if_pos ‹_›] | rw [if_neg (by simp [*])], trivial⟩⟩, Wk.mk' [(64, 64), (528, 528)] (by kernel_rfl) (by kernel_rfl) (by kernel_rfl)⟩
    ·obtain ⟨v5, hg43⟩ := g
     have hg43 : v5 = bit bk.f7 ∧ True := hg43
     obtain ⟨hbit, _⟩ := hg43
     refine X.seq ?_
     refine X.rs 2 hτ hmix (by kernel_rfl) ?_
     obtain ⟨r45, hr47, hf46⟩ := s_PutNum Lv3 v5 (by first | omega | (simp only [List.length_append, List.length_nil]; omega))
     replace hr47 := hr47.symm; subst hr47
     have hnb := (numB_len v5).1
     refine CH.call hf46 Try.func149 ⟨rfl, rfl⟩ [] (by kernel_rfl) (by kernel_rfl) (by kernel_rfl) (by kernel_rfl) ?_
     refine CH.go 3 hτ (by kernel_rfl) ?_
     have el49 : (bk.f8.map d107).length = bk.f8.length := List.length_map ..
     obtain ⟨r50, hr52, hf51⟩ := s_PutNum (Lv3 ++ numB v5) ((bk.f8.map d107).length : Int) (by first | omega | (simp only [List.length_append, List.length_nil]; omega))
     replace hr52 := hr52.symm; subst hr52
     have hnb := (numB_len ((bk.f8.map d107).length : Int)).1
     refine CH.call hf51 Try.func149 ⟨rfl, rfl⟩ [] (by kernel_rfl) (by kernel_rfl) (by kernel_rfl) (by kernel_rfl) ?_
     refine CH.go 1 hτ (by kernel_rfl) ?_
     refine CH.endk ⟨[(1, .pt 64 0 0), (3, rV 816)], [(64, some (.box (cD (d49 bk)))), (816, some (.row 1 5 (((Lv3 ++ numB v5) ++ numB ((bk.f8.map d107).length : Int)).map dB) false true))], 848⟩ (by kernel_rfl) (by kernel_rfl) rfl ?_
     refine X.seq ?_
     refine X.seq ?_
     refine X.rk ⟨[(1, .pt 64 0 0), (3, rV 816), (6, iV 0)], [(64, some (.box (cD (d49 bk)))), (816, some (.row 1 5 (((Lv3 ++ numB v5) ++ numB ((bk.f8.map d107).length : Int)).map dB) false true))], 864⟩ hτ hmix (by kernel_rfl) (by kernel_rfl) rfl ?_
     refine X.block ?_
     -- 14: Lv3 : List Int, v6 : Int
     refine X.loop (σ := { g : (List Int) × Int // (fun (Lv3 : List Int) (v6 : Int) => 0 ≤ v6 ∧ v6 ≤ bk.f8.length ∧ Lv3.length ≤ 18000000000000 + 2000010 * v6.toNat ∧ Lv3 = preS2 bk ++ (bk.f8.take v6.toNat).flatMap encV) g.1 g.2 }) (fun g => (fun (Lv3 : List Int) (v6 : Int) => ⟨[(1, .pt 64 0 0), (3, rV 816), (6, iV v6)], [(64, some (.box (cD (d49 bk)))), (816, some (.row 1 5 (Lv3.map dB) false true))], 864⟩) g.1.1 g.1.2) (fun g => (fun (Lv3 : List Int) (v6 : Int) => (bk.f8.length - v6).toNat) g.1.1 g.1.2) ⟨(((Lv3 ++ numB v5) ++ numB ((bk.f8.map d107).length : Int)), 0), ⟨by first | omega | (dsimp only; omega), by first | omega | (dsimp only; omega), by simp only [List.length_append, List.length_nil]; (first | omega | (dsimp only; omega)), (by rw [hbit, hE2]; (try simp only [List.length_map]); exact (List.append_nil _).symm)⟩⟩ (Wk.less (by kernel_rfl)) (fun g => ?_)
     obtain ⟨⟨Lv3, v6⟩, hg55⟩ := g
     have hg55 : 0 ≤ v6 ∧ v6 ≤ bk.f8.length ∧ Lv3.length ≤ 18000000000000 + 2000010 * v6.toNat ∧ Lv3 = preS2 bk ++ (bk.f8.take v6.toNat).flatMap encV := hg55
     obtain ⟨_, _, _, hq2⟩ := hg55
     refine X.seq ?_
     refine X.seq ?_
     refine X.rk ⟨[(1, .pt 64 0 0), (3, rV 816), (6, iV v6), (62, bV (decide ((v6 : Int) < ((bk.f8.map d107).length : Int))))], [(64, some (.box (cD (d49 bk)))), (816, some (.row 1 5 (Lv3.map dB) false true))], 944⟩ hτ hmix (by kernel_rfl) (by kernel_rfl) rfl ?_
     refine X.if_ (b := decide ((v6 : Int) < ((bk.f8.map d107).length : Int))) (by kernel_rfl) (fun hb56 => ?_) (fun hb56 => ?_)
     ·replace hb56 := of_decide_eq_true (hb56)
      refine X.skip ?_
      refine X.seq ?_
      refine X.block ?_
      refine X.rs 4 hτ hmix (by kernel_rfl) ?_
      obtain ⟨x57, hx57⟩ : ∃ x, bk.f8[Int.toNat v6]? = some x := ⟨_, List.getElem?_eq_getElem (by first | omega | (simp; done) | (simp; omega))⟩
      have hxv : Sm107 _ := all_at hbv.2 hx57; have hxv2 : _ ≤ 2000000 := hxv; have hxv3 : SmS _ := hxv
      refine CH.idx hτ (d107 x57) (rows := (bk.f8.map d107)) (n := v6) (sz := 2) (by kernel_rfl) (by kernel_rfl) (by first | omega | (simp; done) | (simp; omega)) (by rw [List.getElem?_map, hx57]; rfl) (by kernel_rfl) ?_
      refine CH.go 2 hτ (by kernel_rfl) ?_
      obtain ⟨r58, hr60, hf59⟩ := s_PutText Lv3 x57.f0 (by first | omega | (simp only [List.length_append, List.length_nil]; omega)) (by assumption)
      replace hr60 := hr60.symm; subst hr60
      have htl := textB_len x57.f0
      refine CH.call hf59 Try.func148 ⟨rfl, rfl⟩ [] (by kernel_rfl) (by kernel_rfl) (by kernel_rfl) (by kernel_rfl) ?_
      refine CH.go 3 hτ (by kernel_rfl) ?_
      refine CH.idx hτ (d107 x57) (rows := (bk.f8.map d107)) (n := v6) (sz := 2) (by kernel_rfl) (by kernel_rfl) (by first | omega | (simp; done) | (simp; omega)) (by rw [List.getElem?_map, hx57]; rfl) (by kernel_rfl) ?_
      refine CH.go 2 hτ (by kernel_rfl) ?_
      obtain ⟨r62, hr64, hf63⟩ := s_PutNum (Lv3 ++ textB x57.f0) x57.f1 (by first | omega | (simp only [List.length_append, List.length_nil]; omega))
      replace hr64 := hr64.symm; subst hr64
      have hnb := (numB_len x57.f1).1
      refine CH.call hf63 Try.func149 ⟨rfl, rfl⟩ [] (by kernel_rfl) (by kernel_rfl) (by kernel_rfl) (by kernel_rfl) ?_
      refine CH.go 1 hτ (by kernel_rfl) ?_
      refine CH.endk ⟨[(1, .pt 64 0 0), (3, rV 1168), (6, iV v6)], [(64, some (.box (cD (d49 bk)))), (1168, some (.row 1 5 (((Lv3 ++ textB x57.f0) ++ numB x57.f1).map dB) false true))], 1200⟩ (by kernel_rfl) (by kernel_rfl) rfl ?_
      refine X.rk ⟨[(1, .pt 64 0 0), (3, rV 1168), (6, iV (wrap64 (v6 + 1)))], [(64, some (.box (cD (d49 bk)))), (1168, some (.row 1 5 (((Lv3 ++ textB x57.f0) ++ numB x57.f1).map dB) false true))], 1248⟩ hτ hmix (by kernel_rfl) (by kernel_rfl) (s2 := ⟨[(1, .pt 64 0 0), (3, rV 1168), (6, iV (v6 + 1))], [(64, some (.box (cD (d49 bk)))), (1168, some (.row 1 5 (((Lv3 ++ textB x57.f0) ++ numB x57.f1).map dB) false true))], 1248⟩) (congrArg (fun z : Int => (⟨[(1, .pt 64 0 0), (3, rV 1168), (6, iV z)], [(64, some (.box (cD (d49 bk)))), (1168, some (.row 1 5 (((Lv3 ++ textB x57.f0) ++ numB x57.f1).map dB) false true))], 1248⟩ : St)) (show wrap64 (v6 + 1) = (v6 + 1) by rw [w64 (n := (v6 + 1)) (by omega) (by omega)])) ?_
      refine ⟨⟨(((Lv3 ++ textB x57.f0) ++ numB x57.f1), (v6 + 1)), ⟨by first | omega | (dsimp only; omega), by first | omega | (dsimp only; omega), by simp only [List.length_append]; omega, by rw [List.append_assoc]; exact fm_next (f := encV) (by first | omega | (dsimp only; omega)) ‹_› hq2⟩⟩, by first | exact rfl | omega | (dsimp only; omega) | (simp only [List.length_append, List.length_cons, List.length_nil, List.length_set]; omega) | (simp; done) | (simp; omega), Wk.mk' [(64, 64), (816, 1168)] (by kernel_rfl) (by kernel_rfl) (by kernel_rfl)⟩
     ·replace hb56 := of_decide_eq_false (hb56)
      refine X.exit ?_
      refine X.seq ?_
      have hE3 := fm_end (by omega) hq2
      refine X.rs 3 hτ hmix (by kernel_rfl) ?_
      obtain ⟨r66, hr68, hf67⟩ := s_PutText Lv3 bk.f9 (by first | omega | (simp only [List.length_append, List.length_nil]; omega)) (by assumption)
      replace hr68 := hr68.symm; subst hr68
      have htl := textB_len bk.f9
      refine CH.call hf67 Try.func148 ⟨rfl, rfl⟩ [] (by kernel_rfl) (by kernel_rfl) (by kernel_rfl) (by kernel_rfl) ?_
      refine CH.go 1 hτ (by kernel_rfl) ?_
      refine CH.endk ⟨[(2, rV 992)], [(992, some (.row 1 5 ((Lv3 ++ textB bk.f9).map dB) false true))], 1024⟩ (by kernel_rfl) (by kernel_rfl) rfl ?_
      refine X.ret ?_
      exact ⟨trivial, _, _, ⟨(Lv3 ++ textB bk.f9), (by first | exact (putB_no ‹_›).symm | exact (by rw [hE3, preS_eq]; exact (putB_ok hok).symm)), rfl, rfl⟩, .inl (Ret.mk' [(64, 992)] (by kernel_rfl) (by kernel_rfl) (by kernel_rfl))⟩
 obtain ⟨_, _, ⟨r0, h1_, rfl, rfl⟩, hf⟩ := key
 exact ⟨r0, h1_, hf⟩

theorem s_GetNum (l : List Int) (a : Int) (hl : l.length ≤ 2000000) : ∃ r0 : Int, ∃ r1 : Int, ∃ r2 : Bool, ((-1000000000 ≤ r0 ∧ r0 ≤ 1000000000 ∧ 0 ≤ r1 ∧ r1 ≤ l.length) ∧ (r2 = true → 0 ≤ a ∧ a < r1 ∧ r1 ≤ l.length) ∧ gnR l a r0 r1 r2) ∧ Fn Try.prog 157 [lV (l.map dB), iV a] (lookH []) (.tup [.c (.d (.v (.int .i64 r0))), .c (.d (.v (.int .i64 r1))), .c (.d (.v (.bool r2)))]) (lookH []) := by
 have key : ∃ x' h', ((fun x' h' => ∃ r0 : Int, ∃ r1 : Int, ∃ r2 : Bool, ((-1000000000 ≤ r0 ∧ r0 ≤ 1000000000 ∧ 0 ≤ r1 ∧ r1 ≤ l.length) ∧ (r2 = true → 0 ≤ a ∧ a < r1 ∧ r1 ≤ l.length) ∧ gnR l a r0 r1 r2) ∧ x' = .tup [.c (.d (.v (.int .i64 r0))), .c (.d (.v (.int .i64 r1))), .c (.d (.v (.bool r2)))] ∧ h' = [])) x' h' ∧ Fn Try.prog 157 [lV (l.map dB), iV a] (lookH []) x' (lookH h') := by
  refine Fn.bodyX (N := 74) hτ Try.func157 rfl rfl rfl rfl ?_
  refine X.seq ?_
  refine X.rk ⟨[(0, lV (l.map dB)), (1, iV a)], [], 112⟩ hτ hmix (by kernel_rfl) (by kernel_rfl) rfl ?_
  refine X.seq ?_
  refine X.rk ⟨[(0, lV (l.map dB)), (1, iV a), (7, iV 0)], [], 128⟩ hτ hmix (by kernel_rfl) (by kernel_rfl) rfl ?_
  refine X.seq ?_
  refine X.seq ?_
  refine X.rk ⟨[(0, lV (l.map dB)), (1, iV a), (7, iV 0), (8, iV 0)], [], 144⟩ hτ hmix (by kernel_rfl) (by kernel_rfl) rfl ?_
  refine X.block ?_
  -- 3: v7 : Int, v8 : Int
  refine X.loop (σ := { g : Int × Int // (fun (v7 : Int) (v8 : Int) => 0 ≤ v8 ∧ v8 ≤ 5 ∧ (v8 = 0 ∨ 0 ≤ a ∧ a + v8 ≤ l.length) ∧ gnI l a (a + v8) v8 v7) g.1 g.2 }) (fun g => (fun (v7 : Int) (v8 : Int) => ⟨[(0, lV (l.map dB)), (1, iV a), (7, iV v7), (8, iV v8)], [], 144⟩) g.1.1 g.1.2) (fun g => (fun (v7 : Int) (v8 : Int) => (5 - v8).toNat) g.1.1 g.1.2) ⟨(0, 0), ⟨by first | omega | (dsimp only; omega), by first | omega | (dsimp only; omega), by first | omega | (dsimp only; omega), by rw [Int.add_zero]; exact gn_zero⟩⟩ (Wk.less (by kernel_rfl)) (fun g => ?_)
  obtain ⟨⟨v7, v8⟩, hg2⟩ := g
  have hg2 : 0 ≤ v8 ∧ v8 ≤ 5 ∧ (v8 = 0 ∨ 0 ≤ a ∧ a + v8 ≤ l.length) ∧ gnI l a (a + v8) v8 v7 := hg2
  obtain ⟨_, _, _, hA⟩ := hg2
  refine X.seq ?_
  refine X.seq ?_
  have hlm : (l.map dB).length = l.length := List.length_map ..
  refine X.rs 3 hτ hmix (by kernel_rfl) ?_
  rcases Bool.eq_false_or_eq_true (decide ((v8 : Int) < 5)) with hb3 | hb3
  ·refine CH.alt 12 (sV (.bool (decide ((v8 : Int) < 5)))) (sV (.bool true)) (by kernel_rfl) (by rw [hb3]) ?_
   refine CH.alt 13 (sV (.bool (decide ((v8 : Int) < 5)))) (sV (.bool true)) (by kernel_rfl) (by rw [hb3]) ?_
   replace hb3 := of_decide_eq_true (hb3)
   refine CH.go 4 hτ (by kernel_rfl) ?_
   rcases Bool.eq_false_or_eq_true (decide ((a : Int) ≥ 0)) with hb4 | hb4
   ·refine CH.alt 15 (sV (.bool (decide ((a : Int) ≥ 0)))) (sV (.bool true)) (by kernel_rfl) (by rw [hb4]) ?_
    refine CH.alt 16 (sV (.bool (decide ((a : Int) ≥ 0)))) (sV (.bool true)) (by kernel_rfl) (by rw [hb4]) ?_
    refine CH.alt 17 (sV (.bool (decide ((a : Int) ≥ 0)))) (sV (.bool true)) (by kernel_rfl) (by rw [hb4]) ?_
    replace hb4 := of_decide_eq_true (hb4)
    refine CH.go 6 hτ (by kernel_rfl) ?_
    have el5 : (l.map dB).length = l.length := List.length_map ..
    rcases Bool.eq_false_or_eq_true (decide ((a : Int) < ((l.map dB).length : Int))) with hb6 | hb6
    ·refine CH.alt 21 (sV (.bool (decide ((a : Int) < ((l.map dB).length : Int))))) (sV (.bool true)) (by kernel_rfl) (by rw [hb6]) ?_
     refine CH.alt 22 (sV (.bool (decide ((a : Int) < ((l.map dB).length : Int))))) (sV (.bool true)) (by kernel_rfl) (by rw [hb6]) ?_
     refine CH.alt 23 (sV (.bool (decide ((a : Int) < ((l.map dB).length : Int))))) (sV (.bool true)) (by kernel_rfl) (by rw [hb6]) ?_
     replace hb6 := of_decide_eq_true (hb6)
     refine CH.go 7 hτ (by kernel_rfl) ?_
     refine CH.endk ⟨[(0, lV (l.map dB)), (1, iV a), (7, iV v7), (8, iV v8), (30, bV (decide ((wrap64 (a + v8) : Int) < ((l.map dB).length : Int))))], [], 464⟩ (by kernel_rfl) (by kernel_rfl) (s2 := ⟨[(0, lV (l.map dB)), (1, iV a), (7, iV v7), (8, iV v8), (30, bV (decide (((a + v8) : Int) < ((l.map dB).length : Int))))], [], 464⟩) (congrArg (fun z : Bool => (⟨[(0, lV (l.map dB)), (1, iV a), (7, iV v7), (8, iV v8), (30, bV z)], [], 464⟩ : St)) (show (decide ((wrap64 (a + v8) : Int) < ((l.map dB).length : Int))) = (decide (((a + v8) : Int) < ((l.map dB).length : Int))) by rw [w64 (n := (a + v8)) (by omega) (by omega)])) ?_
     refine X.if_ (b := decide (((a + v8) : Int) < ((l.map dB).length : Int))) (by kernel_rfl) (fun hb7 => ?_) (fun hb7 => ?_)
     ·replace hb7 := of_decide_eq_true (hb7)
      refine X.skip ?_
      refine X.seq ?_
      refine X.block ?_
      refine X.seq ?_
      refine X.rs 4 hτ hmix (by kernel_rfl) ?_
      obtain ⟨x8, hx8⟩ : ∃ x, l[Int.toNat (a + v8)]? = some x := ⟨_, List.getElem?_eq_getElem (by first | omega | (simp; done) | (simp; omega))⟩
      refine CH.alt 36 (sV (.int .i64 (wrap64 (a + v8)))) (sV (.int .i64 ((a + v8)))) (by kernel_rfl) (by rw [w64 (n := (a + v8)) (by omega) (by omega)]) ?_
      refine CH.idx hτ (dB x8) (rows := (l.map dB)) (n := (a + v8)) (sz := 1) (by kernel_rfl) (by kernel_rfl) (by first | omega | (simp; done) | (simp; omega)) (by rw [List.getElem?_map, hx8]; rfl) (by kernel_rfl) ?_
      refine CH.go 3 hτ (by kernel_rfl) ?_
      refine CH.endk ⟨[(0, lV (l.map dB)), (1, iV a), (7, iV v7), (8, iV v8), (9, iV (wr .i64 (x8)))], [], 592⟩ (by kernel_rfl) (by kernel_rfl) rfl ?_
      refine X.seq ?_
      refine X.rs 6 hτ hmix (by kernel_rfl) ?_
      obtain ⟨m9, hm9⟩ := ofN0 (n := wr .u64 (wrap64 (7 * v8))) (by first | exact u64_nn _ | omega)
      refine CH.alt 45 (sV (.int .u64 (wr .u64 (wrap64 (7 * v8))))) (sV (.int .u64 (Int.ofNat m9))) (by kernel_rfl) (by rw [hm9]) ?_
      refine CH.go 3 hτ (by kernel_rfl) ?_
      refine CH.endk ⟨[(0, lV (l.map dB)), (1, iV a), (7, iV (wr .i64 ((BitVec.ofInt 64 v7 ||| BitVec.ofInt 64 (wr .i64 ((wr .i64 ((BitVec.ofInt 64 (wr .i64 (x8)) &&& BitVec.ofInt 64 127).toNat)) * 2 ^ min (Int.toNat (Int.ofNat m9)) 64))).toNat))), (8, iV v8), (9, iV (wr .i64 (x8)))], [], 736⟩ (by kernel_rfl) (by kernel_rfl) rfl ?_
      refine X.gen (fun n10 : Int => ⟨[(0, lV (l.map dB)), (1, iV a), (7, iV n10), (8, iV v8), (9, iV (wr .i64 (x8)))], [], 736⟩) (wr .i64 ((BitVec.ofInt 64 v7 ||| BitVec.ofInt 64 (wr .i64 ((wr .i64 ((BitVec.ofInt 64 (wr .i64 (x8)) &&& BitVec.ofInt 64 127).toNat)) * 2 ^ min (Int.toNat (Int.ofNat m9)) 64))).toNat)) (fun n10 hn10 => ?_)
      obtain ⟨hor, hor2, hor3⟩ := gn_val hn10 hm9 hA.1 (by omega) (by omega)
      clear hn10
      refine X.seq ?_
      refine X.seq ?_
      refine X.rk ⟨[(0, lV (l.map dB)), (1, iV a), (7, iV n10), (8, iV v8), (9, iV (wr .i64 (x8))), (49, bV (decide ((wr .i64 (x8) : Int) > 127)))], [], 768⟩ hτ hmix (by kernel_rfl) (by kernel_rfl) rfl ?_
      refine X.if_ (b := decide ((wr .i64 (x8) : Int) > 127)) (by kernel_rfl) (fun hb11 => ?_) (fun hb11 => ?_)
      ·replace hb11 := of_decide_eq_true (hb11)
       refine X.exit ?_
       refine X.rk ⟨[(0, lV (l.map dB)), (1, iV a), (7, iV n10), (8, iV (wrap64 (v8 + 1)))], [], 816⟩ hτ hmix (by kernel_rfl) (by kernel_rfl) (s2 := ⟨[(0, lV (l.map dB)), (1, iV a), (7, iV n10), (8, iV (v8 + 1))], [], 816⟩) (congrArg (fun z : Int => (⟨[(0, lV (l.map dB)), (1, iV a), (7, iV n10), (8, iV z)], [], 816⟩ : St)) (show wrap64 (v8 + 1) = (v8 + 1) by rw [w64 (n := (v8 + 1)) (by omega) (by omega)])) ?_
       refine ⟨⟨(n10, (v8 + 1)), ⟨by first | omega | (dsimp only; omega), by first | omega | (dsimp only; omega), by first | omega | (dsimp only; omega), by rw [← Int.add_assoc]; exact gn_step hA hor (by first | omega | (dsimp only; omega)) (by first | omega | (dsimp only; omega)) ‹_› (by first | omega | (dsimp only; omega))⟩⟩, by first | exact rfl | omega | (dsimp only; omega) | (simp only [List.length_append, List.length_cons, List.length_nil, List.length_set]; omega) | (simp; done) | (simp; omega), Wk.mk' [] (by kernel_rfl) (by kernel_rfl) (by kernel_rfl)⟩
      ·replace hb11 := of_decide_eq_false (hb11)
       refine X.skip ?_
       refine X.seq ?_
       have hlast := gn_last hA hor (by omega) ‹_› (by omega)
       refine X.rk ⟨[(1, iV a), (7, iV n10), (8, iV v8), (9, iV (wr .i64 (x8))), (10, iV (n10 / 2 ^ min (Int.toNat 1) 64))], [], 816⟩ hτ hmix (by kernel_rfl) (by kernel_rfl) rfl ?_
       refine X.gen (fun n12 : Int => ⟨[(1, iV a), (7, iV n10), (8, iV v8), (9, iV n12), (10, iV (n10 / 2 ^ min (Int.toNat 1) 64))], [], 816⟩) (wr .i64 (x8)) (fun n12 hn12 => ?_)
       refine X.gen (fun n13 : Int => ⟨[(1, iV a), (7, iV n10), (8, iV v8), (9, iV n12), (10, iV n13)], [], 816⟩) (n10 / 2 ^ min (Int.toNat 1) 64) (fun n13 hn13 => ?_)
       replace hn13 := hn13.trans (shr1 _)
       refine X.seq ?_
       refine X.seq ?_
       refine X.rk ⟨[(1, iV a), (8, iV v8), (9, iV n12), (10, iV n13), (54, bV ((wr .i64 ((BitVec.ofInt 64 n10 &&& BitVec.ofInt 64 1).toNat)) == 1))], [], 864⟩ hτ hmix (by kernel_rfl) (by kernel_rfl) rfl ?_
       refine X.if_ (b := ((wr .i64 ((BitVec.ofInt 64 n10 &&& BitVec.ofInt 64 1).toNat)) == 1)) (by kernel_rfl) (fun hb14 => ?_) (fun hb14 => ?_)
       ·replace hb14 := eq_of_beq (hb14)
        have hodd := and1_yes (x := n10) (by assumption) (by omega) (by omega)
        refine X.rk ⟨[(1, iV a), (8, iV v8), (9, iV n12), (10, iV (wrap64 ((wrap64 (0 - n13)) - 1)))], [], 928⟩ hτ hmix (by kernel_rfl) (by kernel_rfl) (s2 := ⟨[(1, iV a), (8, iV v8), (9, iV n12), (10, iV (((0 - n13)) - 1))], [], 928⟩) (congrArg (fun z : Int => (⟨[(1, iV a), (8, iV v8), (9, iV n12), (10, iV z)], [], 928⟩ : St)) (show wrap64 ((wrap64 (0 - n13)) - 1) = (((0 - n13)) - 1) by rw [w64 (n := (0 - n13)) (by omega) (by omega), w64 (n := (((0 - n13)) - 1)) (by omega) (by omega)])) ?_
        refine X.seq ?_
        refine X.seq ?_
        refine X.rs 3 hτ hmix (by kernel_rfl) ?_
        rcases Bool.eq_false_or_eq_true (decide ((v8 : Int) > 0)) with hb15 | hb15
        ·refine CH.alt 59 (sV (.bool (decide ((v8 : Int) > 0)))) (sV (.bool true)) (by kernel_rfl) (by rw [hb15]) ?_
         refine CH.alt 60 (sV (.bool (decide ((v8 : Int) > 0)))) (sV (.bool true)) (by kernel_rfl) (by rw [hb15]) ?_
         replace hb15 := of_decide_eq_true (hb15)
         refine CH.go 4 hτ (by kernel_rfl) ?_
         rcases Bool.eq_false_or_eq_true ((n12 == 0)) with hb16 | hb16
         ·refine CH.alt 62 (sV (.bool ((n12 == 0)))) (sV (.bool true)) (by kernel_rfl) (by rw [hb16]) ?_
          refine CH.alt 63 (sV (.bool ((n12 == 0)))) (sV (.bool true)) (by kernel_rfl) (by rw [hb16]) ?_
          refine CH.alt 64 (sV (.bool ((n12 == 0)))) (sV (.bool true)) (by kernel_rfl) (by rw [hb16]) ?_
          replace hb16 := eq_of_beq (hb16)
          refine CH.go 4 hτ (by kernel_rfl) ?_
          refine CH.endk ⟨[(1, iV a), (8, iV v8), (10, iV (((0 - n13)) - 1)), (68, bV true)], [], 1104⟩ (by kernel_rfl) (by kernel_rfl) rfl ?_
          refine X.ifT (by kernel_rfl) ?_
          refine X.seq ?_
          refine X.rk ⟨[(4, iV 0), (5, iV 0), (6, bV false)], [], 1152⟩ hτ hmix (by kernel_rfl) (by kernel_rfl) rfl ?_
          refine X.ret ?_
          exact ⟨trivial, _, _, ⟨0, 0, false, (by first | exact ⟨by omega, (fun h => by cases h), fun n r hn h0 he => by omega⟩ | exact ⟨by omega, (fun h => by cases h), gnR_no (gn_out (by omega))⟩ | exact ⟨by omega, (fun h => by cases h), gnR_no (gn_out2 hA (by omega) (by omega) (by omega) (by omega))⟩ | exact ⟨by omega, (fun h => by cases h), gnR_bad (v := (0 - n13) - 1) hlast (by omega) (by omega)⟩ | exact ⟨by omega, (fun h => by cases h), gnR_bad (v := n13) hlast (by omega) (by omega)⟩ | exact ⟨by omega, fun _ => ⟨by omega, by omega, by omega⟩, gnR_yes hlast (by omega)⟩), rfl, rfl⟩, .inl (Ret.mk' [] (by kernel_rfl) (by kernel_rfl) (by kernel_rfl))⟩
         ·refine CH.alt 62 (sV (.bool ((n12 == 0)))) (sV (.bool false)) (by kernel_rfl) (by rw [hb16]) ?_
          refine CH.alt 63 (sV (.bool ((n12 == 0)))) (sV (.bool false)) (by kernel_rfl) (by rw [hb16]) ?_
          refine CH.alt 64 (sV (.bool ((n12 == 0)))) (sV (.bool false)) (by kernel_rfl) (by rw [hb16]) ?_
          replace hb16 := beq_eq_false_iff_ne.1 (hb16)
          refine CH.go 1 hτ (by kernel_rfl) ?_
          obtain ⟨r17, hr19, hf18⟩ := s_l1In (((0 - n13)) - 1) (-1000000000) 1000000000
          replace hr19 := hr19.symm; subst hr19
          refine CH.call hf18 Try.func66 ⟨rfl, rfl⟩ [] (by kernel_rfl) (by kernel_rfl) (by kernel_rfl) (by kernel_rfl) ?_
          refine CH.go 2 hτ (by kernel_rfl) ?_
          refine CH.endk ⟨[(1, iV a), (8, iV v8), (10, iV (((0 - n13)) - 1)), (68, bV (!(inR (((0 - n13)) - 1) (-1000000000) 1000000000)))], [], 1104⟩ (by kernel_rfl) (by kernel_rfl) rfl ?_
          refine X.if_ (b := !(inR (((0 - n13)) - 1) (-1000000000) 1000000000)) (by kernel_rfl) (fun hb21 => ?_) (fun hb21 => ?_)
          ·replace hb21 := inR_no (bnot_yes (hb21))
           refine X.seq ?_
           refine X.rk ⟨[(4, iV 0), (5, iV 0), (6, bV false)], [], 1152⟩ hτ hmix (by kernel_rfl) (by kernel_rfl) rfl ?_
           refine X.ret ?_
           exact ⟨trivial, _, _, ⟨0, 0, false, (by first | exact ⟨by omega, (fun h => by cases h), fun n r hn h0 he => by omega⟩ | exact ⟨by omega, (fun h => by cases h), gnR_no (gn_out (by omega))⟩ | exact ⟨by omega, (fun h => by cases h), gnR_no (gn_out2 hA (by omega) (by omega) (by omega) (by omega))⟩ | exact ⟨by omega, (fun h => by cases h), gnR_bad (v := (0 - n13) - 1) hlast (by omega) (by omega)⟩ | exact ⟨by omega, (fun h => by cases h), gnR_bad (v := n13) hlast (by omega) (by omega)⟩ | exact ⟨by omega, fun _ => ⟨by omega, by omega, by omega⟩, gnR_yes hlast (by omega)⟩), rfl, rfl⟩, .inl (Ret.mk' [] (by kernel_rfl) (by kernel_rfl) (by kernel_rfl))⟩
          ·replace hb21 := inR_yes (bnot_no (hb21))
           refine X.skip ?_
           refine X.seq ?_
           refine X.rk ⟨[(4, iV (((0 - n13)) - 1)), (5, iV (wrap64 ((wrap64 (a + v8)) + 1))), (6, bV true)], [], 1232⟩ hτ hmix (by kernel_rfl) (by kernel_rfl) (s2 := ⟨[(4, iV (((0 - n13)) - 1)), (5, iV (((a + v8)) + 1)), (6, bV true)], [], 1232⟩) (congrArg (fun z : Int => (⟨[(4, iV (((0 - n13)) - 1)), (5, iV z), (6, bV true)], [], 1232⟩ : St)) (show wrap64 ((wrap64 (a + v8)) + 1) = (((a + v8)) + 1) by rw [w64 (n := (a + v8)) (by omega) (by omega), w64 (n := (((a + v8)) + 1)) (by omega) (by omega)])) ?_
           refine X.ret ?_
           exact ⟨trivial, _, _, ⟨(((0 - n13)) - 1), (((a + v8)) + 1), true, (by first | exact ⟨by omega, (fun h => by cases h), fun n r hn h0 he => by omega⟩ | exact ⟨by omega, (fun h => by cases h), gnR_no (gn_out (by omega))⟩ | exact ⟨by omega, (fun h => by cases h), gnR_no (gn_out2 hA (by omega) (by omega) (by omega) (by omega))⟩ | exact ⟨by omega, (fun h => by cases h), gnR_bad (v := (0 - n13) - 1) hlast (by omega) (by omega)⟩ | exact ⟨by omega, (fun h => by cases h), gnR_bad (v := n13) hlast (by omega) (by omega)⟩ | exact ⟨by omega, fun _ => ⟨by omega, by omega, by omega⟩, gnR_yes hlast (by omega)⟩), rfl, rfl⟩, .inl (Ret.mk' [] (by kernel_rfl) (by kernel_rfl) (by kernel_rfl))⟩
        ·refine CH.alt 59 (sV (.bool (decide ((v8 : Int) > 0)))) (sV (.bool false)) (by kernel_rfl) (by rw [hb15]) ?_
         refine CH.alt 60 (sV (.bool (decide ((v8 : Int) > 0)))) (sV (.bool false)) (by kernel_rfl) (by rw [hb15]) ?_
         replace hb15 := of_decide_eq_false (hb15)
         refine CH.go 5 hτ (by kernel_rfl) ?_
         obtain ⟨r22, hr24, hf23⟩ := s_l1In (((0 - n13)) - 1) (-1000000000) 1000000000
         replace hr24 := hr24.symm; subst hr24
         refine CH.call hf23 Try.func66 ⟨rfl, rfl⟩ [] (by kernel_rfl) (by kernel_rfl) (by kernel_rfl) (by kernel_rfl) ?_
         refine CH.go 2 hτ (by kernel_rfl) ?_
         refine CH.endk ⟨[(1, iV a), (8, iV v8), (10, iV (((0 - n13)) - 1)), (68, bV (!(inR (((0 - n13)) - 1) (-1000000000) 1000000000)))], [], 1104⟩ (by kernel_rfl) (by kernel_rfl) rfl ?_
         refine X.if_ (b := !(inR (((0 - n13)) - 1) (-1000000000) 1000000000)) (by kernel_rfl) (fun hb26 => ?_) (fun hb26 => ?_)
         ·replace hb26 := inR_no (bnot_yes (hb26))
          refine X.seq ?_
          refine X.rk ⟨[(4, iV 0), (5, iV 0), (6, bV false)], [], 1152⟩ hτ hmix (by kernel_rfl) (by kernel_rfl) rfl ?_
          refine X.ret ?_
          exact ⟨trivial, _, _, ⟨0, 0, false, (by first | exact ⟨by omega, (fun h => by cases h), fun n r hn h0 he => by omega⟩ | exact ⟨by omega, (fun h => by cases h), gnR_no (gn_out (by omega))⟩ | exact ⟨by omega, (fun h => by cases h), gnR_no (gn_out2 hA (by omega) (by omega) (by omega) (by omega))⟩ | exact ⟨by omega, (fun h => by cases h), gnR_bad (v := (0 - n13) - 1) hlast (by omega) (by omega)⟩ | exact ⟨by omega, (fun h => by cases h), gnR_bad (v := n13) hlast (by omega) (by omega)⟩ | exact ⟨by omega, fun _ => ⟨by omega, by omega, by omega⟩, gnR_yes hlast (by omega)⟩), rfl, rfl⟩, .inl (Ret.mk' [] (by kernel_rfl) (by kernel_rfl) (by kernel_rfl))⟩
         ·replace hb26 := inR_yes (bnot_no (hb26))
          refine X.skip ?_
          refine X.seq ?_
          refine X.rk ⟨[(4, iV (((0 - n13)) - 1)), (5, iV (wrap64 ((wrap64 (a + v8)) + 1))), (6, bV true)], [], 1232⟩ hτ hmix (by kernel_rfl) (by kernel_rfl) (s2 := ⟨[(4, iV (((0 - n13)) - 1)), (5, iV (((a + v8)) + 1)), (6, bV true)], [], 1232⟩) (congrArg (fun z : Int => (⟨[(4, iV (((0 - n13)) - 1)), (5, iV z), (6, bV true)], [], 1232⟩ : St)) (show wrap64 ((wrap64 (a + v8)) + 1) = (((a + v8)) + 1) by rw [w64 (n := (a + v8)) (by omega) (by omega), w64 (n := (((a + v8)) + 1)) (by omega) (by omega)])) ?_
          refine X.ret ?_
          exact ⟨trivial, _, _, ⟨(((0 - n13)) - 1), (((a + v8)) + 1), true, (by first | exact ⟨by omega, (fun h => by cases h), fun n r hn h0 he => by omega⟩ | exact ⟨by omega, (fun h => by cases h), gnR_no (gn_out (by omega))⟩ | exact ⟨by omega, (fun h => by cases h), gnR_no (gn_out2 hA (by omega) (by omega) (by omega) (by omega))⟩ | exact ⟨by omega, (fun h => by cases h), gnR_bad (v := (0 - n13) - 1) hlast (by omega) (by omega)⟩ | exact ⟨by omega, (fun h => by cases h), gnR_bad (v := n13) hlast (by omega) (by omega)⟩ | exact ⟨by omega, fun _ => ⟨by omega, by omega, by omega⟩, gnR_yes hlast (by omega)⟩), rfl, rfl⟩, .inl (Ret.mk' [] (by kernel_rfl) (by kernel_rfl) (by kernel_rfl))⟩
       ·replace hb14 := beq_eq_false_iff_ne.1 (hb14)
        have hodd := and1_no (x := n10) (by assumption) (by omega) (by omega)
        refine X.skip ?_
        refine X.seq ?_
        refine X.seq ?_
        refine X.rs 3 hτ hmix (by kernel_rfl) ?_
        rcases Bool.eq_false_or_eq_true (decide ((v8 : Int) > 0)) with hb27 | hb27
        ·refine CH.alt 59 (sV (.bool (decide ((v8 : Int) > 0)))) (sV (.bool true)) (by kernel_rfl) (by rw [hb27]) ?_
         refine CH.alt 60 (sV (.bool (decide ((v8 : Int) > 0)))) (sV (.bool true)) (by kernel_rfl) (by rw [hb27]) ?_
         replace hb27 := of_decide_eq_true (hb27)
         refine CH.go 4 hτ (by kernel_rfl) ?_
         rcases Bool.eq_false_or_eq_true ((n12 == 0)) with hb28 | hb28
         ·refine CH.alt 62 (sV (.bool ((n12 == 0)))) (sV (.bool true)) (by kernel_rfl) (by rw [hb28]) ?_
          refine CH.alt 63 (sV (.bool ((n12 == 0)))) (sV (.bool true)) (by kernel_rfl) (by rw [hb28]) ?_
          refine CH.alt 64 (sV (.bool ((n12 == 0)))) (sV (.bool true)) (by kernel_rfl) (by rw [hb28]) ?_
          replace hb28 := eq_of_beq (hb28)
          refine CH.go 4 hτ (by kernel_rfl) ?_
          refine CH.endk ⟨[(1, iV a), (8, iV v8), (10, iV n13), (68, bV true)], [], 1040⟩ (by kernel_rfl) (by kernel_rfl) rfl ?_
          refine X.ifT (by kernel_rfl) ?_
          refine X.seq ?_
          refine X.rk ⟨[(4, iV 0), (5, iV 0), (6, bV false)], [], 1088⟩ hτ hmix (by kernel_rfl) (by kernel_rfl) rfl ?_
          refine X.ret ?_
          exact ⟨trivial, _, _, ⟨0, 0, false, (by first | exact ⟨by omega, (fun h => by cases h), fun n r hn h0 he => by omega⟩ | exact ⟨by omega, (fun h => by cases h), gnR_no (gn_out (by omega))⟩ | exact ⟨by omega, (fun h => by cases h), gnR_no (gn_out2 hA (by omega) (by omega) (by omega) (by omega))⟩ | exact ⟨by omega, (fun h => by cases h), gnR_bad (v := (0 - n13) - 1) hlast (by omega) (by omega)⟩ | exact ⟨by omega, (fun h => by cases h), gnR_bad (v := n13) hlast (by omega) (by omega)⟩ | exact ⟨by omega, fun _ => ⟨by omega, by omega, by omega⟩, gnR_yes hlast (by omega)⟩), rfl, rfl⟩, .inl (Ret.mk' [] (by kernel_rfl) (by kernel_rfl) (by kernel_rfl))⟩
         ·refine CH.alt 62 (sV (.bool ((n12 == 0)))) (sV (.bool false)) (by kernel_rfl) (by rw [hb28]) ?_
          refine CH.alt 63 (sV (.bool ((n12 == 0)))) (sV (.bool false)) (by kernel_rfl) (by rw [hb28]) ?_
          refine CH.alt 64 (sV (.bool ((n12 == 0)))) (sV (.bool false)) (by kernel_rfl) (by rw [hb28]) ?_
          replace hb28 := beq_eq_false_iff_ne.1 (hb28)
          refine CH.go 1 hτ (by kernel_rfl) ?_
          obtain ⟨r29, hr31, hf30⟩ := s_l1In n13 (-1000000000) 1000000000
          replace hr31 := hr31.symm; subst hr31
          refine CH.call hf30 Try.func66 ⟨rfl, rfl⟩ [] (by kernel_rfl) (by kernel_rfl) (by kernel_rfl) (by kernel_rfl) ?_
          refine CH.go 2 hτ (by kernel_rfl) ?_
          refine CH.endk ⟨[(1, iV a), (8, iV v8), (10, iV n13), (68, bV (!(inR n13 (-1000000000) 1000000000)))], [], 1040⟩ (by kernel_rfl) (by kernel_rfl) rfl ?_
          refine X.if_ (b := !(inR n13 (-1000000000) 1000000000)) (by kernel_rfl) (fun hb33 => ?_) (fun hb33 => ?_)
          ·replace hb33 := inR_no (bnot_yes (hb33))
           refine X.seq ?_
           refine X.rk ⟨[(4, iV 0), (5, iV 0), (6, bV false)], [], 1088⟩ hτ hmix (by kernel_rfl) (by kernel_rfl) rfl ?_
           refine X.ret ?_
           exact ⟨trivial, _, _, ⟨0, 0, false, (by first | exact ⟨by omega, (fun h => by cases h), fun n r hn h0 he => by omega⟩ | exact ⟨by omega, (fun h => by cases h), gnR_no (gn_out (by omega))⟩ | exact ⟨by omega, (fun h => by cases h), gnR_no (gn_out2 hA (by omega) (by omega) (by omega) (by omega))⟩ | exact ⟨by omega, (fun h => by cases h), gnR_bad (v := (0 - n13) - 1) hlast (by omega) (by omega)⟩ | exact ⟨by omega, (fun h => by cases h), gnR_bad (v := n13) hlast (by omega) (by omega)⟩ | exact ⟨by omega, fun _ => ⟨by omega, by omega, by omega⟩, gnR_yes hlast (by omega)⟩), rfl, rfl⟩, .inl (Ret.mk' [] (by kernel_rfl) (by kernel_rfl) (by kernel_rfl))⟩
          ·replace hb33 := inR_yes (bnot_no (hb33))
           refine X.skip ?_
           refine X.seq ?_
           refine X.rk ⟨[(4, iV n13), (5, iV (wrap64 ((wrap64 (a + v8)) + 1))), (6, bV true)], [], 1168⟩ hτ hmix (by kernel_rfl) (by kernel_rfl) (s2 := ⟨[(4, iV n13), (5, iV (((a + v8)) + 1)), (6, bV true)], [], 1168⟩) (congrArg (fun z : Int => (⟨[(4, iV n13), (5, iV z), (6, bV true)], [], 1168⟩ : St)) (show wrap64 ((wrap64 (a + v8)) + 1) = (((a + v8)) + 1) by rw [w64 (n := (a + v8)) (by omega) (by omega), w64 (n := (((a + v8)) + 1)) (by omega) (by omega)])) ?_
           refine X.ret ?_
           exact ⟨trivial, _, _, ⟨n13, (((a + v8)) + 1), true, (by first | exact ⟨by omega, (fun h => by cases h), fun n r hn h0 he => by omega⟩ | exact ⟨by omega, (fun h => by cases h), gnR_no (gn_out (by omega))⟩ | exact ⟨by omega, (fun h => by cases h), gnR_no (gn_out2 hA (by omega) (by omega) (by omega) (by omega))⟩ | exact ⟨by omega, (fun h => by cases h), gnR_bad (v := (0 - n13) - 1) hlast (by omega) (by omega)⟩ | exact ⟨by omega, (fun h => by cases h), gnR_bad (v := n13) hlast (by omega) (by omega)⟩ | exact ⟨by omega, fun _ => ⟨by omega, by omega, by omega⟩, gnR_yes hlast (by omega)⟩), rfl, rfl⟩, .inl (Ret.mk' [] (by kernel_rfl) (by kernel_rfl) (by kernel_rfl))⟩
        ·refine CH.alt 59 (sV (.bool (decide ((v8 : Int) > 0)))) (sV (.bool false)) (by kernel_rfl) (by rw [hb27]) ?_
         refine CH.alt 60 (sV (.bool (decide ((v8 : Int) > 0)))) (sV (.bool false)) (by kernel_rfl) (by rw [hb27]) ?_
         replace hb27 := of_decide_eq_false (hb27)
         refine CH.go 5 hτ (by kernel_rfl) ?_
         obtain ⟨r34, hr36, hf35⟩ := s_l1In n13 (-1000000000) 1000000000
         replace hr36 := hr36.symm; subst hr36
         refine CH.call hf35 Try.func66 ⟨rfl, rfl⟩ [] (by kernel_rfl) (by kernel_rfl) (by kernel_rfl) (by kernel_rfl) ?_
         refine CH.go 2 hτ (by kernel_rfl) ?_
         refine CH.endk ⟨[(1, iV a), (8, iV v8), (10, iV n13), (68, bV (!(inR n13 (-1000000000) 1000000000)))], [], 1040⟩ (by kernel_rfl) (by kernel_rfl) rfl ?_
         refine X.if_ (b := !(inR n13 (-1000000000) 1000000000)) (by kernel_rfl) (fun hb38 => ?_) (fun hb38 => ?_)
         ·replace hb38 := inR_no (bnot_yes (hb38))
          refine X.seq ?_
          refine X.rk ⟨[(4, iV 0), (5, iV 0), (6, bV false)], [], 1088⟩ hτ hmix (by kernel_rfl) (by kernel_rfl) rfl ?_
          refine X.ret ?_
          exact ⟨trivial, _, _, ⟨0, 0, false, (by first | exact ⟨by omega, (fun h => by cases h), fun n r hn h0 he => by omega⟩ | exact ⟨by omega, (fun h => by cases h), gnR_no (gn_out (by omega))⟩ | exact ⟨by omega, (fun h => by cases h), gnR_no (gn_out2 hA (by omega) (by omega) (by omega) (by omega))⟩ | exact ⟨by omega, (fun h => by cases h), gnR_bad (v := (0 - n13) - 1) hlast (by omega) (by omega)⟩ | exact ⟨by omega, (fun h => by cases h), gnR_bad (v := n13) hlast (by omega) (by omega)⟩ | exact ⟨by omega, fun _ => ⟨by omega, by omega, by omega⟩, gnR_yes hlast (by omega)⟩), rfl, rfl⟩, .inl (Ret.mk' [] (by kernel_rfl) (by kernel_rfl) (by kernel_rfl))⟩
         ·replace hb38 := inR_yes (bnot_no (hb38))
          refine X.skip ?_
          refine X.seq ?_
          refine X.rk ⟨[(4, iV n13), (5, iV (wrap64 ((wrap64 (a + v8)) + 1))), (6, bV true)], [], 1168⟩ hτ hmix (by kernel_rfl) (by kernel_rfl) (s2 := ⟨[(4, iV n13), (5, iV (((a + v8)) + 1)), (6, bV true)], [], 1168⟩) (congrArg (fun z : Int => (⟨[(4, iV n13), (5, iV z), (6, bV true)], [], 1168⟩ : St)) (show wrap64 ((wrap64 (a + v8)) + 1) = (((a + v8)) + 1) by rw [w64 (n := (a + v8)) (by omega) (by omega), w64 (n := (((a + v8)) + 1)) (by omega) (by omega)])) ?_
          refine X.ret ?_
          exact ⟨trivial, _, _, ⟨n13, (((a + v8)) + 1), true, (by first | exact ⟨by omega, (fun h => by cases h), fun n r hn h0 he => by omega⟩ | exact ⟨by omega, (fun h => by cases h), gnR_no (gn_out (by omega))⟩ | exact ⟨by omega, (fun h => by cases h), gnR_no (gn_out2 hA (by omega) (by omega) (by omega) (by omega))⟩ | exact ⟨by omega, (fun h => by cases h), gnR_bad (v := (0 - n13) - 1) hlast (by omega) (by omega)⟩ | exact ⟨by omega, (fun h => by cases h), gnR_bad (v := n13) hlast (by omega) (by omega)⟩ | exact ⟨by omega, fun _ => ⟨by omega, by omega, by omega⟩, gnR_yes hlast (by omega)⟩), rfl, rfl⟩, .inl (Ret.mk' [] (by kernel_rfl) (by kernel_rfl) (by kernel_rfl))⟩
     ·replace hb7 := of_decide_eq_false (hb7)
      refine X.exit ?_
      refine X.seq ?_
      refine X.rk ⟨[(4, iV 0), (5, iV 0), (6, bV false)], [], 512⟩ hτ hmix (by kernel_rfl) (by kernel_rfl) rfl ?_
      refine X.ret ?_
      exact ⟨trivial, _, _, ⟨0, 0, false, (by first | exact ⟨by omega, (fun h => by cases h), fun n r hn h0 he => by omega⟩ | exact ⟨by omega, (fun h => by cases h), gnR_no (gn_out (by omega))⟩ | exact ⟨by omega, (fun h => by cases h), gnR_no (gn_out2 hA (by omega) (by omega) (by omega) (by omega))⟩ | exact ⟨by omega, (fun h => by cases h), gnR_bad (v := (0 - n13) - 1) hlast (by omega) (by omega)⟩ | exact ⟨by omega, (fun h => by cases h), gnR_bad (v := n13) hlast (by omega) (by omega)⟩ | exact ⟨by omega, fun _ => ⟨by omega, by omega, by omega⟩, gnR_yes hlast (by omega)⟩), rfl, rfl⟩, .inl (Ret.mk' [] (by kernel_rfl) (by kernel_rfl) (by kernel_rfl))⟩
    ·refine CH.alt 21 (sV (.bool (decide ((a : Int) < ((l.map dB).length : Int))))) (sV (.bool false)) (by kernel_rfl) (by rw [hb6]) ?_
     refine CH.alt 22 (sV (.bool (decide ((a : Int) < ((l.map dB).length : Int))))) (sV (.bool false)) (by kernel_rfl) (by rw [hb6]) ?_
     refine CH.alt 23 (sV (.bool (decide ((a : Int) < ((l.map dB).length : Int))))) (sV (.bool false)) (by kernel_rfl) (by rw [hb6]) ?_
     replace hb6 := of_decide_eq_false (hb6)
     refine CH.go 7 hτ (by kernel_rfl) ?_
     refine CH.endk ⟨[(0, lV (l.map dB)), (1, iV a), (7, iV v7), (8, iV v8), (30, bV false)], [], 464⟩ (by kernel_rfl) (by kernel_rfl) rfl ?_
     refine X.ifF (by kernel_rfl) ?_
     refine X.exit ?_
     refine X.seq ?_
     refine X.rk ⟨[(4, iV 0), (5, iV 0), (6, bV false)], [], 512⟩ hτ hmix (by kernel_rfl) (by kernel_rfl) rfl ?_
     refine X.ret ?_
     exact ⟨trivial, _, _, ⟨0, 0, false, (by first | exact ⟨by omega, (fun h => by cases h), fun n r hn h0 he => by omega⟩ | exact ⟨by omega, (fun h => by cases h), gnR_no (gn_out (by omega))⟩ | exact ⟨by omega, (fun h => by cases h), gnR_no (gn_out2 hA (by omega) (by omega) (by omega) (by omega))⟩ | exact ⟨by omega, (fun h => by cases h), gnR_bad (v := (0 - n13) - 1) hlast (by omega) (by omega)⟩ | exact ⟨by omega, (fun h => by cases h), gnR_bad (v := n13) hlast (by omega) (by omega)⟩ | exact ⟨by omega, fun _ => ⟨by omega, by omega, by omega⟩, gnR_yes hlast (by omega)⟩), rfl, rfl⟩, .inl (Ret.mk' [] (by kernel_rfl) (by kernel_rfl) (by kernel_rfl))⟩
   ·refine CH.alt 15 (sV (.bool (decide ((a : Int) ≥ 0)))) (sV (.bool false)) (by kernel_rfl) (by rw [hb4]) ?_
    refine CH.alt 16 (sV (.bool (decide ((a : Int) ≥ 0)))) (sV (.bool false)) (by kernel_rfl) (by rw [hb4]) ?_
    refine CH.alt 17 (sV (.bool (decide ((a : Int) ≥ 0)))) (sV (.bool false)) (by kernel_rfl) (by rw [hb4]) ?_
    replace hb4 := of_decide_eq_false (hb4)
    refine CH.go 13 hτ (by kernel_rfl) ?_
    refine CH.endk ⟨[(0, lV (l.map dB)), (1, iV a), (7, iV v7), (8, iV v8), (30, bV false)], [], 464⟩ (by kernel_rfl) (by kernel_rfl) rfl ?_
    refine X.ifF (by kernel_rfl) ?_
    refine X.exit ?_
    refine X.seq ?_
    refine X.rk ⟨[(4, iV 0), (5, iV 0), (6, bV false)], [], 512⟩ hτ hmix (by kernel_rfl) (by kernel_rfl) rfl ?_
    refine X.ret ?_
    exact ⟨trivial, _, _, ⟨0, 0, false, (by first | exact ⟨by omega, (fun h => by cases h), fun n r hn h0 he => by omega⟩ | exact ⟨by omega, (fun h => by cases h), gnR_no (gn_out (by omega))⟩ | exact ⟨by omega, (fun h => by cases h), gnR_no (gn_out2 hA (by omega) (by omega) (by omega) (by omega))⟩ | exact ⟨by omega, (fun h => by cases h), gnR_bad (v := (0 - n13) - 1) hlast (by omega) (by omega)⟩ | exact ⟨by omega, (fun h => by cases h), gnR_bad (v := n13) hlast (by omega) (by omega)⟩ | exact ⟨by omega, fun _ => ⟨by omega, by omega, by omega⟩, gnR_yes hlast (by omega)⟩), rfl, rfl⟩, .inl (Ret.mk' [] (by kernel_rfl) (by kernel_rfl) (by kernel_rfl))⟩
  ·refine CH.alt 12 (sV (.bool (decide ((v8 : Int) < 5)))) (sV (.bool false)) (by kernel_rfl) (by rw [hb3]) ?_
   refine CH.alt 13 (sV (.bool (decide ((v8 : Int) < 5)))) (sV (.bool false)) (by kernel_rfl) (by rw [hb3]) ?_
   replace hb3 := of_decide_eq_false (hb3)
   refine CH.go 17 hτ (by kernel_rfl) ?_
   refine CH.endk ⟨[(0, lV (l.map dB)), (1, iV a), (7, iV v7), (8, iV v8), (30, bV false)], [], 464⟩ (by kernel_rfl) (by kernel_rfl) rfl ?_
   refine X.ifF (by kernel_rfl) ?_
   refine X.exit ?_
   refine X.seq ?_
   refine X.rk ⟨[(4, iV 0), (5, iV 0), (6, bV false)], [], 512⟩ hτ hmix (by kernel_rfl) (by kernel_rfl) rfl ?_
   refine X.ret ?_
   exact ⟨trivial, _, _, ⟨0, 0, false, (by first | exact ⟨by omega, (fun h => by cases h), fun n r hn h0 he => by omega⟩ | exact ⟨by omega, (fun h => by cases h), gnR_no (gn_out (by omega))⟩ | exact ⟨by omega, (fun h => by cases h), gnR_no (gn_out2 hA (by omega) (by omega) (by omega) (by omega))⟩ | exact ⟨by omega, (fun h => by cases h), gnR_bad (v := (0 - n13) - 1) hlast (by omega) (by omega)⟩ | exact ⟨by omega, (fun h => by cases h), gnR_bad (v := n13) hlast (by omega) (by omega)⟩ | exact ⟨by omega, fun _ => ⟨by omega, by omega, by omega⟩, gnR_yes hlast (by omega)⟩), rfl, rfl⟩, .inl (Ret.mk' [] (by kernel_rfl) (by kernel_rfl) (by kernel_rfl))⟩
 obtain ⟨_, _, ⟨r0, r1, r2, h1_, rfl, rfl⟩, hf⟩ := key
 exact ⟨r0, r1, r2, h1_, hf⟩

theorem s_GetText (l : List Int) (a : Int) (hl : l.length ≤ 2000000) : ∃ r0 : ByteArray, ∃ r1 : Int, ∃ r2 : Bool, (SmS r0 ∧ (r2 = true → 0 ≤ a ∧ a < r1 ∧ r1 ≤ l.length) ∧ gtR l a r0 r1 r2 ∧ (0 ≤ r1 ∧ r1 ≤ l.length)) ∧ Fn Try.prog 158 [lV (l.map dB), iV a] (lookH []) (.tup [.c (.d (.v (.string r0))), .c (.d (.v (.int .i64 r1))), .c (.d (.v (.bool r2)))]) (lookH []) := by
 have key : ∃ x' h', ((fun x' h' => ∃ r0 : ByteArray, ∃ r1 : Int, ∃ r2 : Bool, (SmS r0 ∧ (r2 = true → 0 ≤ a ∧ a < r1 ∧ r1 ≤ l.length) ∧ gtR l a r0 r1 r2 ∧ (0 ≤ r1 ∧ r1 ≤ l.length)) ∧ x' = .tup [.c (.d (.v (.string r0))), .c (.d (.v (.int .i64 r1))), .c (.d (.v (.bool r2)))] ∧ h' = [])) x' h' ∧ Fn Try.prog 158 [lV (l.map dB), iV a] (lookH []) x' (lookH h') := by
  refine Fn.bodyX (N := 41) hτ Try.func158 rfl rfl rfl rfl ?_
  refine X.seq ?_
  refine X.rk ⟨[(0, lV (l.map dB)), (1, iV a)], [], 112⟩ hτ hmix (by kernel_rfl) (by kernel_rfl) rfl ?_
  refine X.seq ?_
  refine X.rs 2 hτ hmix (by kernel_rfl) ?_
  obtain ⟨r1, r2, r3, hr5, hf4⟩ := s_GetNum l a (by first | omega | assumption)
  obtain ⟨hgn0, hgn1, hgn2⟩ := hr5
  refine CH.call hf4 Try.func157 ⟨rfl, rfl⟩ [] (by kernel_rfl) (by kernel_rfl) (by kernel_rfl) (by kernel_rfl) ?_
  refine CH.go 7 hτ (by kernel_rfl) ?_
  refine CH.endk ⟨[(0, lV (l.map dB)), (7, iV r1), (8, iV r2), (9, bV r3)], [], 272⟩ (by kernel_rfl) (by kernel_rfl) rfl ?_
  refine X.seq ?_
  refine X.seq ?_
  refine X.rs 3 hτ hmix (by kernel_rfl) ?_
  rcases Bool.eq_false_or_eq_true (!r3) with hb6 | hb6
  ·refine CH.alt 18 (sV (.bool (!r3))) (sV (.bool true)) (by kernel_rfl) (by rw [hb6]) ?_
   refine CH.alt 19 (sV (.bool (!r3))) (sV (.bool true)) (by kernel_rfl) (by rw [hb6]) ?_
   replace hb6 := bnot_yes (hb6)
   refine CH.go 11 hτ (by kernel_rfl) ?_
   refine CH.endk ⟨[(0, lV (l.map dB)), (7, iV r1), (8, iV r2), (30, bV true)], [], 496⟩ (by kernel_rfl) (by kernel_rfl) rfl ?_
   refine X.ifT (by kernel_rfl) ?_
   refine X.seq ?_
   refine X.rk ⟨[(4, .e (.c (.d (.v (.string (⟨#[]⟩ : ByteArray)))))), (5, iV 0), (6, bV false)], [], 544⟩ hτ hmix (by kernel_rfl) (by kernel_rfl) rfl ?_
   refine X.ret ?_
   exact ⟨trivial, _, _, ⟨(⟨#[]⟩ : ByteArray), 0, false, (by first | exact ⟨(by show (0 : Nat) ≤ 2000000; omega), (fun h => by cases h), gtR_bad hgn2 hgn1 (.inl ‹_›), by omega⟩ | exact ⟨(by show (0 : Nat) ≤ 2000000; omega), (fun h => by cases h), gtR_bad hgn2 hgn1 (by omega), by omega⟩ | exact ⟨Nat.le_trans (hsz _ _) (by omega), fun _ => ⟨by omega, by omega, by omega⟩, gtR_yes hgn2 (by omega) (by omega), by omega⟩), rfl, rfl⟩, .inl (Ret.mk' [] (by kernel_rfl) (by kernel_rfl) (by kernel_rfl))⟩
  ·refine CH.alt 18 (sV (.bool (!r3))) (sV (.bool false)) (by kernel_rfl) (by rw [hb6]) ?_
   refine CH.alt 19 (sV (.bool (!r3))) (sV (.bool false)) (by kernel_rfl) (by rw [hb6]) ?_
   replace hb6 := bnot_no (hb6)
   refine CH.go 4 hτ (by kernel_rfl) ?_
   rcases Bool.eq_false_or_eq_true (decide ((r1 : Int) < 0)) with hb7 | hb7
   ·refine CH.alt 21 (sV (.bool (decide ((r1 : Int) < 0)))) (sV (.bool true)) (by kernel_rfl) (by rw [hb7]) ?_
    refine CH.alt 22 (sV (.bool (decide ((r1 : Int) < 0)))) (sV (.bool true)) (by kernel_rfl) (by rw [hb7]) ?_
    refine CH.alt 23 (sV (.bool (decide ((r1 : Int) < 0)))) (sV (.bool true)) (by kernel_rfl) (by rw [hb7]) ?_
    replace hb7 := of_decide_eq_true (hb7)
    refine CH.go 7 hτ (by kernel_rfl) ?_
    refine CH.endk ⟨[(0, lV (l.map dB)), (7, iV r1), (8, iV r2), (30, bV true)], [], 496⟩ (by kernel_rfl) (by kernel_rfl) rfl ?_
    refine X.ifT (by kernel_rfl) ?_
    refine X.seq ?_
    refine X.rk ⟨[(4, .e (.c (.d (.v (.string (⟨#[]⟩ : ByteArray)))))), (5, iV 0), (6, bV false)], [], 544⟩ hτ hmix (by kernel_rfl) (by kernel_rfl) rfl ?_
    refine X.ret ?_
    exact ⟨trivial, _, _, ⟨(⟨#[]⟩ : ByteArray), 0, false, (by first | exact ⟨(by show (0 : Nat) ≤ 2000000; omega), (fun h => by cases h), gtR_bad hgn2 hgn1 (.inl ‹_›), by omega⟩ | exact ⟨(by show (0 : Nat) ≤ 2000000; omega), (fun h => by cases h), gtR_bad hgn2 hgn1 (by omega), by omega⟩ | exact ⟨Nat.le_trans (hsz _ _) (by omega), fun _ => ⟨by omega, by omega, by omega⟩, gtR_yes hgn2 (by omega) (by omega), by omega⟩), rfl, rfl⟩, .inl (Ret.mk' [] (by kernel_rfl) (by kernel_rfl) (by kernel_rfl))⟩
   ·refine CH.alt 21 (sV (.bool (decide ((r1 : Int) < 0)))) (sV (.bool false)) (by kernel_rfl) (by rw [hb7]) ?_
    refine CH.alt 22 (sV (.bool (decide ((r1 : Int) < 0)))) (sV (.bool false)) (by kernel_rfl) (by rw [hb7]) ?_
    refine CH.alt 23 (sV (.bool (decide ((r1 : Int) < 0)))) (sV (.bool false)) (by kernel_rfl) (by rw [hb7]) ?_
    replace hb7 := of_decide_eq_false (hb7)
    refine CH.go 7 hτ (by kernel_rfl) ?_
    have el8 : (l.map dB).length = l.length := List.length_map ..
    refine CH.endk ⟨[(0, lV (l.map dB)), (7, iV r1), (8, iV r2), (30, bV (decide ((r1 : Int) > (wrap64 (((l.map dB).length : Int) - r2)))))], [], 496⟩ (by kernel_rfl) (by kernel_rfl) (s2 := ⟨[(0, lV (l.map dB)), (7, iV r1), (8, iV r2), (30, bV (decide ((r1 : Int) > ((((l.map dB).length : Int) - r2)))))], [], 496⟩) (congrArg (fun z : Bool => (⟨[(0, lV (l.map dB)), (7, iV r1), (8, iV r2), (30, bV z)], [], 496⟩ : St)) (show (decide ((r1 : Int) > (wrap64 (((l.map dB).length : Int) - r2)))) = (decide ((r1 : Int) > ((((l.map dB).length : Int) - r2)))) by rw [w64 (n := (((l.map dB).length : Int) - r2)) (by omega) (by omega)])) ?_
    refine X.if_ (b := decide ((r1 : Int) > ((((l.map dB).length : Int) - r2)))) (by kernel_rfl) (fun hb9 => ?_) (fun hb9 => ?_)
    ·replace hb9 := of_decide_eq_true (hb9)
     refine X.seq ?_
     refine X.rk ⟨[(4, .e (.c (.d (.v (.string (⟨#[]⟩ : ByteArray)))))), (5, iV 0), (6, bV false)], [], 544⟩ hτ hmix (by kernel_rfl) (by kernel_rfl) rfl ?_
     refine X.ret ?_
     exact ⟨trivial, _, _, ⟨(⟨#[]⟩ : ByteArray), 0, false, (by first | exact ⟨(by show (0 : Nat) ≤ 2000000; omega), (fun h => by cases h), gtR_bad hgn2 hgn1 (.inl ‹_›), by omega⟩ | exact ⟨(by show (0 : Nat) ≤ 2000000; omega), (fun h => by cases h), gtR_bad hgn2 hgn1 (by omega), by omega⟩ | exact ⟨Nat.le_trans (hsz _ _) (by omega), fun _ => ⟨by omega, by omega, by omega⟩, gtR_yes hgn2 (by omega) (by omega), by omega⟩), rfl, rfl⟩, .inl (Ret.mk' [] (by kernel_rfl) (by kernel_rfl) (by kernel_rfl))⟩
    ·replace hb9 := of_decide_eq_false (hb9)
     refine X.skip ?_
     refine X.seq ?_
     have hgo := hgn1 ‹_›
     have hsz : ∀ n m : Nat, (strOf ((l.drop n).take m)).size ≤ l.length := fun n m => by rw [strOf_size, List.length_take, List.length_drop]; omega
     refine X.rs 5 hτ hmix (by kernel_rfl) ?_
     refine CH.alt 35 (sV (.int .i64 (wrap64 (r2 + r1)))) (sV (.int .i64 ((r2 + r1)))) (by kernel_rfl) (by rw [w64 (n := (r2 + r1)) (by omega) (by omega)]) ?_
     refine CH.cut hτ (cc := .d (.sl (l.map dB))) (rows := (l.map dB)) (sz := 1) (l := r2) (h := (r2 + r1)) (by kernel_rfl) (by kernel_rfl) (by first | omega | (simp; done) | (simp; omega)) (by first | omega | (simp; done) | (simp; omega)) (by first | omega | (simp only [List.length_map]; omega)) (flat_ok (f := dB) (fun x => rfl)) ?_
     refine CH.alt 36 (.e (.c (.d (.sl (((l.map dB).drop (Int.toNat r2)).take (Int.toNat (r2 + r1) - Int.toNat r2)))))) (.e (.c (.d (.sl (((l.drop (Int.toNat r2)).take (Int.toNat (r2 + r1) - Int.toNat r2)).map dB))))) (by kernel_rfl) (by rw [List.map_take, List.map_drop]) ?_
     refine CH.b2s hτ (cc := .d (.sl (((l.drop (Int.toNat r2)).take (Int.toNat (r2 + r1) - Int.toNat r2)).map dB))) (ns := ((l.drop (Int.toNat r2)).take (Int.toNat (r2 + r1) - Int.toNat r2))) (el := 5) (by kernel_rfl) (by kernel_rfl) Try.underlying5 ?_
     refine CH.go 6 hτ (by kernel_rfl) ?_
     refine CH.endk ⟨[(4, .e (.c (.d (.v (.string (strOf ((l.drop (Int.toNat r2)).take (Int.toNat (r2 + r1) - Int.toNat r2)))))))), (5, iV (wrap64 (r2 + r1))), (6, bV true)], [], 704⟩ (by kernel_rfl) (by kernel_rfl) (s2 := ⟨[(4, .e (.c (.d (.v (.string (strOf ((l.drop (Int.toNat r2)).take (Int.toNat (r2 + r1) - Int.toNat r2)))))))), (5, iV (r2 + r1)), (6, bV true)], [], 704⟩) (congrArg (fun z : Int => (⟨[(4, .e (.c (.d (.v (.string (strOf ((l.drop (Int.toNat r2)).take (Int.toNat (r2 + r1) - Int.toNat r2)))))))), (5, iV z), (6, bV true)], [], 704⟩ : St)) (show wrap64 (r2 + r1) = (r2 + r1) by rw [w64 (n := (r2 + r1)) (by omega) (by omega)])) ?_
     refine X.ret ?_
     exact ⟨trivial, _, _, ⟨(strOf ((l.drop (Int.toNat r2)).take (Int.toNat (r2 + r1) - Int.toNat r2))), (r2 + r1), true, (by first | exact ⟨(by show (0 : Nat) ≤ 2000000; omega), (fun h => by cases h), gtR_bad hgn2 hgn1 (.inl ‹_›), by omega⟩ | exact ⟨(by show (0 : Nat) ≤ 2000000; omega), (fun h => by cases h), gtR_bad hgn2 hgn1 (by omega), by omega⟩ | exact ⟨Nat.le_trans (hsz _ _) (by omega), fun _ => ⟨by omega, by omega, by omega⟩, gtR_yes hgn2 (by omega) (by omega), by omega⟩), rfl, rfl⟩, .inl (Ret.mk' [] (by kernel_rfl) (by kernel_rfl) (by kernel_rfl))⟩
 obtain ⟨_, _, ⟨r0, r1, r2, h1_, rfl, rfl⟩, hf⟩ := key
 exact ⟨r0, r1, r2, h1_, hf⟩

theorem s_GetNames (l : List Int) (a : Int) (hl : l.length ≤ 2000000) : ∃ r0 : List ByteArray, ∃ r1 : Int, ∃ r2 : Bool, (SmN r0 ∧ (r2 = true → 0 ≤ a ∧ a < r1 ∧ r1 ≤ l.length) ∧ gsR l a r0 r1 r2) ∧ Fn Try.prog 159 [lV (l.map dB), iV a] (lookH []) (.tup [.c (.f (.sl (r0.map dS))), .c (.d (.v (.int .i64 r1))), .c (.d (.v (.bool r2)))]) (lookH []) := by
 have key : ∃ x' h', ((fun x' h' => ∃ r0 : List ByteArray, ∃ r1 : Int, ∃ r2 : Bool, (SmN r0 ∧ (r2 = true → 0 ≤ a ∧ a < r1 ∧ r1 ≤ l.length) ∧ gsR l a r0 r1 r2) ∧ x' = .tup [.c (.f (.sl (r0.map dS))), .c (.d (.v (.int .i64 r1))), .c (.d (.v (.bool r2)))] ∧ h' = [])) x' h' ∧ Fn Try.prog 159 [lV (l.map dB), iV a] (lookH []) x' (lookH h') := by
  refine Fn.bodyX (N := 53) hτ Try.func159 rfl rfl rfl rfl ?_
  refine X.seq ?_
  refine X.rk ⟨[(0, lV (l.map dB)), (1, iV a)], [], 112⟩ hτ hmix (by kernel_rfl) (by kernel_rfl) rfl ?_
  refine X.seq ?_
  refine X.rs 2 hτ hmix (by kernel_rfl) ?_
  obtain ⟨r1, r2, r3, hr5, hf4⟩ := s_GetNum l a (by first | omega | assumption)
  obtain ⟨hgn0, hgn1, hgn2⟩ := hr5
  refine CH.call hf4 Try.func157 ⟨rfl, rfl⟩ [] (by kernel_rfl) (by kernel_rfl) (by kernel_rfl) (by kernel_rfl) ?_
  refine CH.go 7 hτ (by kernel_rfl) ?_
  refine CH.endk ⟨[(0, lV (l.map dB)), (7, iV r1), (8, iV r2), (9, bV r3)], [], 272⟩ (by kernel_rfl) (by kernel_rfl) rfl ?_
  refine X.seq ?_
  refine X.seq ?_
  refine X.rs 3 hτ hmix (by kernel_rfl) ?_
  rcases Bool.eq_false_or_eq_true (!r3) with hb6 | hb6
  ·refine CH.alt 23 (sV (.bool (!r3))) (sV (.bool true)) (by kernel_rfl) (by rw [hb6]) ?_
   refine CH.alt 24 (sV (.bool (!r3))) (sV (.bool true)) (by kernel_rfl) (by rw [hb6]) ?_
   replace hb6 := bnot_yes (hb6)
   refine CH.go 4 hτ (by kernel_rfl) ?_
   refine CH.endk ⟨[(0, lV (l.map dB)), (7, iV r1), (8, iV r2), (28, bV true)], [], 384⟩ (by kernel_rfl) (by kernel_rfl) rfl ?_
   refine X.ifT (by kernel_rfl) ?_
   refine X.seq ?_
   refine X.rk ⟨[(4, rV 384), (5, iV 0), (6, bV false)], [(384, some (.row 1 9 [] false true))], 448⟩ hτ hmix (by kernel_rfl) (by kernel_rfl) rfl ?_
   refine X.ret ?_
   exact ⟨trivial, _, _, ⟨[], 0, false, (by first | exact ⟨⟨by simp, all_nil⟩, (fun h => by cases h), gs_bad hgn2 (.inl ‹_›)⟩ | exact ⟨⟨by simp, all_nil⟩, (fun h => by cases h), gs_bad hgn2 (.inr ‹_›)⟩ | exact ⟨⟨by simp, all_nil⟩, (fun h => by cases h), gs_bad2 hI (by omega) ‹_› (by omega) hgt2 ‹_›⟩ | exact ⟨⟨by omega, hS⟩, fun _ => ⟨by omega, by omega, by omega⟩, gs_end hI (by omega) ‹_›⟩), rfl, rfl⟩, .inr ⟨⟨[(4, .e (.c (.f (.sl [])))), (5, iV 0), (6, bV false)], [(384, some (.row 1 9 [] true true))], 448⟩, Wk.less (by kernel_rfl), Ret.mk' [] (by kernel_rfl) (by kernel_rfl) (by kernel_rfl)⟩⟩
  ·refine CH.alt 23 (sV (.bool (!r3))) (sV (.bool false)) (by kernel_rfl) (by rw [hb6]) ?_
   refine CH.alt 24 (sV (.bool (!r3))) (sV (.bool false)) (by kernel_rfl) (by rw [hb6]) ?_
   replace hb6 := bnot_no (hb6)
   refine CH.go 1 hτ (by kernel_rfl) ?_
   obtain ⟨r7, hr9, hf8⟩ := s_l1In r1 0 100
   replace hr9 := hr9.symm; subst hr9
   refine CH.call hf8 Try.func66 ⟨rfl, rfl⟩ [] (by kernel_rfl) (by kernel_rfl) (by kernel_rfl) (by kernel_rfl) ?_
   refine CH.go 2 hτ (by kernel_rfl) ?_
   refine CH.endk ⟨[(0, lV (l.map dB)), (7, iV r1), (8, iV r2), (28, bV (!(inR r1 0 100)))], [], 384⟩ (by kernel_rfl) (by kernel_rfl) rfl ?_
   refine X.if_ (b := !(inR r1 0 100)) (by kernel_rfl) (fun hb11 => ?_) (fun hb11 => ?_)
   ·replace hb11 := inR_no (bnot_yes (hb11))
    refine X.seq ?_
    refine X.rk ⟨[(4, rV 384), (5, iV 0), (6, bV false)], [(384, some (.row 1 9 [] false true))], 448⟩ hτ hmix (by kernel_rfl) (by kernel_rfl) rfl ?_
    refine X.ret ?_
    exact ⟨trivial, _, _, ⟨[], 0, false, (by first | exact ⟨⟨by simp, all_nil⟩, (fun h => by cases h), gs_bad hgn2 (.inl ‹_›)⟩ | exact ⟨⟨by simp, all_nil⟩, (fun h => by cases h), gs_bad hgn2 (.inr ‹_›)⟩ | exact ⟨⟨by simp, all_nil⟩, (fun h => by cases h), gs_bad2 hI (by omega) ‹_› (by omega) hgt2 ‹_›⟩ | exact ⟨⟨by omega, hS⟩, fun _ => ⟨by omega, by omega, by omega⟩, gs_end hI (by omega) ‹_›⟩), rfl, rfl⟩, .inr ⟨⟨[(4, .e (.c (.f (.sl [])))), (5, iV 0), (6, bV false)], [(384, some (.row 1 9 [] true true))], 448⟩, Wk.less (by kernel_rfl), Ret.mk' [] (by kernel_rfl) (by kernel_rfl) (by kernel_rfl)⟩⟩
   ·replace hb11 := inR_yes (bnot_no (hb11))
    refine X.skip ?_
    refine X.seq ?_
    have hgo := hgn1 ‹_›
    have hng := hgn2
    refine X.rk ⟨[(0, lV (l.map dB)), (7, iV r1), (8, iV r2), (10, rV 384)], [(384, some (.row 1 9 [] false true))], 416⟩ hτ hmix (by kernel_rfl) (by kernel_rfl) rfl ?_
    refine X.seq ?_
    refine X.seq ?_
    refine X.rk ⟨[(0, lV (l.map dB)), (7, iV r1), (8, iV r2), (10, rV 384), (11, iV 0)], [(384, some (.row 1 9 [] false true))], 432⟩ hτ hmix (by kernel_rfl) (by kernel_rfl) rfl ?_
    refine X.block ?_
    -- 6: v8 : Int, Lv10 : List ByteArray, v11 : Int
    refine X.loop (σ := { g : Int × (List ByteArray) × Int // (fun (v8 : Int) (Lv10 : List ByteArray) (v11 : Int) => 0 ≤ v11 ∧ v11 ≤ r1 ∧ r1 ≤ 100 ∧ a < v8 ∧ v8 ≤ l.length ∧ (Lv10.length : Int) = v11 ∧ (∀ s, s ∈ Lv10 → SmS s) ∧ gsI l a r1 v8 v11 Lv10) g.1 g.2.1 g.2.2 }) (fun g => (fun (v8 : Int) (Lv10 : List ByteArray) (v11 : Int) => ⟨[(0, lV (l.map dB)), (7, iV r1), (8, iV v8), (10, rV 384), (11, iV v11)], [(384, some (.row 1 9 (Lv10.map dS) false true))], 432⟩) g.1.1 g.1.2.1 g.1.2.2) (fun g => (fun (v8 : Int) (Lv10 : List ByteArray) (v11 : Int) => (r1 - v11).toNat) g.1.1 g.1.2.1 g.1.2.2) ⟨(r2, [], 0), ⟨by first | omega | (dsimp only; omega), by first | omega | (dsimp only; omega), by first | omega | (dsimp only; omega), by first | omega | (dsimp only; omega), by first | omega | (dsimp only; omega), by simp, all_nil, gs_zero hng⟩⟩ (Wk.less (by kernel_rfl)) (fun g => ?_)
    obtain ⟨⟨v8, Lv10, v11⟩, hg13⟩ := g
    have hg13 : 0 ≤ v11 ∧ v11 ≤ r1 ∧ r1 ≤ 100 ∧ a < v8 ∧ v8 ≤ l.length ∧ (Lv10.length : Int) = v11 ∧ (∀ s, s ∈ Lv10 → SmS s) ∧ gsI l a r1 v8 v11 Lv10 := hg13
    obtain ⟨_, _, _, _, _, _, hS, hI⟩ := hg13
    refine X.seq ?_
    refine X.seq ?_
    refine X.rk ⟨[(0, lV (l.map dB)), (7, iV r1), (8, iV v8), (10, rV 384), (11, iV v11), (33, bV (decide ((v11 : Int) < r1)))], [(384, some (.row 1 9 (Lv10.map dS) false true))], 480⟩ hτ hmix (by kernel_rfl) (by kernel_rfl) rfl ?_
    refine X.if_ (b := decide ((v11 : Int) < r1)) (by kernel_rfl) (fun hb14 => ?_) (fun hb14 => ?_)
    ·replace hb14 := of_decide_eq_true (hb14)
     refine X.skip ?_
     refine X.seq ?_
     refine X.block ?_
     refine X.seq ?_
     refine X.rs 2 hτ hmix (by kernel_rfl) ?_
     obtain ⟨r15, r16, r17, hr19, hf18⟩ := s_GetText l v8 (by first | omega | assumption)
     obtain ⟨hgt0, hgt1, hgt2, hgt3⟩ := hr19
     refine CH.call hf18 Try.func158 ⟨rfl, rfl⟩ [] (by kernel_rfl) (by kernel_rfl) (by kernel_rfl) (by kernel_rfl) ?_
     refine CH.go 7 hτ (by kernel_rfl) ?_
     refine CH.endk ⟨[(0, lV (l.map dB)), (7, iV r1), (10, rV 384), (11, iV v11), (12, .e (.c (.d (.v (.string r15))))), (13, iV r16), (14, bV r17)], [(384, some (.row 1 9 (Lv10.map dS) false true))], 640⟩ (by kernel_rfl) (by kernel_rfl) rfl ?_
     refine X.seq ?_
     refine X.seq ?_
     have hgp := hgt1
     refine X.rk ⟨[(0, lV (l.map dB)), (7, iV r1), (10, rV 384), (11, iV v11), (12, .e (.c (.d (.v (.string r15))))), (13, iV r16), (44, bV (!r17))], [(384, some (.row 1 9 (Lv10.map dS) false true))], 672⟩ hτ hmix (by kernel_rfl) (by kernel_rfl) rfl ?_
     refine X.if_ (b := !r17) (by kernel_rfl) (fun hb20 => ?_) (fun hb20 => ?_)
     ·replace hb20 := bnot_yes (hb20)
      refine X.seq ?_
      refine X.rk ⟨[(4, rV 672), (5, iV 0), (6, bV false)], [(672, some (.row 1 9 [] false true))], 736⟩ hτ hmix (by kernel_rfl) (by kernel_rfl) rfl ?_
      refine X.ret ?_
      exact ⟨trivial, _, _, ⟨[], 0, false, (by first | exact ⟨⟨by simp, all_nil⟩, (fun h => by cases h), gs_bad hgn2 (.inl ‹_›)⟩ | exact ⟨⟨by simp, all_nil⟩, (fun h => by cases h), gs_bad hgn2 (.inr ‹_›)⟩ | exact ⟨⟨by simp, all_nil⟩, (fun h => by cases h), gs_bad2 hI (by omega) ‹_› (by omega) hgt2 ‹_›⟩ | exact ⟨⟨by omega, hS⟩, fun _ => ⟨by omega, by omega, by omega⟩, gs_end hI (by omega) ‹_›⟩), rfl, rfl⟩, .inr ⟨⟨[(4, .e (.c (.f (.sl [])))), (5, iV 0), (6, bV false)], [(672, some (.row 1 9 [] true true))], 736⟩, Wk.less (by kernel_rfl), Ret.mk' [] (by kernel_rfl) (by kernel_rfl) (by kernel_rfl)⟩⟩
     ·replace hb20 := bnot_no (hb20)
      refine X.skip ?_
      refine X.seq ?_
      have hgp2 := hgt1 ‹_›
      refine X.rs 3 hτ hmix (by kernel_rfl) ?_
      have el21 : (Lv10.map dS).length = Lv10.length := List.length_map ..
      have el22 : (([r15] : List ByteArray).map dS).length = ([r15] : List ByteArray).length := List.length_map ..
      have el23 : ([r15] : List ByteArray).length = 1 := rfl
      refine CH.app hτ (rows := (Lv10.map dS)) (rows2 := (([r15] : List ByteArray).map dS)) (sz := 1) (bys := 16) true (by kernel_rfl) (by kernel_rfl) (fun _ => flat_d dS (fun x => rfl)) (flat_ok (f := dS) (fun x => rfl)) (by simp only [List.length_map] <;> (first | done | omega | (simp; done) | (simp; omega))) (by kernel_rfl) ?_
      refine CH.go 1 hτ (by kernel_rfl) ?_
      refine CH.endk ⟨[(0, lV (l.map dB)), (7, iV r1), (10, rV 720), (11, iV v11), (13, iV r16)], [(720, some (.row 1 9 ((Lv10.map dS) ++ (([r15] : List ByteArray).map dS)) false true))], 752⟩ (by kernel_rfl) (by kernel_rfl) (s2 := ⟨[(0, lV (l.map dB)), (7, iV r1), (10, rV 720), (11, iV v11), (13, iV r16)], [(720, some (.row 1 9 ((Lv10 ++ ([r15] : List ByteArray)).map dS) false true))], 752⟩) (congrArg (fun z : List (List D) => (⟨[(0, lV (l.map dB)), (7, iV r1), (10, rV 720), (11, iV v11), (13, iV r16)], [(720, some (.row 1 9 z false true))], 752⟩ : St)) (show (Lv10.map dS) ++ (([r15] : List ByteArray).map dS) = ((Lv10 ++ ([r15] : List ByteArray)).map dS) from List.map_append.symm)) ?_
      refine X.rk ⟨[(0, lV (l.map dB)), (7, iV r1), (8, iV r16), (10, rV 720), (11, iV v11)], [(720, some (.row 1 9 ((Lv10 ++ ([r15] : List ByteArray)).map dS) false true))], 784⟩ hτ hmix (by kernel_rfl) (by kernel_rfl) rfl ?_
      refine X.rk ⟨[(0, lV (l.map dB)), (7, iV r1), (8, iV r16), (10, rV 720), (11, iV (wrap64 (v11 + 1)))], [(720, some (.row 1 9 ((Lv10 ++ ([r15] : List ByteArray)).map dS) false true))], 832⟩ hτ hmix (by kernel_rfl) (by kernel_rfl) (s2 := ⟨[(0, lV (l.map dB)), (7, iV r1), (8, iV r16), (10, rV 720), (11, iV (v11 + 1))], [(720, some (.row 1 9 ((Lv10 ++ ([r15] : List ByteArray)).map dS) false true))], 832⟩) (congrArg (fun z : Int => (⟨[(0, lV (l.map dB)), (7, iV r1), (8, iV r16), (10, rV 720), (11, iV z)], [(720, some (.row 1 9 ((Lv10 ++ ([r15] : List ByteArray)).map dS) false true))], 832⟩ : St)) (show wrap64 (v11 + 1) = (v11 + 1) by rw [w64 (n := (v11 + 1)) (by omega) (by omega)])) ?_
      refine ⟨⟨(r16, (Lv10 ++ ([r15] : List ByteArray)), (v11 + 1)), ⟨by first | omega | (dsimp only; omega), by first | omega | (dsimp only; omega), by first | omega | (dsimp only; omega), by first | omega | (dsimp only; omega), by first | omega | (dsimp only; omega), by simp only [List.length_append, List.length_cons, List.length_nil]; (first | omega | (dsimp only; omega)), all_app hS (all_one hgt0), gs_step hI (by first | omega | (dsimp only; omega)) ‹_› (by first | omega | (dsimp only; omega)) hgt2⟩⟩, by first | exact rfl | omega | (dsimp only; omega) | (simp only [List.length_append, List.length_cons, List.length_nil, List.length_set]; omega) | (simp; done) | (simp; omega), Wk.mk' [(384, 720)] (by kernel_rfl) (by kernel_rfl) (by kernel_rfl)⟩
    ·replace hb14 := of_decide_eq_false (hb14)
     refine X.exit ?_
     refine X.seq ?_
     refine X.rk ⟨[(4, rV 384), (5, iV v8), (6, bV true)], [(384, some (.row 1 9 (Lv10.map dS) false true))], 560⟩ hτ hmix (by kernel_rfl) (by kernel_rfl) rfl ?_
     refine X.ret ?_
     exact ⟨trivial, _, _, ⟨Lv10, v8, true, (by first | exact ⟨⟨by simp, all_nil⟩, (fun h => by cases h), gs_bad hgn2 (.inl ‹_›)⟩ | exact ⟨⟨by simp, all_nil⟩, (fun h => by cases h), gs_bad hgn2 (.inr ‹_›)⟩ | exact ⟨⟨by simp, all_nil⟩, (fun h => by cases h), gs_bad2 hI (by omega) ‹_› (by omega) hgt2 ‹_›⟩ | exact ⟨⟨by omega, hS⟩, fun _ => ⟨by omega, by omega, by omega⟩, gs_end hI (by omega) ‹_›⟩), rfl, rfl⟩, .inr ⟨⟨[(4, .e (.c (.f (.sl (Lv10.map dS))))), (5, iV v8), (6, bV true)], [(384, some (.row 1 9 (Lv10.map dS) true true))], 560⟩, Wk.less (by kernel_rfl), Ret.mk' [] (by kernel_rfl) (by kernel_rfl) (by kernel_rfl)⟩⟩
 obtain ⟨_, _, ⟨r0, r1, r2, h1_, rfl, rfl⟩, hf⟩ := key
 exact ⟨r0, r1, r2, h1_, hf⟩

theorem s_GetTx (l : List Int) (a : Int) (hl : l.length ≤ 2000000) : ∃ r0 : S26, ∃ r1 : Int, ∃ r2 : Bool, (Sm26 r0 ∧ (0 ≤ r1 ∧ r1 ≤ l.length) ∧ (r2 = true → 0 ≤ a ∧ a < r1 ∧ r1 ≤ l.length) ∧ gxR l a r0 r1 r2) ∧ Fn Try.prog 100 [lV (l.map dB), iV a] (lookH []) (.tup [.agg [.d (.v (.int .i64 r0.f0)), .d (.v (.string r0.f1)), .d (.v (.string r0.f2)), .d (.v (.int .i64 r0.f3)), .d (.v (.int .i64 r0.f4))], .c (.d (.v (.int .i64 r1))), .c (.d (.v (.bool r2)))]) (lookH []) := by
 have key : ∃ x' h', ((fun x' h' => ∃ r0 : S26, ∃ r1 : Int, ∃ r2 : Bool, (Sm26 r0 ∧ (0 ≤ r1 ∧ r1 ≤ l.length) ∧ (r2 = true → 0 ≤ a ∧ a < r1 ∧ r1 ≤ l.length) ∧ gxR l a r0 r1 r2) ∧ x' = .tup [.agg [.d (.v (.int .i64 r0.f0)), .d (.v (.string r0.f1)), .d (.v (.string r0.f2)), .d (.v (.int .i64 r0.f3)), .d (.v (.int .i64 r0.f4))], .c (.d (.v (.int .i64 r1))), .c (.d (.v (.bool r2)))] ∧ h' = [])) x' h' ∧ Fn Try.prog 100 [lV (l.map dB), iV a] (lookH []) x' (lookH h') := by
  refine Fn.bodyX (N := 90) hτ Try.func100 rfl rfl rfl rfl ?_
  refine X.seq ?_
  refine X.rk ⟨[(0, lV (l.map dB)), (1, iV a), (4, .pt 64 0 0)], [(64, some (.box [.d (.v (.int .i64 0)), .d (.v (.string (⟨#[]⟩ : ByteArray))), .d (.v (.string (⟨#[]⟩ : ByteArray))), .d (.v (.int .i64 0)), .d (.v (.int .i64 0))]))], 112⟩ hτ hmix (by kernel_rfl) (by kernel_rfl) rfl ?_
  refine X.seq ?_
  refine X.rk ⟨[(0, lV (l.map dB)), (1, iV a), (4, .pt 64 0 0), (7, .pt 128 0 0)], [(64, some (.box [.d (.v (.int .i64 0)), .d (.v (.string (⟨#[]⟩ : ByteArray))), .d (.v (.string (⟨#[]⟩ : ByteArray))), .d (.v (.int .i64 0)), .d (.v (.int .i64 0))])), (128, some (.box [.d (.v (.int .i64 0)), .d (.v (.string (⟨#[]⟩ : ByteArray))), .d (.v (.string (⟨#[]⟩ : ByteArray))), .d (.v (.int .i64 0)), .d (.v (.int .i64 0))]))], 160⟩ hτ hmix (by kernel_rfl) (by kernel_rfl) rfl ?_
  refine X.seq ?_
  refine X.rs 2 hτ hmix (by kernel_rfl) ?_
  obtain ⟨r1, r2, r3, hr5, hf4⟩ := s_GetNum l a (by first | omega | assumption)
  obtain ⟨hgn0, hgn1, hgn2⟩ := hr5
  refine CH.call hf4 Try.func157 ⟨rfl, rfl⟩ [] (by kernel_rfl) (by kernel_rfl) (by kernel_rfl) (by kernel_rfl) ?_
  refine CH.go 7 hτ (by kernel_rfl) ?_
  refine CH.endk ⟨[(0, lV (l.map dB)), (4, .pt 64 0 0), (7, .pt 128 0 0), (8, iV r1), (9, iV r2), (10, bV r3)], [(64, some (.box [.d (.v (.int .i64 0)), .d (.v (.string (⟨#[]⟩ : ByteArray))), .d (.v (.string (⟨#[]⟩ : ByteArray))), .d (.v (.int .i64 0)), .d (.v (.int .i64 0))])), (128, some (.box [.d (.v (.int .i64 0)), .d (.v (.string (⟨#[]⟩ : ByteArray))), .d (.v (.string (⟨#[]⟩ : ByteArray))), .d (.v (.int .i64 0)), .d (.v (.int .i64 0))]))], 320⟩ (by kernel_rfl) (by kernel_rfl) rfl ?_
  refine X.seq ?_
  have X1 := fun (t : S26) (r : List Int) (ht : txOk t = true) (h0 : 0 ≤ a) (he : l.drop a.toNat = encTx t ++ r) => hgn2 t.f0 _ (tx_n0 ht) h0 (tx_l he)
  have hb1 := hgn1
  have hc1 := hgn0
  refine X.rs 2 hτ hmix (by kernel_rfl) ?_
  obtain ⟨r6, r7, r8, hr10, hf9⟩ := s_GetText l r2 (by first | omega | assumption)
  obtain ⟨hgt0, hgt1, hgt2, hgt3⟩ := hr10
  refine CH.call hf9 Try.func158 ⟨rfl, rfl⟩ [] (by kernel_rfl) (by kernel_rfl) (by kernel_rfl) (by kernel_rfl) ?_
  refine CH.go 7 hτ (by kernel_rfl) ?_
  refine CH.endk ⟨[(0, lV (l.map dB)), (4, .pt 64 0 0), (7, .pt 128 0 0), (8, iV r1), (10, bV r3), (11, .e (.c (.d (.v (.string r6))))), (12, iV r7), (13, bV r8)], [(64, some (.box [.d (.v (.int .i64 0)), .d (.v (.string (⟨#[]⟩ : ByteArray))), .d (.v (.string (⟨#[]⟩ : ByteArray))), .d (.v (.int .i64 0)), .d (.v (.int .i64 0))])), (128, some (.box [.d (.v (.int .i64 0)), .d (.v (.string (⟨#[]⟩ : ByteArray))), .d (.v (.string (⟨#[]⟩ : ByteArray))), .d (.v (.int .i64 0)), .d (.v (.int .i64 0))]))], 480⟩ (by kernel_rfl) (by kernel_rfl) rfl ?_
  refine X.seq ?_
  have hs1 := hgt0
  have X2 := fun (t : S26) (r : List Int) (ht : txOk t = true) (h0 : 0 ≤ a) (he : l.drop a.toNat = encTx t ++ r) => hgt2 t.f1 _ (tx_s1 ht) (by omega) (X1 t r ht h0 he).2.2
  have hb2 := hgt1
  have hc2 := hgt3
  refine X.rs 2 hτ hmix (by kernel_rfl) ?_
  obtain ⟨r11, r12, r13, hr15, hf14⟩ := s_GetText l r7 (by first | omega | assumption)
  obtain ⟨hgt0, hgt1, hgt2, hgt3⟩ := hr15
  refine CH.call hf14 Try.func158 ⟨rfl, rfl⟩ [] (by kernel_rfl) (by kernel_rfl) (by kernel_rfl) (by kernel_rfl) ?_
  refine CH.go 7 hτ (by kernel_rfl) ?_
  refine CH.endk ⟨[(0, lV (l.map dB)), (4, .pt 64 0 0), (7, .pt 128 0 0), (8, iV r1), (10, bV r3), (11, .e (.c (.d (.v (.string r6))))), (13, bV r8), (14, .e (.c (.d (.v (.string r11))))), (15, iV r12), (16, bV r13)], [(64, some (.box [.d (.v (.int .i64 0)), .d (.v (.string (⟨#[]⟩ : ByteArray))), .d (.v (.string (⟨#[]⟩ : ByteArray))), .d (.v (.int .i64 0)), .d (.v (.int .i64 0))])), (128, some (.box [.d (.v (.int .i64 0)), .d (.v (.string (⟨#[]⟩ : ByteArray))), .d (.v (.string (⟨#[]⟩ : ByteArray))), .d (.v (.int .i64 0)), .d (.v (.int .i64 0))]))], 640⟩ (by kernel_rfl) (by kernel_rfl) rfl ?_
  refine X.seq ?_
  have hs2 := hgt0
  have X3 := fun (t : S26) (r : List Int) (ht : txOk t = true) (h0 : 0 ≤ a) (he : l.drop a.toNat = encTx t ++ r) => hgt2 t.f2 _ (tx_s2 ht) (by omega) (X2 t r ht h0 he).2.2
  have hb3 := hgt1
  have hc3 := hgt3
  refine X.rs 2 hτ hmix (by kernel_rfl) ?_
  obtain ⟨r16, r17, r18, hr20, hf19⟩ := s_GetNum l r12 (by first | omega | assumption)
  obtain ⟨hgn0, hgn1, hgn2⟩ := hr20
  refine CH.call hf19 Try.func157 ⟨rfl, rfl⟩ [] (by kernel_rfl) (by kernel_rfl) (by kernel_rfl) (by kernel_rfl) ?_
  refine CH.go 7 hτ (by kernel_rfl) ?_
  refine CH.endk ⟨[(0, lV (l.map dB)), (4, .pt 64 0 0), (7, .pt 128 0 0), (8, iV r1), (10, bV r3), (11, .e (.c (.d (.v (.string r6))))), (13, bV r8), (14, .e (.c (.d (.v (.string r11))))), (16, bV r13), (17, iV r16), (18, iV r17), (19, bV r18)], [(64, some (.box [.d (.v (.int .i64 0)), .d (.v (.string (⟨#[]⟩ : ByteArray))), .d (.v (.string (⟨#[]⟩ : ByteArray))), .d (.v (.int .i64 0)), .d (.v (.int .i64 0))])), (128, some (.box [.d (.v (.int .i64 0)), .d (.v (.string (⟨#[]⟩ : ByteArray))), .d (.v (.string (⟨#[]⟩ : ByteArray))), .d (.v (.int .i64 0)), .d (.v (.int .i64 0))]))], 800⟩ (by kernel_rfl) (by kernel_rfl) rfl ?_
  refine X.seq ?_
  have X4 := fun (t : S26) (r : List Int) (ht : txOk t = true) (h0 : 0 ≤ a) (he : l.drop a.toNat = encTx t ++ r) => hgn2 t.f3 _ (tx_n3 ht) (by omega) (X3 t r ht h0 he).2.2
  have hb4 := hgn1
  have hc4 := hgn0
  refine X.rs 2 hτ hmix (by kernel_rfl) ?_
  obtain ⟨r21, r22, r23, hr25, hf24⟩ := s_GetNum l r17 (by first | omega | assumption)
  obtain ⟨hgn0, hgn1, hgn2⟩ := hr25
  refine CH.call hf24 Try.func157 ⟨rfl, rfl⟩ [] (by kernel_rfl) (by kernel_rfl) (by kernel_rfl) (by kernel_rfl) ?_
  refine CH.go 7 hτ (by kernel_rfl) ?_
  refine CH.endk ⟨[(4, .pt 64 0 0), (7, .pt 128 0 0), (8, iV r1), (10, bV r3), (11, .e (.c (.d (.v (.string r6))))), (13, bV r8), (14, .e (.c (.d (.v (.string r11))))), (16, bV r13), (17, iV r16), (19, bV r18), (20, iV r21), (21, iV r22), (22, bV r23)], [(64, some (.box [.d (.v (.int .i64 0)), .d (.v (.string (⟨#[]⟩ : ByteArray))), .d (.v (.string (⟨#[]⟩ : ByteArray))), .d (.v (.int .i64 0)), .d (.v (.int .i64 0))])), (128, some (.box [.d (.v (.int .i64 0)), .d (.v (.string (⟨#[]⟩ : ByteArray))), .d (.v (.string (⟨#[]⟩ : ByteArray))), .d (.v (.int .i64 0)), .d (.v (.int .i64 0))]))], 960⟩ (by kernel_rfl) (by kernel_rfl) rfl ?_
  refine X.seq ?_
  refine X.seq ?_
  have X5 := fun (t : S26) (r : List Int) (ht : txOk t = true) (h0 : 0 ≤ a) (he : l.drop a.toNat = encTx t ++ r) => hgn2 t.f4 _ (tx_n4 ht) (by omega) (X4 t r ht h0 he).2.2
  have hb5 := hgn1
  have hc5 := hgn0
  refine X.rs 3 hτ hmix (by kernel_rfl) ?_
  rcases Bool.eq_false_or_eq_true (!r3) with hb26 | hb26
  ·refine CH.alt 60 (sV (.bool (!r3))) (sV (.bool true)) (by kernel_rfl) (by rw [hb26]) ?_
   refine CH.alt 61 (sV (.bool (!r3))) (sV (.bool true)) (by kernel_rfl) (by rw [hb26]) ?_
   replace hb26 := bnot_yes (hb26)
   refine CH.go 15 hτ (by kernel_rfl) ?_
   refine CH.endk ⟨[(4, .pt 64 0 0), (7, .pt 128 0 0), (8, iV r1), (11, .e (.c (.d (.v (.string r6))))), (14, .e (.c (.d (.v (.string r11))))), (17, iV r16), (20, iV r21), (21, iV r22), (76, bV true)], [(64, some (.box [.d (.v (.int .i64 0)), .d (.v (.string (⟨#[]⟩ : ByteArray))), .d (.v (.string (⟨#[]⟩ : ByteArray))), .d (.v (.int .i64 0)), .d (.v (.int .i64 0))])), (128, some (.box [.d (.v (.int .i64 0)), .d (.v (.string (⟨#[]⟩ : ByteArray))), .d (.v (.string (⟨#[]⟩ : ByteArray))), .d (.v (.int .i64 0)), .d (.v (.int .i64 0))]))], 1248⟩ (by kernel_rfl) (by kernel_rfl) rfl ?_
   refine X.ifT (by kernel_rfl) ?_
   refine X.seq ?_
   refine X.rk ⟨[(4, .pt 64 0 0), (5, iV 0), (6, bV false)], [(64, some (.box [.d (.v (.int .i64 0)), .d (.v (.string (⟨#[]⟩ : ByteArray))), .d (.v (.string (⟨#[]⟩ : ByteArray))), .d (.v (.int .i64 0)), .d (.v (.int .i64 0))]))], 1312⟩ hτ hmix (by kernel_rfl) (by kernel_rfl) rfl ?_
   refine X.ret ?_
   exact ⟨trivial, _, _, ⟨(⟨0, (⟨#[]⟩ : ByteArray), (⟨#[]⟩ : ByteArray), 0, 0⟩ : S26), 0, false, (by first | exact ⟨z120_sm, by omega, (fun h => by cases h), fun t r ht h0 he => tf (X1 t r ht h0 he).1 ‹_›⟩ | exact ⟨z120_sm, by omega, (fun h => by cases h), fun t r ht h0 he => tf (X2 t r ht h0 he).1 ‹_›⟩ | exact ⟨z120_sm, by omega, (fun h => by cases h), fun t r ht h0 he => tf (X3 t r ht h0 he).1 ‹_›⟩ | exact ⟨z120_sm, by omega, (fun h => by cases h), fun t r ht h0 he => tf (X4 t r ht h0 he).1 ‹_›⟩ | exact ⟨z120_sm, by omega, (fun h => by cases h), fun t r ht h0 he => tf (X5 t r ht h0 he).1 ‹_›⟩ | exact ⟨z120_sm, by omega, (fun h => by cases h), fun t r ht h0 he => tf ((congrArg txOk (tx_eq (X1 t r ht h0 he).2.1 (X2 t r ht h0 he).2.1 (X3 t r ht h0 he).2.1 (X4 t r ht h0 he).2.1 (X5 t r ht h0 he).2.1)).trans ht) ‹txOk _ = false›⟩ | exact ⟨⟨hs1, hs2⟩, by omega, fun _ => ⟨by omega, by omega, by omega⟩, fun t r ht h0 he => ⟨rfl, tx_eq (X1 t r ht h0 he).2.1 (X2 t r ht h0 he).2.1 (X3 t r ht h0 he).2.1 (X4 t r ht h0 he).2.1 (X5 t r ht h0 he).2.1, (X5 t r ht h0 he).2.2⟩⟩), rfl, rfl⟩, .inl (Ret.mk' [] (by kernel_rfl) (by kernel_rfl) (by kernel_rfl))⟩
  ·refine CH.alt 60 (sV (.bool (!r3))) (sV (.bool false)) (by kernel_rfl) (by rw [hb26]) ?_
   refine CH.alt 61 (sV (.bool (!r3))) (sV (.bool false)) (by kernel_rfl) (by rw [hb26]) ?_
   replace hb26 := bnot_no (hb26)
   refine CH.go 4 hτ (by kernel_rfl) ?_
   rcases Bool.eq_false_or_eq_true (!r8) with hb27 | hb27
   ·refine CH.alt 63 (sV (.bool (!r8))) (sV (.bool true)) (by kernel_rfl) (by rw [hb27]) ?_
    refine CH.alt 64 (sV (.bool (!r8))) (sV (.bool true)) (by kernel_rfl) (by rw [hb27]) ?_
    refine CH.alt 65 (sV (.bool (!r8))) (sV (.bool true)) (by kernel_rfl) (by rw [hb27]) ?_
    replace hb27 := bnot_yes (hb27)
    refine CH.go 11 hτ (by kernel_rfl) ?_
    refine CH.endk ⟨[(4, .pt 64 0 0), (7, .pt 128 0 0), (8, iV r1), (11, .e (.c (.d (.v (.string r6))))), (14, .e (.c (.d (.v (.string r11))))), (17, iV r16), (20, iV r21), (21, iV r22), (76, bV true)], [(64, some (.box [.d (.v (.int .i64 0)), .d (.v (.string (⟨#[]⟩ : ByteArray))), .d (.v (.string (⟨#[]⟩ : ByteArray))), .d (.v (.int .i64 0)), .d (.v (.int .i64 0))])), (128, some (.box [.d (.v (.int .i64 0)), .d (.v (.string (⟨#[]⟩ : ByteArray))), .d (.v (.string (⟨#[]⟩ : ByteArray))), .d (.v (.int .i64 0)), .d (.v (.int .i64 0))]))], 1248⟩ (by kernel_rfl) (by kernel_rfl) rfl ?_
    refine X.ifT (by kernel_rfl) ?_
    refine X.seq ?_
    refine X.rk ⟨[(4, .pt 64 0 0), (5, iV 0), (6, bV false)], [(64, some (.box [.d (.v (.int .i64 0)), .d (.v (.string (⟨#[]⟩ : ByteArray))), .d (.v (.string (⟨#[]⟩ : ByteArray))), .d (.v (.int .i64 0)), .d (.v (.int .i64 0))]))], 1312⟩ hτ hmix (by kernel_rfl) (by kernel_rfl) rfl ?_
    refine X.ret ?_
    exact ⟨trivial, _, _, ⟨(⟨0, (⟨#[]⟩ : ByteArray), (⟨#[]⟩ : ByteArray), 0, 0⟩ : S26), 0, false, (by first | exact ⟨z120_sm, by omega, (fun h => by cases h), fun t r ht h0 he => tf (X1 t r ht h0 he).1 ‹_›⟩ | exact ⟨z120_sm, by omega, (fun h => by cases h), fun t r ht h0 he => tf (X2 t r ht h0 he).1 ‹_›⟩ | exact ⟨z120_sm, by omega, (fun h => by cases h), fun t r ht h0 he => tf (X3 t r ht h0 he).1 ‹_›⟩ | exact ⟨z120_sm, by omega, (fun h => by cases h), fun t r ht h0 he => tf (X4 t r ht h0 he).1 ‹_›⟩ | exact ⟨z120_sm, by omega, (fun h => by cases h), fun t r ht h0 he => tf (X5 t r ht h0 he).1 ‹_›⟩ | exact ⟨z120_sm, by omega, (fun h => by cases h), fun t r ht h0 he => tf ((congrArg txOk (tx_eq (X1 t r ht h0 he).2.1 (X2 t r ht h0 he).2.1 (X3 t r ht h0 he).2.1 (X4 t r ht h0 he).2.1 (X5 t r ht h0 he).2.1)).trans ht) ‹txOk _ = false›⟩ | exact ⟨⟨hs1, hs2⟩, by omega, fun _ => ⟨by omega, by omega, by omega⟩, fun t r ht h0 he => ⟨rfl, tx_eq (X1 t r ht h0 he).2.1 (X2 t r ht h0 he).2.1 (X3 t r ht h0 he).2.1 (X4 t r ht h0 he).2.1 (X5 t r ht h0 he).2.1, (X5 t r ht h0 he).2.2⟩⟩), rfl, rfl⟩, .inl (Ret.mk' [] (by kernel_rfl) (by kernel_rfl) (by kernel_rfl))⟩
   ·refine CH.alt 63 (sV (.bool (!r8))) (sV (.bool false)) (by kernel_rfl) (by rw [hb27]) ?_
    refine CH.alt 64 (sV (.bool (!r8))) (sV (.bool false)) (by kernel_rfl) (by rw [hb27]) ?_
    refine CH.alt 65 (sV (.bool (!r8))) (sV (.bool false)) (by kernel_rfl) (by rw [hb27]) ?_
    replace hb27 := bnot_no (hb27)
    refine CH.go 4 hτ (by kernel_rfl) ?_
    rcases Bool.eq_false_or_eq_true (!r13) with hb28 | hb28
    ·refine CH.alt 67 (sV (.bool (!r13))) (sV (.bool true)) (by kernel_rfl) (by rw [hb28]) ?_
     refine CH.alt 68 (sV (.bool (!r13))) (sV (.bool true)) (by kernel_rfl) (by rw [hb28]) ?_
     refine CH.alt 69 (sV (.bool (!r13))) (sV (.bool true)) (by kernel_rfl) (by rw [hb28]) ?_
     replace hb28 := bnot_yes (hb28)
     refine CH.go 7 hτ (by kernel_rfl) ?_
     refine CH.endk ⟨[(4, .pt 64 0 0), (7, .pt 128 0 0), (8, iV r1), (11, .e (.c (.d (.v (.string r6))))), (14, .e (.c (.d (.v (.string r11))))), (17, iV r16), (20, iV r21), (21, iV r22), (76, bV true)], [(64, some (.box [.d (.v (.int .i64 0)), .d (.v (.string (⟨#[]⟩ : ByteArray))), .d (.v (.string (⟨#[]⟩ : ByteArray))), .d (.v (.int .i64 0)), .d (.v (.int .i64 0))])), (128, some (.box [.d (.v (.int .i64 0)), .d (.v (.string (⟨#[]⟩ : ByteArray))), .d (.v (.string (⟨#[]⟩ : ByteArray))), .d (.v (.int .i64 0)), .d (.v (.int .i64 0))]))], 1248⟩ (by kernel_rfl) (by kernel_rfl) rfl ?_
     refine X.ifT (by kernel_rfl) ?_
     refine X.seq ?_
     refine X.rk ⟨[(4, .pt 64 0 0), (5, iV 0), (6, bV false)], [(64, some (.box [.d (.v (.int .i64 0)), .d (.v (.string (⟨#[]⟩ : ByteArray))), .d (.v (.string (⟨#[]⟩ : ByteArray))), .d (.v (.int .i64 0)), .d (.v (.int .i64 0))]))], 1312⟩ hτ hmix (by kernel_rfl) (by kernel_rfl) rfl ?_
     refine X.ret ?_
     exact ⟨trivial, _, _, ⟨(⟨0, (⟨#[]⟩ : ByteArray), (⟨#[]⟩ : ByteArray), 0, 0⟩ : S26), 0, false, (by first | exact ⟨z120_sm, by omega, (fun h => by cases h), fun t r ht h0 he => tf (X1 t r ht h0 he).1 ‹_›⟩ | exact ⟨z120_sm, by omega, (fun h => by cases h), fun t r ht h0 he => tf (X2 t r ht h0 he).1 ‹_›⟩ | exact ⟨z120_sm, by omega, (fun h => by cases h), fun t r ht h0 he => tf (X3 t r ht h0 he).1 ‹_›⟩ | exact ⟨z120_sm, by omega, (fun h => by cases h), fun t r ht h0 he => tf (X4 t r ht h0 he).1 ‹_›⟩ | exact ⟨z120_sm, by omega, (fun h => by cases h), fun t r ht h0 he => tf (X5 t r ht h0 he).1 ‹_›⟩ | exact ⟨z120_sm, by omega, (fun h => by cases h), fun t r ht h0 he => tf ((congrArg txOk (tx_eq (X1 t r ht h0 he).2.1 (X2 t r ht h0 he).2.1 (X3 t r ht h0 he).2.1 (X4 t r ht h0 he).2.1 (X5 t r ht h0 he).2.1)).trans ht) ‹txOk _ = false›⟩ | exact ⟨⟨hs1, hs2⟩, by omega, fun _ => ⟨by omega, by omega, by omega⟩, fun t r ht h0 he => ⟨rfl, tx_eq (X1 t r ht h0 he).2.1 (X2 t r ht h0 he).2.1 (X3 t r ht h0 he).2.1 (X4 t r ht h0 he).2.1 (X5 t r ht h0 he).2.1, (X5 t r ht h0 he).2.2⟩⟩), rfl, rfl⟩, .inl (Ret.mk' [] (by kernel_rfl) (by kernel_rfl) (by kernel_rfl))⟩
    ·refine CH.alt 67 (sV (.bool (!r13))) (sV (.bool false)) (by kernel_rfl) (by rw [hb28]) ?_
     refine CH.alt 68 (sV (.bool (!r13))) (sV (.bool false)) (by kernel_rfl) (by rw [hb28]) ?_
     refine CH.alt 69 (sV (.bool (!r13))) (sV (.bool false)) (by kernel_rfl) (by rw [hb28]) ?_
     replace hb28 := bnot_no (hb28)
     refine CH.go 4 hτ (by kernel_rfl) ?_
     rcases Bool.eq_false_or_eq_true (!r18) with hb29 | hb29
     ·refine CH.alt 71 (sV (.bool (!r18))) (sV (.bool true)) (by kernel_rfl) (by rw [hb29]) ?_
      refine CH.alt 72 (sV (.bool (!r18))) (sV (.bool true)) (by kernel_rfl) (by rw [hb29]) ?_
      refine CH.alt 73 (sV (.bool (!r18))) (sV (.bool true)) (by kernel_rfl) (by rw [hb29]) ?_
      replace hb29 := bnot_yes (hb29)
      refine CH.go 3 hτ (by kernel_rfl) ?_
      refine CH.endk ⟨[(4, .pt 64 0 0), (7, .pt 128 0 0), (8, iV r1), (11, .e (.c (.d (.v (.string r6))))), (14, .e (.c (.d (.v (.string r11))))), (17, iV r16), (20, iV r21), (21, iV r22), (76, bV true)], [(64, some (.box [.d (.v (.int .i64 0)), .d (.v (.string (⟨#[]⟩ : ByteArray))), .d (.v (.string (⟨#[]⟩ : ByteArray))), .d (.v (.int .i64 0)), .d (.v (.int .i64 0))])), (128, some (.box [.d (.v (.int .i64 0)), .d (.v (.string (⟨#[]⟩ : ByteArray))), .d (.v (.string (⟨#[]⟩ : ByteArray))), .d (.v (.int .i64 0)), .d (.v (.int .i64 0))]))], 1248⟩ (by kernel_rfl) (by kernel_rfl) rfl ?_
      refine X.ifT (by kernel_rfl) ?_
      refine X.seq ?_
      refine X.rk ⟨[(4, .pt 64 0 0), (5, iV 0), (6, bV false)], [(64, some (.box [.d (.v (.int .i64 0)), .d (.v (.string (⟨#[]⟩ : ByteArray))), .d (.v (.string (⟨#[]⟩ : ByteArray))), .d (.v (.int .i64 0)), .d (.v (.int .i64 0))]))], 1312⟩ hτ hmix (by kernel_rfl) (by kernel_rfl) rfl ?_
      refine X.ret ?_
      exact ⟨trivial, _, _, ⟨(⟨0, (⟨#[]⟩ : ByteArray), (⟨#[]⟩ : ByteArray), 0, 0⟩ : S26), 0, false, (by first | exact ⟨z120_sm, by omega, (fun h => by cases h), fun t r ht h0 he => tf (X1 t r ht h0 he).1 ‹_›⟩ | exact ⟨z120_sm, by omega, (fun h => by cases h), fun t r ht h0 he => tf (X2 t r ht h0 he).1 ‹_›⟩ | exact ⟨z120_sm, by omega, (fun h => by cases h), fun t r ht h0 he => tf (X3 t r ht h0 he).1 ‹_›⟩ | exact ⟨z120_sm, by omega, (fun h => by cases h), fun t r ht h0 he => tf (X4 t r ht h0 he).1 ‹_›⟩ | exact ⟨z120_sm, by omega, (fun h => by cases h), fun t r ht h0 he => tf (X5 t r ht h0 he).1 ‹_›⟩ | exact ⟨z120_sm, by omega, (fun h => by cases h), fun t r ht h0 he => tf ((congrArg txOk (tx_eq (X1 t r ht h0 he).2.1 (X2 t r ht h0 he).2.1 (X3 t r ht h0 he).2.1 (X4 t r ht h0 he).2.1 (X5 t r ht h0 he).2.1)).trans ht) ‹txOk _ = false›⟩ | exact ⟨⟨hs1, hs2⟩, by omega, fun _ => ⟨by omega, by omega, by omega⟩, fun t r ht h0 he => ⟨rfl, tx_eq (X1 t r ht h0 he).2.1 (X2 t r ht h0 he).2.1 (X3 t r ht h0 he).2.1 (X4 t r ht h0 he).2.1 (X5 t r ht h0 he).2.1, (X5 t r ht h0 he).2.2⟩⟩), rfl, rfl⟩, .inl (Ret.mk' [] (by kernel_rfl) (by kernel_rfl) (by kernel_rfl))⟩
     ·refine CH.alt 71 (sV (.bool (!r18))) (sV (.bool false)) (by kernel_rfl) (by rw [hb29]) ?_
      refine CH.alt 72 (sV (.bool (!r18))) (sV (.bool false)) (by kernel_rfl) (by rw [hb29]) ?_
      refine CH.alt 73 (sV (.bool (!r18))) (sV (.bool false)) (by kernel_rfl) (by rw [hb29]) ?_
      replace hb29 := bnot_no (hb29)
      refine CH.go 3 hτ (by kernel_rfl) ?_
      refine CH.endk ⟨[(4, .pt 64 0 0), (7, .pt 128 0 0), (8, iV r1), (11, .e (.c (.d (.v (.string r6))))), (14, .e (.c (.d (.v (.string r11))))), (17, iV r16), (20, iV r21), (21, iV r22), (76, bV (!r23))], [(64, some (.box [.d (.v (.int .i64 0)), .d (.v (.string (⟨#[]⟩ : ByteArray))), .d (.v (.string (⟨#[]⟩ : ByteArray))), .d (.v (.int .i64 0)), .d (.v (.int .i64 0))])), (128, some (.box [.d (.v (.int .i64 0)), .d (.v (.string (⟨#[]⟩ : ByteArray))), .d (.v (.string (⟨#[]⟩ : ByteArray))), .d (.v (.int .i64 0)), .d (.v (.int .i64 0))]))], 1248⟩ (by kernel_rfl) (by kernel_rfl) rfl ?_
      refine X.if_ (b := !r23) (by kernel_rfl) (fun hb30 => ?_) (fun hb30 => ?_)
      ·replace hb30 := bnot_yes (hb30)
       refine X.seq ?_
       refine X.rk ⟨[(4, .pt 64 0 0), (5, iV 0), (6, bV false)], [(64, some (.box [.d (.v (.int .i64 0)), .d (.v (.string (⟨#[]⟩ : ByteArray))), .d (.v (.string (⟨#[]⟩ : ByteArray))), .d (.v (.int .i64 0)), .d (.v (.int .i64 0))]))], 1312⟩ hτ hmix (by kernel_rfl) (by kernel_rfl) rfl ?_
       refine X.ret ?_
       exact ⟨trivial, _, _, ⟨(⟨0, (⟨#[]⟩ : ByteArray), (⟨#[]⟩ : ByteArray), 0, 0⟩ : S26), 0, false, (by first | exact ⟨z120_sm, by omega, (fun h => by cases h), fun t r ht h0 he => tf (X1 t r ht h0 he).1 ‹_›⟩ | exact ⟨z120_sm, by omega, (fun h => by cases h), fun t r ht h0 he => tf (X2 t r ht h0 he).1 ‹_›⟩ | exact ⟨z120_sm, by omega, (fun h => by cases h), fun t r ht h0 he => tf (X3 t r ht h0 he).1 ‹_›⟩ | exact ⟨z120_sm, by omega, (fun h => by cases h), fun t r ht h0 he => tf (X4 t r ht h0 he).1 ‹_›⟩ | exact ⟨z120_sm, by omega, (fun h => by cases h), fun t r ht h0 he => tf (X5 t r ht h0 he).1 ‹_›⟩ | exact ⟨z120_sm, by omega, (fun h => by cases h), fun t r ht h0 he => tf ((congrArg txOk (tx_eq (X1 t r ht h0 he).2.1 (X2 t r ht h0 he).2.1 (X3 t r ht h0 he).2.1 (X4 t r ht h0 he).2.1 (X5 t r ht h0 he).2.1)).trans ht) ‹txOk _ = false›⟩ | exact ⟨⟨hs1, hs2⟩, by omega, fun _ => ⟨by omega, by omega, by omega⟩, fun t r ht h0 he => ⟨rfl, tx_eq (X1 t r ht h0 he).2.1 (X2 t r ht h0 he).2.1 (X3 t r ht h0 he).2.1 (X4 t r ht h0 he).2.1 (X5 t r ht h0 he).2.1, (X5 t r ht h0 he).2.2⟩⟩), rfl, rfl⟩, .inl (Ret.mk' [] (by kernel_rfl) (by kernel_rfl) (by kernel_rfl))⟩
      ·replace hb30 := bnot_no (hb30)
       refine X.skip ?_
       refine X.seq ?_
       have hd1 := hb1 ‹_›
       have hd2 := hb2 ‹_›
       have hd3 := hb3 ‹_›
       have hd4 := hb4 ‹_›
       have hd5 := hb5 ‹_›
       refine X.rk ⟨[(4, .pt 64 0 0), (7, .pt 128 0 0), (21, iV r22)], [(64, some (.box [.d (.v (.int .i64 0)), .d (.v (.string (⟨#[]⟩ : ByteArray))), .d (.v (.string (⟨#[]⟩ : ByteArray))), .d (.v (.int .i64 0)), .d (.v (.int .i64 0))])), (128, some (.box [.d (.v (.int .i64 r1)), .d (.v (.string r6)), .d (.v (.string r11)), .d (.v (.int .i64 r16)), .d (.v (.int .i64 r21))]))], 1360⟩ hτ hmix (by kernel_rfl) (by kernel_rfl) rfl ?_
       refine X.seq ?_
       refine X.seq ?_
       refine X.rs 1 hτ hmix (by kernel_rfl) ?_
       obtain ⟨r31, hr33, hf32⟩ := s_TxOk (⟨r1, r6, r11, r16, r21⟩ : S26) (by exact ⟨hs1, hs2⟩)
       replace hr33 := hr33.symm; subst hr33
       refine CH.call hf32 Try.func70 ⟨rfl, rfl⟩ [] (by kernel_rfl) (by kernel_rfl) (by kernel_rfl) (by kernel_rfl) ?_
       refine CH.go 1 hτ (by kernel_rfl) ?_
       refine CH.endk ⟨[(4, .pt 64 0 0), (7, .pt 128 0 0), (21, iV r22), (86, bV (!(txOk (⟨r1, r6, r11, r16, r21⟩ : S26))))], [(64, some (.box [.d (.v (.int .i64 0)), .d (.v (.string (⟨#[]⟩ : ByteArray))), .d (.v (.string (⟨#[]⟩ : ByteArray))), .d (.v (.int .i64 0)), .d (.v (.int .i64 0))])), (128, some (.box [.d (.v (.int .i64 r1)), .d (.v (.string r6)), .d (.v (.string r11)), .d (.v (.int .i64 r16)), .d (.v (.int .i64 r21))]))], 1408⟩ (by kernel_rfl) (by kernel_rfl) rfl ?_
       refine X.if_ (b := !(txOk (⟨r1, r6, r11, r16, r21⟩ : S26))) (by kernel_rfl) (fun hb35 => ?_) (fun hb35 => ?_)
       ·replace hb35 := bnot_yes (hb35)
        refine X.seq ?_
        refine X.rk ⟨[(4, .pt 64 0 0), (5, iV 0), (6, bV false)], [(64, some (.box [.d (.v (.int .i64 0)), .d (.v (.string (⟨#[]⟩ : ByteArray))), .d (.v (.string (⟨#[]⟩ : ByteArray))), .d (.v (.int .i64 0)), .d (.v (.int .i64 0))]))], 1472⟩ hτ hmix (by kernel_rfl) (by kernel_rfl) rfl ?_
        refine X.ret ?_
        exact ⟨trivial, _, _, ⟨(⟨0, (⟨#[]⟩ : ByteArray), (⟨#[]⟩ : ByteArray), 0, 0⟩ : S26), 0, false, (by first | exact ⟨z120_sm, by omega, (fun h => by cases h), fun t r ht h0 he => tf (X1 t r ht h0 he).1 ‹_›⟩ | exact ⟨z120_sm, by omega, (fun h => by cases h), fun t r ht h0 he => tf (X2 t r ht h0 he).1 ‹_›⟩ | exact ⟨z120_sm, by omega, (fun h => by cases h), fun t r ht h0 he => tf (X3 t r ht h0 he).1 ‹_›⟩ | exact ⟨z120_sm, by omega, (fun h => by cases h), fun t r ht h0 he => tf (X4 t r ht h0 he).1 ‹_›⟩ | exact ⟨z120_sm, by omega, (fun h => by cases h), fun t r ht h0 he => tf (X5 t r ht h0 he).1 ‹_›⟩ | exact ⟨z120_sm, by omega, (fun h => by cases h), fun t r ht h0 he => tf ((congrArg txOk (tx_eq (X1 t r ht h0 he).2.1 (X2 t r ht h0 he).2.1 (X3 t r ht h0 he).2.1 (X4 t r ht h0 he).2.1 (X5 t r ht h0 he).2.1)).trans ht) ‹txOk _ = false›⟩ | exact ⟨⟨hs1, hs2⟩, by omega, fun _ => ⟨by omega, by omega, by omega⟩, fun t r ht h0 he => ⟨rfl, tx_eq (X1 t r ht h0 he).2.1 (X2 t r ht h0 he).2.1 (X3 t r ht h0 he).2.1 (X4 t r ht h0 he).2.1 (X5 t r ht h0 he).2.1, (X5 t r ht h0 he).2.2⟩⟩), rfl, rfl⟩, .inl (Ret.mk' [] (by kernel_rfl) (by kernel_rfl) (by kernel_rfl))⟩
       ·replace hb35 := bnot_no (hb35)
        refine X.skip ?_
        refine X.seq ?_
        refine X.rk ⟨[(4, .pt 64 0 0), (5, iV r22), (6, bV true)], [(64, some (.box [.d (.v (.int .i64 r1)), .d (.v (.string r6)), .d (.v (.string r11)), .d (.v (.int .i64 r16)), .d (.v (.int .i64 r21))]))], 1488⟩ hτ hmix (by kernel_rfl) (by kernel_rfl) rfl ?_
        refine X.ret ?_
        exact ⟨trivial, _, _, ⟨(⟨r1, r6, r11, r16, r21⟩ : S26), r22, true, (by first | exact ⟨z120_sm, by omega, (fun h => by cases h), fun t r ht h0 he => tf (X1 t r ht h0 he).1 ‹_›⟩ | exact ⟨z120_sm, by omega, (fun h => by cases h), fun t r ht h0 he => tf (X2 t r ht h0 he).1 ‹_›⟩ | exact ⟨z120_sm, by omega, (fun h => by cases h), fun t r ht h0 he => tf (X3 t r ht h0 he).1 ‹_›⟩ | exact ⟨z120_sm, by omega, (fun h => by cases h), fun t r ht h0 he => tf (X4 t r ht h0 he).1 ‹_›⟩ | exact ⟨z120_sm, by omega, (fun h => by cases h), fun t r ht h0 he => tf (X5 t r ht h0 he).1 ‹_›⟩ | exact ⟨z120_sm, by omega, (fun h => by cases h), fun t r ht h0 he => tf ((congrArg txOk (tx_eq (X1 t r ht h0 he).2.1 (X2 t r ht h0 he).2.1 (X3 t r ht h0 he).2.1 (X4 t r ht h0 he).2.1 (X5 t r ht h0 he).2.1)).trans ht) ‹txOk _ = false›⟩ | exact ⟨⟨hs1, hs2⟩, by omega, fun _ => ⟨by omega, by omega, by omega⟩, fun t r ht h0 he => ⟨rfl, tx_eq (X1 t r ht h0 he).2.1 (X2 t r ht h0 he).2.1 (X3 t r ht h0 he).2.1 (X4 t r ht h0 he).2.1 (X5 t r ht h0 he).2.1, (X5 t r ht h0 he).2.2⟩⟩), rfl, rfl⟩, .inl (Ret.mk' [] (by kernel_rfl) (by kernel_rfl) (by kernel_rfl))⟩
 obtain ⟨_, _, ⟨r0, r1, r2, h1_, rfl, rfl⟩, hf⟩ := key
 exact ⟨r0, r1, r2, h1_, hf⟩

theorem s_l9Num (bs : List Int) (i0 : Int) (h0 : Bool) (hl : bs.length ≤ 4611686018427387904) (hi : 0 ≤ i0 ∧ i0 ≤ bs.length)  (hb : bs.length ≤ 2000000) : ∃ r0 : Int, ∃ i1 : Int, ∃ h1 : Bool, ((-1000000000 ≤ r0 ∧ r0 ≤ 1000000000) ∧ ∀ n r, numOk n → RS bs i0 h0 (numB n ++ r) → RS bs i1 h1 r ∧ r0 = n) ∧ (0 ≤ i1 ∧ i1 ≤ bs.length) ∧ Fn Try.prog 96 [.pt 0 0 0] (lookH [(0, some (.box [.k 0 (.sl (bs.map dB)), .k 1 (.v (.int .i64 i0)), .k 2 (.v (.bool h0))]))]) (iV r0) (lookH [(0, some (.box [.k 0 (.sl (bs.map dB)), .d (.v (.int .i64 i1)), .d (.v (.bool h1))]))]) := by
 have key : ∃ x' h', ((fun x' h' => ∃ r0 : Int, ∃ i1 : Int, ∃ h1 : Bool, ((-1000000000 ≤ r0 ∧ r0 ≤ 1000000000) ∧ ∀ n r, numOk n → RS bs i0 h0 (numB n ++ r) → RS bs i1 h1 r ∧ r0 = n) ∧ (0 ≤ i1 ∧ i1 ≤ bs.length) ∧ x' = iV r0 ∧ h' = [(0, some (.box [.k 0 (.sl (bs.map dB)), .d (.v (.int .i64 i1)), .d (.v (.bool h1))]))])) x' h' ∧ Fn Try.prog 96 [.pt 0 0 0] (lookH [(0, some (.box [.k 0 (.sl (bs.map dB)), .k 1 (.v (.int .i64 i0)), .k 2 (.v (.bool h0))]))]) x' (lookH h') := by
  refine Fn.bodyX (N := 35) hτ Try.func96 rfl rfl rfl rfl ?_
  refine X.seq ?_
  refine X.rk ⟨[(0, .pt 0 0 0)], [(0, some (.box [.k 0 (.sl (bs.map dB)), .d (.v (.int .i64 i0)), .d (.v (.bool h0))]))], 80⟩ hτ hmix (by kernel_rfl) (by kernel_rfl) rfl ?_
  refine X.seq ?_
  refine X.rs 8 hτ hmix (by kernel_rfl) ?_
  obtain ⟨r1, r2, r3, hr5, hf4⟩ := s_GetNum bs i0 (by first | omega | assumption)
  obtain ⟨hgn0, hgn1, hgn2⟩ := hr5
  refine CH.call hf4 Try.func157 ⟨rfl, rfl⟩ [] (by kernel_rfl) (by kernel_rfl) (by kernel_rfl) (by kernel_rfl) ?_
  refine CH.go 7 hτ (by kernel_rfl) ?_
  refine CH.endk ⟨[(0, .pt 0 0 0), (3, iV r1), (4, iV r2), (5, bV r3)], [(0, some (.box [.k 0 (.sl (bs.map dB)), .d (.v (.int .i64 i0)), .d (.v (.bool h0))]))], 336⟩ (by kernel_rfl) (by kernel_rfl) rfl ?_
  refine X.seq ?_
  refine X.seq ?_
  refine X.rs 5 hτ hmix (by kernel_rfl) ?_
  rcases Bool.eq_false_or_eq_true (h0) with hb6 | hb6
  ·refine CH.alt 22 (sV (.bool (h0))) (sV (.bool true)) (by kernel_rfl) (by rw [hb6]) ?_
   refine CH.alt 23 (sV (.bool (h0))) (sV (.bool true)) (by kernel_rfl) (by rw [hb6]) ?_
   refine CH.go 3 hτ (by kernel_rfl) ?_
   refine CH.endk ⟨[(0, .pt 0 0 0), (3, iV r1), (4, iV r2), (26, bV true)], [(0, some (.box [.k 0 (.sl (bs.map dB)), .d (.v (.int .i64 i0)), .d (.v (.bool h0))]))], 464⟩ (by kernel_rfl) (by kernel_rfl) rfl ?_
   refine X.ifT (by kernel_rfl) ?_
   refine X.seq ?_
   refine X.rk ⟨[], [(0, some (.box [.k 0 (.sl (bs.map dB)), .d (.v (.int .i64 i0)), .d (.v (.bool true))]))], 528⟩ hτ hmix (by kernel_rfl) (by kernel_rfl) rfl ?_
   refine X.seq ?_
   refine X.rk ⟨[(2, iV 0)], [(0, some (.box [.k 0 (.sl (bs.map dB)), .d (.v (.int .i64 i0)), .d (.v (.bool true))]))], 544⟩ hτ hmix (by kernel_rfl) (by kernel_rfl) rfl ?_
   refine X.ret ?_
   exact ⟨trivial, _, _, ⟨0, i0, true, (by first | exact ⟨by omega, rd_num0 hgn2 hi.1 (.inl ‹_›)⟩ | exact ⟨by omega, rd_num0 hgn2 hi.1 (.inr ‹_›)⟩ | exact ⟨by omega, rd_num1 hgn2 hi.1⟩), (by omega), rfl, rfl⟩, .inl (Ret.mk' [] (by kernel_rfl) (by kernel_rfl) (by kernel_rfl))⟩
  ·refine CH.alt 22 (sV (.bool (h0))) (sV (.bool false)) (by kernel_rfl) (by rw [hb6]) ?_
   refine CH.alt 23 (sV (.bool (h0))) (sV (.bool false)) (by kernel_rfl) (by rw [hb6]) ?_
   refine CH.go 3 hτ (by kernel_rfl) ?_
   refine CH.endk ⟨[(0, .pt 0 0 0), (3, iV r1), (4, iV r2), (26, bV (!r3))], [(0, some (.box [.k 0 (.sl (bs.map dB)), .d (.v (.int .i64 i0)), .d (.v (.bool h0))]))], 464⟩ (by kernel_rfl) (by kernel_rfl) rfl ?_
   refine X.if_ (b := !r3) (by kernel_rfl) (fun hb7 => ?_) (fun hb7 => ?_)
   ·replace hb7 := bnot_yes (hb7)
    refine X.seq ?_
    refine X.rk ⟨[], [(0, some (.box [.k 0 (.sl (bs.map dB)), .d (.v (.int .i64 i0)), .d (.v (.bool true))]))], 528⟩ hτ hmix (by kernel_rfl) (by kernel_rfl) rfl ?_
    refine X.seq ?_
    refine X.rk ⟨[(2, iV 0)], [(0, some (.box [.k 0 (.sl (bs.map dB)), .d (.v (.int .i64 i0)), .d (.v (.bool true))]))], 544⟩ hτ hmix (by kernel_rfl) (by kernel_rfl) rfl ?_
    refine X.ret ?_
    exact ⟨trivial, _, _, ⟨0, i0, true, (by first | exact ⟨by omega, rd_num0 hgn2 hi.1 (.inl ‹_›)⟩ | exact ⟨by omega, rd_num0 hgn2 hi.1 (.inr ‹_›)⟩ | exact ⟨by omega, rd_num1 hgn2 hi.1⟩), (by omega), rfl, rfl⟩, .inl (Ret.mk' [] (by kernel_rfl) (by kernel_rfl) (by kernel_rfl))⟩
   ·replace hb7 := bnot_no (hb7)
    refine X.skip ?_
    refine X.seq ?_
    have hgo := hgn1 ‹_›
    refine X.rk ⟨[(3, iV r1)], [(0, some (.box [.k 0 (.sl (bs.map dB)), .d (.v (.int .i64 r2)), .d (.v (.bool h0))]))], 544⟩ hτ hmix (by kernel_rfl) (by kernel_rfl) rfl ?_
    refine X.seq ?_
    refine X.rk ⟨[(2, iV r1)], [(0, some (.box [.k 0 (.sl (bs.map dB)), .d (.v (.int .i64 r2)), .d (.v (.bool h0))]))], 576⟩ hτ hmix (by kernel_rfl) (by kernel_rfl) rfl ?_
    refine X.ret ?_
    exact ⟨trivial, _, _, ⟨r1, r2, h0, (by first | exact ⟨by omega, rd_num0 hgn2 hi.1 (.inl ‹_›)⟩ | exact ⟨by omega, rd_num0 hgn2 hi.1 (.inr ‹_›)⟩ | exact ⟨by omega, rd_num1 hgn2 hi.1⟩), (by omega), rfl, rfl⟩, .inl (Ret.mk' [] (by kernel_rfl) (by kernel_rfl) (by kernel_rfl))⟩
 obtain ⟨_, _, ⟨r0, i1, h1, h1_, h2_, rfl, rfl⟩, hf⟩ := key
 exact ⟨r0, i1, h1, h1_, h2_, hf⟩

theorem s_l9Text (bs : List Int) (i0 : Int) (h0 : Bool) (hl : bs.length ≤ 4611686018427387904) (hi : 0 ≤ i0 ∧ i0 ≤ bs.length)  (hb : bs.length ≤ 2000000) : ∃ r0 : ByteArray, ∃ i1 : Int, ∃ h1 : Bool, (SmS r0 ∧ ∀ n r, n.size ≤ 1000000000 → RS bs i0 h0 (textB n ++ r) → RS bs i1 h1 r ∧ r0 = n) ∧ (0 ≤ i1 ∧ i1 ≤ bs.length) ∧ Fn Try.prog 97 [.pt 0 0 0] (lookH [(0, some (.box [.k 0 (.sl (bs.map dB)), .k 1 (.v (.int .i64 i0)), .k 2 (.v (.bool h0))]))]) (.e (.c (.d (.v (.string r0))))) (lookH [(0, some (.box [.k 0 (.sl (bs.map dB)), .d (.v (.int .i64 i1)), .d (.v (.bool h1))]))]) := by
 have key : ∃ x' h', ((fun x' h' => ∃ r0 : ByteArray, ∃ i1 : Int, ∃ h1 : Bool, (SmS r0 ∧ ∀ n r, n.size ≤ 1000000000 → RS bs i0 h0 (textB n ++ r) → RS bs i1 h1 r ∧ r0 = n) ∧ (0 ≤ i1 ∧ i1 ≤ bs.length) ∧ x' = .e (.c (.d (.v (.string r0)))) ∧ h' = [(0, some (.box [.k 0 (.sl (bs.map dB)), .d (.v (.int .i64 i1)), .d (.v (.bool h1))]))])) x' h' ∧ Fn Try.prog 97 [.pt 0 0 0] (lookH [(0, some (.box [.k 0 (.sl (bs.map dB)), .k 1 (.v (.int .i64 i0)), .k 2 (.v (.bool h0))]))]) x' (lookH h') := by
  refine Fn.bodyX (N := 35) hτ Try.func97 rfl rfl rfl rfl ?_
  refine X.seq ?_
  refine X.rk ⟨[(0, .pt 0 0 0)], [(0, some (.box [.k 0 (.sl (bs.map dB)), .d (.v (.int .i64 i0)), .d (.v (.bool h0))]))], 80⟩ hτ hmix (by kernel_rfl) (by kernel_rfl) rfl ?_
  refine X.seq ?_
  refine X.rs 8 hτ hmix (by kernel_rfl) ?_
  obtain ⟨r1, r2, r3, hr5, hf4⟩ := s_GetText bs i0 (by first | omega | assumption)
  obtain ⟨hgt0, hgt1, hgt2, hgt3⟩ := hr5
  refine CH.call hf4 Try.func158 ⟨rfl, rfl⟩ [] (by kernel_rfl) (by kernel_rfl) (by kernel_rfl) (by kernel_rfl) ?_
  refine CH.go 7 hτ (by kernel_rfl) ?_
  refine CH.endk ⟨[(0, .pt 0 0 0), (3, .e (.c (.d (.v (.string r1))))), (4, iV r2), (5, bV r3)], [(0, some (.box [.k 0 (.sl (bs.map dB)), .d (.v (.int .i64 i0)), .d (.v (.bool h0))]))], 336⟩ (by kernel_rfl) (by kernel_rfl) rfl ?_
  refine X.seq ?_
  refine X.seq ?_
  refine X.rs 5 hτ hmix (by kernel_rfl) ?_
  rcases Bool.eq_false_or_eq_true (h0) with hb6 | hb6
  ·refine CH.alt 22 (sV (.bool (h0))) (sV (.bool true)) (by kernel_rfl) (by rw [hb6]) ?_
   refine CH.alt 23 (sV (.bool (h0))) (sV (.bool true)) (by kernel_rfl) (by rw [hb6]) ?_
   refine CH.go 3 hτ (by kernel_rfl) ?_
   refine CH.endk ⟨[(0, .pt 0 0 0), (3, .e (.c (.d (.v (.string r1))))), (4, iV r2), (26, bV true)], [(0, some (.box [.k 0 (.sl (bs.map dB)), .d (.v (.int .i64 i0)), .d (.v (.bool h0))]))], 464⟩ (by kernel_rfl) (by kernel_rfl) rfl ?_
   refine X.ifT (by kernel_rfl) ?_
   refine X.seq ?_
   refine X.rk ⟨[], [(0, some (.box [.k 0 (.sl (bs.map dB)), .d (.v (.int .i64 i0)), .d (.v (.bool true))]))], 528⟩ hτ hmix (by kernel_rfl) (by kernel_rfl) rfl ?_
   refine X.seq ?_
   refine X.rk ⟨[(2, .e (.c (.d (.v (.string (⟨#[]⟩ : ByteArray))))))], [(0, some (.box [.k 0 (.sl (bs.map dB)), .d (.v (.int .i64 i0)), .d (.v (.bool true))]))], 544⟩ hτ hmix (by kernel_rfl) (by kernel_rfl) rfl ?_
   refine X.ret ?_
   exact ⟨trivial, _, _, ⟨(⟨#[]⟩ : ByteArray), i0, true, (by first | exact ⟨(by show (0 : Nat) ≤ 2000000; omega), rd_txt0 hgt2 hi.1 (.inl ‹_›)⟩ | exact ⟨(by show (0 : Nat) ≤ 2000000; omega), rd_txt0 hgt2 hi.1 (.inr ‹_›)⟩ | exact ⟨hgt0, rd_txt1 hgt2 hi.1⟩), (by omega), rfl, rfl⟩, .inl (Ret.mk' [] (by kernel_rfl) (by kernel_rfl) (by kernel_rfl))⟩
  ·refine CH.alt 22 (sV (.bool (h0))) (sV (.bool false)) (by kernel_rfl) (by rw [hb6]) ?_
   refine CH.alt 23 (sV (.bool (h0))) (sV (.bool false)) (by kernel_rfl) (by rw [hb6]) ?_
   refine CH.go 3 hτ (by kernel_rfl) ?_
   refine CH.endk ⟨[(0, .pt 0 0 0), (3, .e (.c (.d (.v (.string r1))))), (4, iV r2), (26, bV (!r3))], [(0, some (.box [.k 0 (.sl (bs.map dB)), .d (.v (.int .i64 i0)), .d (.v (.bool h0))]))], 464⟩ (by kernel_rfl) (by kernel_rfl) rfl ?_
   refine X.if_ (b := !r3) (by kernel_rfl) (fun hb7 => ?_) (fun hb7 => ?_)
   ·replace hb7 := bnot_yes (hb7)
    refine X.seq ?_
    refine X.rk ⟨[], [(0, some (.box [.k 0 (.sl (bs.map dB)), .d (.v (.int .i64 i0)), .d (.v (.bool true))]))], 528⟩ hτ hmix (by kernel_rfl) (by kernel_rfl) rfl ?_
    refine X.seq ?_
    refine X.rk ⟨[(2, .e (.c (.d (.v (.string (⟨#[]⟩ : ByteArray))))))], [(0, some (.box [.k 0 (.sl (bs.map dB)), .d (.v (.int .i64 i0)), .d (.v (.bool true))]))], 544⟩ hτ hmix (by kernel_rfl) (by kernel_rfl) rfl ?_
    refine X.ret ?_
    exact ⟨trivial, _, _, ⟨(⟨#[]⟩ : ByteArray), i0, true, (by first | exact ⟨(by show (0 : Nat) ≤ 2000000; omega), rd_txt0 hgt2 hi.1 (.inl ‹_›)⟩ | exact ⟨(by show (0 : Nat) ≤ 2000000; omega), rd_txt0 hgt2 hi.1 (.inr ‹_›)⟩ | exact ⟨hgt0, rd_txt1 hgt2 hi.1⟩), (by omega), rfl, rfl⟩, .inl (Ret.mk' [] (by kernel_rfl) (by kernel_rfl) (by kernel_rfl))⟩
   ·replace hb7 := bnot_no (hb7)
    refine X.skip ?_
    refine X.seq ?_
    have hgo := hgt1 ‹_›
    refine X.rk ⟨[(3, .e (.c (.d (.v (.string r1)))))], [(0, some (.box [.k 0 (.sl (bs.map dB)), .d (.v (.int .i64 r2)), .d (.v (.bool h0))]))], 544⟩ hτ hmix (by kernel_rfl) (by kernel_rfl) rfl ?_
    refine X.seq ?_
    refine X.rk ⟨[(2, .e (.c (.d (.v (.string r1)))))], [(0, some (.box [.k 0 (.sl (bs.map dB)), .d (.v (.int .i64 r2)), .d (.v (.bool h0))]))], 576⟩ hτ hmix (by kernel_rfl) (by kernel_rfl) rfl ?_
    refine X.ret ?_
    exact ⟨trivial, _, _, ⟨r1, r2, h0, (by first | exact ⟨(by show (0 : Nat) ≤ 2000000; omega), rd_txt0 hgt2 hi.1 (.inl ‹_›)⟩ | exact ⟨(by show (0 : Nat) ≤ 2000000; omega), rd_txt0 hgt2 hi.1 (.inr ‹_›)⟩ | exact ⟨hgt0, rd_txt1 hgt2 hi.1⟩), (by omega), rfl, rfl⟩, .inl (Ret.mk' [] (by kernel_rfl) (by kernel_rfl) (by kernel_rfl))⟩
 obtain ⟨_, _, ⟨r0, i1, h1, h1_, h2_, rfl, rfl⟩, hf⟩ := key
 exact ⟨r0, i1, h1, h1_, h2_, hf⟩

theorem s_l9Names (bs : List Int) (i0 : Int) (h0 : Bool) (hl : bs.length ≤ 4611686018427387904) (hi : 0 ≤ i0 ∧ i0 ≤ bs.length)  (hb : bs.length ≤ 2000000) : ∃ r0 : List ByteArray, ∃ i1 : Int, ∃ h1 : Bool, (SmN r0 ∧ ∀ n r, nmOk n → RS bs i0 h0 (namesB n ++ r) → RS bs i1 h1 r ∧ r0 = n) ∧ (0 ≤ i1 ∧ i1 ≤ bs.length) ∧ Fn Try.prog 98 [.pt 0 0 0] (lookH [(0, some (.box [.k 0 (.sl (bs.map dB)), .k 1 (.v (.int .i64 i0)), .k 2 (.v (.bool h0))]))]) (.e (.c (.f (.sl (r0.map dS))))) (lookH [(0, some (.box [.k 0 (.sl (bs.map dB)), .d (.v (.int .i64 i1)), .d (.v (.bool h1))]))]) := by
 have key : ∃ x' h', ((fun x' h' => ∃ r0 : List ByteArray, ∃ i1 : Int, ∃ h1 : Bool, (SmN r0 ∧ ∀ n r, nmOk n → RS bs i0 h0 (namesB n ++ r) → RS bs i1 h1 r ∧ r0 = n) ∧ (0 ≤ i1 ∧ i1 ≤ bs.length) ∧ x' = .e (.c (.f (.sl (r0.map dS)))) ∧ h' = [(0, some (.box [.k 0 (.sl (bs.map dB)), .d (.v (.int .i64 i1)), .d (.v (.bool h1))]))])) x' h' ∧ Fn Try.prog 98 [.pt 0 0 0] (lookH [(0, some (.box [.k 0 (.sl (bs.map dB)), .k 1 (.v (.int .i64 i0)), .k 2 (.v (.bool h0))]))]) x' (lookH h') := by
  refine Fn.bodyX (N := 36) hτ Try.func98 rfl rfl rfl rfl ?_
  refine X.seq ?_
  refine X.rk ⟨[(0, .pt 0 0 0)], [(0, some (.box [.k 0 (.sl (bs.map dB)), .d (.v (.int .i64 i0)), .d (.v (.bool h0))]))], 80⟩ hτ hmix (by kernel_rfl) (by kernel_rfl) rfl ?_
  refine X.seq ?_
  refine X.rs 8 hτ hmix (by kernel_rfl) ?_
  obtain ⟨r1, r2, r3, hr5, hf4⟩ := s_GetNames bs i0 (by first | omega | assumption)
  obtain ⟨hgs0, hgs1, hgs2⟩ := hr5
  refine CH.call hf4 Try.func159 ⟨rfl, rfl⟩ [] (by kernel_rfl) (by kernel_rfl) (by kernel_rfl) (by kernel_rfl) ?_
  refine CH.go 7 hτ (by kernel_rfl) ?_
  refine CH.endk ⟨[(0, .pt 0 0 0), (3, .e (.c (.f (.sl (r1.map dS))))), (4, iV r2), (5, bV r3)], [(0, some (.box [.k 0 (.sl (bs.map dB)), .d (.v (.int .i64 i0)), .d (.v (.bool h0))]))], 336⟩ (by kernel_rfl) (by kernel_rfl) rfl ?_
  refine X.seq ?_
  refine X.seq ?_
  refine X.rs 5 hτ hmix (by kernel_rfl) ?_
  rcases Bool.eq_false_or_eq_true (h0) with hb6 | hb6
  ·refine CH.alt 22 (sV (.bool (h0))) (sV (.bool true)) (by kernel_rfl) (by rw [hb6]) ?_
   refine CH.alt 23 (sV (.bool (h0))) (sV (.bool true)) (by kernel_rfl) (by rw [hb6]) ?_
   refine CH.go 3 hτ (by kernel_rfl) ?_
   refine CH.endk ⟨[(0, .pt 0 0 0), (3, .e (.c (.f (.sl (r1.map dS))))), (4, iV r2), (26, bV true)], [(0, some (.box [.k 0 (.sl (bs.map dB)), .d (.v (.int .i64 i0)), .d (.v (.bool h0))]))], 464⟩ (by kernel_rfl) (by kernel_rfl) rfl ?_
   refine X.ifT (by kernel_rfl) ?_
   refine X.seq ?_
   refine X.rk ⟨[], [(0, some (.box [.k 0 (.sl (bs.map dB)), .d (.v (.int .i64 i0)), .d (.v (.bool true))]))], 528⟩ hτ hmix (by kernel_rfl) (by kernel_rfl) rfl ?_
   refine X.seq ?_
   refine X.rk ⟨[(2, rV 528)], [(0, some (.box [.k 0 (.sl (bs.map dB)), .d (.v (.int .i64 i0)), .d (.v (.bool true))])), (528, some (.row 1 9 [] false true))], 560⟩ hτ hmix (by kernel_rfl) (by kernel_rfl) rfl ?_
   refine X.ret ?_
   exact ⟨trivial, _, _, ⟨[], i0, true, (by first | exact ⟨⟨by simp, all_nil⟩, rd_nms0 hgs2 hi.1 (.inl ‹_›)⟩ | exact ⟨⟨by simp, all_nil⟩, rd_nms0 hgs2 hi.1 (.inr ‹_›)⟩ | exact ⟨hgs0, rd_nms1 hgs2 hi.1⟩), (by omega), rfl, rfl⟩, .inr ⟨⟨[(2, .e (.c (.f (.sl []))))], [(0, some (.box [.k 0 (.sl (bs.map dB)), .d (.v (.int .i64 i0)), .d (.v (.bool true))])), (528, some (.row 1 9 [] true true))], 560⟩, Wk.less (by kernel_rfl), Ret.mk' [] (by kernel_rfl) (by kernel_rfl) (by kernel_rfl)⟩⟩
  ·refine CH.alt 22 (sV (.bool (h0))) (sV (.bool false)) (by kernel_rfl) (by rw [hb6]) ?_
   refine CH.alt 23 (sV (.bool (h0))) (sV (.bool false)) (by kernel_rfl) (by rw [hb6]) ?_
   refine CH.go 3 hτ (by kernel_rfl) ?_
   refine CH.endk ⟨[(0, .pt 0 0 0), (3, .e (.c (.f (.sl (r1.map dS))))), (4, iV r2), (26, bV (!r3))], [(0, some (.box [.k 0 (.sl (bs.map dB)), .d (.v (.int .i64 i0)), .d (.v (.bool h0))]))], 464⟩ (by kernel_rfl) (by kernel_rfl) rfl ?_
   refine X.if_ (b := !r3) (by kernel_rfl) (fun hb7 => ?_) (fun hb7 => ?_)
   ·replace hb7 := bnot_yes (hb7)
    refine X.seq ?_
    refine X.rk ⟨[], [(0, some (.box [.k 0 (.sl (bs.map dB)), .d (.v (.int .i64 i0)), .d (.v (.bool true))]))], 528⟩ hτ hmix (by kernel_rfl) (by kernel_rfl) rfl ?_
    refine X.seq ?_
    refine X.rk ⟨[(2, rV 528)], [(0, some (.box [.k 0 (.sl (bs.map dB)), .d (.v (.int .i64 i0)), .d (.v (.bool true))])), (528, some (.row 1 9 [] false true))], 560⟩ hτ hmix (by kernel_rfl) (by kernel_rfl) rfl ?_
    refine X.ret ?_
    exact ⟨trivial, _, _, ⟨[], i0, true, (by first | exact ⟨⟨by simp, all_nil⟩, rd_nms0 hgs2 hi.1 (.inl ‹_›)⟩ | exact ⟨⟨by simp, all_nil⟩, rd_nms0 hgs2 hi.1 (.inr ‹_›)⟩ | exact ⟨hgs0, rd_nms1 hgs2 hi.1⟩), (by omega), rfl, rfl⟩, .inr ⟨⟨[(2, .e (.c (.f (.sl []))))], [(0, some (.box [.k 0 (.sl (bs.map dB)), .d (.v (.int .i64 i0)), .d (.v (.bool true))])), (528, some (.row 1 9 [] true true))], 560⟩, Wk.less (by kernel_rfl), Ret.mk' [] (by kernel_rfl) (by kernel_rfl) (by kernel_rfl)⟩⟩
   ·replace hb7 := bnot_no (hb7)
    refine X.skip ?_
    refine X.seq ?_
    have hgo := hgs1 ‹_›
    refine X.rk ⟨[(3, .e (.c (.f (.sl (r1.map dS)))))], [(0, some (.box [.k 0 (.sl (bs.map dB)), .d (.v (.int .i64 r2)), .d (.v (.bool h0))]))], 544⟩ hτ hmix (by kernel_rfl) (by kernel_rfl) rfl ?_
    refine X.seq ?_
    refine X.rk ⟨[(2, .e (.c (.f (.sl (r1.map dS)))))], [(0, some (.box [.k 0 (.sl (bs.map dB)), .d (.v (.int .i64 r2)), .d (.v (.bool h0))]))], 576⟩ hτ hmix (by kernel_rfl) (by kernel_rfl) rfl ?_
    refine X.ret ?_
    exact ⟨trivial, _, _, ⟨r1, r2, h0, (by first | exact ⟨⟨by simp, all_nil⟩, rd_nms0 hgs2 hi.1 (.inl ‹_›)⟩ | exact ⟨⟨by simp, all_nil⟩, rd_nms0 hgs2 hi.1 (.inr ‹_›)⟩ | exact ⟨hgs0, rd_nms1 hgs2 hi.1⟩), (by omega), rfl, rfl⟩, .inl (Ret.mk' [] (by kernel_rfl) (by kernel_rfl) (by kernel_rfl))⟩
 obtain ⟨_, _, ⟨r0, i1, h1, h1_, h2_, rfl, rfl⟩, hf⟩ := key
 exact ⟨r0, i1, h1, h1_, h2_, hf⟩

theorem s_l9GetTc (bs : List Int) (i0 : Int) (h0 : Bool) (hl : bs.length ≤ 4611686018427387904) (hi : 0 ≤ i0 ∧ i0 ≤ bs.length)  (hb : bs.length ≤ 2000000) : ∃ r0 : S46, ∃ i1 : Int, ∃ h1 : Bool, (Sm46 r0 ∧ ∀ X, WT bs i0 h0 X → RS bs i1 h1 X.2 ∧ r0 = X.1) ∧ (0 ≤ i1 ∧ i1 ≤ bs.length) ∧ Fn Try.prog 99 [.pt 0 0 0] (lookH [(0, some (.box [.k 0 (.sl (bs.map dB)), .k 1 (.v (.int .i64 i0)), .k 2 (.v (.bool h0))]))]) (.e (.agg [.d (.v (.int .i64 r0.f0)), .f (.sl (r0.f1.map dS)), .f (.sl (r0.f2.map dI))])) (lookH [(0, some (.box [.k 0 (.sl (bs.map dB)), .d (.v (.int .i64 i1)), .d (.v (.bool h1))]))]) := by
 have key : ∃ x' h', ((fun x' h' => ∃ r0 : S46, ∃ i1 : Int, ∃ h1 : Bool, (Sm46 r0 ∧ ∀ X, WT bs i0 h0 X → RS bs i1 h1 X.2 ∧ r0 = X.1) ∧ (0 ≤ i1 ∧ i1 ≤ bs.length) ∧ x' = .e (.agg [.d (.v (.int .i64 r0.f0)), .f (.sl (r0.f1.map dS)), .f (.sl (r0.f2.map dI))]) ∧ h' = [(0, some (.box [.k 0 (.sl (bs.map dB)), .d (.v (.int .i64 i1)), .d (.v (.bool h1))]))])) x' h' ∧ Fn Try.prog 99 [.pt 0 0 0] (lookH [(0, some (.box [.k 0 (.sl (bs.map dB)), .k 1 (.v (.int .i64 i0)), .k 2 (.v (.bool h0))]))]) x' (lookH h') := by
  refine Fn.bodyX (N := 26) hτ Try.func99 rfl rfl rfl rfl ?_
  refine X.seq ?_
  refine X.rk ⟨[(0, .pt 0 0 0), (2, .pt 64 0 0)], [(0, some (.box [.k 0 (.sl (bs.map dB)), .d (.v (.int .i64 i0)), .d (.v (.bool h0))])), (64, some (.box [.d (.v (.int .i64 0)), .nil, .nil]))], 80⟩ hτ hmix (by kernel_rfl) (by kernel_rfl) rfl ?_
  refine X.seq ?_
  refine X.rs 1 hτ hmix (by kernel_rfl) ?_
  obtain ⟨r1, i4, h5, hr3, hi6, hf2⟩ := s_l9Num bs i0 h0 (by first | assumption | omega) (by omega) (by first | assumption | omega)
  obtain ⟨hrb, hrf⟩ := hr3
  refine CH.call hf2 Try.func96 ⟨rfl, rfl⟩ [(0, 0)] (by kernel_rfl) (by kernel_rfl) (by kernel_rfl) (by kernel_rfl) ?_
  refine CH.go 3 hτ (by kernel_rfl) ?_
  refine CH.endk ⟨[(0, .pt 0 0 0), (2, .pt 64 0 0), (3, .pt 128 0 0)], [(0, some (.box [.k 0 (.sl (bs.map dB)), .d (.v (.int .i64 i4)), .d (.v (.bool h5))])), (64, some (.box [.d (.v (.int .i64 0)), .nil, .nil])), (128, some (.box [.d (.v (.int .i64 r1)), .nil, .nil]))], 160⟩ (by kernel_rfl) (by kernel_rfl) rfl ?_
  refine X.seq ?_
  have W1 := fun (X : S46 × List Int) (hX : WT bs i0 h0 X) => hrf _ _ (wnum hX.1.1 (by decide) (by decide)) (wt0 X hX)
  refine X.rs 1 hτ hmix (by kernel_rfl) ?_
  obtain ⟨r7, i10, h11, hr9, hi12, hf8⟩ := s_l9Names bs i4 h5 (by first | assumption | omega) (by omega) (by first | assumption | omega)
  obtain ⟨hrs, hrf⟩ := hr9
  refine CH.call hf8 Try.func98 ⟨rfl, rfl⟩ [(0, 0)] (by kernel_rfl) (by kernel_rfl) (by kernel_rfl) (by kernel_rfl) ?_
  refine CH.go 2 hτ (by kernel_rfl) ?_
  refine CH.endk ⟨[(0, .pt 0 0 0), (2, .pt 64 0 0), (3, .pt 128 0 0)], [(0, some (.box [.k 0 (.sl (bs.map dB)), .d (.v (.int .i64 i10)), .d (.v (.bool h11))])), (64, some (.box [.d (.v (.int .i64 0)), .nil, .nil])), (128, some (.box [.d (.v (.int .i64 r1)), .f (.sl (r7.map dS)), .nil]))], 224⟩ (by kernel_rfl) (by kernel_rfl) rfl ?_
  refine X.seq ?_
  refine X.seq ?_
  have hsT := hrs
  have hsTl := hsT.1
  have W2 := fun (X : S46 × List Int) (hX : WT bs i0 h0 X) => hrf _ _ (wnms hX.1.2.1) (W1 X hX).1
  refine X.rk ⟨[(0, .pt 0 0 0), (2, .pt 64 0 0), (3, .pt 128 0 0), (4, iV 0)], [(0, some (.box [.k 0 (.sl (bs.map dB)), .d (.v (.int .i64 i10)), .d (.v (.bool h11))])), (64, some (.box [.d (.v (.int .i64 0)), .nil, .nil])), (128, some (.box [.d (.v (.int .i64 r1)), .f (.sl (r7.map dS)), .nil]))], 240⟩ hτ hmix (by kernel_rfl) (by kernel_rfl) rfl ?_
  refine X.block ?_
  refine X.weak (Wk.ownB 128 [.d (.v (.int .i64 r1)), .f (.sl (r7.map dS)), .nil] 2 1 3 (by kernel_rfl) rfl (by kernel_rfl) (by kernel_rfl)) ?_
  -- 4: c0_1 : Int, c0_2 : Bool, Lc128_2 : List Int, v4 : Int
  refine X.loop (σ := { g : Int × Bool × (List Int) × Int // (fun (c0_1 : Int) (c0_2 : Bool) (Lc128_2 : List Int) (v4 : Int) => (0 ≤ c0_1 ∧ c0_1 ≤ bs.length) ∧ (0 ≤ v4 ∧ v4 ≤ r7.length ∧ ((Lc128_2.length : Int) = v4 ∧ Lc128_2.length ≤ 2000000) ∧ ∀ X, WT bs i0 h0 X → RS bs c0_1 c0_2 ((X.1.f2.drop v4.toNat).flatMap numB ++ X.2) ∧ Lc128_2 = X.1.f2.take v4.toNat)) g.1 g.2.1 g.2.2.1 g.2.2.2 }) (fun g => (fun (c0_1 : Int) (c0_2 : Bool) (Lc128_2 : List Int) (v4 : Int) => ⟨[(0, .pt 0 0 0), (2, .pt 64 0 0), (3, .pt 128 0 0), (4, iV v4)], [(0, some (.box [.k 0 (.sl (bs.map dB)), .d (.v (.int .i64 c0_1)), .d (.v (.bool c0_2))])), (64, some (.box [.d (.v (.int .i64 0)), .nil, .nil])), (128, some (.box [.d (.v (.int .i64 r1)), .f (.sl (r7.map dS)), .ref 240])), (240, some (.row 1 3 (Lc128_2.map dI) false true))], 256⟩) g.1.1 g.1.2.1 g.1.2.2.1 g.1.2.2.2) (fun g => (fun (c0_1 : Int) (c0_2 : Bool) (Lc128_2 : List Int) (v4 : Int) => (r7.length - v4).toNat) g.1.1 g.1.2.1 g.1.2.2.1 g.1.2.2.2) ⟨(i10, h11, [], 0), ⟨by first | omega | (dsimp only; omega), ⟨by first | omega | (dsimp only; omega), by first | omega | (dsimp only; omega), by simp, rd_zero (fun X hX => (W2 X hX).1)⟩⟩⟩ (Wk.less (by kernel_rfl)) (fun g => ?_)
  obtain ⟨⟨c0_1, c0_2, Lc128_2, v4⟩, hg14⟩ := g
  have hg14 : (0 ≤ c0_1 ∧ c0_1 ≤ bs.length) ∧ (0 ≤ v4 ∧ v4 ≤ r7.length ∧ ((Lc128_2.length : Int) = v4 ∧ Lc128_2.length ≤ 2000000) ∧ ∀ X, WT bs i0 h0 X → RS bs c0_1 c0_2 ((X.1.f2.drop v4.toNat).flatMap numB ++ X.2) ∧ Lc128_2 = X.1.f2.take v4.toNat) := hg14
  obtain ⟨⟨_, _⟩, ⟨_, _, ⟨_, h9l⟩, W2b⟩⟩ := hg14
  refine X.seq ?_
  refine X.seq ?_
  have el15 : (r7.map dS).length = r7.length := List.length_map ..
  refine X.rk ⟨[(0, .pt 0 0 0), (2, .pt 64 0 0), (3, .pt 128 0 0), (4, iV v4), (15, bV (decide ((v4 : Int) < ((r7.map dS).length : Int))))], [(0, some (.box [.k 0 (.sl (bs.map dB)), .d (.v (.int .i64 c0_1)), .d (.v (.bool c0_2))])), (64, some (.box [.d (.v (.int .i64 0)), .nil, .nil])), (128, some (.box [.d (.v (.int .i64 r1)), .f (.sl (r7.map dS)), .ref 240])), (240, some (.row 1 3 (Lc128_2.map dI) false true))], 336⟩ hτ hmix (by kernel_rfl) (by kernel_rfl) rfl ?_
  refine X.if_ (b := decide ((v4 : Int) < ((r7.map dS).length : Int))) (by kernel_rfl) (fun hb16 => ?_) (fun hb16 => ?_)
  ·replace hb16 := of_decide_eq_true (hb16)
   refine X.skip ?_
   refine X.seq ?_
   refine X.block ?_
   refine X.rs 3 hτ hmix (by kernel_rfl) ?_
   obtain ⟨r17, i20, h21, hr19, hi22, hf18⟩ := s_l9Num bs c0_1 c0_2 (by first | assumption | omega) (by omega) (by first | assumption | omega)
   obtain ⟨hrb, hrf⟩ := hr19
   refine CH.call hf18 Try.func96 ⟨rfl, rfl⟩ [(0, 0)] (by kernel_rfl) (by kernel_rfl) (by kernel_rfl) (by kernel_rfl) ?_
   refine CH.go 1 hτ (by kernel_rfl) ?_
   have el23 : (Lc128_2.map dI).length = Lc128_2.length := List.length_map ..
   have el24 : (([r17] : List Int).map dI).length = ([r17] : List Int).length := List.length_map ..
   have el25 : ([r17] : List Int).length = 1 := rfl
   refine CH.app hτ (rows := (Lc128_2.map dI)) (rows2 := (([r17] : List Int).map dI)) (sz := 1) (bys := 8) true (by kernel_rfl) (by kernel_rfl) (fun _ => flat_d dI (fun x => rfl)) (flat_ok (f := dI) (fun x => rfl)) (by simp only [List.length_map] <;> (first | done | omega | (simp; done) | (simp; omega))) (by kernel_rfl) ?_
   refine CH.go 2 hτ (by kernel_rfl) ?_
   refine CH.endk ⟨[(0, .pt 0 0 0), (2, .pt 64 0 0), (3, .pt 128 0 0), (4, iV v4)], [(0, some (.box [.k 0 (.sl (bs.map dB)), .d (.v (.int .i64 i20)), .d (.v (.bool h21))])), (64, some (.box [.d (.v (.int .i64 0)), .nil, .nil])), (128, some (.box [.d (.v (.int .i64 r1)), .f (.sl (r7.map dS)), .ref 416])), (416, some (.row 1 3 ((Lc128_2.map dI) ++ (([r17] : List Int).map dI)) false true))], 464⟩ (by kernel_rfl) (by kernel_rfl) (s2 := ⟨[(0, .pt 0 0 0), (2, .pt 64 0 0), (3, .pt 128 0 0), (4, iV v4)], [(0, some (.box [.k 0 (.sl (bs.map dB)), .d (.v (.int .i64 i20)), .d (.v (.bool h21))])), (64, some (.box [.d (.v (.int .i64 0)), .nil, .nil])), (128, some (.box [.d (.v (.int .i64 r1)), .f (.sl (r7.map dS)), .ref 416])), (416, some (.row 1 3 ((Lc128_2 ++ ([r17] : List Int)).map dI) false true))], 464⟩) (congrArg (fun z : List (List D) => (⟨[(0, .pt 0 0 0), (2, .pt 64 0 0), (3, .pt 128 0 0), (4, iV v4)], [(0, some (.box [.k 0 (.sl (bs.map dB)), .d (.v (.int .i64 i20)), .d (.v (.bool h21))])), (64, some (.box [.d (.v (.int .i64 0)), .nil, .nil])), (128, some (.box [.d (.v (.int .i64 r1)), .f (.sl (r7.map dS)), .ref 416])), (416, some (.row 1 3 z false true))], 464⟩ : St)) (show (Lc128_2.map dI) ++ (([r17] : List Int).map dI) = ((Lc128_2 ++ ([r17] : List Int)).map dI) from List.map_append.symm)) ?_
   refine X.rk ⟨[(0, .pt 0 0 0), (2, .pt 64 0 0), (3, .pt 128 0 0), (4, iV (wrap64 (v4 + 1)))], [(0, some (.box [.k 0 (.sl (bs.map dB)), .d (.v (.int .i64 i20)), .d (.v (.bool h21))])), (64, some (.box [.d (.v (.int .i64 0)), .nil, .nil])), (128, some (.box [.d (.v (.int .i64 r1)), .f (.sl (r7.map dS)), .ref 416])), (416, some (.row 1 3 ((Lc128_2 ++ ([r17] : List Int)).map dI) false true))], 512⟩ hτ hmix (by kernel_rfl) (by kernel_rfl) (s2 := ⟨[(0, .pt 0 0 0), (2, .pt 64 0 0), (3, .pt 128 0 0), (4, iV (v4 + 1))], [(0, some (.box [.k 0 (.sl (bs.map dB)), .d (.v (.int .i64 i20)), .d (.v (.bool h21))])), (64, some (.box [.d (.v (.int .i64 0)), .nil, .nil])), (128, some (.box [.d (.v (.int .i64 r1)), .f (.sl (r7.map dS)), .ref 416])), (416, some (.row 1 3 ((Lc128_2 ++ ([r17] : List Int)).map dI) false true))], 512⟩) (congrArg (fun z : Int => (⟨[(0, .pt 0 0 0), (2, .pt 64 0 0), (3, .pt 128 0 0), (4, iV z)], [(0, some (.box [.k 0 (.sl (bs.map dB)), .d (.v (.int .i64 i20)), .d (.v (.bool h21))])), (64, some (.box [.d (.v (.int .i64 0)), .nil, .nil])), (128, some (.box [.d (.v (.int .i64 r1)), .f (.sl (r7.map dS)), .ref 416])), (416, some (.row 1 3 ((Lc128_2 ++ ([r17] : List Int)).map dI) false true))], 512⟩ : St)) (show wrap64 (v4 + 1) = (v4 + 1) by rw [w64 (n := (v4 + 1)) (by omega) (by omega)])) ?_
   refine ⟨⟨(i20, h21, (Lc128_2 ++ ([r17] : List Int)), (v4 + 1)), ⟨by first | omega | (dsimp only; omega), ⟨by first | omega | (dsimp only; omega), by first | omega | (dsimp only; omega), by simp only [List.length_append, List.length_cons, List.length_nil]; (first | omega | (dsimp only; omega)), rd_next W2b hrf (by first | omega | (dsimp only; omega)) (fun X hX => by have hq1 := congrArg List.length (W2 X hX).2; have hq2 := hX.1.2.2.1; omega) (fun X hX x hx => wnum (hX.1.2.2.2 x hx) (by decide) (by decide))⟩⟩⟩, by first | exact rfl | omega | (dsimp only; omega) | (simp only [List.length_append, List.length_cons, List.length_nil, List.length_set]; omega) | (simp; done) | (simp; omega), Wk.mk' [(64, 64), (128, 128), (240, 416)] (by kernel_rfl) (by kernel_rfl) (by kernel_rfl)⟩
  ·replace hb16 := of_decide_eq_false (hb16)
   refine X.exit ?_
   refine X.seq ?_
   have W3 := rd_end W2b (fun X hX => by have hq1 := congrArg List.length (W2 X hX).2; have hq2 := hX.1.2.2.1; omega)
   refine X.rk ⟨[(2, .pt 64 0 0)], [(0, some (.box [.k 0 (.sl (bs.map dB)), .d (.v (.int .i64 c0_1)), .d (.v (.bool c0_2))])), (64, some (.box [.d (.v (.int .i64 r1)), .f (.sl (r7.map dS)), .ref 240])), (240, some (.row 1 3 (Lc128_2.map dI) false true))], 368⟩ hτ hmix (by kernel_rfl) (by kernel_rfl) rfl ?_
   refine X.ret ?_
   exact ⟨trivial, _, _, ⟨(⟨r1, r7, Lc128_2⟩ : S46), c0_1, c0_2, ⟨⟨hsT, h9l⟩, fun X hX => ⟨(W3 X hX).1, tc_eq (W1 X hX).2 (W2 X hX).2 (W3 X hX).2⟩⟩, (by omega), rfl, rfl⟩, .inr ⟨⟨[(2, .pt 64 0 0)], [(0, some (.box [.k 0 (.sl (bs.map dB)), .d (.v (.int .i64 c0_1)), .d (.v (.bool c0_2))])), (64, some (.box [.d (.v (.int .i64 r1)), .f (.sl (r7.map dS)), .f (.sl (Lc128_2.map dI))])), (240, some (.row 1 3 (Lc128_2.map dI) true true))], 368⟩, Wk.less (by kernel_rfl), Ret.mk' [] (by kernel_rfl) (by kernel_rfl) (by kernel_rfl)⟩⟩
 obtain ⟨_, _, ⟨r0, i1, h1, h1_, h2_, rfl, rfl⟩, hf⟩ := key
 exact ⟨r0, i1, h1, h1_, h2_, hf⟩

theorem s_GetBlock (l : List Int) (hl : l.length ≤ 2000000) (hu : u8s l) : ∃ r0 : S49, ∃ r1 : Bool, (Sm49 r0 ∧ gbR l r0 r1 ∧ (r1 = false → r0 = z49)) ∧ Fn Try.prog 36 [lV (l.map dB)] (lookH []) (.tup [.agg [.d (.v (.int .i64 r0.f0)), .d (.v (.int .i64 r0.f1)), .d (.v (.int .i64 r0.f2)), .d (.v (.string r0.f3)), .d (.v (.int .i64 r0.f4.f0)), .d (.v (.int .i64 r0.f4.f1)), .f (.sl (r0.f4.f2.map dS)), .d (.v (.int .i64 r0.f5.f0)), .f (.sl (r0.f5.f1.map dS)), .f (.sl (r0.f5.f2.map dI)), .f (.sl (r0.f6.map d26)), .d (.v (.bool r0.f7)), .f (.sl (r0.f8.map d107)), .d (.v (.string r0.f9))], .c (.d (.v (.bool r1)))]) (lookH []) := by
 have key : ∃ x' h', ((fun x' h' => ∃ r0 : S49, ∃ r1 : Bool, (Sm49 r0 ∧ gbR l r0 r1 ∧ (r1 = false → r0 = z49)) ∧ x' = .tup [.agg [.d (.v (.int .i64 r0.f0)), .d (.v (.int .i64 r0.f1)), .d (.v (.int .i64 r0.f2)), .d (.v (.string r0.f3)), .d (.v (.int .i64 r0.f4.f0)), .d (.v (.int .i64 r0.f4.f1)), .f (.sl (r0.f4.f2.map dS)), .d (.v (.int .i64 r0.f5.f0)), .f (.sl (r0.f5.f1.map dS)), .f (.sl (r0.f5.f2.map dI)), .f (.sl (r0.f6.map d26)), .d (.v (.bool r0.f7)), .f (.sl (r0.f8.map d107)), .d (.v (.string r0.f9))], .c (.d (.v (.bool r1)))] ∧ h' = [])) x' h' ∧ Fn Try.prog 36 [lV (l.map dB)] (lookH []) x' (lookH h') := by
  refine Fn.bodyX (N := 147) hτ Try.func36 rfl rfl rfl rfl ?_
  refine X.seq ?_
  refine X.rk ⟨[(0, lV (l.map dB)), (2, .pt 64 0 0)], [(64, some (.box [.d (.v (.int .i64 0)), .d (.v (.int .i64 0)), .d (.v (.int .i64 0)), .d (.v (.string (⟨#[]⟩ : ByteArray))), .d (.v (.int .i64 0)), .d (.v (.int .i64 0)), .nil, .d (.v (.int .i64 0)), .nil, .nil, .nil, .d (.v (.bool false)), .nil, .d (.v (.string (⟨#[]⟩ : ByteArray)))]))], 96⟩ hτ hmix (by kernel_rfl) (by kernel_rfl) rfl ?_
  refine X.seq ?_
  refine X.rk ⟨[(0, lV (l.map dB)), (2, .pt 64 0 0), (4, .pt 128 0 0)], [(64, some (.box [.d (.v (.int .i64 0)), .d (.v (.int .i64 0)), .d (.v (.int .i64 0)), .d (.v (.string (⟨#[]⟩ : ByteArray))), .d (.v (.int .i64 0)), .d (.v (.int .i64 0)), .nil, .d (.v (.int .i64 0)), .nil, .nil, .nil, .d (.v (.bool false)), .nil, .d (.v (.string (⟨#[]⟩ : ByteArray)))])), (128, some (.box [.d (.sl (l.map dB)), .d (.v (.int .i64 0)), .d (.v (.bool false))]))], 160⟩ hτ hmix (by kernel_rfl) (by kernel_rfl) rfl ?_
  refine X.seq ?_
  refine X.rk ⟨[(0, lV (l.map dB)), (2, .pt 64 0 0), (4, .pt 128 0 0), (5, .pt 176 0 0)], [(64, some (.box [.d (.v (.int .i64 0)), .d (.v (.int .i64 0)), .d (.v (.int .i64 0)), .d (.v (.string (⟨#[]⟩ : ByteArray))), .d (.v (.int .i64 0)), .d (.v (.int .i64 0)), .nil, .d (.v (.int .i64 0)), .nil, .nil, .nil, .d (.v (.bool false)), .nil, .d (.v (.string (⟨#[]⟩ : ByteArray)))])), (128, some (.box [.d (.sl (l.map dB)), .d (.v (.int .i64 0)), .d (.v (.bool false))])), (176, some (.box [.d (.v (.int .i64 0)), .d (.v (.int .i64 0)), .d (.v (.int .i64 0)), .d (.v (.string (⟨#[]⟩ : ByteArray))), .d (.v (.int .i64 0)), .d (.v (.int .i64 0)), .nil, .d (.v (.int .i64 0)), .nil, .nil, .nil, .d (.v (.bool false)), .nil, .d (.v (.string (⟨#[]⟩ : ByteArray)))]))], 208⟩ hτ hmix (by kernel_rfl) (by kernel_rfl) rfl ?_
  refine X.seq ?_
  refine X.rs 1 hτ hmix (by kernel_rfl) ?_
  obtain ⟨r1, i4, h5, hr3, hi6, hf2⟩ := s_l9Num l 0 false (by first | assumption | omega) (by omega) (by first | assumption | omega)
  obtain ⟨hrb, hrf⟩ := hr3
  refine CH.call hf2 Try.func96 ⟨rfl, rfl⟩ [(128, 0)] (by kernel_rfl) (by kernel_rfl) (by kernel_rfl) (by kernel_rfl) ?_
  refine CH.go 2 hτ (by kernel_rfl) ?_
  refine CH.endk ⟨[(0, lV (l.map dB)), (2, .pt 64 0 0), (4, .pt 128 0 0), (5, .pt 176 0 0)], [(64, some (.box [.d (.v (.int .i64 0)), .d (.v (.int .i64 0)), .d (.v (.int .i64 0)), .d (.v (.string (⟨#[]⟩ : ByteArray))), .d (.v (.int .i64 0)), .d (.v (.int .i64 0)), .nil, .d (.v (.int .i64 0)), .nil, .nil, .nil, .d (.v (.bool false)), .nil, .d (.v (.string (⟨#[]⟩ : ByteArray)))])), (128, some (.box [.d (.sl (l.map dB)), .d (.v (.int .i64 i4)), .d (.v (.bool h5))])), (176, some (.box [.d (.v (.int .i64 r1)), .d (.v (.int .i64 0)), .d (.v (.int .i64 0)), .d (.v (.string (⟨#[]⟩ : ByteArray))), .d (.v (.int .i64 0)), .d (.v (.int .i64 0)), .nil, .d (.v (.int .i64 0)), .nil, .nil, .nil, .d (.v (.bool false)), .nil, .d (.v (.string (⟨#[]⟩ : ByteArray)))]))], 272⟩ (by kernel_rfl) (by kernel_rfl) rfl ?_
  refine X.seq ?_
  have W0 := fun (X : S49) (hX : WB l 0 false X) => hrf _ _ (wnum hX.bk.n0 (by decide) (by decide)) (wb0 X hX)
  refine X.rs 1 hτ hmix (by kernel_rfl) ?_
  obtain ⟨r7, i10, h11, hr9, hi12, hf8⟩ := s_l9Num l i4 h5 (by first | assumption | omega) (by omega) (by first | assumption | omega)
  obtain ⟨hrb, hrf⟩ := hr9
  refine CH.call hf8 Try.func96 ⟨rfl, rfl⟩ [(128, 0)] (by kernel_rfl) (by kernel_rfl) (by kernel_rfl) (by kernel_rfl) ?_
  refine CH.go 2 hτ (by kernel_rfl) ?_
  refine CH.endk ⟨[(0, lV (l.map dB)), (2, .pt 64 0 0), (4, .pt 128 0 0), (5, .pt 176 0 0)], [(64, some (.box [.d (.v (.int .i64 0)), .d (.v (.int .i64 0)), .d (.v (.int .i64 0)), .d (.v (.string (⟨#[]⟩ : ByteArray))), .d (.v (.int .i64 0)), .d (.v (.int .i64 0)), .nil, .d (.v (.int .i64 0)), .nil, .nil, .nil, .d (.v (.bool false)), .nil, .d (.v (.string (⟨#[]⟩ : ByteArray)))])), (128, some (.box [.d (.sl (l.map dB)), .d (.v (.int .i64 i10)), .d (.v (.bool h11))])), (176, some (.box [.d (.v (.int .i64 r1)), .d (.v (.int .i64 r7)), .d (.v (.int .i64 0)), .d (.v (.string (⟨#[]⟩ : ByteArray))), .d (.v (.int .i64 0)), .d (.v (.int .i64 0)), .nil, .d (.v (.int .i64 0)), .nil, .nil, .nil, .d (.v (.bool false)), .nil, .d (.v (.string (⟨#[]⟩ : ByteArray)))]))], 336⟩ (by kernel_rfl) (by kernel_rfl) rfl ?_
  refine X.seq ?_
  have W1 := fun (X : S49) (hX : WB l 0 false X) => hrf _ _ (wnum hX.bk.n1 (by decide) (by decide)) (W0 X hX).1
  refine X.rs 1 hτ hmix (by kernel_rfl) ?_
  obtain ⟨r13, i16, h17, hr15, hi18, hf14⟩ := s_l9Num l i10 h11 (by first | assumption | omega) (by omega) (by first | assumption | omega)
  obtain ⟨hrb, hrf⟩ := hr15
  refine CH.call hf14 Try.func96 ⟨rfl, rfl⟩ [(128, 0)] (by kernel_rfl) (by kernel_rfl) (by kernel_rfl) (by kernel_rfl) ?_
  refine CH.go 2 hτ (by kernel_rfl) ?_
  refine CH.endk ⟨[(0, lV (l.map dB)), (2, .pt 64 0 0), (4, .pt 128 0 0), (5, .pt 176 0 0)], [(64, some (.box [.d (.v (.int .i64 0)), .d (.v (.int .i64 0)), .d (.v (.int .i64 0)), .d (.v (.string (⟨#[]⟩ : ByteArray))), .d (.v (.int .i64 0)), .d (.v (.int .i64 0)), .nil, .d (.v (.int .i64 0)), .nil, .nil, .nil, .d (.v (.bool false)), .nil, .d (.v (.string (⟨#[]⟩ : ByteArray)))])), (128, some (.box [.d (.sl (l.map dB)), .d (.v (.int .i64 i16)), .d (.v (.bool h17))])), (176, some (.box [.d (.v (.int .i64 r1)), .d (.v (.int .i64 r7)), .d (.v (.int .i64 r13)), .d (.v (.string (⟨#[]⟩ : ByteArray))), .d (.v (.int .i64 0)), .d (.v (.int .i64 0)), .nil, .d (.v (.int .i64 0)), .nil, .nil, .nil, .d (.v (.bool false)), .nil, .d (.v (.string (⟨#[]⟩ : ByteArray)))]))], 400⟩ (by kernel_rfl) (by kernel_rfl) rfl ?_
  refine X.seq ?_
  have W2 := fun (X : S49) (hX : WB l 0 false X) => hrf _ _ (wnum hX.bk.n2 (by decide) (by decide)) (W1 X hX).1
  refine X.rs 1 hτ hmix (by kernel_rfl) ?_
  obtain ⟨r19, i22, h23, hr21, hi24, hf20⟩ := s_l9Text l i16 h17 (by first | assumption | omega) (by omega) (by first | assumption | omega)
  obtain ⟨hrs, hrf⟩ := hr21
  refine CH.call hf20 Try.func97 ⟨rfl, rfl⟩ [(128, 0)] (by kernel_rfl) (by kernel_rfl) (by kernel_rfl) (by kernel_rfl) ?_
  refine CH.go 2 hτ (by kernel_rfl) ?_
  refine CH.endk ⟨[(0, lV (l.map dB)), (2, .pt 64 0 0), (4, .pt 128 0 0), (5, .pt 176 0 0)], [(64, some (.box [.d (.v (.int .i64 0)), .d (.v (.int .i64 0)), .d (.v (.int .i64 0)), .d (.v (.string (⟨#[]⟩ : ByteArray))), .d (.v (.int .i64 0)), .d (.v (.int .i64 0)), .nil, .d (.v (.int .i64 0)), .nil, .nil, .nil, .d (.v (.bool false)), .nil, .d (.v (.string (⟨#[]⟩ : ByteArray)))])), (128, some (.box [.d (.sl (l.map dB)), .d (.v (.int .i64 i22)), .d (.v (.bool h23))])), (176, some (.box [.d (.v (.int .i64 r1)), .d (.v (.int .i64 r7)), .d (.v (.int .i64 r13)), .d (.v (.string r19)), .d (.v (.int .i64 0)), .d (.v (.int .i64 0)), .nil, .d (.v (.int .i64 0)), .nil, .nil, .nil, .d (.v (.bool false)), .nil, .d (.v (.string (⟨#[]⟩ : ByteArray)))]))], 464⟩ (by kernel_rfl) (by kernel_rfl) rfl ?_
  refine X.seq ?_
  have hsB := hrs
  have W3 := fun (X : S49) (hX : WB l 0 false X) => hrf _ _ (Nat.le_trans hX.bk.by_ (by decide)) (W2 X hX).1
  refine X.rs 1 hτ hmix (by kernel_rfl) ?_
  obtain ⟨r25, i28, h29, hr27, hi30, hf26⟩ := s_l9Num l i22 h23 (by first | assumption | omega) (by omega) (by first | assumption | omega)
  obtain ⟨hrb, hrf⟩ := hr27
  refine CH.call hf26 Try.func96 ⟨rfl, rfl⟩ [(128, 0)] (by kernel_rfl) (by kernel_rfl) (by kernel_rfl) (by kernel_rfl) ?_
  refine CH.go 3 hτ (by kernel_rfl) ?_
  refine CH.endk ⟨[(0, lV (l.map dB)), (2, .pt 64 0 0), (4, .pt 128 0 0), (5, .pt 176 0 0)], [(64, some (.box [.d (.v (.int .i64 0)), .d (.v (.int .i64 0)), .d (.v (.int .i64 0)), .d (.v (.string (⟨#[]⟩ : ByteArray))), .d (.v (.int .i64 0)), .d (.v (.int .i64 0)), .nil, .d (.v (.int .i64 0)), .nil, .nil, .nil, .d (.v (.bool false)), .nil, .d (.v (.string (⟨#[]⟩ : ByteArray)))])), (128, some (.box [.d (.sl (l.map dB)), .d (.v (.int .i64 i28)), .d (.v (.bool h29))])), (176, some (.box [.d (.v (.int .i64 r1)), .d (.v (.int .i64 r7)), .d (.v (.int .i64 r13)), .d (.v (.string r19)), .d (.v (.int .i64 r25)), .d (.v (.int .i64 0)), .nil, .d (.v (.int .i64 0)), .nil, .nil, .nil, .d (.v (.bool false)), .nil, .d (.v (.string (⟨#[]⟩ : ByteArray)))]))], 544⟩ (by kernel_rfl) (by kernel_rfl) rfl ?_
  refine X.seq ?_
  have W4 := fun (X : S49) (hX : WB l 0 false X) => hrf _ _ (wnum hX.bk.q0 (by decide) (by decide)) (W3 X hX).1
  refine X.rs 1 hτ hmix (by kernel_rfl) ?_
  obtain ⟨r31, i34, h35, hr33, hi36, hf32⟩ := s_l9Num l i28 h29 (by first | assumption | omega) (by omega) (by first | assumption | omega)
  obtain ⟨hrb, hrf⟩ := hr33
  refine CH.call hf32 Try.func96 ⟨rfl, rfl⟩ [(128, 0)] (by kernel_rfl) (by kernel_rfl) (by kernel_rfl) (by kernel_rfl) ?_
  refine CH.go 3 hτ (by kernel_rfl) ?_
  refine CH.endk ⟨[(0, lV (l.map dB)), (2, .pt 64 0 0), (4, .pt 128 0 0), (5, .pt 176 0 0)], [(64, some (.box [.d (.v (.int .i64 0)), .d (.v (.int .i64 0)), .d (.v (.int .i64 0)), .d (.v (.string (⟨#[]⟩ : ByteArray))), .d (.v (.int .i64 0)), .d (.v (.int .i64 0)), .nil, .d (.v (.int .i64 0)), .nil, .nil, .nil, .d (.v (.bool false)), .nil, .d (.v (.string (⟨#[]⟩ : ByteArray)))])), (128, some (.box [.d (.sl (l.map dB)), .d (.v (.int .i64 i34)), .d (.v (.bool h35))])), (176, some (.box [.d (.v (.int .i64 r1)), .d (.v (.int .i64 r7)), .d (.v (.int .i64 r13)), .d (.v (.string r19)), .d (.v (.int .i64 r25)), .d (.v (.int .i64 r31)), .nil, .d (.v (.int .i64 0)), .nil, .nil, .nil, .d (.v (.bool false)), .nil, .d (.v (.string (⟨#[]⟩ : ByteArray)))]))], 624⟩ (by kernel_rfl) (by kernel_rfl) rfl ?_
  refine X.seq ?_
  have W5 := fun (X : S49) (hX : WB l 0 false X) => hrf _ _ (wnum hX.bk.q1 (by decide) (by decide)) (W4 X hX).1
  refine X.rs 1 hτ hmix (by kernel_rfl) ?_
  obtain ⟨r37, i40, h41, hr39, hi42, hf38⟩ := s_l9Names l i34 h35 (by first | assumption | omega) (by omega) (by first | assumption | omega)
  obtain ⟨hrs, hrf⟩ := hr39
  refine CH.call hf38 Try.func98 ⟨rfl, rfl⟩ [(128, 0)] (by kernel_rfl) (by kernel_rfl) (by kernel_rfl) (by kernel_rfl) ?_
  refine CH.go 3 hτ (by kernel_rfl) ?_
  refine CH.endk ⟨[(0, lV (l.map dB)), (2, .pt 64 0 0), (4, .pt 128 0 0), (5, .pt 176 0 0)], [(64, some (.box [.d (.v (.int .i64 0)), .d (.v (.int .i64 0)), .d (.v (.int .i64 0)), .d (.v (.string (⟨#[]⟩ : ByteArray))), .d (.v (.int .i64 0)), .d (.v (.int .i64 0)), .nil, .d (.v (.int .i64 0)), .nil, .nil, .nil, .d (.v (.bool false)), .nil, .d (.v (.string (⟨#[]⟩ : ByteArray)))])), (128, some (.box [.d (.sl (l.map dB)), .d (.v (.int .i64 i40)), .d (.v (.bool h41))])), (176, some (.box [.d (.v (.int .i64 r1)), .d (.v (.int .i64 r7)), .d (.v (.int .i64 r13)), .d (.v (.string r19)), .d (.v (.int .i64 r25)), .d (.v (.int .i64 r31)), .f (.sl (r37.map dS)), .d (.v (.int .i64 0)), .nil, .nil, .nil, .d (.v (.bool false)), .nil, .d (.v (.string (⟨#[]⟩ : ByteArray)))]))], 704⟩ (by kernel_rfl) (by kernel_rfl) rfl ?_
  refine X.seq ?_
  have hsQ := hrs
  have W6 := fun (X : S49) (hX : WB l 0 false X) => hrf _ _ (wnms hX.bk.q2) (W5 X hX).1
  refine X.rs 1 hτ hmix (by kernel_rfl) ?_
  obtain ⟨r43, i46, h47, hr45, hi48, hf44⟩ := s_l9GetTc l i40 h41 (by first | assumption | omega) (by omega) (by first | assumption | omega)
  obtain ⟨hgs, hrf⟩ := hr45
  refine CH.call hf44 Try.func99 ⟨rfl, rfl⟩ [(128, 0)] (by kernel_rfl) (by kernel_rfl) (by kernel_rfl) (by kernel_rfl) ?_
  refine CH.go 2 hτ (by kernel_rfl) ?_
  refine CH.endk ⟨[(0, lV (l.map dB)), (2, .pt 64 0 0), (4, .pt 128 0 0), (5, .pt 176 0 0)], [(64, some (.box [.d (.v (.int .i64 0)), .d (.v (.int .i64 0)), .d (.v (.int .i64 0)), .d (.v (.string (⟨#[]⟩ : ByteArray))), .d (.v (.int .i64 0)), .d (.v (.int .i64 0)), .nil, .d (.v (.int .i64 0)), .nil, .nil, .nil, .d (.v (.bool false)), .nil, .d (.v (.string (⟨#[]⟩ : ByteArray)))])), (128, some (.box [.d (.sl (l.map dB)), .d (.v (.int .i64 i46)), .d (.v (.bool h47))])), (176, some (.box [.d (.v (.int .i64 r1)), .d (.v (.int .i64 r7)), .d (.v (.int .i64 r13)), .d (.v (.string r19)), .d (.v (.int .i64 r25)), .d (.v (.int .i64 r31)), .f (.sl (r37.map dS)), .d (.v (.int .i64 r43.f0)), .f (.sl (r43.f1.map dS)), .f (.sl (r43.f2.map dI)), .nil, .d (.v (.bool false)), .nil, .d (.v (.string (⟨#[]⟩ : ByteArray)))]))], 768⟩ (by kernel_rfl) (by kernel_rfl) rfl ?_
  refine X.seq ?_
  have hsT := hgs
  have W7 := fun (X : S49) (hX : WB l 0 false X) => hrf (X.f5, tl6 X) (wtc hX.bk (W6 X hX).1)
  refine X.rs 1 hτ hmix (by kernel_rfl) ?_
  obtain ⟨r49, i52, h53, hr51, hi54, hf50⟩ := s_l9Num l i46 h47 (by first | assumption | omega) (by omega) (by first | assumption | omega)
  obtain ⟨hrb, hrf⟩ := hr51
  refine CH.call hf50 Try.func96 ⟨rfl, rfl⟩ [(128, 0)] (by kernel_rfl) (by kernel_rfl) (by kernel_rfl) (by kernel_rfl) ?_
  refine CH.go 1 hτ (by kernel_rfl) ?_
  refine CH.endk ⟨[(0, lV (l.map dB)), (2, .pt 64 0 0), (4, .pt 128 0 0), (5, .pt 176 0 0), (6, iV r49)], [(64, some (.box [.d (.v (.int .i64 0)), .d (.v (.int .i64 0)), .d (.v (.int .i64 0)), .d (.v (.string (⟨#[]⟩ : ByteArray))), .d (.v (.int .i64 0)), .d (.v (.int .i64 0)), .nil, .d (.v (.int .i64 0)), .nil, .nil, .nil, .d (.v (.bool false)), .nil, .d (.v (.string (⟨#[]⟩ : ByteArray)))])), (128, some (.box [.d (.sl (l.map dB)), .d (.v (.int .i64 i52)), .d (.v (.bool h53))])), (176, some (.box [.d (.v (.int .i64 r1)), .d (.v (.int .i64 r7)), .d (.v (.int .i64 r13)), .d (.v (.string r19)), .d (.v (.int .i64 r25)), .d (.v (.int .i64 r31)), .f (.sl (r37.map dS)), .d (.v (.int .i64 r43.f0)), .f (.sl (r43.f1.map dS)), .f (.sl (r43.f2.map dI)), .nil, .d (.v (.bool false)), .nil, .d (.v (.string (⟨#[]⟩ : ByteArray)))]))], 816⟩ (by kernel_rfl) (by kernel_rfl) rfl ?_
  -- join: c128_1 : Int, c128_2 : Bool, Lc176_10 : List S26
  refine X.seqJ (σ := { g : Int × Bool × (List S26) // (fun (c128_1 : Int) (c128_2 : Bool) (Lc176_10 : List S26) => (0 ≤ c128_1 ∧ c128_1 ≤ l.length) ∧ ((∀ X, WB l 0 false X → RS l c128_1 c128_2 (tl7 X) ∧ Lc176_10 = X.f6) ∧ Lc176_10.length ≤ 5 ∧ ∀ x, x ∈ Lc176_10 → Sm26 x)) g.1 g.2.1 g.2.2 }) (fun g => (fun (c128_1 : Int) (c128_2 : Bool) (Lc176_10 : List S26) => ⟨[(0, lV (l.map dB)), (2, .pt 64 0 0), (4, .pt 128 0 0), (5, .pt 176 0 0)], [(64, some (.box [.d (.v (.int .i64 0)), .d (.v (.int .i64 0)), .d (.v (.int .i64 0)), .d (.v (.string (⟨#[]⟩ : ByteArray))), .d (.v (.int .i64 0)), .d (.v (.int .i64 0)), .nil, .d (.v (.int .i64 0)), .nil, .nil, .nil, .d (.v (.bool false)), .nil, .d (.v (.string (⟨#[]⟩ : ByteArray)))])), (128, some (.box [.d (.sl (l.map dB)), .d (.v (.int .i64 c128_1)), .d (.v (.bool c128_2))])), (176, some (.box [.d (.v (.int .i64 r1)), .d (.v (.int .i64 r7)), .d (.v (.int .i64 r13)), .d (.v (.string r19)), .d (.v (.int .i64 r25)), .d (.v (.int .i64 r31)), .f (.sl (r37.map dS)), .d (.v (.int .i64 r43.f0)), .f (.sl (r43.f1.map dS)), .f (.sl (r43.f2.map dI)), .ref 832, .d (.v (.bool false)), .nil, .d (.v (.string (⟨#[]⟩ : ByteArray)))])), (832, some (.row 5 26 (Lc176_10.map d26) false true))], 1072⟩) g.1.1 g.1.2.1 g.1.2.2) ?_ (fun g => ?_)
  ·refine X.seq ?_
   have W8 := fun (X : S49) (hX : WB l 0 false X) => hrf _ _ (wlen (Nat.le_trans hX.bk.tx.1 (by decide))) (W7 X hX).1
   refine X.rk ⟨[(0, lV (l.map dB)), (2, .pt 64 0 0), (4, .pt 128 0 0), (5, .pt 176 0 0), (6, iV r49), (7, iV 0)], [(64, some (.box [.d (.v (.int .i64 0)), .d (.v (.int .i64 0)), .d (.v (.int .i64 0)), .d (.v (.string (⟨#[]⟩ : ByteArray))), .d (.v (.int .i64 0)), .d (.v (.int .i64 0)), .nil, .d (.v (.int .i64 0)), .nil, .nil, .nil, .d (.v (.bool false)), .nil, .d (.v (.string (⟨#[]⟩ : ByteArray)))])), (128, some (.box [.d (.sl (l.map dB)), .d (.v (.int .i64 i52)), .d (.v (.bool h53))])), (176, some (.box [.d (.v (.int .i64 r1)), .d (.v (.int .i64 r7)), .d (.v (.int .i64 r13)), .d (.v (.string r19)), .d (.v (.int .i64 r25)), .d (.v (.int .i64 r31)), .f (.sl (r37.map dS)), .d (.v (.int .i64 r43.f0)), .f (.sl (r43.f1.map dS)), .f (.sl (r43.f2.map dI)), .nil, .d (.v (.bool false)), .nil, .d (.v (.string (⟨#[]⟩ : ByteArray)))]))], 832⟩ hτ hmix (by kernel_rfl) (by kernel_rfl) rfl ?_
   refine X.block ?_
   refine X.weak (Wk.ownB 176 [.d (.v (.int .i64 r1)), .d (.v (.int .i64 r7)), .d (.v (.int .i64 r13)), .d (.v (.string r19)), .d (.v (.int .i64 r25)), .d (.v (.int .i64 r31)), .f (.sl (r37.map dS)), .d (.v (.int .i64 r43.f0)), .f (.sl (r43.f1.map dS)), .f (.sl (r43.f2.map dI)), .nil, .d (.v (.bool false)), .nil, .d (.v (.string (⟨#[]⟩ : ByteArray)))] 10 5 26 (by kernel_rfl) rfl (by kernel_rfl) (by kernel_rfl)) ?_
   -- 13: c128_1 : Int, c128_2 : Bool, Lc176_10 : List S26, v7 : Int
   refine X.loop (σ := { g : Int × Bool × (List S26) × Int // (fun (c128_1 : Int) (c128_2 : Bool) (Lc176_10 : List S26) (v7 : Int) => (0 ≤ c128_1 ∧ c128_1 ≤ l.length) ∧ (0 ≤ v7 ∧ v7 ≤ 5 ∧ (Lc176_10.length : Int) = v7 ∧ (∀ x, x ∈ Lc176_10 → Sm26 x) ∧ ∀ X, WB l 0 false X → RS l c128_1 c128_2 ((X.f6.drop v7.toNat).flatMap encTx ++ tl7 X) ∧ Lc176_10 = X.f6.take v7.toNat)) g.1 g.2.1 g.2.2.1 g.2.2.2 }) (fun g => (fun (c128_1 : Int) (c128_2 : Bool) (Lc176_10 : List S26) (v7 : Int) => ⟨[(0, lV (l.map dB)), (2, .pt 64 0 0), (4, .pt 128 0 0), (5, .pt 176 0 0), (6, iV r49), (7, iV v7)], [(64, some (.box [.d (.v (.int .i64 0)), .d (.v (.int .i64 0)), .d (.v (.int .i64 0)), .d (.v (.string (⟨#[]⟩ : ByteArray))), .d (.v (.int .i64 0)), .d (.v (.int .i64 0)), .nil, .d (.v (.int .i64 0)), .nil, .nil, .nil, .d (.v (.bool false)), .nil, .d (.v (.string (⟨#[]⟩ : ByteArray)))])), (128, some (.box [.d (.sl (l.map dB)), .d (.v (.int .i64 c128_1)), .d (.v (.bool c128_2))])), (176, some (.box [.d (.v (.int .i64 r1)), .d (.v (.int .i64 r7)), .d (.v (.int .i64 r13)), .d (.v (.string r19)), .d (.v (.int .i64 r25)), .d (.v (.int .i64 r31)), .f (.sl (r37.map dS)), .d (.v (.int .i64 r43.f0)), .f (.sl (r43.f1.map dS)), .f (.sl (r43.f2.map dI)), .ref 832, .d (.v (.bool false)), .nil, .d (.v (.string (⟨#[]⟩ : ByteArray)))])), (832, some (.row 5 26 (Lc176_10.map d26) false true))], 848⟩) g.1.1 g.1.2.1 g.1.2.2.1 g.1.2.2.2) (fun g => (fun (c128_1 : Int) (c128_2 : Bool) (Lc176_10 : List S26) (v7 : Int) => (5 - v7).toNat) g.1.1 g.1.2.1 g.1.2.2.1 g.1.2.2.2) ⟨(i52, h53, [], 0), ⟨by first | omega | (dsimp only; omega), ⟨by first | omega | (dsimp only; omega), by first | omega | (dsimp only; omega), by simp, all_nil, rd_zero (fun X hX => (W8 X hX).1)⟩⟩⟩ (Wk.less (by kernel_rfl)) (fun g => ?_)
   obtain ⟨⟨c128_1, c128_2, Lc176_10, v7⟩, hg57⟩ := g
   have hg57 : (0 ≤ c128_1 ∧ c128_1 ≤ l.length) ∧ (0 ≤ v7 ∧ v7 ≤ 5 ∧ (Lc176_10.length : Int) = v7 ∧ (∀ x, x ∈ Lc176_10 → Sm26 x) ∧ ∀ X, WB l 0 false X → RS l c128_1 c128_2 ((X.f6.drop v7.toNat).flatMap encTx ++ tl7 X) ∧ Lc176_10 = X.f6.take v7.toNat) := hg57
   obtain ⟨⟨_, _⟩, ⟨_, _, _, hxs, W8b⟩⟩ := hg57
   refine X.seq ?_
   refine X.seq ?_
   refine X.rs 4 hτ hmix (by kernel_rfl) ?_
   rcases Bool.eq_false_or_eq_true (decide ((v7 : Int) < r49)) with hb58 | hb58
   ·refine CH.alt 49 (sV (.bool (decide ((v7 : Int) < r49)))) (sV (.bool true)) (by kernel_rfl) (by rw [hb58]) ?_
    refine CH.alt 50 (sV (.bool (decide ((v7 : Int) < r49)))) (sV (.bool true)) (by kernel_rfl) (by rw [hb58]) ?_
    replace hb58 := of_decide_eq_true (hb58)
    refine CH.go 4 hτ (by kernel_rfl) ?_
    rcases Bool.eq_false_or_eq_true (decide ((v7 : Int) < 5)) with hb59 | hb59
    ·refine CH.alt 52 (sV (.bool (decide ((v7 : Int) < 5)))) (sV (.bool true)) (by kernel_rfl) (by rw [hb59]) ?_
     refine CH.alt 53 (sV (.bool (decide ((v7 : Int) < 5)))) (sV (.bool true)) (by kernel_rfl) (by rw [hb59]) ?_
     refine CH.alt 54 (sV (.bool (decide ((v7 : Int) < 5)))) (sV (.bool true)) (by kernel_rfl) (by rw [hb59]) ?_
     replace hb59 := of_decide_eq_true (hb59)
     refine CH.go 6 hτ (by kernel_rfl) ?_
     refine CH.endk ⟨[(0, lV (l.map dB)), (2, .pt 64 0 0), (4, .pt 128 0 0), (5, .pt 176 0 0), (6, iV r49), (7, iV v7), (60, bV (!c128_2))], [(64, some (.box [.d (.v (.int .i64 0)), .d (.v (.int .i64 0)), .d (.v (.int .i64 0)), .d (.v (.string (⟨#[]⟩ : ByteArray))), .d (.v (.int .i64 0)), .d (.v (.int .i64 0)), .nil, .d (.v (.int .i64 0)), .nil, .nil, .nil, .d (.v (.bool false)), .nil, .d (.v (.string (⟨#[]⟩ : ByteArray)))])), (128, some (.box [.d (.sl (l.map dB)), .d (.v (.int .i64 c128_1)), .d (.v (.bool c128_2))])), (176, some (.box [.d (.v (.int .i64 r1)), .d (.v (.int .i64 r7)), .d (.v (.int .i64 r13)), .d (.v (.string r19)), .d (.v (.int .i64 r25)), .d (.v (.int .i64 r31)), .f (.sl (r37.map dS)), .d (.v (.int .i64 r43.f0)), .f (.sl (r43.f1.map dS)), .f (.sl (r43.f2.map dI)), .ref 832, .d (.v (.bool false)), .nil, .d (.v (.string (⟨#[]⟩ : ByteArray)))])), (832, some (.row 5 26 (Lc176_10.map d26) false true))], 1072⟩ (by kernel_rfl) (by kernel_rfl) rfl ?_
     refine X.if_ (b := !c128_2) (by kernel_rfl) (fun hb60 => ?_) (fun hb60 => ?_)
     ·replace hb60 := bnot_yes (hb60)
      refine X.skip ?_
      refine X.seq ?_
      refine X.block ?_
      refine X.seq ?_
      refine X.rs 8 hτ hmix (by kernel_rfl) ?_
      obtain ⟨r61, r62, r63, hr65, hf64⟩ := s_GetTx l c128_1 (by first | omega | assumption)
      obtain ⟨hgx0, hgx1, hgx3, hgx2⟩ := hr65
      refine CH.call hf64 Try.func100 ⟨rfl, rfl⟩ [] (by kernel_rfl) (by kernel_rfl) (by kernel_rfl) (by kernel_rfl) ?_
      refine CH.go 8 hτ (by kernel_rfl) ?_
      refine CH.endk ⟨[(0, lV (l.map dB)), (2, .pt 64 0 0), (4, .pt 128 0 0), (5, .pt 176 0 0), (6, iV r49), (7, iV v7), (8, .pt 1280 0 0), (9, iV r62), (10, bV r63)], [(64, some (.box [.d (.v (.int .i64 0)), .d (.v (.int .i64 0)), .d (.v (.int .i64 0)), .d (.v (.string (⟨#[]⟩ : ByteArray))), .d (.v (.int .i64 0)), .d (.v (.int .i64 0)), .nil, .d (.v (.int .i64 0)), .nil, .nil, .nil, .d (.v (.bool false)), .nil, .d (.v (.string (⟨#[]⟩ : ByteArray)))])), (128, some (.box [.d (.sl (l.map dB)), .d (.v (.int .i64 c128_1)), .d (.v (.bool c128_2))])), (176, some (.box [.d (.v (.int .i64 r1)), .d (.v (.int .i64 r7)), .d (.v (.int .i64 r13)), .d (.v (.string r19)), .d (.v (.int .i64 r25)), .d (.v (.int .i64 r31)), .f (.sl (r37.map dS)), .d (.v (.int .i64 r43.f0)), .f (.sl (r43.f1.map dS)), .f (.sl (r43.f2.map dI)), .ref 832, .d (.v (.bool false)), .nil, .d (.v (.string (⟨#[]⟩ : ByteArray)))])), (832, some (.row 5 26 (Lc176_10.map d26) false true)), (1280, some (.box (cD (d26 r61))))], 1344⟩ (by kernel_rfl) (by kernel_rfl) rfl ?_
      refine X.seq ?_
      refine X.rk ⟨[(0, lV (l.map dB)), (2, .pt 64 0 0), (4, .pt 128 0 0), (5, .pt 176 0 0), (6, iV r49), (7, iV v7), (8, .pt 1280 0 0), (9, iV r62)], [(64, some (.box [.d (.v (.int .i64 0)), .d (.v (.int .i64 0)), .d (.v (.int .i64 0)), .d (.v (.string (⟨#[]⟩ : ByteArray))), .d (.v (.int .i64 0)), .d (.v (.int .i64 0)), .nil, .d (.v (.int .i64 0)), .nil, .nil, .nil, .d (.v (.bool false)), .nil, .d (.v (.string (⟨#[]⟩ : ByteArray)))])), (128, some (.box [.d (.sl (l.map dB)), .d (.v (.int .i64 c128_1)), .d (.v (.bool (!r63)))])), (176, some (.box [.d (.v (.int .i64 r1)), .d (.v (.int .i64 r7)), .d (.v (.int .i64 r13)), .d (.v (.string r19)), .d (.v (.int .i64 r25)), .d (.v (.int .i64 r31)), .f (.sl (r37.map dS)), .d (.v (.int .i64 r43.f0)), .f (.sl (r43.f1.map dS)), .f (.sl (r43.f2.map dI)), .ref 832, .d (.v (.bool false)), .nil, .d (.v (.string (⟨#[]⟩ : ByteArray)))])), (832, some (.row 5 26 (Lc176_10.map d26) false true)), (1280, some (.box (cD (d26 r61))))], 1440⟩ hτ hmix (by kernel_rfl) (by kernel_rfl) rfl ?_
      refine X.seq ?_
      refine X.rk ⟨[(0, lV (l.map dB)), (2, .pt 64 0 0), (4, .pt 128 0 0), (5, .pt 176 0 0), (6, iV r49), (7, iV v7), (8, .pt 1280 0 0)], [(64, some (.box [.d (.v (.int .i64 0)), .d (.v (.int .i64 0)), .d (.v (.int .i64 0)), .d (.v (.string (⟨#[]⟩ : ByteArray))), .d (.v (.int .i64 0)), .d (.v (.int .i64 0)), .nil, .d (.v (.int .i64 0)), .nil, .nil, .nil, .d (.v (.bool false)), .nil, .d (.v (.string (⟨#[]⟩ : ByteArray)))])), (128, some (.box [.d (.sl (l.map dB)), .d (.v (.int .i64 r62)), .d (.v (.bool (!r63)))])), (176, some (.box [.d (.v (.int .i64 r1)), .d (.v (.int .i64 r7)), .d (.v (.int .i64 r13)), .d (.v (.string r19)), .d (.v (.int .i64 r25)), .d (.v (.int .i64 r31)), .f (.sl (r37.map dS)), .d (.v (.int .i64 r43.f0)), .f (.sl (r43.f1.map dS)), .f (.sl (r43.f2.map dI)), .ref 832, .d (.v (.bool false)), .nil, .d (.v (.string (⟨#[]⟩ : ByteArray)))])), (832, some (.row 5 26 (Lc176_10.map d26) false true)), (1280, some (.box (cD (d26 r61))))], 1520⟩ hτ hmix (by kernel_rfl) (by kernel_rfl) rfl ?_
      refine X.rs 4 hτ hmix (by kernel_rfl) ?_
      have el66 : (Lc176_10.map d26).length = Lc176_10.length := List.length_map ..
      have el67 : (([r61] : List S26).map d26).length = ([r61] : List S26).length := List.length_map ..
      have el68 : ([r61] : List S26).length = 1 := rfl
      refine CH.app hτ (rows := (Lc176_10.map d26)) (rows2 := (([r61] : List S26).map d26)) (sz := 5) (bys := 56) true (by kernel_rfl) (by kernel_rfl) (fun _ => flat_d d26 (fun x => rfl)) (flat_ok (f := d26) (fun x => rfl)) (by simp only [List.length_map] <;> (first | done | omega | (simp; done) | (simp; omega))) (by kernel_rfl) ?_
      refine CH.go 2 hτ (by kernel_rfl) ?_
      refine CH.endk ⟨[(0, lV (l.map dB)), (2, .pt 64 0 0), (4, .pt 128 0 0), (5, .pt 176 0 0), (6, iV r49), (7, iV v7)], [(64, some (.box [.d (.v (.int .i64 0)), .d (.v (.int .i64 0)), .d (.v (.int .i64 0)), .d (.v (.string (⟨#[]⟩ : ByteArray))), .d (.v (.int .i64 0)), .d (.v (.int .i64 0)), .nil, .d (.v (.int .i64 0)), .nil, .nil, .nil, .d (.v (.bool false)), .nil, .d (.v (.string (⟨#[]⟩ : ByteArray)))])), (128, some (.box [.d (.sl (l.map dB)), .d (.v (.int .i64 r62)), .d (.v (.bool (!r63)))])), (176, some (.box [.d (.v (.int .i64 r1)), .d (.v (.int .i64 r7)), .d (.v (.int .i64 r13)), .d (.v (.string r19)), .d (.v (.int .i64 r25)), .d (.v (.int .i64 r31)), .f (.sl (r37.map dS)), .d (.v (.int .i64 r43.f0)), .f (.sl (r43.f1.map dS)), .f (.sl (r43.f2.map dI)), .ref 1584, .d (.v (.bool false)), .nil, .d (.v (.string (⟨#[]⟩ : ByteArray)))])), (1584, some (.row 5 26 ((Lc176_10.map d26) ++ (([r61] : List S26).map d26)) false true))], 1632⟩ (by kernel_rfl) (by kernel_rfl) (s2 := ⟨[(0, lV (l.map dB)), (2, .pt 64 0 0), (4, .pt 128 0 0), (5, .pt 176 0 0), (6, iV r49), (7, iV v7)], [(64, some (.box [.d (.v (.int .i64 0)), .d (.v (.int .i64 0)), .d (.v (.int .i64 0)), .d (.v (.string (⟨#[]⟩ : ByteArray))), .d (.v (.int .i64 0)), .d (.v (.int .i64 0)), .nil, .d (.v (.int .i64 0)), .nil, .nil, .nil, .d (.v (.bool false)), .nil, .d (.v (.string (⟨#[]⟩ : ByteArray)))])), (128, some (.box [.d (.sl (l.map dB)), .d (.v (.int .i64 r62)), .d (.v (.bool (!r63)))])), (176, some (.box [.d (.v (.int .i64 r1)), .d (.v (.int .i64 r7)), .d (.v (.int .i64 r13)), .d (.v (.string r19)), .d (.v (.int .i64 r25)), .d (.v (.int .i64 r31)), .f (.sl (r37.map dS)), .d (.v (.int .i64 r43.f0)), .f (.sl (r43.f1.map dS)), .f (.sl (r43.f2.map dI)), .ref 1584, .d (.v (.bool false)), .nil, .d (.v (.string (⟨#[]⟩ : ByteArray)))])), (1584, some (.row 5 26 ((Lc176_10 ++ ([r61] : List S26)).map d26) false true))], 1632⟩) (congrArg (fun z : List (List D) => (⟨[(0, lV (l.map dB)), (2, .pt 64 0 0), (4, .pt 128 0 0), (5, .pt 176 0 0), (6, iV r49), (7, iV v7)], [(64, some (.box [.d (.v (.int .i64 0)), .d (.v (.int .i64 0)), .d (.v (.int .i64 0)), .d (.v (.string (⟨#[]⟩ : ByteArray))), .d (.v (.int .i64 0)), .d (.v (.int .i64 0)), .nil, .d (.v (.int .i64 0)), .nil, .nil, .nil, .d (.v (.bool false)), .nil, .d (.v (.string (⟨#[]⟩ : ByteArray)))])), (128, some (.box [.d (.sl (l.map dB)), .d (.v (.int .i64 r62)), .d (.v (.bool (!r63)))])), (176, some (.box [.d (.v (.int .i64 r1)), .d (.v (.int .i64 r7)), .d (.v (.int .i64 r13)), .d (.v (.string r19)), .d (.v (.int .i64 r25)), .d (.v (.int .i64 r31)), .f (.sl (r37.map dS)), .d (.v (.int .i64 r43.f0)), .f (.sl (r43.f1.map dS)), .f (.sl (r43.f2.map dI)), .ref 1584, .d (.v (.bool false)), .nil, .d (.v (.string (⟨#[]⟩ : ByteArray)))])), (1584, some (.row 5 26 z false true))], 1632⟩ : St)) (show (Lc176_10.map d26) ++ (([r61] : List S26).map d26) = ((Lc176_10 ++ ([r61] : List S26)).map d26) from List.map_append.symm)) ?_
      refine X.rk ⟨[(0, lV (l.map dB)), (2, .pt 64 0 0), (4, .pt 128 0 0), (5, .pt 176 0 0), (6, iV r49), (7, iV (wrap64 (v7 + 1)))], [(64, some (.box [.d (.v (.int .i64 0)), .d (.v (.int .i64 0)), .d (.v (.int .i64 0)), .d (.v (.string (⟨#[]⟩ : ByteArray))), .d (.v (.int .i64 0)), .d (.v (.int .i64 0)), .nil, .d (.v (.int .i64 0)), .nil, .nil, .nil, .d (.v (.bool false)), .nil, .d (.v (.string (⟨#[]⟩ : ByteArray)))])), (128, some (.box [.d (.sl (l.map dB)), .d (.v (.int .i64 r62)), .d (.v (.bool (!r63)))])), (176, some (.box [.d (.v (.int .i64 r1)), .d (.v (.int .i64 r7)), .d (.v (.int .i64 r13)), .d (.v (.string r19)), .d (.v (.int .i64 r25)), .d (.v (.int .i64 r31)), .f (.sl (r37.map dS)), .d (.v (.int .i64 r43.f0)), .f (.sl (r43.f1.map dS)), .f (.sl (r43.f2.map dI)), .ref 1584, .d (.v (.bool false)), .nil, .d (.v (.string (⟨#[]⟩ : ByteArray)))])), (1584, some (.row 5 26 ((Lc176_10 ++ ([r61] : List S26)).map d26) false true))], 1680⟩ hτ hmix (by kernel_rfl) (by kernel_rfl) (s2 := ⟨[(0, lV (l.map dB)), (2, .pt 64 0 0), (4, .pt 128 0 0), (5, .pt 176 0 0), (6, iV r49), (7, iV (v7 + 1))], [(64, some (.box [.d (.v (.int .i64 0)), .d (.v (.int .i64 0)), .d (.v (.int .i64 0)), .d (.v (.string (⟨#[]⟩ : ByteArray))), .d (.v (.int .i64 0)), .d (.v (.int .i64 0)), .nil, .d (.v (.int .i64 0)), .nil, .nil, .nil, .d (.v (.bool false)), .nil, .d (.v (.string (⟨#[]⟩ : ByteArray)))])), (128, some (.box [.d (.sl (l.map dB)), .d (.v (.int .i64 r62)), .d (.v (.bool (!r63)))])), (176, some (.box [.d (.v (.int .i64 r1)), .d (.v (.int .i64 r7)), .d (.v (.int .i64 r13)), .d (.v (.string r19)), .d (.v (.int .i64 r25)), .d (.v (.int .i64 r31)), .f (.sl (r37.map dS)), .d (.v (.int .i64 r43.f0)), .f (.sl (r43.f1.map dS)), .f (.sl (r43.f2.map dI)), .ref 1584, .d (.v (.bool false)), .nil, .d (.v (.string (⟨#[]⟩ : ByteArray)))])), (1584, some (.row 5 26 ((Lc176_10 ++ ([r61] : List S26)).map d26) false true))], 1680⟩) (congrArg (fun z : Int => (⟨[(0, lV (l.map dB)), (2, .pt 64 0 0), (4, .pt 128 0 0), (5, .pt 176 0 0), (6, iV r49), (7, iV z)], [(64, some (.box [.d (.v (.int .i64 0)), .d (.v (.int .i64 0)), .d (.v (.int .i64 0)), .d (.v (.string (⟨#[]⟩ : ByteArray))), .d (.v (.int .i64 0)), .d (.v (.int .i64 0)), .nil, .d (.v (.int .i64 0)), .nil, .nil, .nil, .d (.v (.bool false)), .nil, .d (.v (.string (⟨#[]⟩ : ByteArray)))])), (128, some (.box [.d (.sl (l.map dB)), .d (.v (.int .i64 r62)), .d (.v (.bool (!r63)))])), (176, some (.box [.d (.v (.int .i64 r1)), .d (.v (.int .i64 r7)), .d (.v (.int .i64 r13)), .d (.v (.string r19)), .d (.v (.int .i64 r25)), .d (.v (.int .i64 r31)), .f (.sl (r37.map dS)), .d (.v (.int .i64 r43.f0)), .f (.sl (r43.f1.map dS)), .f (.sl (r43.f2.map dI)), .ref 1584, .d (.v (.bool false)), .nil, .d (.v (.string (⟨#[]⟩ : ByteArray)))])), (1584, some (.row 5 26 ((Lc176_10 ++ ([r61] : List S26)).map d26) false true))], 1680⟩ : St)) (show wrap64 (v7 + 1) = (v7 + 1) by rw [w64 (n := (v7 + 1)) (by omega) (by omega)])) ?_
      refine ⟨⟨(r62, !r63, (Lc176_10 ++ ([r61] : List S26)), (v7 + 1)), ⟨by first | omega | (dsimp only; omega), ⟨by first | omega | (dsimp only; omega), by first | omega | (dsimp only; omega), by simp only [List.length_append, List.length_cons, List.length_nil]; (first | omega | (dsimp only; omega)), all_app hxs (all_one hgx0), rd_next W8b (rd_tx hgx2 (by first | omega | (dsimp only; omega))) (by first | omega | (dsimp only; omega)) (fun X hX => by have hq1 := (W8 X hX).2; omega) (fun X hX x hx => hX.bk.tx.2 x hx)⟩⟩⟩, by first | exact rfl | omega | (dsimp only; omega) | (simp only [List.length_append, List.length_cons, List.length_nil, List.length_set]; omega) | (simp; done) | (simp; omega), Wk.mk' [(64, 64), (128, 128), (176, 176), (832, 1584)] (by kernel_rfl) (by kernel_rfl) (by kernel_rfl)⟩
     ·replace hb60 := bnot_no (hb60)
      refine X.exit ?_
      refine ⟨⟨(c128_1, c128_2, Lc176_10), ⟨by first | omega | (dsimp only; omega), ⟨rd_end W8b (fun X hX => by have hq1 := (W8 X hX).2; have hq2 := hX.bk.tx.1; have hq3 := (W8b X hX).1.1; first | omega | exact tf (by assumption) hq3), by first | omega | (dsimp only; omega), hxs⟩⟩⟩, Wk.mk' [(64, 64), (128, 128), (176, 176), (832, 832)] (by kernel_rfl) (by kernel_rfl) (by kernel_rfl)⟩
    ·refine CH.alt 52 (sV (.bool (decide ((v7 : Int) < 5)))) (sV (.bool false)) (by kernel_rfl) (by rw [hb59]) ?_
     refine CH.alt 53 (sV (.bool (decide ((v7 : Int) < 5)))) (sV (.bool false)) (by kernel_rfl) (by rw [hb59]) ?_
     refine CH.alt 54 (sV (.bool (decide ((v7 : Int) < 5)))) (sV (.bool false)) (by kernel_rfl) (by rw [hb59]) ?_
     replace hb59 := of_decide_eq_false (hb59)
     refine CH.go 6 hτ (by kernel_rfl) ?_
     refine CH.endk ⟨[(0, lV (l.map dB)), (2, .pt 64 0 0), (4, .pt 128 0 0), (5, .pt 176 0 0), (6, iV r49), (7, iV v7), (60, bV false)], [(64, some (.box [.d (.v (.int .i64 0)), .d (.v (.int .i64 0)), .d (.v (.int .i64 0)), .d (.v (.string (⟨#[]⟩ : ByteArray))), .d (.v (.int .i64 0)), .d (.v (.int .i64 0)), .nil, .d (.v (.int .i64 0)), .nil, .nil, .nil, .d (.v (.bool false)), .nil, .d (.v (.string (⟨#[]⟩ : ByteArray)))])), (128, some (.box [.d (.sl (l.map dB)), .d (.v (.int .i64 c128_1)), .d (.v (.bool c128_2))])), (176, some (.box [.d (.v (.int .i64 r1)), .d (.v (.int .i64 r7)), .d (.v (.int .i64 r13)), .d (.v (.string r19)), .d (.v (.int .i64 r25)), .d (.v (.int .i64 r31)), .f (.sl (r37.map dS)), .d (.v (.int .i64 r43.f0)), .f (.sl (r43.f1.map dS)), .f (.sl (r43.f2.map dI)), .ref 832, .d (.v (.bool false)), .nil, .d (.v (.string (⟨#[]⟩ : ByteArray)))])), (832, some (.row 5 26 (Lc176_10.map d26) false true))], 1072⟩ (by kernel_rfl) (by kernel_rfl) rfl ?_
     refine X.ifF (by kernel_rfl) ?_
     refine X.exit ?_
     refine ⟨⟨(c128_1, c128_2, Lc176_10), ⟨by first | omega | (dsimp only; omega), ⟨rd_end W8b (fun X hX => by have hq1 := (W8 X hX).2; have hq2 := hX.bk.tx.1; have hq3 := (W8b X hX).1.1; first | omega | exact tf (by assumption) hq3), by first | omega | (dsimp only; omega), hxs⟩⟩⟩, Wk.mk' [(64, 64), (128, 128), (176, 176), (832, 832)] (by kernel_rfl) (by kernel_rfl) (by kernel_rfl)⟩
   ·refine CH.alt 49 (sV (.bool (decide ((v7 : Int) < r49)))) (sV (.bool false)) (by kernel_rfl) (by rw [hb58]) ?_
    refine CH.alt 50 (sV (.bool (decide ((v7 : Int) < r49)))) (sV (.bool false)) (by kernel_rfl) (by rw [hb58]) ?_
    replace hb58 := of_decide_eq_false (hb58)
    refine CH.go 10 hτ (by kernel_rfl) ?_
    refine CH.endk ⟨[(0, lV (l.map dB)), (2, .pt 64 0 0), (4, .pt 128 0 0), (5, .pt 176 0 0), (6, iV r49), (7, iV v7), (60, bV false)], [(64, some (.box [.d (.v (.int .i64 0)), .d (.v (.int .i64 0)), .d (.v (.int .i64 0)), .d (.v (.string (⟨#[]⟩ : ByteArray))), .d (.v (.int .i64 0)), .d (.v (.int .i64 0)), .nil, .d (.v (.int .i64 0)), .nil, .nil, .nil, .d (.v (.bool false)), .nil, .d (.v (.string (⟨#[]⟩ : ByteArray)))])), (128, some (.box [.d (.sl (l.map dB)), .d (.v (.int .i64 c128_1)), .d (.v (.bool c128_2))])), (176, some (.box [.d (.v (.int .i64 r1)), .d (.v (.int .i64 r7)), .d (.v (.int .i64 r13)), .d (.v (.string r19)), .d (.v (.int .i64 r25)), .d (.v (.int .i64 r31)), .f (.sl (r37.map dS)), .d (.v (.int .i64 r43.f0)), .f (.sl (r43.f1.map dS)), .f (.sl (r43.f2.map dI)), .ref 832, .d (.v (.bool false)), .nil, .d (.v (.string (⟨#[]⟩ : ByteArray)))])), (832, some (.row 5 26 (Lc176_10.map d26) false true))], 1072⟩ (by kernel_rfl) (by kernel_rfl) rfl ?_
    refine X.ifF (by kernel_rfl) ?_
    refine X.exit ?_
    refine ⟨⟨(c128_1, c128_2, Lc176_10), ⟨by first | omega | (dsimp only; omega), ⟨rd_end W8b (fun X hX => by have hq1 := (W8 X hX).2; have hq2 := hX.bk.tx.1; have hq3 := (W8b X hX).1.1; first | omega | exact tf (by assumption) hq3), by first | omega | (dsimp only; omega), hxs⟩⟩⟩, Wk.mk' [(64, 64), (128, 128), (176, 176), (832, 832)] (by kernel_rfl) (by kernel_rfl) (by kernel_rfl)⟩
  ·obtain ⟨⟨c128_1, c128_2, Lc176_10⟩, hg55⟩ := g
   have hg55 : (0 ≤ c128_1 ∧ c128_1 ≤ l.length) ∧ ((∀ X, WB l 0 false X → RS l c128_1 c128_2 (tl7 X) ∧ Lc176_10 = X.f6) ∧ Lc176_10.length ≤ 5 ∧ ∀ x, x ∈ Lc176_10 → Sm26 x) := hg55
   obtain ⟨⟨_, _⟩, ⟨W9, hxl, hxs⟩⟩ := hg55
   refine X.seq ?_
   refine X.rs 1 hτ hmix (by kernel_rfl) ?_
   obtain ⟨r69, i72, h73, hr71, hi74, hf70⟩ := s_l9Num l c128_1 c128_2 (by first | assumption | omega) (by omega) (by first | assumption | omega)
   obtain ⟨hrb, hrf⟩ := hr71
   refine CH.call hf70 Try.func96 ⟨rfl, rfl⟩ [(128, 0)] (by kernel_rfl) (by kernel_rfl) (by kernel_rfl) (by kernel_rfl) ?_
   refine CH.go 3 hτ (by kernel_rfl) ?_
   refine CH.endk ⟨[(0, lV (l.map dB)), (2, .pt 64 0 0), (4, .pt 128 0 0), (5, .pt 176 0 0)], [(64, some (.box [.d (.v (.int .i64 0)), .d (.v (.int .i64 0)), .d (.v (.int .i64 0)), .d (.v (.string (⟨#[]⟩ : ByteArray))), .d (.v (.int .i64 0)), .d (.v (.int .i64 0)), .nil, .d (.v (.int .i64 0)), .nil, .nil, .nil, .d (.v (.bool false)), .nil, .d (.v (.string (⟨#[]⟩ : ByteArray)))])), (128, some (.box [.d (.sl (l.map dB)), .d (.v (.int .i64 i72)), .d (.v (.bool h73))])), (176, some (.box [.d (.v (.int .i64 r1)), .d (.v (.int .i64 r7)), .d (.v (.int .i64 r13)), .d (.v (.string r19)), .d (.v (.int .i64 r25)), .d (.v (.int .i64 r31)), .f (.sl (r37.map dS)), .d (.v (.int .i64 r43.f0)), .f (.sl (r43.f1.map dS)), .f (.sl (r43.f2.map dI)), .ref 832, .d (.v (.bool (r69 == 1))), .nil, .d (.v (.string (⟨#[]⟩ : ByteArray)))])), (832, some (.row 5 26 (Lc176_10.map d26) false true))], 1152⟩ (by kernel_rfl) (by kernel_rfl) rfl ?_
   refine X.seq ?_
   have W10 := fun (X : S49) (hX : WB l 0 false X) => hrf _ _ (wbit) (W9 X hX).1
   refine X.rs 1 hτ hmix (by kernel_rfl) ?_
   obtain ⟨r75, i78, h79, hr77, hi80, hf76⟩ := s_l9Num l i72 h73 (by first | assumption | omega) (by omega) (by first | assumption | omega)
   obtain ⟨hrb, hrf⟩ := hr77
   refine CH.call hf76 Try.func96 ⟨rfl, rfl⟩ [(128, 0)] (by kernel_rfl) (by kernel_rfl) (by kernel_rfl) (by kernel_rfl) ?_
   refine CH.go 1 hτ (by kernel_rfl) ?_
   refine CH.endk ⟨[(0, lV (l.map dB)), (2, .pt 64 0 0), (4, .pt 128 0 0), (5, .pt 176 0 0), (11, iV r75)], [(64, some (.box [.d (.v (.int .i64 0)), .d (.v (.int .i64 0)), .d (.v (.int .i64 0)), .d (.v (.string (⟨#[]⟩ : ByteArray))), .d (.v (.int .i64 0)), .d (.v (.int .i64 0)), .nil, .d (.v (.int .i64 0)), .nil, .nil, .nil, .d (.v (.bool false)), .nil, .d (.v (.string (⟨#[]⟩ : ByteArray)))])), (128, some (.box [.d (.sl (l.map dB)), .d (.v (.int .i64 i78)), .d (.v (.bool h79))])), (176, some (.box [.d (.v (.int .i64 r1)), .d (.v (.int .i64 r7)), .d (.v (.int .i64 r13)), .d (.v (.string r19)), .d (.v (.int .i64 r25)), .d (.v (.int .i64 r31)), .f (.sl (r37.map dS)), .d (.v (.int .i64 r43.f0)), .f (.sl (r43.f1.map dS)), .f (.sl (r43.f2.map dI)), .ref 832, .d (.v (.bool (r69 == 1))), .nil, .d (.v (.string (⟨#[]⟩ : ByteArray)))])), (832, some (.row 5 26 (Lc176_10.map d26) false true))], 1200⟩ (by kernel_rfl) (by kernel_rfl) rfl ?_
   -- join: c128_1 : Int, c128_2 : Bool, Lc176_12 : List S107
   refine X.seqJ (σ := { g : Int × Bool × (List S107) // (fun (c128_1 : Int) (c128_2 : Bool) (Lc176_12 : List S107) => (0 ≤ c128_1 ∧ c128_1 ≤ l.length) ∧ ((∀ X, WB l 0 false X → RS l c128_1 c128_2 (tl9 X) ∧ Lc176_12 = X.f8) ∧ Lc176_12.length ≤ 13 ∧ ∀ x, x ∈ Lc176_12 → Sm107 x)) g.1 g.2.1 g.2.2 }) (fun g => (fun (c128_1 : Int) (c128_2 : Bool) (Lc176_12 : List S107) => ⟨[(0, lV (l.map dB)), (2, .pt 64 0 0), (4, .pt 128 0 0), (5, .pt 176 0 0)], [(64, some (.box [.d (.v (.int .i64 0)), .d (.v (.int .i64 0)), .d (.v (.int .i64 0)), .d (.v (.string (⟨#[]⟩ : ByteArray))), .d (.v (.int .i64 0)), .d (.v (.int .i64 0)), .nil, .d (.v (.int .i64 0)), .nil, .nil, .nil, .d (.v (.bool false)), .nil, .d (.v (.string (⟨#[]⟩ : ByteArray)))])), (128, some (.box [.d (.sl (l.map dB)), .d (.v (.int .i64 c128_1)), .d (.v (.bool c128_2))])), (176, some (.box [.d (.v (.int .i64 r1)), .d (.v (.int .i64 r7)), .d (.v (.int .i64 r13)), .d (.v (.string r19)), .d (.v (.int .i64 r25)), .d (.v (.int .i64 r31)), .f (.sl (r37.map dS)), .d (.v (.int .i64 r43.f0)), .f (.sl (r43.f1.map dS)), .f (.sl (r43.f2.map dI)), .ref 832, .d (.v (.bool (r69 == 1))), .ref 1216, .d (.v (.string (⟨#[]⟩ : ByteArray)))])), (832, some (.row 5 26 (Lc176_10.map d26) false true)), (1216, some (.row 2 107 (Lc176_12.map d107) false true))], 1456⟩) g.1.1 g.1.2.1 g.1.2.2) ?_ (fun g => ?_)
   ·refine X.seq ?_
    have W11 := fun (X : S49) (hX : WB l 0 false X) => hrf _ _ (wlen (Nat.le_trans hX.bk.nx.1 (by decide))) (W10 X hX).1
    refine X.rk ⟨[(0, lV (l.map dB)), (2, .pt 64 0 0), (4, .pt 128 0 0), (5, .pt 176 0 0), (11, iV r75), (12, iV 0)], [(64, some (.box [.d (.v (.int .i64 0)), .d (.v (.int .i64 0)), .d (.v (.int .i64 0)), .d (.v (.string (⟨#[]⟩ : ByteArray))), .d (.v (.int .i64 0)), .d (.v (.int .i64 0)), .nil, .d (.v (.int .i64 0)), .nil, .nil, .nil, .d (.v (.bool false)), .nil, .d (.v (.string (⟨#[]⟩ : ByteArray)))])), (128, some (.box [.d (.sl (l.map dB)), .d (.v (.int .i64 i78)), .d (.v (.bool h79))])), (176, some (.box [.d (.v (.int .i64 r1)), .d (.v (.int .i64 r7)), .d (.v (.int .i64 r13)), .d (.v (.string r19)), .d (.v (.int .i64 r25)), .d (.v (.int .i64 r31)), .f (.sl (r37.map dS)), .d (.v (.int .i64 r43.f0)), .f (.sl (r43.f1.map dS)), .f (.sl (r43.f2.map dI)), .ref 832, .d (.v (.bool (r69 == 1))), .nil, .d (.v (.string (⟨#[]⟩ : ByteArray)))])), (832, some (.row 5 26 (Lc176_10.map d26) false true))], 1216⟩ hτ hmix (by kernel_rfl) (by kernel_rfl) rfl ?_
    refine X.block ?_
    refine X.weak (Wk.ownB 176 [.d (.v (.int .i64 r1)), .d (.v (.int .i64 r7)), .d (.v (.int .i64 r13)), .d (.v (.string r19)), .d (.v (.int .i64 r25)), .d (.v (.int .i64 r31)), .f (.sl (r37.map dS)), .d (.v (.int .i64 r43.f0)), .f (.sl (r43.f1.map dS)), .f (.sl (r43.f2.map dI)), .ref 832, .d (.v (.bool (r69 == 1))), .nil, .d (.v (.string (⟨#[]⟩ : ByteArray)))] 12 2 107 (by kernel_rfl) rfl (by kernel_rfl) (by kernel_rfl)) ?_
    -- 22: c128_1 : Int, c128_2 : Bool, Lc176_12 : List S107, v12 : Int
    refine X.loop (σ := { g : Int × Bool × (List S107) × Int // (fun (c128_1 : Int) (c128_2 : Bool) (Lc176_12 : List S107) (v12 : Int) => (0 ≤ c128_1 ∧ c128_1 ≤ l.length) ∧ (0 ≤ v12 ∧ v12 ≤ 13 ∧ (Lc176_12.length : Int) = v12 ∧ (∀ x, x ∈ Lc176_12 → Sm107 x) ∧ ∀ X, WB l 0 false X → RS l c128_1 c128_2 ((X.f8.drop v12.toNat).flatMap encV ++ tl9 X) ∧ Lc176_12 = X.f8.take v12.toNat)) g.1 g.2.1 g.2.2.1 g.2.2.2 }) (fun g => (fun (c128_1 : Int) (c128_2 : Bool) (Lc176_12 : List S107) (v12 : Int) => ⟨[(0, lV (l.map dB)), (2, .pt 64 0 0), (4, .pt 128 0 0), (5, .pt 176 0 0), (11, iV r75), (12, iV v12)], [(64, some (.box [.d (.v (.int .i64 0)), .d (.v (.int .i64 0)), .d (.v (.int .i64 0)), .d (.v (.string (⟨#[]⟩ : ByteArray))), .d (.v (.int .i64 0)), .d (.v (.int .i64 0)), .nil, .d (.v (.int .i64 0)), .nil, .nil, .nil, .d (.v (.bool false)), .nil, .d (.v (.string (⟨#[]⟩ : ByteArray)))])), (128, some (.box [.d (.sl (l.map dB)), .d (.v (.int .i64 c128_1)), .d (.v (.bool c128_2))])), (176, some (.box [.d (.v (.int .i64 r1)), .d (.v (.int .i64 r7)), .d (.v (.int .i64 r13)), .d (.v (.string r19)), .d (.v (.int .i64 r25)), .d (.v (.int .i64 r31)), .f (.sl (r37.map dS)), .d (.v (.int .i64 r43.f0)), .f (.sl (r43.f1.map dS)), .f (.sl (r43.f2.map dI)), .ref 832, .d (.v (.bool (r69 == 1))), .ref 1216, .d (.v (.string (⟨#[]⟩ : ByteArray)))])), (832, some (.row 5 26 (Lc176_10.map d26) false true)), (1216, some (.row 2 107 (Lc176_12.map d107) false true))], 1232⟩) g.1.1 g.1.2.1 g.1.2.2.1 g.1.2.2.2) (fun g => (fun (c128_1 : Int) (c128_2 : Bool) (Lc176_12 : List S107) (v12 : Int) => (13 - v12).toNat) g.1.1 g.1.2.1 g.1.2.2.1 g.1.2.2.2) ⟨(i78, h79, [], 0), ⟨by first | omega | (dsimp only; omega), ⟨by first | omega | (dsimp only; omega), by first | omega | (dsimp only; omega), by simp, all_nil, rd_zero (fun X hX => (W11 X hX).1)⟩⟩⟩ (Wk.less (by kernel_rfl)) (fun g => ?_)
    obtain ⟨⟨c128_1, c128_2, Lc176_12, v12⟩, hg83⟩ := g
    have hg83 : (0 ≤ c128_1 ∧ c128_1 ≤ l.length) ∧ (0 ≤ v12 ∧ v12 ≤ 13 ∧ (Lc176_12.length : Int) = v12 ∧ (∀ x, x ∈ Lc176_12 → Sm107 x) ∧ ∀ X, WB l 0 false X → RS l c128_1 c128_2 ((X.f8.drop v12.toNat).flatMap encV ++ tl9 X) ∧ Lc176_12 = X.f8.take v12.toNat) := hg83
    obtain ⟨⟨_, _⟩, ⟨_, _, _, hvs, W11b⟩⟩ := hg83
    refine X.seq ?_
    refine X.seq ?_
    refine X.rs 4 hτ hmix (by kernel_rfl) ?_
    rcases Bool.eq_false_or_eq_true (decide ((v12 : Int) < r75)) with hb84 | hb84
    ·refine CH.alt 99 (sV (.bool (decide ((v12 : Int) < r75)))) (sV (.bool true)) (by kernel_rfl) (by rw [hb84]) ?_
     refine CH.alt 100 (sV (.bool (decide ((v12 : Int) < r75)))) (sV (.bool true)) (by kernel_rfl) (by rw [hb84]) ?_
     replace hb84 := of_decide_eq_true (hb84)
     refine CH.go 4 hτ (by kernel_rfl) ?_
     rcases Bool.eq_false_or_eq_true (decide ((v12 : Int) < 13)) with hb85 | hb85
     ·refine CH.alt 102 (sV (.bool (decide ((v12 : Int) < 13)))) (sV (.bool true)) (by kernel_rfl) (by rw [hb85]) ?_
      refine CH.alt 103 (sV (.bool (decide ((v12 : Int) < 13)))) (sV (.bool true)) (by kernel_rfl) (by rw [hb85]) ?_
      refine CH.alt 104 (sV (.bool (decide ((v12 : Int) < 13)))) (sV (.bool true)) (by kernel_rfl) (by rw [hb85]) ?_
      replace hb85 := of_decide_eq_true (hb85)
      refine CH.go 6 hτ (by kernel_rfl) ?_
      refine CH.endk ⟨[(0, lV (l.map dB)), (2, .pt 64 0 0), (4, .pt 128 0 0), (5, .pt 176 0 0), (11, iV r75), (12, iV v12), (110, bV (!c128_2))], [(64, some (.box [.d (.v (.int .i64 0)), .d (.v (.int .i64 0)), .d (.v (.int .i64 0)), .d (.v (.string (⟨#[]⟩ : ByteArray))), .d (.v (.int .i64 0)), .d (.v (.int .i64 0)), .nil, .d (.v (.int .i64 0)), .nil, .nil, .nil, .d (.v (.bool false)), .nil, .d (.v (.string (⟨#[]⟩ : ByteArray)))])), (128, some (.box [.d (.sl (l.map dB)), .d (.v (.int .i64 c128_1)), .d (.v (.bool c128_2))])), (176, some (.box [.d (.v (.int .i64 r1)), .d (.v (.int .i64 r7)), .d (.v (.int .i64 r13)), .d (.v (.string r19)), .d (.v (.int .i64 r25)), .d (.v (.int .i64 r31)), .f (.sl (r37.map dS)), .d (.v (.int .i64 r43.f0)), .f (.sl (r43.f1.map dS)), .f (.sl (r43.f2.map dI)), .ref 832, .d (.v (.bool (r69 == 1))), .ref 1216, .d (.v (.string (⟨#[]⟩ : ByteArray)))])), (832, some (.row 5 26 (Lc176_10.map d26) false true)), (1216, some (.row 2 107 (Lc176_12.map d107) false true))], 1456⟩ (by kernel_rfl) (by kernel_rfl) rfl ?_
      refine X.if_ (b := !c128_2) (by kernel_rfl) (fun hb86 => ?_) (fun hb86 => ?_)
      ·replace hb86 := bnot_yes (hb86)
       refine X.skip ?_
       refine X.seq ?_
       refine X.block ?_
       refine X.seq ?_
       refine X.rs 1 hτ hmix (by kernel_rfl) ?_
       obtain ⟨r87, i90, h91, hr89, hi92, hf88⟩ := s_l9Text l c128_1 c128_2 (by first | assumption | omega) (by omega) (by first | assumption | omega)
       obtain ⟨hrs, hrf⟩ := hr89
       refine CH.call hf88 Try.func97 ⟨rfl, rfl⟩ [(128, 0)] (by kernel_rfl) (by kernel_rfl) (by kernel_rfl) (by kernel_rfl) ?_
       refine CH.go 3 hτ (by kernel_rfl) ?_
       refine CH.endk ⟨[(0, lV (l.map dB)), (2, .pt 64 0 0), (4, .pt 128 0 0), (5, .pt 176 0 0), (11, iV r75), (12, iV v12), (13, .pt 1504 0 0)], [(64, some (.box [.d (.v (.int .i64 0)), .d (.v (.int .i64 0)), .d (.v (.int .i64 0)), .d (.v (.string (⟨#[]⟩ : ByteArray))), .d (.v (.int .i64 0)), .d (.v (.int .i64 0)), .nil, .d (.v (.int .i64 0)), .nil, .nil, .nil, .d (.v (.bool false)), .nil, .d (.v (.string (⟨#[]⟩ : ByteArray)))])), (128, some (.box [.d (.sl (l.map dB)), .d (.v (.int .i64 i90)), .d (.v (.bool h91))])), (176, some (.box [.d (.v (.int .i64 r1)), .d (.v (.int .i64 r7)), .d (.v (.int .i64 r13)), .d (.v (.string r19)), .d (.v (.int .i64 r25)), .d (.v (.int .i64 r31)), .f (.sl (r37.map dS)), .d (.v (.int .i64 r43.f0)), .f (.sl (r43.f1.map dS)), .f (.sl (r43.f2.map dI)), .ref 832, .d (.v (.bool (r69 == 1))), .ref 1216, .d (.v (.string (⟨#[]⟩ : ByteArray)))])), (832, some (.row 5 26 (Lc176_10.map d26) false true)), (1216, some (.row 2 107 (Lc176_12.map d107) false true)), (1504, some (.box [.d (.v (.string r87)), .d (.v (.int .i64 0))]))], 1536⟩ (by kernel_rfl) (by kernel_rfl) rfl ?_
       refine X.seq ?_
       have hrt := hrf
       have hrts := hrs
       refine X.rs 1 hτ hmix (by kernel_rfl) ?_
       obtain ⟨r93, i96, h97, hr95, hi98, hf94⟩ := s_l9Num l i90 h91 (by first | assumption | omega) (by omega) (by first | assumption | omega)
       obtain ⟨hrb, hrf⟩ := hr95
       refine CH.call hf94 Try.func96 ⟨rfl, rfl⟩ [(128, 0)] (by kernel_rfl) (by kernel_rfl) (by kernel_rfl) (by kernel_rfl) ?_
       refine CH.go 2 hτ (by kernel_rfl) ?_
       refine CH.endk ⟨[(0, lV (l.map dB)), (2, .pt 64 0 0), (4, .pt 128 0 0), (5, .pt 176 0 0), (11, iV r75), (12, iV v12), (13, .pt 1504 0 0)], [(64, some (.box [.d (.v (.int .i64 0)), .d (.v (.int .i64 0)), .d (.v (.int .i64 0)), .d (.v (.string (⟨#[]⟩ : ByteArray))), .d (.v (.int .i64 0)), .d (.v (.int .i64 0)), .nil, .d (.v (.int .i64 0)), .nil, .nil, .nil, .d (.v (.bool false)), .nil, .d (.v (.string (⟨#[]⟩ : ByteArray)))])), (128, some (.box [.d (.sl (l.map dB)), .d (.v (.int .i64 i96)), .d (.v (.bool h97))])), (176, some (.box [.d (.v (.int .i64 r1)), .d (.v (.int .i64 r7)), .d (.v (.int .i64 r13)), .d (.v (.string r19)), .d (.v (.int .i64 r25)), .d (.v (.int .i64 r31)), .f (.sl (r37.map dS)), .d (.v (.int .i64 r43.f0)), .f (.sl (r43.f1.map dS)), .f (.sl (r43.f2.map dI)), .ref 832, .d (.v (.bool (r69 == 1))), .ref 1216, .d (.v (.string (⟨#[]⟩ : ByteArray)))])), (832, some (.row 5 26 (Lc176_10.map d26) false true)), (1216, some (.row 2 107 (Lc176_12.map d107) false true)), (1504, some (.box [.d (.v (.string r87)), .d (.v (.int .i64 r93))]))], 1600⟩ (by kernel_rfl) (by kernel_rfl) rfl ?_
       refine X.rs 4 hτ hmix (by kernel_rfl) ?_
       have el99 : (Lc176_12.map d107).length = Lc176_12.length := List.length_map ..
       have el100 : (([(⟨r87, r93⟩ : S107)] : List S107).map d107).length = ([(⟨r87, r93⟩ : S107)] : List S107).length := List.length_map ..
       have el101 : ([(⟨r87, r93⟩ : S107)] : List S107).length = 1 := rfl
       refine CH.app hτ (rows := (Lc176_12.map d107)) (rows2 := (([(⟨r87, r93⟩ : S107)] : List S107).map d107)) (sz := 2) (bys := 24) true (by kernel_rfl) (by kernel_rfl) (fun _ => flat_d d107 (fun x => rfl)) (flat_ok (f := d107) (fun x => rfl)) (by simp only [List.length_map] <;> (first | done | omega | (simp; done) | (simp; omega))) (by kernel_rfl) ?_
       refine CH.go 2 hτ (by kernel_rfl) ?_
       refine CH.endk ⟨[(0, lV (l.map dB)), (2, .pt 64 0 0), (4, .pt 128 0 0), (5, .pt 176 0 0), (11, iV r75), (12, iV v12)], [(64, some (.box [.d (.v (.int .i64 0)), .d (.v (.int .i64 0)), .d (.v (.int .i64 0)), .d (.v (.string (⟨#[]⟩ : ByteArray))), .d (.v (.int .i64 0)), .d (.v (.int .i64 0)), .nil, .d (.v (.int .i64 0)), .nil, .nil, .nil, .d (.v (.bool false)), .nil, .d (.v (.string (⟨#[]⟩ : ByteArray)))])), (128, some (.box [.d (.sl (l.map dB)), .d (.v (.int .i64 i96)), .d (.v (.bool h97))])), (176, some (.box [.d (.v (.int .i64 r1)), .d (.v (.int .i64 r7)), .d (.v (.int .i64 r13)), .d (.v (.string r19)), .d (.v (.int .i64 r25)), .d (.v (.int .i64 r31)), .f (.sl (r37.map dS)), .d (.v (.int .i64 r43.f0)), .f (.sl (r43.f1.map dS)), .f (.sl (r43.f2.map dI)), .ref 832, .d (.v (.bool (r69 == 1))), .ref 1664, .d (.v (.string (⟨#[]⟩ : ByteArray)))])), (832, some (.row 5 26 (Lc176_10.map d26) false true)), (1664, some (.row 2 107 ((Lc176_12.map d107) ++ (([(⟨r87, r93⟩ : S107)] : List S107).map d107)) false true))], 1712⟩ (by kernel_rfl) (by kernel_rfl) (s2 := ⟨[(0, lV (l.map dB)), (2, .pt 64 0 0), (4, .pt 128 0 0), (5, .pt 176 0 0), (11, iV r75), (12, iV v12)], [(64, some (.box [.d (.v (.int .i64 0)), .d (.v (.int .i64 0)), .d (.v (.int .i64 0)), .d (.v (.string (⟨#[]⟩ : ByteArray))), .d (.v (.int .i64 0)), .d (.v (.int .i64 0)), .nil, .d (.v (.int .i64 0)), .nil, .nil, .nil, .d (.v (.bool false)), .nil, .d (.v (.string (⟨#[]⟩ : ByteArray)))])), (128, some (.box [.d (.sl (l.map dB)), .d (.v (.int .i64 i96)), .d (.v (.bool h97))])), (176, some (.box [.d (.v (.int .i64 r1)), .d (.v (.int .i64 r7)), .d (.v (.int .i64 r13)), .d (.v (.string r19)), .d (.v (.int .i64 r25)), .d (.v (.int .i64 r31)), .f (.sl (r37.map dS)), .d (.v (.int .i64 r43.f0)), .f (.sl (r43.f1.map dS)), .f (.sl (r43.f2.map dI)), .ref 832, .d (.v (.bool (r69 == 1))), .ref 1664, .d (.v (.string (⟨#[]⟩ : ByteArray)))])), (832, some (.row 5 26 (Lc176_10.map d26) false true)), (1664, some (.row 2 107 ((Lc176_12 ++ ([(⟨r87, r93⟩ : S107)] : List S107)).map d107) false true))], 1712⟩) (congrArg (fun z : List (List D) => (⟨[(0, lV (l.map dB)), (2, .pt 64 0 0), (4, .pt 128 0 0), (5, .pt 176 0 0), (11, iV r75), (12, iV v12)], [(64, some (.box [.d (.v (.int .i64 0)), .d (.v (.int .i64 0)), .d (.v (.int .i64 0)), .d (.v (.string (⟨#[]⟩ : ByteArray))), .d (.v (.int .i64 0)), .d (.v (.int .i64 0)), .nil, .d (.v (.int .i64 0)), .nil, .nil, .nil, .d (.v (.bool false)), .nil, .d (.v (.string (⟨#[]⟩ : ByteArray)))])), (128, some (.box [.d (.sl (l.map dB)), .d (.v (.int .i64 i96)), .d (.v (.bool h97))])), (176, some (.box [.d (.v (.int .i64 r1)), .d (.v (.int .i64 r7)), .d (.v (.int .i64 r13)), .d (.v (.string r19)), .d (.v (.int .i64 r25)), .d (.v (.int .i64 r31)), .f (.sl (r37.map dS)), .d (.v (.int .i64 r43.f0)), .f (.sl (r43.f1.map dS)), .f (.sl (r43.f2.map dI)), .ref 832, .d (.v (.bool (r69 == 1))), .ref 1664, .d (.v (.string (⟨#[]⟩ : ByteArray)))])), (832, some (.row 5 26 (Lc176_10.map d26) false true)), (1664, some (.row 2 107 z false true))], 1712⟩ : St)) (show (Lc176_12.map d107) ++ (([(⟨r87, r93⟩ : S107)] : List S107).map d107) = ((Lc176_12 ++ ([(⟨r87, r93⟩ : S107)] : List S107)).map d107) from List.map_append.symm)) ?_
       refine X.rk ⟨[(0, lV (l.map dB)), (2, .pt 64 0 0), (4, .pt 128 0 0), (5, .pt 176 0 0), (11, iV r75), (12, iV (wrap64 (v12 + 1)))], [(64, some (.box [.d (.v (.int .i64 0)), .d (.v (.int .i64 0)), .d (.v (.int .i64 0)), .d (.v (.string (⟨#[]⟩ : ByteArray))), .d (.v (.int .i64 0)), .d (.v (.int .i64 0)), .nil, .d (.v (.int .i64 0)), .nil, .nil, .nil, .d (.v (.bool false)), .nil, .d (.v (.string (⟨#[]⟩ : ByteArray)))])), (128, some (.box [.d (.sl (l.map dB)), .d (.v (.int .i64 i96)), .d (.v (.bool h97))])), (176, some (.box [.d (.v (.int .i64 r1)), .d (.v (.int .i64 r7)), .d (.v (.int .i64 r13)), .d (.v (.string r19)), .d (.v (.int .i64 r25)), .d (.v (.int .i64 r31)), .f (.sl (r37.map dS)), .d (.v (.int .i64 r43.f0)), .f (.sl (r43.f1.map dS)), .f (.sl (r43.f2.map dI)), .ref 832, .d (.v (.bool (r69 == 1))), .ref 1664, .d (.v (.string (⟨#[]⟩ : ByteArray)))])), (832, some (.row 5 26 (Lc176_10.map d26) false true)), (1664, some (.row 2 107 ((Lc176_12 ++ ([(⟨r87, r93⟩ : S107)] : List S107)).map d107) false true))], 1760⟩ hτ hmix (by kernel_rfl) (by kernel_rfl) (s2 := ⟨[(0, lV (l.map dB)), (2, .pt 64 0 0), (4, .pt 128 0 0), (5, .pt 176 0 0), (11, iV r75), (12, iV (v12 + 1))], [(64, some (.box [.d (.v (.int .i64 0)), .d (.v (.int .i64 0)), .d (.v (.int .i64 0)), .d (.v (.string (⟨#[]⟩ : ByteArray))), .d (.v (.int .i64 0)), .d (.v (.int .i64 0)), .nil, .d (.v (.int .i64 0)), .nil, .nil, .nil, .d (.v (.bool false)), .nil, .d (.v (.string (⟨#[]⟩ : ByteArray)))])), (128, some (.box [.d (.sl (l.map dB)), .d (.v (.int .i64 i96)), .d (.v (.bool h97))])), (176, some (.box [.d (.v (.int .i64 r1)), .d (.v (.int .i64 r7)), .d (.v (.int .i64 r13)), .d (.v (.string r19)), .d (.v (.int .i64 r25)), .d (.v (.int .i64 r31)), .f (.sl (r37.map dS)), .d (.v (.int .i64 r43.f0)), .f (.sl (r43.f1.map dS)), .f (.sl (r43.f2.map dI)), .ref 832, .d (.v (.bool (r69 == 1))), .ref 1664, .d (.v (.string (⟨#[]⟩ : ByteArray)))])), (832, some (.row 5 26 (Lc176_10.map d26) false true)), (1664, some (.row 2 107 ((Lc176_12 ++ ([(⟨r87, r93⟩ : S107)] : List S107)).map d107) false true))], 1760⟩) (congrArg (fun z : Int => (⟨[(0, lV (l.map dB)), (2, .pt 64 0 0), (4, .pt 128 0 0), (5, .pt 176 0 0), (11, iV r75), (12, iV z)], [(64, some (.box [.d (.v (.int .i64 0)), .d (.v (.int .i64 0)), .d (.v (.int .i64 0)), .d (.v (.string (⟨#[]⟩ : ByteArray))), .d (.v (.int .i64 0)), .d (.v (.int .i64 0)), .nil, .d (.v (.int .i64 0)), .nil, .nil, .nil, .d (.v (.bool false)), .nil, .d (.v (.string (⟨#[]⟩ : ByteArray)))])), (128, some (.box [.d (.sl (l.map dB)), .d (.v (.int .i64 i96)), .d (.v (.bool h97))])), (176, some (.box [.d (.v (.int .i64 r1)), .d (.v (.int .i64 r7)), .d (.v (.int .i64 r13)), .d (.v (.string r19)), .d (.v (.int .i64 r25)), .d (.v (.int .i64 r31)), .f (.sl (r37.map dS)), .d (.v (.int .i64 r43.f0)), .f (.sl (r43.f1.map dS)), .f (.sl (r43.f2.map dI)), .ref 832, .d (.v (.bool (r69 == 1))), .ref 1664, .d (.v (.string (⟨#[]⟩ : ByteArray)))])), (832, some (.row 5 26 (Lc176_10.map d26) false true)), (1664, some (.row 2 107 ((Lc176_12 ++ ([(⟨r87, r93⟩ : S107)] : List S107)).map d107) false true))], 1760⟩ : St)) (show wrap64 (v12 + 1) = (v12 + 1) by rw [w64 (n := (v12 + 1)) (by omega) (by omega)])) ?_
       refine ⟨⟨(i96, h97, (Lc176_12 ++ ([(⟨r87, r93⟩ : S107)] : List S107)), (v12 + 1)), ⟨by first | omega | (dsimp only; omega), ⟨by first | omega | (dsimp only; omega), by first | omega | (dsimp only; omega), by simp only [List.length_append, List.length_cons, List.length_nil]; (first | omega | (dsimp only; omega)), all_app hvs (all_one hrts), rd_next W11b (rd_v hrt hrf) (by first | omega | (dsimp only; omega)) (fun X hX => by have hq1 := (W11 X hX).2; omega) (fun X hX x hx => hX.bk.nx.2 x hx)⟩⟩⟩, by first | exact rfl | omega | (dsimp only; omega) | (simp only [List.length_append, List.length_cons, List.length_nil, List.length_set]; omega) | (simp; done) | (simp; omega), Wk.mk' [(64, 64), (128, 128), (176, 176), (832, 832), (1216, 1664)] (by kernel_rfl) (by kernel_rfl) (by kernel_rfl)⟩
      ·replace hb86 := bnot_no (hb86)
       refine X.exit ?_
       refine ⟨⟨(c128_1, c128_2, Lc176_12), ⟨by first | omega | (dsimp only; omega), ⟨rd_end W11b (fun X hX => by have hq1 := (W11 X hX).2; have hq2 := hX.bk.nx.1; have hq3 := (W11b X hX).1.1; first | omega | exact tf (by assumption) hq3), by first | omega | (dsimp only; omega), hvs⟩⟩⟩, Wk.mk' [(64, 64), (128, 128), (176, 176), (832, 832), (1216, 1216)] (by kernel_rfl) (by kernel_rfl) (by kernel_rfl)⟩
     ·refine CH.alt 102 (sV (.bool (decide ((v12 : Int) < 13)))) (sV (.bool false)) (by kernel_rfl) (by rw [hb85]) ?_
      refine CH.alt 103 (sV (.bool (decide ((v12 : Int) < 13)))) (sV (.bool false)) (by kernel_rfl) (by rw [hb85]) ?_
      refine CH.alt 104 (sV (.bool (decide ((v12 : Int) < 13)))) (sV (.bool false)) (by kernel_rfl) (by rw [hb85]) ?_
      replace hb85 := of_decide_eq_false (hb85)
      refine CH.go 6 hτ (by kernel_rfl) ?_
      refine CH.endk ⟨[(0, lV (l.map dB)), (2, .pt 64 0 0), (4, .pt 128 0 0), (5, .pt 176 0 0), (11, iV r75), (12, iV v12), (110, bV false)], [(64, some (.box [.d (.v (.int .i64 0)), .d (.v (.int .i64 0)), .d (.v (.int .i64 0)), .d (.v (.string (⟨#[]⟩ : ByteArray))), .d (.v (.int .i64 0)), .d (.v (.int .i64 0)), .nil, .d (.v (.int .i64 0)), .nil, .nil, .nil, .d (.v (.bool false)), .nil, .d (.v (.string (⟨#[]⟩ : ByteArray)))])), (128, some (.box [.d (.sl (l.map dB)), .d (.v (.int .i64 c128_1)), .d (.v (.bool c128_2))])), (176, some (.box [.d (.v (.int .i64 r1)), .d (.v (.int .i64 r7)), .d (.v (.int .i64 r13)), .d (.v (.string r19)), .d (.v (.int .i64 r25)), .d (.v (.int .i64 r31)), .f (.sl (r37.map dS)), .d (.v (.int .i64 r43.f0)), .f (.sl (r43.f1.map dS)), .f (.sl (r43.f2.map dI)), .ref 832, .d (.v (.bool (r69 == 1))), .ref 1216, .d (.v (.string (⟨#[]⟩ : ByteArray)))])), (832, some (.row 5 26 (Lc176_10.map d26) false true)), (1216, some (.row 2 107 (Lc176_12.map d107) false true))], 1456⟩ (by kernel_rfl) (by kernel_rfl) rfl ?_
      refine X.ifF (by kernel_rfl) ?_
      refine X.exit ?_
      refine ⟨⟨(c128_1, c128_2, Lc176_12), ⟨by first | omega | (dsimp only; omega), ⟨rd_end W11b (fun X hX => by have hq1 := (W11 X hX).2; have hq2 := hX.bk.nx.1; have hq3 := (W11b X hX).1.1; first | omega | exact tf (by assumption) hq3), by first | omega | (dsimp only; omega), hvs⟩⟩⟩, Wk.mk' [(64, 64), (128, 128), (176, 176), (832, 832), (1216, 1216)] (by kernel_rfl) (by kernel_rfl) (by kernel_rfl)⟩
    ·refine CH.alt 99 (sV (.bool (decide ((v12 : Int) < r75)))) (sV (.bool false)) (by kernel_rfl) (by rw [hb84]) ?_
     refine CH.alt 100 (sV (.bool (decide ((v12 : Int) < r75)))) (sV (.bool false)) (by kernel_rfl) (by rw [hb84]) ?_
     replace hb84 := of_decide_eq_false (hb84)
     refine CH.go 10 hτ (by kernel_rfl) ?_
     refine CH.endk ⟨[(0, lV (l.map dB)), (2, .pt 64 0 0), (4, .pt 128 0 0), (5, .pt 176 0 0), (11, iV r75), (12, iV v12), (110, bV false)], [(64, some (.box [.d (.v (.int .i64 0)), .d (.v (.int .i64 0)), .d (.v (.int .i64 0)), .d (.v (.string (⟨#[]⟩ : ByteArray))), .d (.v (.int .i64 0)), .d (.v (.int .i64 0)), .nil, .d (.v (.int .i64 0)), .nil, .nil, .nil, .d (.v (.bool false)), .nil, .d (.v (.string (⟨#[]⟩ : ByteArray)))])), (128, some (.box [.d (.sl (l.map dB)), .d (.v (.int .i64 c128_1)), .d (.v (.bool c128_2))])), (176, some (.box [.d (.v (.int .i64 r1)), .d (.v (.int .i64 r7)), .d (.v (.int .i64 r13)), .d (.v (.string r19)), .d (.v (.int .i64 r25)), .d (.v (.int .i64 r31)), .f (.sl (r37.map dS)), .d (.v (.int .i64 r43.f0)), .f (.sl (r43.f1.map dS)), .f (.sl (r43.f2.map dI)), .ref 832, .d (.v (.bool (r69 == 1))), .ref 1216, .d (.v (.string (⟨#[]⟩ : ByteArray)))])), (832, some (.row 5 26 (Lc176_10.map d26) false true)), (1216, some (.row 2 107 (Lc176_12.map d107) false true))], 1456⟩ (by kernel_rfl) (by kernel_rfl) rfl ?_
     refine X.ifF (by kernel_rfl) ?_
     refine X.exit ?_
     refine ⟨⟨(c128_1, c128_2, Lc176_12), ⟨by first | omega | (dsimp only; omega), ⟨rd_end W11b (fun X hX => by have hq1 := (W11 X hX).2; have hq2 := hX.bk.nx.1; have hq3 := (W11b X hX).1.1; first | omega | exact tf (by assumption) hq3), by first | omega | (dsimp only; omega), hvs⟩⟩⟩, Wk.mk' [(64, 64), (128, 128), (176, 176), (832, 832), (1216, 1216)] (by kernel_rfl) (by kernel_rfl) (by kernel_rfl)⟩
   ·obtain ⟨⟨c128_1, c128_2, Lc176_12⟩, hg81⟩ := g
    have hg81 : (0 ≤ c128_1 ∧ c128_1 ≤ l.length) ∧ ((∀ X, WB l 0 false X → RS l c128_1 c128_2 (tl9 X) ∧ Lc176_12 = X.f8) ∧ Lc176_12.length ≤ 13 ∧ ∀ x, x ∈ Lc176_12 → Sm107 x) := hg81
    obtain ⟨⟨_, _⟩, ⟨W12, hvl, hvs⟩⟩ := hg81
    refine X.seq ?_
    refine X.rs 1 hτ hmix (by kernel_rfl) ?_
    obtain ⟨r102, i105, h106, hr104, hi107, hf103⟩ := s_l9Text l c128_1 c128_2 (by first | assumption | omega) (by omega) (by first | assumption | omega)
    obtain ⟨hrs, hrf⟩ := hr104
    refine CH.call hf103 Try.func97 ⟨rfl, rfl⟩ [(128, 0)] (by kernel_rfl) (by kernel_rfl) (by kernel_rfl) (by kernel_rfl) ?_
    refine CH.go 2 hτ (by kernel_rfl) ?_
    refine CH.endk ⟨[(0, lV (l.map dB)), (2, .pt 64 0 0), (4, .pt 128 0 0), (5, .pt 176 0 0)], [(64, some (.box [.d (.v (.int .i64 0)), .d (.v (.int .i64 0)), .d (.v (.int .i64 0)), .d (.v (.string (⟨#[]⟩ : ByteArray))), .d (.v (.int .i64 0)), .d (.v (.int .i64 0)), .nil, .d (.v (.int .i64 0)), .nil, .nil, .nil, .d (.v (.bool false)), .nil, .d (.v (.string (⟨#[]⟩ : ByteArray)))])), (128, some (.box [.d (.sl (l.map dB)), .d (.v (.int .i64 i105)), .d (.v (.bool h106))])), (176, some (.box [.d (.v (.int .i64 r1)), .d (.v (.int .i64 r7)), .d (.v (.int .i64 r13)), .d (.v (.string r19)), .d (.v (.int .i64 r25)), .d (.v (.int .i64 r31)), .f (.sl (r37.map dS)), .d (.v (.int .i64 r43.f0)), .f (.sl (r43.f1.map dS)), .f (.sl (r43.f2.map dI)), .ref 832, .d (.v (.bool (r69 == 1))), .ref 1216, .d (.v (.string r102))])), (832, some (.row 5 26 (Lc176_10.map d26) false true)), (1216, some (.row 2 107 (Lc176_12.map d107) false true))], 1520⟩ (by kernel_rfl) (by kernel_rfl) rfl ?_
    refine X.seq ?_
    refine X.seq ?_
    have W13 := fun (X : S49) (hX : WB l 0 false X) => hrf _ _ (Nat.le_trans hX.bk.rt (by decide)) (by rw [List.append_nil]; exact (W12 X hX).1)
    refine X.rs 5 hτ hmix (by kernel_rfl) ?_
    rcases Bool.eq_false_or_eq_true (h106) with hb108 | hb108
    ·refine CH.alt 131 (sV (.bool (h106))) (sV (.bool true)) (by kernel_rfl) (by rw [hb108]) ?_
     refine CH.alt 132 (sV (.bool (h106))) (sV (.bool true)) (by kernel_rfl) (by rw [hb108]) ?_
     refine CH.go 12 hτ (by kernel_rfl) ?_
     refine CH.endk ⟨[(2, .pt 64 0 0), (5, .pt 176 0 0), (144, bV true)], [(64, some (.box [.d (.v (.int .i64 0)), .d (.v (.int .i64 0)), .d (.v (.int .i64 0)), .d (.v (.string (⟨#[]⟩ : ByteArray))), .d (.v (.int .i64 0)), .d (.v (.int .i64 0)), .nil, .d (.v (.int .i64 0)), .nil, .nil, .nil, .d (.v (.bool false)), .nil, .d (.v (.string (⟨#[]⟩ : ByteArray)))])), (176, some (.box [.d (.v (.int .i64 r1)), .d (.v (.int .i64 r7)), .d (.v (.int .i64 r13)), .d (.v (.string r19)), .d (.v (.int .i64 r25)), .d (.v (.int .i64 r31)), .f (.sl (r37.map dS)), .d (.v (.int .i64 r43.f0)), .f (.sl (r43.f1.map dS)), .f (.sl (r43.f2.map dI)), .ref 832, .d (.v (.bool (r69 == 1))), .ref 1216, .d (.v (.string r102))])), (832, some (.row 5 26 (Lc176_10.map d26) false true)), (1216, some (.row 2 107 (Lc176_12.map d107) false true))], 1792⟩ (by kernel_rfl) (by kernel_rfl) rfl ?_
     refine X.ifT (by kernel_rfl) ?_
     refine X.seq ?_
     refine X.rk ⟨[(2, .pt 64 0 0), (3, bV false)], [(64, some (.box [.d (.v (.int .i64 0)), .d (.v (.int .i64 0)), .d (.v (.int .i64 0)), .d (.v (.string (⟨#[]⟩ : ByteArray))), .d (.v (.int .i64 0)), .d (.v (.int .i64 0)), .nil, .d (.v (.int .i64 0)), .nil, .nil, .nil, .d (.v (.bool false)), .nil, .d (.v (.string (⟨#[]⟩ : ByteArray)))]))], 1840⟩ hτ hmix (by kernel_rfl) (by kernel_rfl) rfl ?_
     refine X.ret ?_
     exact ⟨trivial, _, _, ⟨(⟨0, 0, 0, (⟨#[]⟩ : ByteArray), (⟨0, 0, []⟩ : S43), (⟨0, [], []⟩ : S46), [], false, [], (⟨#[]⟩ : ByteArray)⟩ : S49), false, (by first | exact ⟨z_sm, gb_bad hu (fun X hX => ⟨(W13 X hX).1.1, mkB_eq2 (W0 X hX).2 (W1 X hX).2 (W2 X hX).2 (W3 X hX).2 (W4 X hX).2 (W5 X hX).2 (W6 X hX).2 (W7 X hX).2 (W9 X hX).2 (bit_eq (W10 X hX).2) (W12 X hX).2 (W13 X hX).2⟩) (.inl ‹_›), fun _ => rfl⟩ | exact ⟨z_sm, gb_bad hu (fun X hX => ⟨(W13 X hX).1.1, mkB_eq2 (W0 X hX).2 (W1 X hX).2 (W2 X hX).2 (W3 X hX).2 (W4 X hX).2 (W5 X hX).2 (W6 X hX).2 (W7 X hX).2 (W9 X hX).2 (bit_eq (W10 X hX).2) (W12 X hX).2 (W13 X hX).2⟩) (.inr (.inl ‹_›)), fun _ => rfl⟩ | exact ⟨z_sm, gb_bad2 hu (fun X hX => ⟨(W13 X hX).1.1, mkB_eq2 (W0 X hX).2 (W1 X hX).2 (W2 X hX).2 (W3 X hX).2 (W4 X hX).2 (W5 X hX).2 (W6 X hX).2 (W7 X hX).2 (W9 X hX).2 (bit_eq (W10 X hX).2) (W12 X hX).2 (W13 X hX).2⟩) ‹_› ‹_›, fun _ => rfl⟩ | exact ⟨⟨hsB, hsQ, hsT, ⟨by dsimp only; omega, hxs⟩, ⟨by dsimp only; omega, hvs⟩, hrs⟩, gb_yes2 hu (fun X hX => ⟨(W13 X hX).1.1, mkB_eq2 (W0 X hX).2 (W1 X hX).2 (W2 X hX).2 (W3 X hX).2 (W4 X hX).2 (W5 X hX).2 (W6 X hX).2 (W7 X hX).2 (W9 X hX).2 (bit_eq (W10 X hX).2) (W12 X hX).2 (W13 X hX).2⟩) ‹_› ‹_›, fun h => by cases h⟩), rfl, rfl⟩, .inr ⟨⟨[(2, .pt 64 0 0), (3, bV false)], [(64, some (.box [.d (.v (.int .i64 0)), .d (.v (.int .i64 0)), .d (.v (.int .i64 0)), .d (.v (.string (⟨#[]⟩ : ByteArray))), .d (.v (.int .i64 0)), .d (.v (.int .i64 0)), .f (.sl []), .d (.v (.int .i64 0)), .f (.sl []), .f (.sl []), .f (.sl []), .d (.v (.bool false)), .f (.sl []), .d (.v (.string (⟨#[]⟩ : ByteArray)))]))], 1840⟩, Wk.less (by kernel_rfl), Ret.mk' [] (by kernel_rfl) (by kernel_rfl) (by kernel_rfl)⟩⟩
    ·refine CH.alt 131 (sV (.bool (h106))) (sV (.bool false)) (by kernel_rfl) (by rw [hb108]) ?_
     refine CH.alt 132 (sV (.bool (h106))) (sV (.bool false)) (by kernel_rfl) (by rw [hb108]) ?_
     refine CH.go 1 hτ (by kernel_rfl) ?_
     obtain ⟨r109, hr111, hf110⟩ := s_BlockOk (⟨r1, r7, r13, r19, (⟨r25, r31, r37⟩ : S43), r43, Lc176_10, (r69 == 1), Lc176_12, r102⟩ : S49) (by exact ⟨hsB, hsQ, hsT, ⟨by dsimp only; omega, hxs⟩, ⟨by dsimp only; omega, hvs⟩, hrs⟩)
     replace hr111 := hr111.symm; subst hr111
     refine CH.call hf110 Try.func24 ⟨rfl, rfl⟩ [] (by kernel_rfl) (by kernel_rfl) (by kernel_rfl) (by kernel_rfl) ?_
     refine CH.go 3 hτ (by kernel_rfl) ?_
     rcases Bool.eq_false_or_eq_true (!(blockOk (⟨r1, r7, r13, r19, (⟨r25, r31, r37⟩ : S43), r43, Lc176_10, (r69 == 1), Lc176_12, r102⟩ : S49))) with hb113 | hb113
     ·refine CH.alt 135 (sV (.bool (!(blockOk (⟨r1, r7, r13, r19, (⟨r25, r31, r37⟩ : S43), r43, Lc176_10, (r69 == 1), Lc176_12, r102⟩ : S49))))) (sV (.bool true)) (by kernel_rfl) (by rw [hb113]) ?_
      refine CH.alt 136 (sV (.bool (!(blockOk (⟨r1, r7, r13, r19, (⟨r25, r31, r37⟩ : S43), r43, Lc176_10, (r69 == 1), Lc176_12, r102⟩ : S49))))) (sV (.bool true)) (by kernel_rfl) (by rw [hb113]) ?_
      refine CH.alt 137 (sV (.bool (!(blockOk (⟨r1, r7, r13, r19, (⟨r25, r31, r37⟩ : S43), r43, Lc176_10, (r69 == 1), Lc176_12, r102⟩ : S49))))) (sV (.bool true)) (by kernel_rfl) (by rw [hb113]) ?_
      replace hb113 := bnot_yes (hb113)
      refine CH.go 7 hτ (by kernel_rfl) ?_
      refine CH.endk ⟨[(2, .pt 64 0 0), (5, .pt 176 0 0), (144, bV true)], [(64, some (.box [.d (.v (.int .i64 0)), .d (.v (.int .i64 0)), .d (.v (.int .i64 0)), .d (.v (.string (⟨#[]⟩ : ByteArray))), .d (.v (.int .i64 0)), .d (.v (.int .i64 0)), .nil, .d (.v (.int .i64 0)), .nil, .nil, .nil, .d (.v (.bool false)), .nil, .d (.v (.string (⟨#[]⟩ : ByteArray)))])), (176, some (.box [.d (.v (.int .i64 r1)), .d (.v (.int .i64 r7)), .d (.v (.int .i64 r13)), .d (.v (.string r19)), .d (.v (.int .i64 r25)), .d (.v (.int .i64 r31)), .f (.sl (r37.map dS)), .d (.v (.int .i64 r43.f0)), .f (.sl (r43.f1.map dS)), .f (.sl (r43.f2.map dI)), .ref 832, .d (.v (.bool (r69 == 1))), .ref 1216, .d (.v (.string r102))])), (832, some (.row 5 26 (Lc176_10.map d26) false true)), (1216, some (.row 2 107 (Lc176_12.map d107) false true))], 1792⟩ (by kernel_rfl) (by kernel_rfl) rfl ?_
      refine X.ifT (by kernel_rfl) ?_
      refine X.seq ?_
      refine X.rk ⟨[(2, .pt 64 0 0), (3, bV false)], [(64, some (.box [.d (.v (.int .i64 0)), .d (.v (.int .i64 0)), .d (.v (.int .i64 0)), .d (.v (.string (⟨#[]⟩ : ByteArray))), .d (.v (.int .i64 0)), .d (.v (.int .i64 0)), .nil, .d (.v (.int .i64 0)), .nil, .nil, .nil, .d (.v (.bool false)), .nil, .d (.v (.string (⟨#[]⟩ : ByteArray)))]))], 1840⟩ hτ hmix (by kernel_rfl) (by kernel_rfl) rfl ?_
      refine X.ret ?_
      exact ⟨trivial, _, _, ⟨(⟨0, 0, 0, (⟨#[]⟩ : ByteArray), (⟨0, 0, []⟩ : S43), (⟨0, [], []⟩ : S46), [], false, [], (⟨#[]⟩ : ByteArray)⟩ : S49), false, (by first | exact ⟨z_sm, gb_bad hu (fun X hX => ⟨(W13 X hX).1.1, mkB_eq2 (W0 X hX).2 (W1 X hX).2 (W2 X hX).2 (W3 X hX).2 (W4 X hX).2 (W5 X hX).2 (W6 X hX).2 (W7 X hX).2 (W9 X hX).2 (bit_eq (W10 X hX).2) (W12 X hX).2 (W13 X hX).2⟩) (.inl ‹_›), fun _ => rfl⟩ | exact ⟨z_sm, gb_bad hu (fun X hX => ⟨(W13 X hX).1.1, mkB_eq2 (W0 X hX).2 (W1 X hX).2 (W2 X hX).2 (W3 X hX).2 (W4 X hX).2 (W5 X hX).2 (W6 X hX).2 (W7 X hX).2 (W9 X hX).2 (bit_eq (W10 X hX).2) (W12 X hX).2 (W13 X hX).2⟩) (.inr (.inl ‹_›)), fun _ => rfl⟩ | exact ⟨z_sm, gb_bad2 hu (fun X hX => ⟨(W13 X hX).1.1, mkB_eq2 (W0 X hX).2 (W1 X hX).2 (W2 X hX).2 (W3 X hX).2 (W4 X hX).2 (W5 X hX).2 (W6 X hX).2 (W7 X hX).2 (W9 X hX).2 (bit_eq (W10 X hX).2) (W12 X hX).2 (W13 X hX).2⟩) ‹_› ‹_›, fun _ => rfl⟩ | exact ⟨⟨hsB, hsQ, hsT, ⟨by dsimp only; omega, hxs⟩, ⟨by dsimp only; omega, hvs⟩, hrs⟩, gb_yes2 hu (fun X hX => ⟨(W13 X hX).1.1, mkB_eq2 (W0 X hX).2 (W1 X hX).2 (W2 X hX).2 (W3 X hX).2 (W4 X hX).2 (W5 X hX).2 (W6 X hX).2 (W7 X hX).2 (W9 X hX).2 (bit_eq (W10 X hX).2) (W12 X hX).2 (W13 X hX).2⟩) ‹_› ‹_›, fun h => by cases h⟩), rfl, rfl⟩, .inr ⟨⟨[(2, .pt 64 0 0), (3, bV false)], [(64, some (.box [.d (.v (.int .i64 0)), .d (.v (.int .i64 0)), .d (.v (.int .i64 0)), .d (.v (.string (⟨#[]⟩ : ByteArray))), .d (.v (.int .i64 0)), .d (.v (.int .i64 0)), .f (.sl []), .d (.v (.int .i64 0)), .f (.sl []), .f (.sl []), .f (.sl []), .d (.v (.bool false)), .f (.sl []), .d (.v (.string (⟨#[]⟩ : ByteArray)))]))], 1840⟩, Wk.less (by kernel_rfl), Ret.mk' [] (by kernel_rfl) (by kernel_rfl) (by kernel_rfl)⟩⟩
     ·refine CH.alt 135 (sV (.bool (!(blockOk (⟨r1, r7, r13, r19, (⟨r25, r31, r37⟩ : S43), r43, Lc176_10, (r69 == 1), Lc176_12, r102⟩ : S49))))) (sV (.bool false)) (by kernel_rfl) (by rw [hb113]) ?_
      refine CH.alt 136 (sV (.bool (!(blockOk (⟨r1, r7, r13, r19, (⟨r25, r31, r37⟩ : S43), r43, Lc176_10, (r69 == 1), Lc176_12, r102⟩ : S49))))) (sV (.bool false)) (by kernel_rfl) (by rw [hb113]) ?_
      refine CH.alt 137 (sV (.bool (!(blockOk (⟨r1, r7, r13, r19, (⟨r25, r31, r37⟩ : S43), r43, Lc176_10, (r69 == 1), Lc176_12, r102⟩ : S49))))) (sV (.bool false)) (by kernel_rfl) (by rw [hb113]) ?_
      replace hb113 := bnot_no (hb113)
      refine CH.go 1 hτ (by kernel_rfl) ?_
      obtain ⟨r114, hr116, hf115⟩ := s_PutBlock (⟨r1, r7, r13, r19, (⟨r25, r31, r37⟩ : S43), r43, Lc176_10, (r69 == 1), Lc176_12, r102⟩ : S49) (by exact ⟨hsB, hsQ, hsT, ⟨by dsimp only; omega, hxs⟩, ⟨by dsimp only; omega, hvs⟩, hrs⟩)
      replace hr116 := hr116.symm; subst hr116
      refine CH.call hf115 Try.func93 ⟨rfl, rfl⟩ [] (by kernel_rfl) (by kernel_rfl) (by kernel_rfl) (by kernel_rfl) ?_
      refine CH.b2s hτ (cc := .ref 1696) (ns := (putB (⟨r1, r7, r13, r19, (⟨r25, r31, r37⟩ : S43), r43, Lc176_10, (r69 == 1), Lc176_12, r102⟩ : S49))) (el := 5) (by kernel_rfl) (by kernel_rfl) Try.underlying5 ?_
      refine CH.go 1 hτ (by kernel_rfl) ?_
      refine CH.b2s hτ (cc := .d (.sl (l.map dB))) (ns := l) (el := 5) (by kernel_rfl) (by kernel_rfl) Try.underlying5 ?_
      refine CH.go 2 hτ (by kernel_rfl) ?_
      refine CH.endk ⟨[(2, .pt 64 0 0), (5, .pt 176 0 0), (144, bV (!((strOf (putB (⟨r1, r7, r13, r19, (⟨r25, r31, r37⟩ : S43), r43, Lc176_10, (r69 == 1), Lc176_12, r102⟩ : S49))).toList == (strOf l).toList)))], [(64, some (.box [.d (.v (.int .i64 0)), .d (.v (.int .i64 0)), .d (.v (.int .i64 0)), .d (.v (.string (⟨#[]⟩ : ByteArray))), .d (.v (.int .i64 0)), .d (.v (.int .i64 0)), .nil, .d (.v (.int .i64 0)), .nil, .nil, .nil, .d (.v (.bool false)), .nil, .d (.v (.string (⟨#[]⟩ : ByteArray)))])), (176, some (.box [.d (.v (.int .i64 r1)), .d (.v (.int .i64 r7)), .d (.v (.int .i64 r13)), .d (.v (.string r19)), .d (.v (.int .i64 r25)), .d (.v (.int .i64 r31)), .f (.sl (r37.map dS)), .d (.v (.int .i64 r43.f0)), .f (.sl (r43.f1.map dS)), .f (.sl (r43.f2.map dI)), .ref 832, .d (.v (.bool (r69 == 1))), .ref 1216, .d (.v (.string r102))])), (832, some (.row 5 26 (Lc176_10.map d26) false true)), (1216, some (.row 2 107 (Lc176_12.map d107) false true))], 1792⟩ (by kernel_rfl) (by kernel_rfl) rfl ?_
      refine X.if_ (b := !((strOf (putB (⟨r1, r7, r13, r19, (⟨r25, r31, r37⟩ : S43), r43, Lc176_10, (r69 == 1), Lc176_12, r102⟩ : S49))).toList == (strOf l).toList)) (by kernel_rfl) (fun hb118 => ?_) (fun hb118 => ?_)
      ·replace hb118 := beq_no (bnot_yes (hb118))
       refine X.seq ?_
       refine X.rk ⟨[(2, .pt 64 0 0), (3, bV false)], [(64, some (.box [.d (.v (.int .i64 0)), .d (.v (.int .i64 0)), .d (.v (.int .i64 0)), .d (.v (.string (⟨#[]⟩ : ByteArray))), .d (.v (.int .i64 0)), .d (.v (.int .i64 0)), .nil, .d (.v (.int .i64 0)), .nil, .nil, .nil, .d (.v (.bool false)), .nil, .d (.v (.string (⟨#[]⟩ : ByteArray)))]))], 1840⟩ hτ hmix (by kernel_rfl) (by kernel_rfl) rfl ?_
       refine X.ret ?_
       exact ⟨trivial, _, _, ⟨(⟨0, 0, 0, (⟨#[]⟩ : ByteArray), (⟨0, 0, []⟩ : S43), (⟨0, [], []⟩ : S46), [], false, [], (⟨#[]⟩ : ByteArray)⟩ : S49), false, (by first | exact ⟨z_sm, gb_bad hu (fun X hX => ⟨(W13 X hX).1.1, mkB_eq2 (W0 X hX).2 (W1 X hX).2 (W2 X hX).2 (W3 X hX).2 (W4 X hX).2 (W5 X hX).2 (W6 X hX).2 (W7 X hX).2 (W9 X hX).2 (bit_eq (W10 X hX).2) (W12 X hX).2 (W13 X hX).2⟩) (.inl ‹_›), fun _ => rfl⟩ | exact ⟨z_sm, gb_bad hu (fun X hX => ⟨(W13 X hX).1.1, mkB_eq2 (W0 X hX).2 (W1 X hX).2 (W2 X hX).2 (W3 X hX).2 (W4 X hX).2 (W5 X hX).2 (W6 X hX).2 (W7 X hX).2 (W9 X hX).2 (bit_eq (W10 X hX).2) (W12 X hX).2 (W13 X hX).2⟩) (.inr (.inl ‹_›)), fun _ => rfl⟩ | exact ⟨z_sm, gb_bad2 hu (fun X hX => ⟨(W13 X hX).1.1, mkB_eq2 (W0 X hX).2 (W1 X hX).2 (W2 X hX).2 (W3 X hX).2 (W4 X hX).2 (W5 X hX).2 (W6 X hX).2 (W7 X hX).2 (W9 X hX).2 (bit_eq (W10 X hX).2) (W12 X hX).2 (W13 X hX).2⟩) ‹_› ‹_›, fun _ => rfl⟩ | exact ⟨⟨hsB, hsQ, hsT, ⟨by dsimp only; omega, hxs⟩, ⟨by dsimp only; omega, hvs⟩, hrs⟩, gb_yes2 hu (fun X hX => ⟨(W13 X hX).1.1, mkB_eq2 (W0 X hX).2 (W1 X hX).2 (W2 X hX).2 (W3 X hX).2 (W4 X hX).2 (W5 X hX).2 (W6 X hX).2 (W7 X hX).2 (W9 X hX).2 (bit_eq (W10 X hX).2) (W12 X hX).2 (W13 X hX).2⟩) ‹_› ‹_›, fun h => by cases h⟩), rfl, rfl⟩, .inr ⟨⟨[(2, .pt 64 0 0), (3, bV false)], [(64, some (.box [.d (.v (.int .i64 0)), .d (.v (.int .i64 0)), .d (.v (.int .i64 0)), .d (.v (.string (⟨#[]⟩ : ByteArray))), .d (.v (.int .i64 0)), .d (.v (.int .i64 0)), .f (.sl []), .d (.v (.int .i64 0)), .f (.sl []), .f (.sl []), .f (.sl []), .d (.v (.bool false)), .f (.sl []), .d (.v (.string (⟨#[]⟩ : ByteArray)))]))], 1840⟩, Wk.less (by kernel_rfl), Ret.mk' [] (by kernel_rfl) (by kernel_rfl) (by kernel_rfl)⟩⟩
      ·replace hb118 := beq_yes (bnot_no (hb118))
       refine X.skip ?_
       refine X.seq ?_
       refine X.rk ⟨[(2, .pt 64 0 0), (3, bV true)], [(64, some (.box [.d (.v (.int .i64 r1)), .d (.v (.int .i64 r7)), .d (.v (.int .i64 r13)), .d (.v (.string r19)), .d (.v (.int .i64 r25)), .d (.v (.int .i64 r31)), .f (.sl (r37.map dS)), .d (.v (.int .i64 r43.f0)), .f (.sl (r43.f1.map dS)), .f (.sl (r43.f2.map dI)), .ref 832, .d (.v (.bool (r69 == 1))), .ref 1216, .d (.v (.string r102))])), (832, some (.row 5 26 (Lc176_10.map d26) false true)), (1216, some (.row 2 107 (Lc176_12.map d107) false true))], 1840⟩ hτ hmix (by kernel_rfl) (by kernel_rfl) rfl ?_
       refine X.ret ?_
       exact ⟨trivial, _, _, ⟨(⟨r1, r7, r13, r19, (⟨r25, r31, r37⟩ : S43), r43, Lc176_10, (r69 == 1), Lc176_12, r102⟩ : S49), true, (by first | exact ⟨z_sm, gb_bad hu (fun X hX => ⟨(W13 X hX).1.1, mkB_eq2 (W0 X hX).2 (W1 X hX).2 (W2 X hX).2 (W3 X hX).2 (W4 X hX).2 (W5 X hX).2 (W6 X hX).2 (W7 X hX).2 (W9 X hX).2 (bit_eq (W10 X hX).2) (W12 X hX).2 (W13 X hX).2⟩) (.inl ‹_›), fun _ => rfl⟩ | exact ⟨z_sm, gb_bad hu (fun X hX => ⟨(W13 X hX).1.1, mkB_eq2 (W0 X hX).2 (W1 X hX).2 (W2 X hX).2 (W3 X hX).2 (W4 X hX).2 (W5 X hX).2 (W6 X hX).2 (W7 X hX).2 (W9 X hX).2 (bit_eq (W10 X hX).2) (W12 X hX).2 (W13 X hX).2⟩) (.inr (.inl ‹_›)), fun _ => rfl⟩ | exact ⟨z_sm, gb_bad2 hu (fun X hX => ⟨(W13 X hX).1.1, mkB_eq2 (W0 X hX).2 (W1 X hX).2 (W2 X hX).2 (W3 X hX).2 (W4 X hX).2 (W5 X hX).2 (W6 X hX).2 (W7 X hX).2 (W9 X hX).2 (bit_eq (W10 X hX).2) (W12 X hX).2 (W13 X hX).2⟩) ‹_› ‹_›, fun _ => rfl⟩ | exact ⟨⟨hsB, hsQ, hsT, ⟨by dsimp only; omega, hxs⟩, ⟨by dsimp only; omega, hvs⟩, hrs⟩, gb_yes2 hu (fun X hX => ⟨(W13 X hX).1.1, mkB_eq2 (W0 X hX).2 (W1 X hX).2 (W2 X hX).2 (W3 X hX).2 (W4 X hX).2 (W5 X hX).2 (W6 X hX).2 (W7 X hX).2 (W9 X hX).2 (bit_eq (W10 X hX).2) (W12 X hX).2 (W13 X hX).2⟩) ‹_› ‹_›, fun h => by cases h⟩), rfl, rfl⟩, .inr ⟨⟨[(2, .pt 64 0 0), (3, bV true)], [(64, some (.box [.d (.v (.int .i64 r1)), .d (.v (.int .i64 r7)), .d (.v (.int .i64 r13)), .d (.v (.string r19)), .d (.v (.int .i64 r25)), .d (.v (.int .i64 r31)), .f (.sl (r37.map dS)), .d (.v (.int .i64 r43.f0)), .f (.sl (r43.f1.map dS)), .f (.sl (r43.f2.map dI)), .f (.sl (Lc176_10.map d26)), .d (.v (.bool (r69 == 1))), .f (.sl (Lc176_12.map d107)), .d (.v (.string r102))])), (832, some (.row 5 26 (Lc176_10.map d26) true true)), (1216, some (.row 2 107 (Lc176_12.map d107) true true))], 1840⟩, Wk.less (by kernel_rfl), Ret.mk' [] (by kernel_rfl) (by kernel_rfl) (by kernel_rfl)⟩⟩
 obtain ⟨_, _, ⟨r0, r1, h1_, rfl, rfl⟩, hf⟩ := key
 exact ⟨r0, r1, h1_, hf⟩

end Go.Proofs.Ytnieghbgcjbnhaa.Av
