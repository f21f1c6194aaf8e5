/-
What functions of the program come to, walked one by one.
Conditions: none beside those that each theorem names.
-/
import Derived.Test.YtggmeldoecnkaaaAvFT
import Derived.Test.YtggmeldoecnkaaaAvH
set_option linter.unusedVariables false
set_option linter.unusedSimpArgs false
namespace Go.Proofs.Ytggmeldoecnkaaa.Av
open Go.RowKit
set_option maxRecDepth 20000
set_option maxHeartbeats 4000000

noncomputable def eqV {α : Type} (a b : α) : Bool := @decide (a = b) (Classical.propDecidable _)
theorem eqV_iff {α : Type} {a b : α} : eqV a b = true ↔ a = b := by simp [eqV]
theorem eqV_self {α : Type} (a : α) : eqV a a = true := eqV_iff.2 rfl
theorem eqV_no {α : Type} {a b : α} (h : eqV a b = false) : a ≠ b := fun e => by rw [eqV_iff.2 e] at h; cases h
def toLeave (x : S211) : S188 := ⟨x.f0, x.f1⟩
def toAcct (x : S151) : S38 := ⟨x.f0, x.f1, x.f2, x.f3, (x.f4.map toLeave)⟩
def Sm38 (x : S38) : Prop := SmS x.f0 ∧ x.f4.length ≤ 2000000
def toLedger (x : S42) : S27 := ⟨x.f0, (x.f1.map toAcct)⟩
def Sm27 (x : S27) : Prop := (x.f1.length ≤ 2000000 ∧ ∀ z, z ∈ x.f1 → Sm38 z)

/-- How many leavings. -/
def acT : List S38 → Nat
  | [] => 0
  | x :: l => x.f4.length + acT l
theorem acT_app (l m : List S38) : acT (l ++ m) = acT l + acT m := by
  induction l with
  | nil => simp [acT]
  | cons x l ih => simp only [List.cons_append, acT, ih]; omega
theorem acT_take {l : List S38} {i : Int} {x : S38} (h0 : 0 ≤ i) (hx : l[i.toNat]? = some x) : acT (l.take (i + 1).toNat) = acT (l.take i.toNat) + x.f4.length := by
  rw [← take_succ h0 hx, acT_app]
  rfl
theorem acT_le (l : List S38) (n : Nat) : acT (l.take n) ≤ acT l := by
  have := acT_app (l.take n) (l.drop n)
  rw [List.take_append_drop] at this
  omega
theorem acT_mp {l : List S151} {i : Int} {x : S151} (h0 : 0 ≤ i) (hx : l[i.toNat]? = some x) : acT ((l.take (i + 1).toNat).map toAcct) = acT ((l.take i.toNat).map toAcct) + (toAcct x).f4.length := by
  rw [← take_succ h0 hx, List.map_append, acT_app]
  rfl
theorem acT_end {l : List S151} {i : Int} (h : (l.length : Int) ≤ i) : acT ((l.take i.toNat).map toAcct) = acT (l.map toAcct) := by rw [List.take_of_length_le (by omega)]
theorem l_szLeaveS (l : List S211) (n : Int) (hw : l.length ≤ maxLen ∧ ∀ y ∈ l, w211 y) (hn : 0 ≤ n ∧ n ≤ 2000000) : ∃ r0 : Int, (r0 ≤ n ∧ -1 ≤ r0 ∧ (0 ≤ r0 → r0 + l.length ≤ n)) ∧ Fn Try.prog 164 [lV (l.map d211), iV n] (lookH []) (iV r0) (lookH []) := by
 have key : ∃ x' h', ((fun x' h' => ∃ r0 : Int, (r0 ≤ n ∧ -1 ≤ r0 ∧ (0 ≤ r0 → r0 + l.length ≤ n)) ∧ x' = iV r0 ∧ h' = [])) x' h' ∧ Fn Try.prog 164 [lV (l.map d211), iV n] (lookH []) x' (lookH h') := by
  refine Fn.bodyX (N := 12) hτ Try.func164 rfl rfl rfl rfl ?_
  refine sk ⟨[(0, lV (l.map d211)), (1, iV n)], [], 80⟩ ?_
  refine X.seq ?_
  have hsl : l.length ≤ 9223372036854775807 := hw.1
  have el1 : (l.map d211).length = l.length := List.length_map ..
  refine X.rk ⟨[(1, iV (wrap64 (n - ((l.map d211).length : Int))))], [], 160⟩ hτ hmix (by kernel_rfl) (by kernel_rfl) (s2 := ⟨[(1, iV (n - ((l.map d211).length : Int)))], [], 160⟩) (congrArg (fun z : Int => (⟨[(1, iV z)], [], 160⟩ : St)) (show wrap64 (n - ((l.map d211).length : Int)) = (n - ((l.map d211).length : Int)) by rw [w64 (n := (n - ((l.map d211).length : Int))) (by omega) (by omega)])) ?_
  refine X.seq ?_
  refine sk ⟨[(1, iV (n - ((l.map d211).length : Int))), (10, bV (decide (((n - ((l.map d211).length : Int)) : Int) < 0)))], [], 192⟩ ?_
  refine if_ (b := decide (((n - ((l.map d211).length : Int)) : Int) < 0)) (fun hb2 => ?_) (fun hb2 => ?_)
  ·replace hb2 := of_decide_eq_true (hb2)
   refine sk ⟨[(4, iV (-1))], [], 208⟩ ?_
   refine X.ret ?_
   exact ⟨trivial, _, _, ⟨(-1), ⟨by omega, by omega, fun h => by first | omega | (simp only [List.length_map] at *; omega)⟩, rfl, rfl⟩, mkr⟩
  ·replace hb2 := of_decide_eq_false (hb2)
   refine X.skip ?_
   refine sk ⟨[(4, iV (n - ((l.map d211).length : Int)))], [], 224⟩ ?_
   refine X.ret ?_
   exact ⟨trivial, _, _, ⟨(n - ((l.map d211).length : Int)), ⟨by omega, by omega, fun h => by first | omega | (simp only [List.length_map] at *; omega)⟩, rfl, rfl⟩, mkr⟩
 obtain ⟨_, _, ⟨r0, h1_, rfl, rfl⟩, hf⟩ := key
 exact ⟨r0, h1_, hf⟩

theorem l_szAcct (x : S151) (n : Int) (hw : w151 x) (hn : 0 ≤ n ∧ n ≤ 2000000) : ∃ r0 : Int, (r0 ≤ n ∧ -1 ≤ r0 ∧ (0 ≤ r0 → Sm38 (toAcct x) ∧ r0 + (toAcct x).f4.length ≤ n)) ∧ Fn Try.prog 118 [.e (.agg (cD (d151 x))), iV n] (lookH []) (iV r0) (lookH []) := by
 have key : ∃ x' h', ((fun x' h' => ∃ r0 : Int, (r0 ≤ n ∧ -1 ≤ r0 ∧ (0 ≤ r0 → Sm38 (toAcct x) ∧ r0 + (toAcct x).f4.length ≤ n)) ∧ x' = iV r0 ∧ h' = [])) x' h' ∧ Fn Try.prog 118 [.e (.agg (cD (d151 x))), iV n] (lookH []) x' (lookH h') := by
  refine Fn.bodyX (N := 19) hτ Try.func118 rfl rfl rfl rfl ?_
  refine sk ⟨[(1, iV n), (2, .pt 64 0 0)], [(64, some (.box (cD (d151 x))))], 96⟩ ?_
  refine X.seq ?_
  have hs0 : x.f0.size ≤ 9223372036854775807 := hw.1
  have hw4 := hw.2.2.2.2
  refine X.rk ⟨[(1, iV (wrap64 (n - (x.f0.size : Int)))), (2, .pt 64 0 0)], [(64, some (.box (cD (d151 x))))], 192⟩ hτ hmix (by kernel_rfl) (by kernel_rfl) (s2 := ⟨[(1, iV (n - (x.f0.size : Int))), (2, .pt 64 0 0)], [(64, some (.box (cD (d151 x))))], 192⟩) (congrArg (fun z : Int => (⟨[(1, iV z), (2, .pt 64 0 0)], [(64, some (.box (cD (d151 x))))], 192⟩ : St)) (show wrap64 (n - (x.f0.size : Int)) = (n - (x.f0.size : Int)) by rw [w64 (n := (n - (x.f0.size : Int))) (by omega) (by omega)])) ?_
  refine X.seq ?_
  refine sk ⟨[(1, iV (n - (x.f0.size : Int))), (2, .pt 64 0 0), (11, bV (decide (((n - (x.f0.size : Int)) : Int) < 0)))], [(64, some (.box (cD (d151 x))))], 224⟩ ?_
  refine if_ (b := decide (((n - (x.f0.size : Int)) : Int) < 0)) (fun hb1 => ?_) (fun hb1 => ?_)
  ·replace hb1 := of_decide_eq_true (hb1)
   refine sk ⟨[(4, iV (-1))], [], 240⟩ ?_
   refine X.ret ?_
   exact ⟨trivial, _, _, ⟨(-1), ⟨by omega, by omega, fun h => by first | omega | (have h9 := hz2 (by omega); have h8 : (x.f4.map toLeave).length = x.f4.length := List.length_map ..; exact ⟨⟨m0, by show (x.f4.map toLeave).length ≤ _; omega⟩, by show _ + ((x.f4.map toLeave).length : Int) ≤ _; omega⟩)⟩, rfl, rfl⟩, mkr⟩
  ·replace hb1 := of_decide_eq_false (hb1)
   refine X.skip ?_
   refine X.seq ?_
   have m0 : SmS x.f0 := (by show _ ≤ 2000000; omega)
   refine rs 3 ?_
   obtain ⟨r2, hr4, hf3⟩ := l_szLeaveS x.f4 (n - (x.f0.size : Int)) (by assumption) (by first | omega | assumption)
   obtain ⟨hz1, hz0, hz2⟩ := hr4
   refine ca hf3 Try.func164 ?_
   refine go 1 ?_
   refine ek ⟨[(1, iV r2)], [], 304⟩ ?_
   refine X.seq ?_
   refine X.seq ?_
   have m0 : SmS x.f0 := (by show _ ≤ 2000000; omega)
   refine rk ⟨[(1, iV r2), (17, bV (decide ((r2 : Int) < 0)))], [], 336⟩ ?_
   refine if_ (b := decide ((r2 : Int) < 0)) (fun hb5 => ?_) (fun hb5 => ?_)
   ·replace hb5 := of_decide_eq_true (hb5)
    refine sk ⟨[(4, iV (-1))], [], 352⟩ ?_
    refine X.ret ?_
    exact ⟨trivial, _, _, ⟨(-1), ⟨by omega, by omega, fun h => by first | omega | (have h9 := hz2 (by omega); have h8 : (x.f4.map toLeave).length = x.f4.length := List.length_map ..; exact ⟨⟨m0, by show (x.f4.map toLeave).length ≤ _; omega⟩, by show _ + ((x.f4.map toLeave).length : Int) ≤ _; omega⟩)⟩, rfl, rfl⟩, mkr⟩
   ·replace hb5 := of_decide_eq_false (hb5)
    refine X.skip ?_
    refine sk ⟨[(4, iV r2)], [], 368⟩ ?_
    refine X.ret ?_
    exact ⟨trivial, _, _, ⟨r2, ⟨by omega, by omega, fun h => by first | omega | (have h9 := hz2 (by omega); have h8 : (x.f4.map toLeave).length = x.f4.length := List.length_map ..; exact ⟨⟨m0, by show (x.f4.map toLeave).length ≤ _; omega⟩, by show _ + ((x.f4.map toLeave).length : Int) ≤ _; omega⟩)⟩, rfl, rfl⟩, mkr⟩
 obtain ⟨_, _, ⟨r0, h1_, rfl, rfl⟩, hf⟩ := key
 exact ⟨r0, h1_, hf⟩

theorem l_szAcctS (l : List S151) (n : Int) (hw : l.length ≤ maxLen ∧ ∀ y ∈ l, w151 y) (hn : 0 ≤ n ∧ n ≤ 2000000) : ∃ r0 : Int, (r0 ≤ n ∧ -1 ≤ r0 ∧ (0 ≤ r0 → ((l.map toAcct).length ≤ 2000000 ∧ ∀ x, x ∈ (l.map toAcct) → Sm38 x) ∧ r0 + l.length + acT (l.map toAcct) ≤ n)) ∧ Fn Try.prog 52 [lV (l.map d151), iV n] (lookH []) (iV r0) (lookH []) := by
 have key : ∃ x' h', ((fun x' h' => ∃ r0 : Int, (r0 ≤ n ∧ -1 ≤ r0 ∧ (0 ≤ r0 → ((l.map toAcct).length ≤ 2000000 ∧ ∀ x, x ∈ (l.map toAcct) → Sm38 x) ∧ r0 + l.length + acT (l.map toAcct) ≤ n)) ∧ x' = iV r0 ∧ h' = [])) x' h' ∧ Fn Try.prog 52 [lV (l.map d151), iV n] (lookH []) x' (lookH h') := by
  refine Fn.bodyX (N := 27) hτ Try.func52 rfl rfl rfl rfl ?_
  refine sk ⟨[(0, lV (l.map d151)), (1, iV n)], [], 80⟩ ?_
  refine X.seq ?_
  have hsl : l.length ≤ 9223372036854775807 := hw.1
  have el1 : (l.map d151).length = l.length := List.length_map ..
  refine X.rk ⟨[(0, lV (l.map d151)), (1, iV (wrap64 (n - ((l.map d151).length : Int))))], [], 160⟩ hτ hmix (by kernel_rfl) (by kernel_rfl) (s2 := ⟨[(0, lV (l.map d151)), (1, iV (n - ((l.map d151).length : Int)))], [], 160⟩) (congrArg (fun z : Int => (⟨[(0, lV (l.map d151)), (1, iV z)], [], 160⟩ : St)) (show wrap64 (n - ((l.map d151).length : Int)) = (n - ((l.map d151).length : Int)) by rw [w64 (n := (n - ((l.map d151).length : Int))) (by omega) (by omega)])) ?_
  refine X.seq ?_
  refine sk ⟨[(0, lV (l.map d151)), (1, iV (n - ((l.map d151).length : Int))), (11, bV (decide (((n - ((l.map d151).length : Int)) : Int) < 0)))], [], 192⟩ ?_
  refine if_ (b := decide (((n - ((l.map d151).length : Int)) : Int) < 0)) (fun hb2 => ?_) (fun hb2 => ?_)
  ·replace hb2 := of_decide_eq_true (hb2)
   refine sk ⟨[(4, iV (-1))], [], 208⟩ ?_
   refine X.ret ?_
   exact ⟨trivial, _, _, ⟨(-1), ⟨by omega, by omega, fun h => by first | omega | (have h9 := acT_end (l := l) (i := _) ‹_›; omega) | exact ⟨⟨by rw [List.length_map]; omega, fun y hy => by obtain ⟨x, hx, rfl⟩ := List.mem_map.1 hy; exact mem_upto hA (by omega) x hx⟩, by rw [acT_end (by omega)] at hT; omega⟩⟩, rfl, rfl⟩, mkr⟩
  ·replace hb2 := of_decide_eq_false (hb2)
   refine X.skip ?_
   refine X.seq ?_
   refine sk ⟨[(0, lV (l.map d151)), (1, iV (n - ((l.map d151).length : Int))), (5, iV 0)], [], 208⟩ ?_
   refine X.block ?_
   -- 5: v1 : Int, v5 : Int
   refine X.loop (σ := { g : Int × Int // (fun (v1 : Int) (v5 : Int) => 0 ≤ v5 ∧ v5 ≤ l.length ∧ 0 ≤ v1 ∧ v1 + acT ((l.take (v5).toNat).map toAcct) ≤ n - l.length ∧ Upto (fun _ y => Sm38 (toAcct y)) (fun n => l[n]?) v5) g.1 g.2 }) (fun g => (fun (v1 : Int) (v5 : Int) => ⟨[(0, lV (l.map d151)), (1, iV v1), (5, iV v5)], [], 208⟩) g.1.1 g.1.2) (fun g => (fun (v1 : Int) (v5 : Int) => (l.length - v5).toNat) g.1.1 g.1.2) ⟨((n - ((l.map d151).length : Int)), 0), ⟨by first | omega | (dsimp only; omega), by first | omega | (dsimp only; omega), by first | omega | (dsimp only; omega), by simp only [List.length_map, List.take_zero, List.map_nil, acT, Int.toNat_zero]; omega, upto_zero⟩⟩ (Wk.less (by kernel_rfl)) (fun g => ?_)
   obtain ⟨⟨v1, v5⟩, hg4⟩ := g
   have hg4 : 0 ≤ v5 ∧ v5 ≤ l.length ∧ 0 ≤ v1 ∧ v1 + acT ((l.take (v5).toNat).map toAcct) ≤ n - l.length ∧ Upto (fun _ y => Sm38 (toAcct y)) (fun n => l[n]?) v5 := hg4
   obtain ⟨_, _, _, hT, hA⟩ := hg4
   refine X.seq ?_
   refine sk ⟨[(0, lV (l.map d151)), (1, iV v1), (5, iV v5), (15, bV (decide ((v5 : Int) < ((l.map d151).length : Int))))], [], 272⟩ ?_
   refine if_ (b := decide ((v5 : Int) < ((l.map d151).length : Int))) (fun hb5 => ?_) (fun hb5 => ?_)
   ·replace hb5 := of_decide_eq_true (hb5)
    refine X.skip ?_
    refine X.seq ?_
    refine X.block ?_
    refine X.seq (rs 2 ?_)
    obtain ⟨x6, hx6⟩ : ∃ x, l[Int.toNat v5]? = some x := ⟨_, List.getElem?_eq_getElem (by first | omega | (simp; done) | (simp; omega))⟩
    refine CH.idx hτ (d151 x6) (rows := (l.map d151)) (n := v5) (sz := 5) (by kernel_rfl) (by kernel_rfl) (by first | omega | (simp; done) | (simp; omega)) (by rw [List.getElem?_map, hx6]; rfl) (by kernel_rfl) ?_
    refine go 2 ?_
    obtain ⟨r7, hr9, hf8⟩ := l_szAcct x6 v1 (by exact hw.2 _ (List.mem_of_getElem? ‹_›)) (by omega)
    obtain ⟨hz1, hz0, hz2⟩ := hr9
    refine ca hf8 Try.func118 ?_
    refine go 1 ?_
    refine ek ⟨[(0, lV (l.map d151)), (1, iV r7), (5, iV v5)], [], 384⟩ ?_
    refine sk ⟨[(0, lV (l.map d151)), (1, iV r7), (5, iV v5), (25, bV (decide ((r7 : Int) < 0)))], [], 416⟩ ?_
    refine if_ (b := decide ((r7 : Int) < 0)) (fun hb10 => ?_) (fun hb10 => ?_)
    ·replace hb10 := of_decide_eq_true (hb10)
     refine sk ⟨[(4, iV (-1))], [], 432⟩ ?_
     refine X.ret ?_
     exact ⟨trivial, _, _, ⟨(-1), ⟨by omega, by omega, fun h => by first | omega | (have h9 := acT_end (l := l) (i := _) ‹_›; omega) | exact ⟨⟨by rw [List.length_map]; omega, fun y hy => by obtain ⟨x, hx, rfl⟩ := List.mem_map.1 hy; exact mem_upto hA (by omega) x hx⟩, by rw [acT_end (by omega)] at hT; omega⟩⟩, rfl, rfl⟩, mkr⟩
    ·replace hb10 := of_decide_eq_false (hb10)
     refine X.skip ?_
     refine X.rk ⟨[(0, lV (l.map d151)), (1, iV r7), (5, iV (wrap64 (v5 + 1)))], [], 464⟩ hτ hmix (by kernel_rfl) (by kernel_rfl) (s2 := ⟨[(0, lV (l.map d151)), (1, iV r7), (5, iV (v5 + 1))], [], 464⟩) (congrArg (fun z : Int => (⟨[(0, lV (l.map d151)), (1, iV r7), (5, iV z)], [], 464⟩ : St)) (show wrap64 (v5 + 1) = (v5 + 1) by rw [w64 (n := (v5 + 1)) (by omega) (by omega)])) ?_
     refine ⟨⟨(r7, (v5 + 1)), ⟨by first | omega | (dsimp only; omega), by first | omega | (dsimp only; omega), by first | omega | (dsimp only; omega), (by have h9 := hz2 (by first | omega | (dsimp only; omega)); rw [acT_mp (by first | omega | (dsimp only; omega)) ‹_›]; have h8 := h9.2; omega), upto_nx (by first | omega | (dsimp only; omega)) hA ‹_› (hz2 (by first | omega | (dsimp only; omega))).1⟩⟩, by first | exact rfl | omega | (dsimp only; omega) | (simp only [List.length_append, List.length_cons, List.length_nil, List.length_set]; omega) | (simp; done) | (simp; omega), Wk.mk' [] (by kernel_rfl) (by kernel_rfl) (by kernel_rfl)⟩
   ·replace hb5 := of_decide_eq_false (hb5)
    refine X.exit ?_
    refine sk ⟨[(4, iV v1)], [], 304⟩ ?_
    refine X.ret ?_
    exact ⟨trivial, _, _, ⟨v1, ⟨by omega, by omega, fun h => by first | omega | (have h9 := acT_end (l := l) (i := _) ‹_›; omega) | exact ⟨⟨by rw [List.length_map]; omega, fun y hy => by obtain ⟨x, hx, rfl⟩ := List.mem_map.1 hy; exact mem_upto hA (by omega) x hx⟩, by rw [acT_end (by omega)] at hT; omega⟩⟩, rfl, rfl⟩, mkr⟩
 obtain ⟨_, _, ⟨r0, h1_, rfl, rfl⟩, hf⟩ := key
 exact ⟨r0, h1_, hf⟩

theorem l_szLedger (x : S42) (n : Int) (hw : w42 x) (hn : 0 ≤ n ∧ n ≤ 2000000) : ∃ r0 : Int, (r0 ≤ n ∧ -1 ≤ r0 ∧ (0 ≤ r0 → acsSm (toLedger x).f1 ∧ r0 + (toLedger x).f1.length + acT (toLedger x).f1 ≤ n)) ∧ Fn Try.prog 15 [.e (.agg [.d (.v (.int .i64 x.f0)), .d (.sl (x.f1.map d151))]), iV n] (lookH []) (iV r0) (lookH []) := by
 have key : ∃ x' h', ((fun x' h' => ∃ r0 : Int, (r0 ≤ n ∧ -1 ≤ r0 ∧ (0 ≤ r0 → acsSm (toLedger x).f1 ∧ r0 + (toLedger x).f1.length + acT (toLedger x).f1 ≤ n)) ∧ x' = iV r0 ∧ h' = [])) x' h' ∧ Fn Try.prog 15 [.e (.agg [.d (.v (.int .i64 x.f0)), .d (.sl (x.f1.map d151))]), iV n] (lookH []) x' (lookH h') := by
  refine Fn.bodyX (N := 12) hτ Try.func15 rfl rfl rfl rfl ?_
  refine sk ⟨[(1, iV n), (2, .pt 64 0 0)], [(64, some (.box [.d (.v (.int .i64 x.f0)), .d (.sl (x.f1.map d151))]))], 96⟩ ?_
  refine X.seq ?_
  have hwa := hw.2
  refine rs 3 ?_
  obtain ⟨r1, hr3, hf2⟩ := l_szAcctS x.f1 n (by assumption) (by first | omega | assumption)
  obtain ⟨hz1, hz0, hz2⟩ := hr3
  refine ca hf2 Try.func52 ?_
  refine go 1 ?_
  refine ek ⟨[(1, iV r1)], [], 176⟩ ?_
  refine X.seq ?_
  refine sk ⟨[(1, iV r1), (10, bV (decide ((r1 : Int) < 0)))], [], 208⟩ ?_
  refine if_ (b := decide ((r1 : Int) < 0)) (fun hb4 => ?_) (fun hb4 => ?_)
  ·replace hb4 := of_decide_eq_true (hb4)
   refine sk ⟨[(4, iV (-1))], [], 224⟩ ?_
   refine X.ret ?_
   exact ⟨trivial, _, _, ⟨(-1), ⟨by omega, by omega, fun h => by first | omega | (have h9 := hz2 (by omega); exact ⟨h9.1, by show _ + ((x.f1.map toAcct).length : Int) + (acT (x.f1.map toAcct) : Int) ≤ _; rw [List.length_map]; exact h9.2⟩)⟩, rfl, rfl⟩, mkr⟩
  ·replace hb4 := of_decide_eq_false (hb4)
   refine X.skip ?_
   refine sk ⟨[(4, iV r1)], [], 240⟩ ?_
   refine X.ret ?_
   exact ⟨trivial, _, _, ⟨r1, ⟨by omega, by omega, fun h => by first | omega | (have h9 := hz2 (by omega); exact ⟨h9.1, by show _ + ((x.f1.map toAcct).length : Int) + (acT (x.f1.map toAcct) : Int) ≤ _; rw [List.length_map]; exact h9.2⟩)⟩, rfl, rfl⟩, mkr⟩
 obtain ⟨_, _, ⟨r0, h1_, rfl, rfl⟩, hf⟩ := key
 exact ⟨r0, h1_, hf⟩

theorem l_toLeave (x : S211) : ∃ r0 : S188, (r0 = toLeave x) ∧ Fn Try.prog 191 [.e (.agg [.d (.v (.int .i64 x.f0)), .d (.v (.int .i64 x.f1))])] (lookH []) (.e (.agg [.d (.v (.int .i64 r0.f0)), .d (.v (.int .i64 r0.f1))])) (lookH []) := by
 have key : ∃ x' h', ((fun x' h' => ∃ r0 : S188, (r0 = toLeave x) ∧ x' = .e (.agg [.d (.v (.int .i64 r0.f0)), .d (.v (.int .i64 r0.f1))]) ∧ h' = [])) x' h' ∧ Fn Try.prog 191 [.e (.agg [.d (.v (.int .i64 x.f0)), .d (.v (.int .i64 x.f1))])] (lookH []) x' (lookH h') := by
  refine Fn.bodyX (N := 11) hτ Try.func191 rfl rfl rfl rfl ?_
  refine sk ⟨[(1, .pt 64 0 0), (2, .pt 80 0 0)], [(64, some (.box [.d (.v (.int .i64 x.f0)), .d (.v (.int .i64 x.f1))])), (80, some (.box [.d (.v (.int .i64 0)), .d (.v (.int .i64 0))]))], 96⟩ ?_
  refine sk ⟨[(1, .pt 64 0 0), (2, .pt 80 0 0), (3, .pt 96 0 0)], [(64, some (.box [.d (.v (.int .i64 x.f0)), .d (.v (.int .i64 x.f1))])), (80, some (.box [.d (.v (.int .i64 0)), .d (.v (.int .i64 0))])), (96, some (.box [.d (.v (.int .i64 0)), .d (.v (.int .i64 0))]))], 112⟩ ?_
  refine sk ⟨[(1, .pt 64 0 0), (2, .pt 80 0 0), (3, .pt 96 0 0)], [(64, some (.box [.d (.v (.int .i64 x.f0)), .d (.v (.int .i64 x.f1))])), (80, some (.box [.d (.v (.int .i64 0)), .d (.v (.int .i64 0))])), (96, some (.box [.d (.v (.int .i64 x.f0)), .d (.v (.int .i64 0))]))], 176⟩ ?_
  refine sk ⟨[(2, .pt 80 0 0), (3, .pt 96 0 0)], [(80, some (.box [.d (.v (.int .i64 0)), .d (.v (.int .i64 0))])), (96, some (.box [.d (.v (.int .i64 x.f0)), .d (.v (.int .i64 x.f1))]))], 240⟩ ?_
  refine sk ⟨[(2, .pt 80 0 0)], [(80, some (.box [.d (.v (.int .i64 x.f0)), .d (.v (.int .i64 x.f1))]))], 272⟩ ?_
  refine X.ret ?_
  exact ⟨trivial, _, _, ⟨(⟨x.f0, x.f1⟩ : S188), rfl, rfl, rfl⟩, mkr⟩
 obtain ⟨_, _, ⟨r0, h1_, rfl, rfl⟩, hf⟩ := key
 exact ⟨r0, h1_, hf⟩

theorem l_toLeaveS (l : List S211) (hl : l.length ≤ 2000000) : ∃ r0 : List S188, (r0 = l.map toLeave) ∧ Fn Try.prog 167 [lV (l.map d211)] (lookH []) (rV 64) (lookH [(64, some (.row 2 188 (r0.map d188) false true))]) := by
 have key : ∃ x' h', ((fun x' h' => ∃ r0 : List S188, (r0 = l.map toLeave) ∧ x' = rV 64 ∧ h' = [(64, some (.row 2 188 (r0.map d188) false true))])) x' h' ∧ Fn Try.prog 167 [lV (l.map d211)] (lookH []) x' (lookH h') := by
  refine Fn.bodyX (N := 23) hτ Try.func167 rfl rfl rfl rfl ?_
  refine sk ⟨[(0, lV (l.map d211))], [], 80⟩ ?_
  refine X.seq ?_
  have el1 : (l.map d211).length = l.length := List.length_map ..
  refine rs 2 ?_
  refine CH.mks hτ (n := (l.map d211).length) (bys := 16) (by kernel_rfl) (by kernel_rfl) (by first | omega | (simp only [List.length_map]; omega) | (simp; omega)) (by first | omega | (simp only [List.length_map]; omega) | (simp; omega)) (by kernel_rfl) ?_
  refine go 1 ?_
  refine CH.endk ⟨[(0, lV (l.map d211)), (3, rV 112)], [(112, some (.row 2 188 (List.replicate ((l.map d211).length) (d188 z188)) false true))], 144⟩ (by kernel_rfl) (by kernel_rfl) (s2 := ⟨[(0, lV (l.map d211)), (3, rV 112)], [(112, some (.row 2 188 ((List.replicate ((l.map d211).length) z188).map d188) false true))], 144⟩) (congrArg (fun z : List (List D) => (⟨[(0, lV (l.map d211)), (3, rV 112)], [(112, some (.row 2 188 z false true))], 144⟩ : St)) (show List.replicate ((l.map d211).length) (d188 z188) = ((List.replicate ((l.map d211).length) z188).map d188) from List.map_replicate.symm)) ?_
  refine X.seq ?_
  refine sk ⟨[(0, lV (l.map d211)), (3, rV 112), (4, iV 0)], [(112, some (.row 2 188 ((List.replicate ((l.map d211).length) z188).map d188) false true))], 160⟩ ?_
  refine X.block ?_
  -- 3: Lv3 : List S188, v4 : Int
  refine X.loop (σ := { g : (List S188) × Int // (fun (Lv3 : List S188) (v4 : Int) => 0 ≤ v4 ∧ v4 ≤ l.length ∧ Lv3.length = l.length ∧ ∀ (j : Nat) (x : S211), (j : Int) < v4 → l[j]? = some x → Lv3[j]? = some (toLeave x)) g.1 g.2 }) (fun g => (fun (Lv3 : List S188) (v4 : Int) => ⟨[(0, lV (l.map d211)), (3, rV 112), (4, iV v4)], [(112, some (.row 2 188 (Lv3.map d188) false true))], 160⟩) g.1.1 g.1.2) (fun g => (fun (Lv3 : List S188) (v4 : Int) => (l.length - v4).toNat) g.1.1 g.1.2) ⟨((List.replicate ((l.map d211).length) z188), 0), ⟨by first | omega | (dsimp only; omega), by first | omega | (dsimp only; omega), by simp, fun j x h => by first | omega | (dsimp only; omega)⟩⟩ (Wk.less (by kernel_rfl)) (fun g => ?_)
  obtain ⟨⟨Lv3, v4⟩, hg3⟩ := g
  have hg3 : 0 ≤ v4 ∧ v4 ≤ l.length ∧ Lv3.length = l.length ∧ ∀ (j : Nat) (x : S211), (j : Int) < v4 → l[j]? = some x → Lv3[j]? = some (toLeave x) := hg3
  obtain ⟨_, _, hL, hA⟩ := hg3
  refine X.seq ?_
  refine sk ⟨[(0, lV (l.map d211)), (3, rV 112), (4, iV v4), (11, bV (decide ((v4 : Int) < ((l.map d211).length : Int))))], [(112, some (.row 2 188 (Lv3.map d188) false true))], 224⟩ ?_
  refine if_ (b := decide ((v4 : Int) < ((l.map d211).length : Int))) (fun hb4 => ?_) (fun hb4 => ?_)
  ·replace hb4 := of_decide_eq_true (hb4)
   refine X.skip ?_
   refine X.seq ?_
   refine X.block ?_
   refine rs 4 ?_
   obtain ⟨x5, hx5⟩ : ∃ x, l[Int.toNat v4]? = some x := ⟨_, List.getElem?_eq_getElem (by first | omega | (simp; done) | (simp; omega))⟩
   refine CH.idx hτ (d211 x5) (rows := (l.map d211)) (n := v4) (sz := 2) (by kernel_rfl) (by kernel_rfl) (by first | omega | (simp; done) | (simp; omega)) (by rw [List.getElem?_map, hx5]; rfl) (by kernel_rfl) ?_
   refine go 1 ?_
   obtain ⟨r6, hr8, hf7⟩ := l_toLeave x5
   replace hr8 := hr8.symm; subst hr8
   refine ca hf7 Try.func191 ?_
   refine CH.idxR hτ (rows := (Lv3.map d188)) (n := v4) (b := 112) (by kernel_rfl) (by kernel_rfl) (by first | omega | (simp; done) | (simp; omega)) (by simp only [List.length_map, List.length_set]; first | omega | (simp; done) | (simp; omega)) (by kernel_rfl) ?_
   obtain ⟨x10, hx10⟩ : ∃ x, Lv3[Int.toNat v4]? = some x := ⟨_, List.getElem?_eq_getElem (by first | omega | (simp; done) | (simp; omega))⟩
   refine CH.row hτ (d188 x10) (by kernel_rfl) (by kernel_rfl) (by rw [List.getElem?_map, hx10]; rfl) (by kernel_rfl) ?_
   refine CH.endk ⟨[(0, lV (l.map d211)), (3, rV 112), (4, iV v4)], [(112, some (.row 2 188 ((Lv3.map d188).set (Int.toNat v4) (d188 ((toLeave x5)))) false true))], 368⟩ (by kernel_rfl) (by kernel_rfl) (s2 := ⟨[(0, lV (l.map d211)), (3, rV 112), (4, iV v4)], [(112, some (.row 2 188 ((Lv3.set (Int.toNat v4) ((toLeave x5))).map d188) false true))], 368⟩) (congrArg (fun z : List (List D) => (⟨[(0, lV (l.map d211)), (3, rV 112), (4, iV v4)], [(112, some (.row 2 188 z false true))], 368⟩ : St)) (show ((Lv3.map d188).set (Int.toNat v4) (d188 ((toLeave x5)))) = ((Lv3.set (Int.toNat v4) ((toLeave x5))).map d188) from List.map_set.symm)) ?_
   refine X.rk ⟨[(0, lV (l.map d211)), (3, rV 112), (4, iV (wrap64 (v4 + 1)))], [(112, some (.row 2 188 ((Lv3.set (Int.toNat v4) ((toLeave x5))).map d188) false true))], 416⟩ hτ hmix (by kernel_rfl) (by kernel_rfl) (s2 := ⟨[(0, lV (l.map d211)), (3, rV 112), (4, iV (v4 + 1))], [(112, some (.row 2 188 ((Lv3.set (Int.toNat v4) ((toLeave x5))).map d188) false true))], 416⟩) (congrArg (fun z : Int => (⟨[(0, lV (l.map d211)), (3, rV 112), (4, iV z)], [(112, some (.row 2 188 ((Lv3.set (Int.toNat v4) ((toLeave x5))).map d188) false true))], 416⟩ : St)) (show wrap64 (v4 + 1) = (v4 + 1) by rw [w64 (n := (v4 + 1)) (by omega) (by omega)])) ?_
   refine ⟨⟨((Lv3.set (Int.toNat v4) ((toLeave x5))), (v4 + 1)), ⟨by first | omega | (dsimp only; omega), by first | omega | (dsimp only; omega), by simp; omega, ts_next (f := toLeave) hA (by first | omega | (dsimp only; omega)) (by first | omega | (dsimp only; omega)) ‹_›⟩⟩, by first | exact rfl | omega | (dsimp only; omega) | (simp only [List.length_append, List.length_cons, List.length_nil, List.length_set]; omega) | (simp; done) | (simp; omega), Wk.mk' [(112, 112)] (by kernel_rfl) (by kernel_rfl) (by kernel_rfl)⟩
  ·replace hb4 := of_decide_eq_false (hb4)
   refine X.exit ?_
   refine sk ⟨[(2, rV 112)], [(112, some (.row 2 188 (Lv3.map d188) false true))], 256⟩ ?_
   refine X.ret ?_
   exact ⟨trivial, _, _, ⟨Lv3, ts_end hA hL (by omega), rfl, rfl⟩, .inl (Ret.mk' [(64, 112)] (by kernel_rfl) (by kernel_rfl) (by kernel_rfl))⟩
 obtain ⟨_, _, ⟨r0, h1_, rfl, rfl⟩, hf⟩ := key
 exact ⟨r0, h1_, hf⟩

theorem l_toAcct (x : S151) (hl : x.f4.length ≤ 2000000) : ∃ r0 : S38, (r0 = toAcct x) ∧ Fn Try.prog 121 [.e (.agg (cD (d151 x)))] (lookH []) (.e (.agg [.d (.v (.string r0.f0)), .d (.v (.int .i64 r0.f1)), .d (.v (.int .i64 r0.f2)), .d (.v (.int .i64 r0.f3)), .ref 64])) (lookH [(64, some (.row 2 188 (r0.f4.map d188) false true))]) := by
 have key : ∃ x' h', ((fun x' h' => ∃ r0 : S38, (r0 = toAcct x) ∧ x' = .e (.agg [.d (.v (.string r0.f0)), .d (.v (.int .i64 r0.f1)), .d (.v (.int .i64 r0.f2)), .d (.v (.int .i64 r0.f3)), .ref 64]) ∧ h' = [(64, some (.row 2 188 (r0.f4.map d188) false true))])) x' h' ∧ Fn Try.prog 121 [.e (.agg (cD (d151 x)))] (lookH []) x' (lookH h') := by
  refine Fn.bodyX (N := 21) hτ Try.func121 rfl rfl rfl rfl ?_
  refine sk ⟨[(1, .pt 64 0 0), (2, .pt 80 0 0)], [(64, some (.box (cD (d151 x)))), (80, some (.box [.d (.v (.string (⟨#[]⟩ : ByteArray))), .d (.v (.int .i64 0)), .d (.v (.int .i64 0)), .d (.v (.int .i64 0)), .nil]))], 96⟩ ?_
  refine sk ⟨[(1, .pt 64 0 0), (2, .pt 80 0 0), (3, .pt 96 0 0)], [(64, some (.box (cD (d151 x)))), (80, some (.box [.d (.v (.string (⟨#[]⟩ : ByteArray))), .d (.v (.int .i64 0)), .d (.v (.int .i64 0)), .d (.v (.int .i64 0)), .nil])), (96, some (.box [.d (.v (.string (⟨#[]⟩ : ByteArray))), .d (.v (.int .i64 0)), .d (.v (.int .i64 0)), .d (.v (.int .i64 0)), .nil]))], 112⟩ ?_
  refine sk ⟨[(1, .pt 64 0 0), (2, .pt 80 0 0), (3, .pt 96 0 0)], [(64, some (.box (cD (d151 x)))), (80, some (.box [.d (.v (.string (⟨#[]⟩ : ByteArray))), .d (.v (.int .i64 0)), .d (.v (.int .i64 0)), .d (.v (.int .i64 0)), .nil])), (96, some (.box [.d (.v (.string x.f0)), .d (.v (.int .i64 0)), .d (.v (.int .i64 0)), .d (.v (.int .i64 0)), .nil]))], 176⟩ ?_
  refine sk ⟨[(1, .pt 64 0 0), (2, .pt 80 0 0), (3, .pt 96 0 0)], [(64, some (.box (cD (d151 x)))), (80, some (.box [.d (.v (.string (⟨#[]⟩ : ByteArray))), .d (.v (.int .i64 0)), .d (.v (.int .i64 0)), .d (.v (.int .i64 0)), .nil])), (96, some (.box [.d (.v (.string x.f0)), .d (.v (.int .i64 x.f1)), .d (.v (.int .i64 0)), .d (.v (.int .i64 0)), .nil]))], 240⟩ ?_
  refine sk ⟨[(1, .pt 64 0 0), (2, .pt 80 0 0), (3, .pt 96 0 0)], [(64, some (.box (cD (d151 x)))), (80, some (.box [.d (.v (.string (⟨#[]⟩ : ByteArray))), .d (.v (.int .i64 0)), .d (.v (.int .i64 0)), .d (.v (.int .i64 0)), .nil])), (96, some (.box [.d (.v (.string x.f0)), .d (.v (.int .i64 x.f1)), .d (.v (.int .i64 x.f2)), .d (.v (.int .i64 0)), .nil]))], 304⟩ ?_
  refine sk ⟨[(1, .pt 64 0 0), (2, .pt 80 0 0), (3, .pt 96 0 0)], [(64, some (.box (cD (d151 x)))), (80, some (.box [.d (.v (.string (⟨#[]⟩ : ByteArray))), .d (.v (.int .i64 0)), .d (.v (.int .i64 0)), .d (.v (.int .i64 0)), .nil])), (96, some (.box [.d (.v (.string x.f0)), .d (.v (.int .i64 x.f1)), .d (.v (.int .i64 x.f2)), .d (.v (.int .i64 x.f3)), .nil]))], 368⟩ ?_
  refine X.seq (rs 2 ?_)
  obtain ⟨r1, hr3, hf2⟩ := l_toLeaveS x.f4 (by first | assumption | omega)
  replace hr3 := hr3.symm; subst hr3
  have hlm : (x.f4.map toLeave).length = x.f4.length := List.length_map ..
  refine ca hf2 Try.func167 ?_
  refine go 2 ?_
  refine ek ⟨[(2, .pt 80 0 0), (3, .pt 96 0 0)], [(80, some (.box [.d (.v (.string (⟨#[]⟩ : ByteArray))), .d (.v (.int .i64 0)), .d (.v (.int .i64 0)), .d (.v (.int .i64 0)), .nil])), (96, some (.box [.d (.v (.string x.f0)), .d (.v (.int .i64 x.f1)), .d (.v (.int .i64 x.f2)), .d (.v (.int .i64 x.f3)), .ref 400])), (400, some (.row 2 188 ((x.f4.map toLeave).map d188) false true))], 448⟩ ?_
  refine sk ⟨[(2, .pt 80 0 0)], [(80, some (.box [.d (.v (.string x.f0)), .d (.v (.int .i64 x.f1)), .d (.v (.int .i64 x.f2)), .d (.v (.int .i64 x.f3)), .ref 400])), (400, some (.row 2 188 ((x.f4.map toLeave).map d188) false true))], 480⟩ ?_
  refine X.ret ?_
  exact ⟨trivial, _, _, ⟨(⟨x.f0, x.f1, x.f2, x.f3, (x.f4.map toLeave)⟩ : S38), rfl, rfl, rfl⟩, .inl (Ret.mk' [(64, 400)] (by kernel_rfl) (by kernel_rfl) (by kernel_rfl))⟩
 obtain ⟨_, _, ⟨r0, h1_, rfl, rfl⟩, hf⟩ := key
 exact ⟨r0, h1_, hf⟩

theorem l_toAcctS (l : List S151) (hl : acsSm (l.map toAcct)) : ∃ r0 : List S38, (r0 = l.map toAcct) ∧ Fn Try.prog 55 [lV (l.map d151)] (lookH []) (rV 64) (lookH [(64, some (.nst 5 38 [(4, 2, 188)] (r0.map d38) []))]) := by
 have key : ∃ x' h', ((fun x' h' => ∃ r0 : List S38, (r0 = l.map toAcct) ∧ x' = rV 64 ∧ h' = [(64, some (.nst 5 38 [(4, 2, 188)] (r0.map d38) []))])) x' h' ∧ Fn Try.prog 55 [lV (l.map d151)] (lookH []) x' (lookH h') := by
  refine Fn.bodyX (N := 23) hτ Try.func55 rfl rfl rfl rfl ?_
  refine sk ⟨[(0, lV (l.map d151))], [], 80⟩ ?_
  refine X.seq ?_
  have hll : l.length ≤ 2000000 := by have := hl.1; rwa [List.length_map] at this
  have el1 : (l.map d151).length = l.length := List.length_map ..
  refine rs 2 ?_
  refine CH.mkN hτ (n := (l.map d151).length) (bys := 64) [(4, 2, 188)] (by kernel_rfl) (by kernel_rfl) (by first | omega | (simp only [List.length_map]; omega) | (simp; omega)) (by first | omega | (simp only [List.length_map]; omega) | (simp; omega)) (by kernel_rfl) ?_
  refine go 1 ?_
  refine CH.endk ⟨[(0, lV (l.map d151)), (3, rV 112)], [(112, some (.nst 5 38 [(4, 2, 188)] (List.replicate ((l.map d151).length) (d38 z38)) []))], 144⟩ (by kernel_rfl) (by kernel_rfl) (s2 := ⟨[(0, lV (l.map d151)), (3, rV 112)], [(112, some (.nst 5 38 [(4, 2, 188)] ((List.replicate ((l.map d151).length) z38).map d38) []))], 144⟩) (congrArg (fun z : List (List D) => (⟨[(0, lV (l.map d151)), (3, rV 112)], [(112, some (.nst 5 38 [(4, 2, 188)] z []))], 144⟩ : St)) (show List.replicate ((l.map d151).length) (d38 z38) = ((List.replicate ((l.map d151).length) z38).map d38) from List.map_replicate.symm)) ?_
  refine X.seq ?_
  refine sk ⟨[(0, lV (l.map d151)), (3, rV 112), (4, iV 0)], [(112, some (.nst 5 38 [(4, 2, 188)] ((List.replicate ((l.map d151).length) z38).map d38) []))], 160⟩ ?_
  refine X.block ?_
  -- 3: Lv3 : List S38, v4 : Int
  refine X.loop (σ := { g : (List S38) × Int // (fun (Lv3 : List S38) (v4 : Int) => 0 ≤ v4 ∧ v4 ≤ l.length ∧ Lv3.length = l.length ∧ ∀ (j : Nat) (x : S151), (j : Int) < v4 → l[j]? = some x → Lv3[j]? = some (toAcct x)) g.1 g.2 }) (fun g => (fun (Lv3 : List S38) (v4 : Int) => ⟨[(0, lV (l.map d151)), (3, rV 112), (4, iV v4)], [(112, some (.nst 5 38 [(4, 2, 188)] (Lv3.map d38) []))], 160⟩) g.1.1 g.1.2) (fun g => (fun (Lv3 : List S38) (v4 : Int) => (l.length - v4).toNat) g.1.1 g.1.2) ⟨((List.replicate ((l.map d151).length) z38), 0), ⟨by first | omega | (dsimp only; omega), by first | omega | (dsimp only; omega), by simp, fun j x h => by first | omega | (dsimp only; omega)⟩⟩ (Wk.less (by kernel_rfl)) (fun g => ?_)
  obtain ⟨⟨Lv3, v4⟩, hg3⟩ := g
  have hg3 : 0 ≤ v4 ∧ v4 ≤ l.length ∧ Lv3.length = l.length ∧ ∀ (j : Nat) (x : S151), (j : Int) < v4 → l[j]? = some x → Lv3[j]? = some (toAcct x) := hg3
  obtain ⟨_, _, hL, hA⟩ := hg3
  refine X.seq ?_
  refine sk ⟨[(0, lV (l.map d151)), (3, rV 112), (4, iV v4), (11, bV (decide ((v4 : Int) < ((l.map d151).length : Int))))], [(112, some (.nst 5 38 [(4, 2, 188)] (Lv3.map d38) []))], 224⟩ ?_
  refine if_ (b := decide ((v4 : Int) < ((l.map d151).length : Int))) (fun hb4 => ?_) (fun hb4 => ?_)
  ·replace hb4 := of_decide_eq_true (hb4)
   refine X.skip ?_
   refine X.seq ?_
   refine X.block ?_
   refine rs 4 ?_
   obtain ⟨x5, hx5⟩ : ∃ x, l[Int.toNat v4]? = some x := ⟨_, List.getElem?_eq_getElem (by first | omega | (simp; done) | (simp; omega))⟩
   refine CH.idx hτ (d151 x5) (rows := (l.map d151)) (n := v4) (sz := 5) (by kernel_rfl) (by kernel_rfl) (by first | omega | (simp; done) | (simp; omega)) (by rw [List.getElem?_map, hx5]; rfl) (by kernel_rfl) ?_
   refine go 1 ?_
   obtain ⟨r6, hr8, hf7⟩ := l_toAcct x5 (by (have h9 := (hl.2 _ (List.mem_map.2 ⟨_, List.mem_of_getElem? ‹_›, rfl⟩)).2; simpa only [toAcct, List.length_map] using h9))
   replace hr8 := hr8.symm; subst hr8
   refine ca hf7 Try.func121 ?_
   refine CH.idxR hτ (rows := (Lv3.map d38)) (n := v4) (b := 112) (by kernel_rfl) (by kernel_rfl) (by first | omega | (simp; done) | (simp; omega)) (by simp only [List.length_map, List.length_set]; first | omega | (simp; done) | (simp; omega)) (by kernel_rfl) ?_
   obtain ⟨x10, hx10⟩ : ∃ x, Lv3[Int.toNat v4]? = some x := ⟨_, List.getElem?_eq_getElem (by first | omega | (simp; done) | (simp; omega))⟩
   refine CH.stN hτ (rows := (Lv3.map d38)) (n := Int.toNat v4) (p := 0) (len := 5) (op := []) (L := [(4, 320, ((((toAcct x5)).f4).map d188))]) (d38 x10) (by kernel_rfl) (by kernel_rfl) (by rw [List.getElem?_map, hx10]; rfl) trivial ⟨flat_d d188 (fun x => rfl), trivial⟩ (by kernel_rfl) ?_
   refine CH.endk ⟨[(0, lV (l.map d151)), (3, rV 112), (4, iV v4)], [(112, some (.nst 5 38 [(4, 2, 188)] ((Lv3.map d38).set (Int.toNat v4) (d38 ((toAcct x5)))) []))], 368⟩ (by kernel_rfl) (by kernel_rfl) (s2 := ⟨[(0, lV (l.map d151)), (3, rV 112), (4, iV v4)], [(112, some (.nst 5 38 [(4, 2, 188)] ((Lv3.set (Int.toNat v4) ((toAcct x5))).map d38) []))], 368⟩) (congrArg (fun z : List (List D) => (⟨[(0, lV (l.map d151)), (3, rV 112), (4, iV v4)], [(112, some (.nst 5 38 [(4, 2, 188)] z []))], 368⟩ : St)) (show ((Lv3.map d38).set (Int.toNat v4) (d38 ((toAcct x5)))) = ((Lv3.set (Int.toNat v4) ((toAcct x5))).map d38) from List.map_set.symm)) ?_
   refine X.rk ⟨[(0, lV (l.map d151)), (3, rV 112), (4, iV (wrap64 (v4 + 1)))], [(112, some (.nst 5 38 [(4, 2, 188)] ((Lv3.set (Int.toNat v4) ((toAcct x5))).map d38) []))], 416⟩ hτ hmix (by kernel_rfl) (by kernel_rfl) (s2 := ⟨[(0, lV (l.map d151)), (3, rV 112), (4, iV (v4 + 1))], [(112, some (.nst 5 38 [(4, 2, 188)] ((Lv3.set (Int.toNat v4) ((toAcct x5))).map d38) []))], 416⟩) (congrArg (fun z : Int => (⟨[(0, lV (l.map d151)), (3, rV 112), (4, iV z)], [(112, some (.nst 5 38 [(4, 2, 188)] ((Lv3.set (Int.toNat v4) ((toAcct x5))).map d38) []))], 416⟩ : St)) (show wrap64 (v4 + 1) = (v4 + 1) by rw [w64 (n := (v4 + 1)) (by omega) (by omega)])) ?_
   refine ⟨⟨((Lv3.set (Int.toNat v4) ((toAcct x5))), (v4 + 1)), ⟨by first | omega | (dsimp only; omega), by first | omega | (dsimp only; omega), by simp; omega, ts_next (f := toAcct) hA (by first | omega | (dsimp only; omega)) (by first | omega | (dsimp only; omega)) ‹_›⟩⟩, by first | exact rfl | omega | (dsimp only; omega) | (simp only [List.length_append, List.length_cons, List.length_nil, List.length_set]; omega) | (simp; done) | (simp; omega), Wk.mk' [(112, 112)] (by kernel_rfl) (by kernel_rfl) (by kernel_rfl)⟩
  ·replace hb4 := of_decide_eq_false (hb4)
   refine X.exit ?_
   refine sk ⟨[(2, rV 112)], [(112, some (.nst 5 38 [(4, 2, 188)] (Lv3.map d38) []))], 256⟩ ?_
   refine X.ret ?_
   exact ⟨trivial, _, _, ⟨Lv3, ts_end hA hL (by omega), rfl, rfl⟩, .inl (Ret.mk' [(64, 112)] (by kernel_rfl) (by kernel_rfl) (by kernel_rfl))⟩
 obtain ⟨_, _, ⟨r0, h1_, rfl, rfl⟩, hf⟩ := key
 exact ⟨r0, h1_, hf⟩

theorem l_toLedger (x : S42) (hl : acsSm (toLedger x).f1) : ∃ r0 : S27, (r0 = toLedger x) ∧ Fn Try.prog 18 [.e (.agg [.d (.v (.int .i64 x.f0)), .d (.sl (x.f1.map d151))])] (lookH []) (.e (.agg [.d (.v (.int .i64 r0.f0)), .ref 64])) (lookH [(64, some (.nst 5 38 [(4, 2, 188)] (r0.f1.map d38) []))]) := by
 have key : ∃ x' h', ((fun x' h' => ∃ r0 : S27, (r0 = toLedger x) ∧ x' = .e (.agg [.d (.v (.int .i64 r0.f0)), .ref 64]) ∧ h' = [(64, some (.nst 5 38 [(4, 2, 188)] (r0.f1.map d38) []))])) x' h' ∧ Fn Try.prog 18 [.e (.agg [.d (.v (.int .i64 x.f0)), .d (.sl (x.f1.map d151))])] (lookH []) x' (lookH h') := by
  refine Fn.bodyX (N := 12) hτ Try.func18 rfl rfl rfl rfl ?_
  refine sk ⟨[(1, .pt 64 0 0), (2, .pt 80 0 0)], [(64, some (.box [.d (.v (.int .i64 x.f0)), .d (.sl (x.f1.map d151))])), (80, some (.box [.d (.v (.int .i64 0)), .nil]))], 96⟩ ?_
  refine sk ⟨[(1, .pt 64 0 0), (2, .pt 80 0 0), (3, .pt 96 0 0)], [(64, some (.box [.d (.v (.int .i64 x.f0)), .d (.sl (x.f1.map d151))])), (80, some (.box [.d (.v (.int .i64 0)), .nil])), (96, some (.box [.d (.v (.int .i64 0)), .nil]))], 112⟩ ?_
  refine sk ⟨[(1, .pt 64 0 0), (2, .pt 80 0 0), (3, .pt 96 0 0)], [(64, some (.box [.d (.v (.int .i64 x.f0)), .d (.sl (x.f1.map d151))])), (80, some (.box [.d (.v (.int .i64 0)), .nil])), (96, some (.box [.d (.v (.int .i64 x.f0)), .nil]))], 176⟩ ?_
  refine X.seq (rs 2 ?_)
  obtain ⟨r1, hr3, hf2⟩ := l_toAcctS x.f1 (by assumption)
  replace hr3 := hr3.symm; subst hr3
  have hlm : (x.f1.map toAcct).length = x.f1.length := List.length_map ..
  refine ca hf2 Try.func55 ?_
  refine go 2 ?_
  refine ek ⟨[(2, .pt 80 0 0), (3, .pt 96 0 0)], [(80, some (.box [.d (.v (.int .i64 0)), .nil])), (96, some (.box [.d (.v (.int .i64 x.f0)), .ref 208])), (208, some (.nst 5 38 [(4, 2, 188)] ((x.f1.map toAcct).map d38) []))], 256⟩ ?_
  refine sk ⟨[(2, .pt 80 0 0)], [(80, some (.box [.d (.v (.int .i64 x.f0)), .ref 208])), (208, some (.nst 5 38 [(4, 2, 188)] ((x.f1.map toAcct).map d38) []))], 288⟩ ?_
  refine X.ret ?_
  exact ⟨trivial, _, _, ⟨(⟨x.f0, (x.f1.map toAcct)⟩ : S27), rfl, rfl, rfl⟩, .inl (Ret.mk' [(64, 208)] (by kernel_rfl) (by kernel_rfl) (by kernel_rfl))⟩
 obtain ⟨_, _, ⟨r0, h1_, rfl, rfl⟩, hf⟩ := key
 exact ⟨r0, h1_, hf⟩

theorem l_eqLeave (a : S188) (b : S188) : ∃ r0 : Bool, (r0 = eqV a b) ∧ Fn Try.prog 192 [.e (.agg [.d (.v (.int .i64 a.f0)), .d (.v (.int .i64 a.f1))]), .e (.agg [.d (.v (.int .i64 b.f0)), .d (.v (.int .i64 b.f1))])] (lookH []) (bV r0) (lookH []) := by
 have key : ∃ x' h', ((fun x' h' => ∃ r0 : Bool, (r0 = eqV a b) ∧ x' = bV r0 ∧ h' = [])) x' h' ∧ Fn Try.prog 192 [.e (.agg [.d (.v (.int .i64 a.f0)), .d (.v (.int .i64 a.f1))]), .e (.agg [.d (.v (.int .i64 b.f0)), .d (.v (.int .i64 b.f1))])] (lookH []) x' (lookH h') := by
  refine Fn.bodyX (N := 15) hτ Try.func192 rfl rfl rfl rfl ?_
  refine sk ⟨[(2, .pt 64 0 0), (3, .pt 80 0 0)], [(64, some (.box [.d (.v (.int .i64 a.f0)), .d (.v (.int .i64 a.f1))])), (80, some (.box [.d (.v (.int .i64 b.f0)), .d (.v (.int .i64 b.f1))]))], 112⟩ ?_
  refine X.seq ?_
  refine sk ⟨[(2, .pt 64 0 0), (3, .pt 80 0 0), (9, bV (a.f0 != b.f0))], [(64, some (.box [.d (.v (.int .i64 a.f0)), .d (.v (.int .i64 a.f1))])), (80, some (.box [.d (.v (.int .i64 b.f0)), .d (.v (.int .i64 b.f1))]))], 192⟩ ?_
  refine if_ (b := (a.f0 != b.f0)) (fun hb1 => ?_) (fun hb1 => ?_)
  ·replace hb1 := bne_iff_ne.1 (hb1)
   refine sk ⟨[(4, bV false)], [], 208⟩ ?_
   refine X.ret ?_
   exact ⟨trivial, _, _, ⟨false, (by first | exact fls (fun h => by subst h; first | exact absurd rfl ‹_› | exact tf (eqV_self _) ‹_› | exact tf (allEq_self _) ‹_›) | exact tru (by cases a; cases b; simp_all [eqV_iff, allEq_iff, tl_inj])), rfl, rfl⟩, mkr⟩
  ·replace hb1 := bne_eq_false_iff_eq.1 (hb1)
   refine X.skip ?_
   refine X.seq ?_
   refine sk ⟨[(14, bV (a.f1 != b.f1))], [], 272⟩ ?_
   refine if_ (b := (a.f1 != b.f1)) (fun hb2 => ?_) (fun hb2 => ?_)
   ·replace hb2 := bne_iff_ne.1 (hb2)
    refine sk ⟨[(4, bV false)], [], 288⟩ ?_
    refine X.ret ?_
    exact ⟨trivial, _, _, ⟨false, (by first | exact fls (fun h => by subst h; first | exact absurd rfl ‹_› | exact tf (eqV_self _) ‹_› | exact tf (allEq_self _) ‹_›) | exact tru (by cases a; cases b; simp_all [eqV_iff, allEq_iff, tl_inj])), rfl, rfl⟩, mkr⟩
   ·replace hb2 := bne_eq_false_iff_eq.1 (hb2)
    refine X.skip ?_
    refine sk ⟨[(4, bV true)], [], 288⟩ ?_
    refine X.ret ?_
    exact ⟨trivial, _, _, ⟨true, (by first | exact fls (fun h => by subst h; first | exact absurd rfl ‹_› | exact tf (eqV_self _) ‹_› | exact tf (allEq_self _) ‹_›) | exact tru (by cases a; cases b; simp_all [eqV_iff, allEq_iff, tl_inj])), rfl, rfl⟩, mkr⟩
 obtain ⟨_, _, ⟨r0, h1_, rfl, rfl⟩, hf⟩ := key
 exact ⟨r0, h1_, hf⟩

theorem l_eqLeaveS (l : List S188) (m : List S188) (hl : l.length ≤ 2000000) (hm : m.length ≤ 2000000) : ∃ r0 : Bool, (r0 = allEq l m) ∧ Fn Try.prog 168 [lV (l.map d188), lV (m.map d188)] (lookH []) (bV r0) (lookH []) := by
 have key : ∃ x' h', ((fun x' h' => ∃ r0 : Bool, (r0 = allEq l m) ∧ x' = bV r0 ∧ h' = [])) x' h' ∧ Fn Try.prog 168 [lV (l.map d188), lV (m.map d188)] (lookH []) x' (lookH h') := by
  refine Fn.bodyX (N := 27) hτ Try.func168 rfl rfl rfl rfl ?_
  refine sk ⟨[(0, lV (l.map d188)), (1, lV (m.map d188))], [], 80⟩ ?_
  refine X.seq ?_
  refine X.seq ?_
  have hll : l.length ≤ 2000000 := hl
  have hml : m.length ≤ 2000000 := hm
  have el1 : (l.map d188).length = l.length := List.length_map ..
  have el2 : (m.map d188).length = m.length := List.length_map ..
  refine rk ⟨[(0, lV (l.map d188)), (1, lV (m.map d188)), (10, bV (((l.map d188).length : Int) != ((m.map d188).length : Int)))], [], 160⟩ ?_
  refine if_ (b := (((l.map d188).length : Int) != ((m.map d188).length : Int))) (fun hb3 => ?_) (fun hb3 => ?_)
  ·replace hb3 := bne_iff_ne.1 (hb3)
   refine sk ⟨[(4, bV false)], [], 176⟩ ?_
   refine X.ret ?_
   exact ⟨trivial, _, _, ⟨false, (by first | exact fls (fun h => by have := congrArg List.length h; omega) | exact fls (eq_no ‹_› ‹_› (eqV_no ‹_›)) | exact tru (eq_all hA (by omega) (by omega))), rfl, rfl⟩, mkr⟩
  ·replace hb3 := bne_eq_false_iff_eq.1 (hb3)
   refine X.skip ?_
   refine X.seq ?_
   refine sk ⟨[(0, lV (l.map d188)), (1, lV (m.map d188)), (5, iV 0)], [], 176⟩ ?_
   refine X.block ?_
   -- 4: v5 : Int
   refine X.loop (σ := { g : Int // (fun (v5 : Int) => 0 ≤ v5 ∧ v5 ≤ l.length ∧ Upto (fun j x => m[j.toNat]? = some x) (fun n => l[n]?) v5) g }) (fun g => (fun (v5 : Int) => ⟨[(0, lV (l.map d188)), (1, lV (m.map d188)), (5, iV v5)], [], 176⟩) g.1) (fun g => (fun (v5 : Int) => (l.length - v5).toNat) g.1) ⟨0, ⟨by first | omega | (dsimp only; omega), by first | omega | (dsimp only; omega), upto_zero⟩⟩ (Wk.less (by kernel_rfl)) (fun g => ?_)
   obtain ⟨v5, hg5⟩ := g
   have hg5 : 0 ≤ v5 ∧ v5 ≤ l.length ∧ Upto (fun j x => m[j.toNat]? = some x) (fun n => l[n]?) v5 := hg5
   obtain ⟨_, _, hA⟩ := hg5
   refine X.seq ?_
   refine sk ⟨[(0, lV (l.map d188)), (1, lV (m.map d188)), (5, iV v5), (14, bV (decide ((v5 : Int) < ((l.map d188).length : Int))))], [], 240⟩ ?_
   refine if_ (b := decide ((v5 : Int) < ((l.map d188).length : Int))) (fun hb6 => ?_) (fun hb6 => ?_)
   ·replace hb6 := of_decide_eq_true (hb6)
    refine X.skip ?_
    refine X.seq ?_
    refine X.block ?_
    refine X.seq (rs 2 ?_)
    obtain ⟨x7, hx7⟩ : ∃ x, l[Int.toNat v5]? = some x := ⟨_, List.getElem?_eq_getElem (by first | omega | (simp; done) | (simp; omega))⟩
    refine CH.idx hτ (d188 x7) (rows := (l.map d188)) (n := v5) (sz := 2) (by kernel_rfl) (by kernel_rfl) (by first | omega | (simp; done) | (simp; omega)) (by rw [List.getElem?_map, hx7]; rfl) (by kernel_rfl) ?_
    refine go 3 ?_
    obtain ⟨x8, hx8⟩ : ∃ x, m[Int.toNat v5]? = some x := ⟨_, List.getElem?_eq_getElem (by first | omega | (simp; done) | (simp; omega))⟩
    refine CH.idx hτ (d188 x8) (rows := (m.map d188)) (n := v5) (sz := 2) (by kernel_rfl) (by kernel_rfl) (by first | omega | (simp; done) | (simp; omega)) (by rw [List.getElem?_map, hx8]; rfl) (by kernel_rfl) ?_
    refine go 1 ?_
    obtain ⟨r9, hr11, hf10⟩ := l_eqLeave x7 x8
    replace hr11 := hr11.symm; subst hr11
    refine ca hf10 Try.func192 ?_
    refine go 1 ?_
    refine ek ⟨[(0, lV (l.map d188)), (1, lV (m.map d188)), (5, iV v5), (26, bV (!(eqV x7 x8)))], [], 400⟩ ?_
    refine if_ (b := !(eqV x7 x8)) (fun hb13 => ?_) (fun hb13 => ?_)
    ·replace hb13 := bnot_yes (hb13)
     refine sk ⟨[(4, bV false)], [], 416⟩ ?_
     refine X.ret ?_
     exact ⟨trivial, _, _, ⟨false, (by first | exact fls (fun h => by have := congrArg List.length h; omega) | exact fls (eq_no ‹_› ‹_› (eqV_no ‹_›)) | exact tru (eq_all hA (by omega) (by omega))), rfl, rfl⟩, mkr⟩
    ·replace hb13 := bnot_no (hb13)
     refine X.skip ?_
     refine X.rk ⟨[(0, lV (l.map d188)), (1, lV (m.map d188)), (5, iV (wrap64 (v5 + 1)))], [], 448⟩ hτ hmix (by kernel_rfl) (by kernel_rfl) (s2 := ⟨[(0, lV (l.map d188)), (1, lV (m.map d188)), (5, iV (v5 + 1))], [], 448⟩) (congrArg (fun z : Int => (⟨[(0, lV (l.map d188)), (1, lV (m.map d188)), (5, iV z)], [], 448⟩ : St)) (show wrap64 (v5 + 1) = (v5 + 1) by rw [w64 (n := (v5 + 1)) (by omega) (by omega)])) ?_
     refine ⟨⟨(v5 + 1), ⟨by first | omega | (dsimp only; omega), by first | omega | (dsimp only; omega), upto_nx (by first | omega | (dsimp only; omega)) hA ‹_› (eq_stp ‹_› (eqV_iff.1 ‹_›))⟩⟩, by first | exact rfl | omega | (dsimp only; omega) | (simp only [List.length_append, List.length_cons, List.length_nil, List.length_set]; omega) | (simp; done) | (simp; omega), Wk.mk' [] (by kernel_rfl) (by kernel_rfl) (by kernel_rfl)⟩
   ·replace hb6 := of_decide_eq_false (hb6)
    refine X.exit ?_
    refine sk ⟨[(4, bV true)], [], 256⟩ ?_
    refine X.ret ?_
    exact ⟨trivial, _, _, ⟨true, (by first | exact fls (fun h => by have := congrArg List.length h; omega) | exact fls (eq_no ‹_› ‹_› (eqV_no ‹_›)) | exact tru (eq_all hA (by omega) (by omega))), rfl, rfl⟩, mkr⟩
 obtain ⟨_, _, ⟨r0, h1_, rfl, rfl⟩, hf⟩ := key
 exact ⟨r0, h1_, hf⟩

theorem l_eqAcct (a : S38) (b : S38) (ha : Sm38 a) (hb : Sm38 b) : ∃ r0 : Bool, (r0 = eqV a b) ∧ Fn Try.prog 122 [.e (.agg (cD (d38 a))), .e (.agg (cD (d38 b)))] (lookH []) (bV r0) (lookH []) := by
 have key : ∃ x' h', ((fun x' h' => ∃ r0 : Bool, (r0 = eqV a b) ∧ x' = bV r0 ∧ h' = [])) x' h' ∧ Fn Try.prog 122 [.e (.agg (cD (d38 a))), .e (.agg (cD (d38 b)))] (lookH []) x' (lookH h') := by
  refine Fn.bodyX (N := 31) hτ Try.func122 rfl rfl rfl rfl ?_
  refine sk ⟨[(2, .pt 64 0 0), (3, .pt 80 0 0)], [(64, some (.box (cD (d38 a)))), (80, some (.box (cD (d38 b))))], 112⟩ ?_
  refine X.seq ?_
  refine X.seq ?_
  have a0 : SmS a.f0 := ha.1
  have b0 : SmS b.f0 := hb.1
  have a4 : a.f4.length ≤ 2000000 := ha.2
  have b4 : b.f4.length ≤ 2000000 := hb.2
  refine rk ⟨[(2, .pt 64 0 0), (3, .pt 80 0 0), (9, bV (!(a.f0.toList == b.f0.toList)))], [(64, some (.box (cD (d38 a)))), (80, some (.box (cD (d38 b))))], 192⟩ ?_
  refine if_ (b := !(a.f0.toList == b.f0.toList)) (fun hb1 => ?_) (fun hb1 => ?_)
  ·replace hb1 := beq_no (bnot_yes (hb1))
   refine sk ⟨[(4, bV false)], [], 208⟩ ?_
   refine X.ret ?_
   exact ⟨trivial, _, _, ⟨false, (by first | exact fls (fun h => by subst h; first | exact absurd rfl ‹_› | exact tf (eqV_self _) ‹_› | exact tf (allEq_self _) ‹_›) | exact tru (by cases a; cases b; simp_all [eqV_iff, allEq_iff, tl_inj])), rfl, rfl⟩, mkr⟩
  ·replace hb1 := beq_yes (bnot_no (hb1))
   refine X.skip ?_
   refine X.seq ?_
   refine sk ⟨[(2, .pt 64 0 0), (3, .pt 80 0 0), (14, bV (a.f1 != b.f1))], [(64, some (.box (cD (d38 a)))), (80, some (.box (cD (d38 b))))], 272⟩ ?_
   refine if_ (b := (a.f1 != b.f1)) (fun hb2 => ?_) (fun hb2 => ?_)
   ·replace hb2 := bne_iff_ne.1 (hb2)
    refine sk ⟨[(4, bV false)], [], 288⟩ ?_
    refine X.ret ?_
    exact ⟨trivial, _, _, ⟨false, (by first | exact fls (fun h => by subst h; first | exact absurd rfl ‹_› | exact tf (eqV_self _) ‹_› | exact tf (allEq_self _) ‹_›) | exact tru (by cases a; cases b; simp_all [eqV_iff, allEq_iff, tl_inj])), rfl, rfl⟩, mkr⟩
   ·replace hb2 := bne_eq_false_iff_eq.1 (hb2)
    refine X.skip ?_
    refine X.seq ?_
    refine sk ⟨[(2, .pt 64 0 0), (3, .pt 80 0 0), (19, bV (a.f2 != b.f2))], [(64, some (.box (cD (d38 a)))), (80, some (.box (cD (d38 b))))], 352⟩ ?_
    refine if_ (b := (a.f2 != b.f2)) (fun hb3 => ?_) (fun hb3 => ?_)
    ·replace hb3 := bne_iff_ne.1 (hb3)
     refine sk ⟨[(4, bV false)], [], 368⟩ ?_
     refine X.ret ?_
     exact ⟨trivial, _, _, ⟨false, (by first | exact fls (fun h => by subst h; first | exact absurd rfl ‹_› | exact tf (eqV_self _) ‹_› | exact tf (allEq_self _) ‹_›) | exact tru (by cases a; cases b; simp_all [eqV_iff, allEq_iff, tl_inj])), rfl, rfl⟩, mkr⟩
    ·replace hb3 := bne_eq_false_iff_eq.1 (hb3)
     refine X.skip ?_
     refine X.seq ?_
     refine sk ⟨[(2, .pt 64 0 0), (3, .pt 80 0 0), (24, bV (a.f3 != b.f3))], [(64, some (.box (cD (d38 a)))), (80, some (.box (cD (d38 b))))], 432⟩ ?_
     refine if_ (b := (a.f3 != b.f3)) (fun hb4 => ?_) (fun hb4 => ?_)
     ·replace hb4 := bne_iff_ne.1 (hb4)
      refine sk ⟨[(4, bV false)], [], 448⟩ ?_
      refine X.ret ?_
      exact ⟨trivial, _, _, ⟨false, (by first | exact fls (fun h => by subst h; first | exact absurd rfl ‹_› | exact tf (eqV_self _) ‹_› | exact tf (allEq_self _) ‹_›) | exact tru (by cases a; cases b; simp_all [eqV_iff, allEq_iff, tl_inj])), rfl, rfl⟩, mkr⟩
     ·replace hb4 := bne_eq_false_iff_eq.1 (hb4)
      refine X.skip ?_
      refine X.seq ?_
      refine X.seq (rs 4 ?_)
      obtain ⟨r5, hr7, hf6⟩ := l_eqLeaveS a.f4 b.f4 (by assumption) (by assumption)
      replace hr7 := hr7.symm; subst hr7
      refine ca hf6 Try.func168 ?_
      refine go 1 ?_
      refine ek ⟨[(30, bV (!(allEq a.f4 b.f4)))], [], 528⟩ ?_
      refine if_ (b := !(allEq a.f4 b.f4)) (fun hb9 => ?_) (fun hb9 => ?_)
      ·replace hb9 := bnot_yes (hb9)
       refine sk ⟨[(4, bV false)], [], 544⟩ ?_
       refine X.ret ?_
       exact ⟨trivial, _, _, ⟨false, (by first | exact fls (fun h => by subst h; first | exact absurd rfl ‹_› | exact tf (eqV_self _) ‹_› | exact tf (allEq_self _) ‹_›) | exact tru (by cases a; cases b; simp_all [eqV_iff, allEq_iff, tl_inj])), rfl, rfl⟩, mkr⟩
      ·replace hb9 := bnot_no (hb9)
       refine X.skip ?_
       refine sk ⟨[(4, bV true)], [], 544⟩ ?_
       refine X.ret ?_
       exact ⟨trivial, _, _, ⟨true, (by first | exact fls (fun h => by subst h; first | exact absurd rfl ‹_› | exact tf (eqV_self _) ‹_› | exact tf (allEq_self _) ‹_›) | exact tru (by cases a; cases b; simp_all [eqV_iff, allEq_iff, tl_inj])), rfl, rfl⟩, mkr⟩
 obtain ⟨_, _, ⟨r0, h1_, rfl, rfl⟩, hf⟩ := key
 exact ⟨r0, h1_, hf⟩

theorem l_eqAcctS (l : List S38) (m : List S38) (hl : (l.length ≤ 2000000 ∧ ∀ z, z ∈ l → Sm38 z)) (hm : (m.length ≤ 2000000 ∧ ∀ z, z ∈ m → Sm38 z)) : ∃ r0 : Bool, (r0 = allEq l m) ∧ Fn Try.prog 57 [lV (l.map d38), lV (m.map d38)] (lookH []) (bV r0) (lookH []) := by
 have key : ∃ x' h', ((fun x' h' => ∃ r0 : Bool, (r0 = allEq l m) ∧ x' = bV r0 ∧ h' = [])) x' h' ∧ Fn Try.prog 57 [lV (l.map d38), lV (m.map d38)] (lookH []) x' (lookH h') := by
  refine Fn.bodyX (N := 27) hτ Try.func57 rfl rfl rfl rfl ?_
  refine sk ⟨[(0, lV (l.map d38)), (1, lV (m.map d38))], [], 80⟩ ?_
  refine X.seq ?_
  refine X.seq ?_
  have hll : l.length ≤ 2000000 := hl.1
  have hml : m.length ≤ 2000000 := hm.1
  have el1 : (l.map d38).length = l.length := List.length_map ..
  have el2 : (m.map d38).length = m.length := List.length_map ..
  refine rk ⟨[(0, lV (l.map d38)), (1, lV (m.map d38)), (10, bV (((l.map d38).length : Int) != ((m.map d38).length : Int)))], [], 160⟩ ?_
  refine if_ (b := (((l.map d38).length : Int) != ((m.map d38).length : Int))) (fun hb3 => ?_) (fun hb3 => ?_)
  ·replace hb3 := bne_iff_ne.1 (hb3)
   refine sk ⟨[(4, bV false)], [], 176⟩ ?_
   refine X.ret ?_
   exact ⟨trivial, _, _, ⟨false, (by first | exact fls (fun h => by have := congrArg List.length h; omega) | exact fls (eq_no ‹_› ‹_› (eqV_no ‹_›)) | exact tru (eq_all hA (by omega) (by omega))), rfl, rfl⟩, mkr⟩
  ·replace hb3 := bne_eq_false_iff_eq.1 (hb3)
   refine X.skip ?_
   refine X.seq ?_
   refine sk ⟨[(0, lV (l.map d38)), (1, lV (m.map d38)), (5, iV 0)], [], 176⟩ ?_
   refine X.block ?_
   -- 4: v5 : Int
   refine X.loop (σ := { g : Int // (fun (v5 : Int) => 0 ≤ v5 ∧ v5 ≤ l.length ∧ Upto (fun j x => m[j.toNat]? = some x) (fun n => l[n]?) v5) g }) (fun g => (fun (v5 : Int) => ⟨[(0, lV (l.map d38)), (1, lV (m.map d38)), (5, iV v5)], [], 176⟩) g.1) (fun g => (fun (v5 : Int) => (l.length - v5).toNat) g.1) ⟨0, ⟨by first | omega | (dsimp only; omega), by first | omega | (dsimp only; omega), upto_zero⟩⟩ (Wk.less (by kernel_rfl)) (fun g => ?_)
   obtain ⟨v5, hg5⟩ := g
   have hg5 : 0 ≤ v5 ∧ v5 ≤ l.length ∧ Upto (fun j x => m[j.toNat]? = some x) (fun n => l[n]?) v5 := hg5
   obtain ⟨_, _, hA⟩ := hg5
   refine X.seq ?_
   refine sk ⟨[(0, lV (l.map d38)), (1, lV (m.map d38)), (5, iV v5), (14, bV (decide ((v5 : Int) < ((l.map d38).length : Int))))], [], 240⟩ ?_
   refine if_ (b := decide ((v5 : Int) < ((l.map d38).length : Int))) (fun hb6 => ?_) (fun hb6 => ?_)
   ·replace hb6 := of_decide_eq_true (hb6)
    refine X.skip ?_
    refine X.seq ?_
    refine X.block ?_
    refine X.seq (rs 2 ?_)
    obtain ⟨x7, hx7⟩ : ∃ x, l[Int.toNat v5]? = some x := ⟨_, List.getElem?_eq_getElem (by first | omega | (simp; done) | (simp; omega))⟩
    refine CH.idx hτ (d38 x7) (rows := (l.map d38)) (n := v5) (sz := 5) (by kernel_rfl) (by kernel_rfl) (by first | omega | (simp; done) | (simp; omega)) (by rw [List.getElem?_map, hx7]; rfl) (by kernel_rfl) ?_
    refine go 3 ?_
    obtain ⟨x8, hx8⟩ : ∃ x, m[Int.toNat v5]? = some x := ⟨_, List.getElem?_eq_getElem (by first | omega | (simp; done) | (simp; omega))⟩
    refine CH.idx hτ (d38 x8) (rows := (m.map d38)) (n := v5) (sz := 5) (by kernel_rfl) (by kernel_rfl) (by first | omega | (simp; done) | (simp; omega)) (by rw [List.getElem?_map, hx8]; rfl) (by kernel_rfl) ?_
    refine go 1 ?_
    obtain ⟨r9, hr11, hf10⟩ := l_eqAcct x7 x8 (by exact all_at hl.2 ‹_›) (by exact all_at hm.2 ‹_›)
    replace hr11 := hr11.symm; subst hr11
    refine ca hf10 Try.func122 ?_
    refine go 1 ?_
    refine ek ⟨[(0, lV (l.map d38)), (1, lV (m.map d38)), (5, iV v5), (26, bV (!(eqV x7 x8)))], [], 400⟩ ?_
    refine if_ (b := !(eqV x7 x8)) (fun hb13 => ?_) (fun hb13 => ?_)
    ·replace hb13 := bnot_yes (hb13)
     refine sk ⟨[(4, bV false)], [], 416⟩ ?_
     refine X.ret ?_
     exact ⟨trivial, _, _, ⟨false, (by first | exact fls (fun h => by have := congrArg List.length h; omega) | exact fls (eq_no ‹_› ‹_› (eqV_no ‹_›)) | exact tru (eq_all hA (by omega) (by omega))), rfl, rfl⟩, mkr⟩
    ·replace hb13 := bnot_no (hb13)
     refine X.skip ?_
     refine X.rk ⟨[(0, lV (l.map d38)), (1, lV (m.map d38)), (5, iV (wrap64 (v5 + 1)))], [], 448⟩ hτ hmix (by kernel_rfl) (by kernel_rfl) (s2 := ⟨[(0, lV (l.map d38)), (1, lV (m.map d38)), (5, iV (v5 + 1))], [], 448⟩) (congrArg (fun z : Int => (⟨[(0, lV (l.map d38)), (1, lV (m.map d38)), (5, iV z)], [], 448⟩ : St)) (show wrap64 (v5 + 1) = (v5 + 1) by rw [w64 (n := (v5 + 1)) (by omega) (by omega)])) ?_
     refine ⟨⟨(v5 + 1), ⟨by first | omega | (dsimp only; omega), by first | omega | (dsimp only; omega), upto_nx (by first | omega | (dsimp only; omega)) hA ‹_› (eq_stp ‹_› (eqV_iff.1 ‹_›))⟩⟩, by first | exact rfl | omega | (dsimp only; omega) | (simp only [List.length_append, List.length_cons, List.length_nil, List.length_set]; omega) | (simp; done) | (simp; omega), Wk.mk' [] (by kernel_rfl) (by kernel_rfl) (by kernel_rfl)⟩
   ·replace hb6 := of_decide_eq_false (hb6)
    refine X.exit ?_
    refine sk ⟨[(4, bV true)], [], 256⟩ ?_
    refine X.ret ?_
    exact ⟨trivial, _, _, ⟨true, (by first | exact fls (fun h => by have := congrArg List.length h; omega) | exact fls (eq_no ‹_› ‹_› (eqV_no ‹_›)) | exact tru (eq_all hA (by omega) (by omega))), rfl, rfl⟩, mkr⟩
 obtain ⟨_, _, ⟨r0, h1_, rfl, rfl⟩, hf⟩ := key
 exact ⟨r0, h1_, hf⟩

theorem l_eqLedger (a : S27) (b : S27) (ha : Sm27 a) (hb : Sm27 b) : ∃ r0 : Bool, (r0 = eqV a b) ∧ Fn Try.prog 20 [.e (.agg [.d (.v (.int .i64 a.f0)), .d (.sl (a.f1.map d38))]), .e (.agg [.d (.v (.int .i64 b.f0)), .d (.sl (b.f1.map d38))])] (lookH []) (bV r0) (lookH []) := by
 have key : ∃ x' h', ((fun x' h' => ∃ r0 : Bool, (r0 = eqV a b) ∧ x' = bV r0 ∧ h' = [])) x' h' ∧ Fn Try.prog 20 [.e (.agg [.d (.v (.int .i64 a.f0)), .d (.sl (a.f1.map d38))]), .e (.agg [.d (.v (.int .i64 b.f0)), .d (.sl (b.f1.map d38))])] (lookH []) x' (lookH h') := by
  refine Fn.bodyX (N := 16) hτ Try.func20 rfl rfl rfl rfl ?_
  refine sk ⟨[(2, .pt 64 0 0), (3, .pt 80 0 0)], [(64, some (.box [.d (.v (.int .i64 a.f0)), .d (.sl (a.f1.map d38))])), (80, some (.box [.d (.v (.int .i64 b.f0)), .d (.sl (b.f1.map d38))]))], 112⟩ ?_
  refine X.seq ?_
  refine X.seq ?_
  have a1 : (a.f1.length ≤ 2000000 ∧ ∀ z, z ∈ a.f1 → Sm38 z) := ha
  have b1 : (b.f1.length ≤ 2000000 ∧ ∀ z, z ∈ b.f1 → Sm38 z) := hb
  refine rk ⟨[(2, .pt 64 0 0), (3, .pt 80 0 0), (9, bV (a.f0 != b.f0))], [(64, some (.box [.d (.v (.int .i64 a.f0)), .d (.sl (a.f1.map d38))])), (80, some (.box [.d (.v (.int .i64 b.f0)), .d (.sl (b.f1.map d38))]))], 192⟩ ?_
  refine if_ (b := (a.f0 != b.f0)) (fun hb1 => ?_) (fun hb1 => ?_)
  ·replace hb1 := bne_iff_ne.1 (hb1)
   refine sk ⟨[(4, bV false)], [], 208⟩ ?_
   refine X.ret ?_
   exact ⟨trivial, _, _, ⟨false, (by first | exact fls (fun h => by subst h; first | exact absurd rfl ‹_› | exact tf (eqV_self _) ‹_› | exact tf (allEq_self _) ‹_›) | exact tru (by cases a; cases b; simp_all [eqV_iff, allEq_iff, tl_inj])), rfl, rfl⟩, mkr⟩
  ·replace hb1 := bne_eq_false_iff_eq.1 (hb1)
   refine X.skip ?_
   refine X.seq ?_
   refine X.seq (rs 4 ?_)
   obtain ⟨r2, hr4, hf3⟩ := l_eqAcctS a.f1 b.f1 (by assumption) (by assumption)
   replace hr4 := hr4.symm; subst hr4
   refine ca hf3 Try.func57 ?_
   refine go 1 ?_
   refine ek ⟨[(15, bV (!(allEq a.f1 b.f1)))], [], 288⟩ ?_
   refine if_ (b := !(allEq a.f1 b.f1)) (fun hb6 => ?_) (fun hb6 => ?_)
   ·replace hb6 := bnot_yes (hb6)
    refine sk ⟨[(4, bV false)], [], 304⟩ ?_
    refine X.ret ?_
    exact ⟨trivial, _, _, ⟨false, (by first | exact fls (fun h => by subst h; first | exact absurd rfl ‹_› | exact tf (eqV_self _) ‹_› | exact tf (allEq_self _) ‹_›) | exact tru (by cases a; cases b; simp_all [eqV_iff, allEq_iff, tl_inj])), rfl, rfl⟩, mkr⟩
   ·replace hb6 := bnot_no (hb6)
    refine X.skip ?_
    refine sk ⟨[(4, bV true)], [], 304⟩ ?_
    refine X.ret ?_
    exact ⟨trivial, _, _, ⟨true, (by first | exact fls (fun h => by subst h; first | exact absurd rfl ‹_› | exact tf (eqV_self _) ‹_› | exact tf (allEq_self _) ‹_›) | exact tru (by cases a; cases b; simp_all [eqV_iff, allEq_iff, tl_inj])), rfl, rfl⟩, mkr⟩
 obtain ⟨_, _, ⟨r0, h1_, rfl, rfl⟩, hf⟩ := key
 exact ⟨r0, h1_, hf⟩

theorem l_markLeaveS (l : List S188) (k : Int) (hl : l.length ≤ 2000000) (hk : 0 ≤ k ∧ k ≤ 100000000) : ∃ r0 : Int, ∃ q0 : List S188, (q0.length = l.length ∧ r0 = k + 2 * l.length) ∧ Fn Try.prog 123 [rV 0, iV k] (lookH [(0, some (.row 2 188 (l.map d188) false true))]) (iV r0) (lookH [(0, some (.row 2 188 (q0.map d188) false true))]) := by
 have key : ∃ x' h', ((fun x' h' => ∃ r0 : Int, ∃ q0 : List S188, (q0.length = l.length ∧ r0 = k + 2 * l.length) ∧ x' = iV r0 ∧ h' = [(0, some (.row 2 188 (q0.map d188) false true))])) x' h' ∧ Fn Try.prog 123 [rV 0, iV k] (lookH [(0, some (.row 2 188 (l.map d188) false true))]) x' (lookH h') := by
  refine Fn.bodyX (N := 27) hτ Try.func123 rfl rfl rfl rfl ?_
  refine sk ⟨[(0, rV 0), (1, iV k)], [(0, some (.row 2 188 (l.map d188) false true))], 80⟩ ?_
  refine X.seq ?_
  refine sk ⟨[(0, rV 0), (1, iV k), (5, iV 0)], [(0, some (.row 2 188 (l.map d188) false true))], 96⟩ ?_
  refine X.block ?_
  -- 2: L0 : List S188, v1 : Int, v5 : Int
  refine X.loop (σ := { g : (List S188) × Int × Int // (fun (L0 : List S188) (v1 : Int) (v5 : Int) => 0 ≤ v5 ∧ v5 ≤ l.length ∧ v1 = k + 2 * v5 ∧ L0.length = l.length) g.1 g.2.1 g.2.2 }) (fun g => (fun (L0 : List S188) (v1 : Int) (v5 : Int) => ⟨[(0, rV 0), (1, iV v1), (5, iV v5)], [(0, some (.row 2 188 (L0.map d188) false true))], 96⟩) g.1.1 g.1.2.1 g.1.2.2) (fun g => (fun (L0 : List S188) (v1 : Int) (v5 : Int) => (l.length - v5).toNat) g.1.1 g.1.2.1 g.1.2.2) ⟨(l, k, 0), ⟨by first | omega | (dsimp only; omega), by first | omega | (dsimp only; omega), by first | omega | (dsimp only; omega), rfl⟩⟩ (Wk.less (by kernel_rfl)) (fun g => ?_)
  obtain ⟨⟨L0, v1, v5⟩, hg2⟩ := g
  have hg2 : 0 ≤ v5 ∧ v5 ≤ l.length ∧ v1 = k + 2 * v5 ∧ L0.length = l.length := hg2
  obtain ⟨_, _, _, hL⟩ := hg2
  refine X.seq ?_
  refine X.seq ?_
  have hlb : (l.map d188).length = l.length := List.length_map ..
  have el3 : (L0.map d188).length = L0.length := List.length_map ..
  refine rk ⟨[(0, rV 0), (1, iV v1), (5, iV v5), (9, bV (decide ((v5 : Int) < ((L0.map d188).length : Int))))], [(0, some (.row 2 188 (L0.map d188) false true))], 160⟩ ?_
  refine if_ (b := decide ((v5 : Int) < ((L0.map d188).length : Int))) (fun hb4 => ?_) (fun hb4 => ?_)
  ·replace hb4 := of_decide_eq_true (hb4)
   refine X.skip ?_
   refine X.seq ?_
   refine X.block ?_
   refine X.seq (rs 3 ?_)
   refine CH.idxR hτ (rows := (L0.map d188)) (n := v5) (b := 0) (by kernel_rfl) (by kernel_rfl) (by first | omega | (simp; done) | (simp; omega)) (by simp only [List.length_map, List.length_set]; first | omega | (simp; done) | (simp; omega)) (by kernel_rfl) ?_
   refine go 1 ?_
   obtain ⟨x5, hx5⟩ : ∃ x, L0[Int.toNat v5]? = some x := ⟨_, List.getElem?_eq_getElem (by first | omega | (simp; done) | (simp; omega))⟩
   refine CH.row hτ (d188 x5) (by kernel_rfl) (by kernel_rfl) (by rw [List.getElem?_map, hx5]; rfl) (by kernel_rfl) ?_
   refine CH.endk ⟨[(0, rV 0), (1, iV v1), (5, iV v5)], [(0, some (.row 2 188 ((L0.map d188).set (Int.toNat v5) (d188 (⟨v1, x5.f1⟩ : S188))) false true))], 256⟩ (by kernel_rfl) (by kernel_rfl) (s2 := ⟨[(0, rV 0), (1, iV v1), (5, iV v5)], [(0, some (.row 2 188 ((L0.set (Int.toNat v5) (⟨v1, x5.f1⟩ : S188)).map d188) false true))], 256⟩) (congrArg (fun z : List (List D) => (⟨[(0, rV 0), (1, iV v1), (5, iV v5)], [(0, some (.row 2 188 z false true))], 256⟩ : St)) (show ((L0.map d188).set (Int.toNat v5) (d188 (⟨v1, x5.f1⟩ : S188))) = ((L0.set (Int.toNat v5) (⟨v1, x5.f1⟩ : S188)).map d188) from List.map_set.symm)) ?_
   refine X.seq ?_
   refine X.rk ⟨[(0, rV 0), (1, iV (wrap64 (v1 + 1))), (5, iV v5)], [(0, some (.row 2 188 ((L0.set (Int.toNat v5) (⟨v1, x5.f1⟩ : S188)).map d188) false true))], 304⟩ hτ hmix (by kernel_rfl) (by kernel_rfl) (s2 := ⟨[(0, rV 0), (1, iV (v1 + 1)), (5, iV v5)], [(0, some (.row 2 188 ((L0.set (Int.toNat v5) (⟨v1, x5.f1⟩ : S188)).map d188) false true))], 304⟩) (congrArg (fun z : Int => (⟨[(0, rV 0), (1, iV z), (5, iV v5)], [(0, some (.row 2 188 ((L0.set (Int.toNat v5) (⟨v1, x5.f1⟩ : S188)).map d188) false true))], 304⟩ : St)) (show wrap64 (v1 + 1) = (v1 + 1) by rw [w64 (n := (v1 + 1)) (by omega) (by omega)])) ?_
   refine X.seq (rs 3 ?_)
   refine CH.idxR hτ (rows := ((L0.set (Int.toNat v5) (⟨v1, x5.f1⟩ : S188)).map d188)) (n := v5) (b := 0) (by kernel_rfl) (by kernel_rfl) (by first | omega | (simp; done) | (simp; omega)) (by simp only [List.length_map, List.length_set]; first | omega | (simp; done) | (simp; omega)) (by kernel_rfl) ?_
   refine go 1 ?_
   obtain ⟨x6, hx6⟩ : ∃ x, (L0.set (Int.toNat v5) (⟨v1, x5.f1⟩ : S188))[Int.toNat v5]? = some x := ⟨_, List.getElem?_eq_getElem (by first | omega | (simp; done) | (simp; omega))⟩
   refine CH.row hτ (d188 x6) (by kernel_rfl) (by kernel_rfl) (by rw [List.getElem?_map, hx6]; rfl) (by kernel_rfl) ?_
   refine CH.endk ⟨[(0, rV 0), (1, iV (v1 + 1)), (5, iV v5)], [(0, some (.row 2 188 (((L0.set (Int.toNat v5) (⟨v1, x5.f1⟩ : S188)).map d188).set (Int.toNat v5) (d188 (⟨x6.f0, (v1 + 1)⟩ : S188))) false true))], 400⟩ (by kernel_rfl) (by kernel_rfl) (s2 := ⟨[(0, rV 0), (1, iV (v1 + 1)), (5, iV v5)], [(0, some (.row 2 188 (((L0.set (Int.toNat v5) (⟨v1, x5.f1⟩ : S188)).set (Int.toNat v5) (⟨x6.f0, (v1 + 1)⟩ : S188)).map d188) false true))], 400⟩) (congrArg (fun z : List (List D) => (⟨[(0, rV 0), (1, iV (v1 + 1)), (5, iV v5)], [(0, some (.row 2 188 z false true))], 400⟩ : St)) (show (((L0.set (Int.toNat v5) (⟨v1, x5.f1⟩ : S188)).map d188).set (Int.toNat v5) (d188 (⟨x6.f0, (v1 + 1)⟩ : S188))) = (((L0.set (Int.toNat v5) (⟨v1, x5.f1⟩ : S188)).set (Int.toNat v5) (⟨x6.f0, (v1 + 1)⟩ : S188)).map d188) from List.map_set.symm)) ?_
   refine X.rk ⟨[(0, rV 0), (1, iV (wrap64 ((v1 + 1) + 1))), (5, iV v5)], [(0, some (.row 2 188 (((L0.set (Int.toNat v5) (⟨v1, x5.f1⟩ : S188)).set (Int.toNat v5) (⟨x6.f0, (v1 + 1)⟩ : S188)).map d188) false true))], 448⟩ hτ hmix (by kernel_rfl) (by kernel_rfl) (s2 := ⟨[(0, rV 0), (1, iV ((v1 + 1) + 1)), (5, iV v5)], [(0, some (.row 2 188 (((L0.set (Int.toNat v5) (⟨v1, x5.f1⟩ : S188)).set (Int.toNat v5) (⟨x6.f0, (v1 + 1)⟩ : S188)).map d188) false true))], 448⟩) (congrArg (fun z : Int => (⟨[(0, rV 0), (1, iV z), (5, iV v5)], [(0, some (.row 2 188 (((L0.set (Int.toNat v5) (⟨v1, x5.f1⟩ : S188)).set (Int.toNat v5) (⟨x6.f0, (v1 + 1)⟩ : S188)).map d188) false true))], 448⟩ : St)) (show wrap64 ((v1 + 1) + 1) = ((v1 + 1) + 1) by rw [w64 (n := ((v1 + 1) + 1)) (by omega) (by omega)])) ?_
   refine X.rk ⟨[(0, rV 0), (1, iV ((v1 + 1) + 1)), (5, iV (wrap64 (v5 + 1)))], [(0, some (.row 2 188 (((L0.set (Int.toNat v5) (⟨v1, x5.f1⟩ : S188)).set (Int.toNat v5) (⟨x6.f0, (v1 + 1)⟩ : S188)).map d188) false true))], 496⟩ hτ hmix (by kernel_rfl) (by kernel_rfl) (s2 := ⟨[(0, rV 0), (1, iV ((v1 + 1) + 1)), (5, iV (v5 + 1))], [(0, some (.row 2 188 (((L0.set (Int.toNat v5) (⟨v1, x5.f1⟩ : S188)).set (Int.toNat v5) (⟨x6.f0, (v1 + 1)⟩ : S188)).map d188) false true))], 496⟩) (congrArg (fun z : Int => (⟨[(0, rV 0), (1, iV ((v1 + 1) + 1)), (5, iV z)], [(0, some (.row 2 188 (((L0.set (Int.toNat v5) (⟨v1, x5.f1⟩ : S188)).set (Int.toNat v5) (⟨x6.f0, (v1 + 1)⟩ : S188)).map d188) false true))], 496⟩ : St)) (show wrap64 (v5 + 1) = (v5 + 1) by rw [w64 (n := (v5 + 1)) (by omega) (by omega)])) ?_
   refine ⟨⟨(((L0.set (Int.toNat v5) (⟨v1, x5.f1⟩ : S188)).set (Int.toNat v5) (⟨x6.f0, (v1 + 1)⟩ : S188)), ((v1 + 1) + 1), (v5 + 1)), ⟨by first | omega | (dsimp only; omega), by first | omega | (dsimp only; omega), by first | omega | (dsimp only; omega), by simp only [List.length_set]; omega⟩⟩, by first | exact rfl | omega | (dsimp only; omega) | (simp only [List.length_append, List.length_cons, List.length_nil, List.length_set]; omega) | (simp; done) | (simp; omega), Wk.mk' [] (by kernel_rfl) (by kernel_rfl) (by kernel_rfl)⟩
  ·replace hb4 := of_decide_eq_false (hb4)
   refine X.exit ?_
   refine sk ⟨[(4, iV v1)], [(0, some (.row 2 188 (L0.map d188) false true))], 192⟩ ?_
   refine X.ret ?_
   exact ⟨trivial, _, _, ⟨v1, L0, ⟨hL, by omega⟩, rfl, rfl⟩, mkr⟩
 obtain ⟨_, _, ⟨r0, q0, h1_, rfl, rfl⟩, hf⟩ := key
 exact ⟨r0, q0, h1_, hf⟩

theorem l_markAcctS (l : List S38) (k : Int) (hl : acsSm l) (hk : 0 ≤ k ∧ k + 4 * l.length + 2 * acT l ≤ 100000000) : ∃ r0 : Int, ∃ q0 : List S38, (q0.length = l.length ∧ 0 ≤ r0) ∧ Fn Try.prog 59 [rV 0, iV k] (lookH [(0, some (.nst 5 38 [(4, 2, 188)] (l.map d38) []))]) (iV r0) (lookH [(0, some (.nst 5 38 [(4, 2, 188)] (q0.map d38) []))]) := by
 have key : ∃ x' h', ((fun x' h' => ∃ r0 : Int, ∃ q0 : List S38, (q0.length = l.length ∧ 0 ≤ r0) ∧ x' = iV r0 ∧ h' = [(0, some (.nst 5 38 [(4, 2, 188)] (q0.map d38) []))])) x' h' ∧ Fn Try.prog 59 [rV 0, iV k] (lookH [(0, some (.nst 5 38 [(4, 2, 188)] (l.map d38) []))]) x' (lookH h') := by
  refine Fn.bodyX (N := 49) hτ Try.func59 rfl rfl rfl rfl ?_
  refine sk ⟨[(0, rV 0), (1, iV k)], [(0, some (.nst 5 38 [(4, 2, 188)] (l.map d38) []))], 80⟩ ?_
  refine X.seq ?_
  refine sk ⟨[(0, rV 0), (1, iV k), (5, iV 0)], [(0, some (.nst 5 38 [(4, 2, 188)] (l.map d38) []))], 96⟩ ?_
  refine X.block ?_
  -- 2: L0 : List S38, v1 : Int, v5 : Int
  refine X.loop (σ := { g : (List S38) × Int × Int // (fun (L0 : List S38) (v1 : Int) (v5 : Int) => 0 ≤ v5 ∧ v5 ≤ l.length ∧ v1 = k + 4 * v5 + 2 * acT (l.take (v5).toNat) ∧ L0.length = l.length ∧ ∀ (j : Nat), v5 ≤ (j : Int) → L0[j]? = l[j]?) g.1 g.2.1 g.2.2 }) (fun g => (fun (L0 : List S38) (v1 : Int) (v5 : Int) => ⟨[(0, rV 0), (1, iV v1), (5, iV v5)], [(0, some (.nst 5 38 [(4, 2, 188)] (L0.map d38) []))], 96⟩) g.1.1 g.1.2.1 g.1.2.2) (fun g => (fun (L0 : List S38) (v1 : Int) (v5 : Int) => (l.length - v5).toNat) g.1.1 g.1.2.1 g.1.2.2) ⟨(l, k, 0), ⟨by first | omega | (dsimp only; omega), by first | omega | (dsimp only; omega), by simp [acT], rfl, fun _ _ => rfl⟩⟩ (Wk.less (by kernel_rfl)) (fun g => ?_)
  obtain ⟨⟨L0, v1, v5⟩, hg2⟩ := g
  have hg2 : 0 ≤ v5 ∧ v5 ≤ l.length ∧ v1 = k + 4 * v5 + 2 * acT (l.take (v5).toNat) ∧ L0.length = l.length ∧ ∀ (j : Nat), v5 ≤ (j : Int) → L0[j]? = l[j]? := hg2
  obtain ⟨_, _, _, hL, hA⟩ := hg2
  refine X.seq ?_
  refine X.seq ?_
  have hlb : (l.map d38).length = l.length := List.length_map ..
  have hll := hl.1
  have el3 : (L0.map d38).length = L0.length := List.length_map ..
  refine rk ⟨[(0, rV 0), (1, iV v1), (5, iV v5), (9, bV (decide ((v5 : Int) < ((L0.map d38).length : Int))))], [(0, some (.nst 5 38 [(4, 2, 188)] (L0.map d38) []))], 160⟩ ?_
  refine if_ (b := decide ((v5 : Int) < ((L0.map d38).length : Int))) (fun hb4 => ?_) (fun hb4 => ?_)
  ·replace hb4 := of_decide_eq_true (hb4)
   refine X.skip ?_
   refine X.seq ?_
   refine X.block ?_
   refine X.seq ?_
   have hle := acT_le l (Int.toNat v5)
   have hle2 := acT_le l (Int.toNat (v5 + 1))
   refine rs 3 ?_
   obtain ⟨r5, hr7, hf6⟩ := l_markText v1 (by omega)
   replace hr7 := hr7.symm; subst hr7
   refine ca hf6 Try.func58 ?_
   refine CH.idxR hτ (rows := (L0.map d38)) (n := v5) (b := 0) (by kernel_rfl) (by kernel_rfl) (by first | omega | (simp; done) | (simp; omega)) (by simp only [List.length_map, List.length_set]; first | omega | (simp; done) | (simp; omega)) (by kernel_rfl) ?_
   refine go 1 ?_
   obtain ⟨x9, hx9⟩ : ∃ x, L0[Int.toNat v5]? = some x := ⟨_, List.getElem?_eq_getElem (by first | omega | (simp; done) | (simp; omega))⟩
   have hx0 := (hA _ (by omega)).symm.trans hx9; have hx4 := (hl.2 _ (List.mem_of_getElem? hx0)).2; have hst := acT_take (by omega) hx0
   refine CH.stN hτ (rows := (L0.map d38)) (n := Int.toNat v5) (p := 0) (len := 1) (op := []) (L := []) (d38 x9) (by kernel_rfl) (by kernel_rfl) (by rw [List.getElem?_map, hx9]; rfl) trivial trivial (by kernel_rfl) ?_
   refine CH.endk ⟨[(0, rV 0), (1, iV v1), (5, iV v5)], [(0, some (.nst 5 38 [(4, 2, 188)] ((L0.map d38).set (Int.toNat v5) (d38 (⟨(mt v1), x9.f1, x9.f2, x9.f3, x9.f4⟩ : S38))) []))], 272⟩ (by kernel_rfl) (by kernel_rfl) (s2 := ⟨[(0, rV 0), (1, iV v1), (5, iV v5)], [(0, some (.nst 5 38 [(4, 2, 188)] ((L0.set (Int.toNat v5) (⟨(mt v1), x9.f1, x9.f2, x9.f3, x9.f4⟩ : S38)).map d38) []))], 272⟩) (congrArg (fun z : List (List D) => (⟨[(0, rV 0), (1, iV v1), (5, iV v5)], [(0, some (.nst 5 38 [(4, 2, 188)] z []))], 272⟩ : St)) (show ((L0.map d38).set (Int.toNat v5) (d38 (⟨(mt v1), x9.f1, x9.f2, x9.f3, x9.f4⟩ : S38))) = ((L0.set (Int.toNat v5) (⟨(mt v1), x9.f1, x9.f2, x9.f3, x9.f4⟩ : S38)).map d38) from List.map_set.symm)) ?_
   refine X.seq ?_
   refine X.rk ⟨[(0, rV 0), (1, iV (wrap64 (v1 + 1))), (5, iV v5)], [(0, some (.nst 5 38 [(4, 2, 188)] ((L0.set (Int.toNat v5) (⟨(mt v1), x9.f1, x9.f2, x9.f3, x9.f4⟩ : S38)).map d38) []))], 320⟩ hτ hmix (by kernel_rfl) (by kernel_rfl) (s2 := ⟨[(0, rV 0), (1, iV (v1 + 1)), (5, iV v5)], [(0, some (.nst 5 38 [(4, 2, 188)] ((L0.set (Int.toNat v5) (⟨(mt v1), x9.f1, x9.f2, x9.f3, x9.f4⟩ : S38)).map d38) []))], 320⟩) (congrArg (fun z : Int => (⟨[(0, rV 0), (1, iV z), (5, iV v5)], [(0, some (.nst 5 38 [(4, 2, 188)] ((L0.set (Int.toNat v5) (⟨(mt v1), x9.f1, x9.f2, x9.f3, x9.f4⟩ : S38)).map d38) []))], 320⟩ : St)) (show wrap64 (v1 + 1) = (v1 + 1) by rw [w64 (n := (v1 + 1)) (by omega) (by omega)])) ?_
   refine X.seq (rs 3 ?_)
   refine CH.idxR hτ (rows := ((L0.set (Int.toNat v5) (⟨(mt v1), x9.f1, x9.f2, x9.f3, x9.f4⟩ : S38)).map d38)) (n := v5) (b := 0) (by kernel_rfl) (by kernel_rfl) (by first | omega | (simp; done) | (simp; omega)) (by simp only [List.length_map, List.length_set]; first | omega | (simp; done) | (simp; omega)) (by kernel_rfl) ?_
   refine go 1 ?_
   obtain ⟨x10, hx10⟩ : ∃ x, (L0.set (Int.toNat v5) (⟨(mt v1), x9.f1, x9.f2, x9.f3, x9.f4⟩ : S38))[Int.toNat v5]? = some x := ⟨_, List.getElem?_eq_getElem (by first | omega | (simp; done) | (simp; omega))⟩
   have qhx10 := congrArg (fun a : S38 => a.f4.length) (set_get hx10); simp only at qhx10
   refine CH.stN hτ (rows := ((L0.set (Int.toNat v5) (⟨(mt v1), x9.f1, x9.f2, x9.f3, x9.f4⟩ : S38)).map d38)) (n := Int.toNat v5) (p := 1) (len := 1) (op := []) (L := []) (d38 x10) (by kernel_rfl) (by kernel_rfl) (by rw [List.getElem?_map, hx10]; rfl) trivial trivial (by kernel_rfl) ?_
   refine CH.endk ⟨[(0, rV 0), (1, iV (v1 + 1)), (5, iV v5)], [(0, some (.nst 5 38 [(4, 2, 188)] (((L0.set (Int.toNat v5) (⟨(mt v1), x9.f1, x9.f2, x9.f3, x9.f4⟩ : S38)).map d38).set (Int.toNat v5) (d38 (⟨x10.f0, (v1 + 1), x10.f2, x10.f3, x10.f4⟩ : S38))) []))], 416⟩ (by kernel_rfl) (by kernel_rfl) (s2 := ⟨[(0, rV 0), (1, iV (v1 + 1)), (5, iV v5)], [(0, some (.nst 5 38 [(4, 2, 188)] (((L0.set (Int.toNat v5) (⟨(mt v1), x9.f1, x9.f2, x9.f3, x9.f4⟩ : S38)).set (Int.toNat v5) (⟨x10.f0, (v1 + 1), x10.f2, x10.f3, x10.f4⟩ : S38)).map d38) []))], 416⟩) (congrArg (fun z : List (List D) => (⟨[(0, rV 0), (1, iV (v1 + 1)), (5, iV v5)], [(0, some (.nst 5 38 [(4, 2, 188)] z []))], 416⟩ : St)) (show (((L0.set (Int.toNat v5) (⟨(mt v1), x9.f1, x9.f2, x9.f3, x9.f4⟩ : S38)).map d38).set (Int.toNat v5) (d38 (⟨x10.f0, (v1 + 1), x10.f2, x10.f3, x10.f4⟩ : S38))) = (((L0.set (Int.toNat v5) (⟨(mt v1), x9.f1, x9.f2, x9.f3, x9.f4⟩ : S38)).set (Int.toNat v5) (⟨x10.f0, (v1 + 1), x10.f2, x10.f3, x10.f4⟩ : S38)).map d38) from List.map_set.symm)) ?_
   refine X.seq ?_
   refine X.rk ⟨[(0, rV 0), (1, iV (wrap64 ((v1 + 1) + 1))), (5, iV v5)], [(0, some (.nst 5 38 [(4, 2, 188)] (((L0.set (Int.toNat v5) (⟨(mt v1), x9.f1, x9.f2, x9.f3, x9.f4⟩ : S38)).set (Int.toNat v5) (⟨x10.f0, (v1 + 1), x10.f2, x10.f3, x10.f4⟩ : S38)).map d38) []))], 464⟩ hτ hmix (by kernel_rfl) (by kernel_rfl) (s2 := ⟨[(0, rV 0), (1, iV ((v1 + 1) + 1)), (5, iV v5)], [(0, some (.nst 5 38 [(4, 2, 188)] (((L0.set (Int.toNat v5) (⟨(mt v1), x9.f1, x9.f2, x9.f3, x9.f4⟩ : S38)).set (Int.toNat v5) (⟨x10.f0, (v1 + 1), x10.f2, x10.f3, x10.f4⟩ : S38)).map d38) []))], 464⟩) (congrArg (fun z : Int => (⟨[(0, rV 0), (1, iV z), (5, iV v5)], [(0, some (.nst 5 38 [(4, 2, 188)] (((L0.set (Int.toNat v5) (⟨(mt v1), x9.f1, x9.f2, x9.f3, x9.f4⟩ : S38)).set (Int.toNat v5) (⟨x10.f0, (v1 + 1), x10.f2, x10.f3, x10.f4⟩ : S38)).map d38) []))], 464⟩ : St)) (show wrap64 ((v1 + 1) + 1) = ((v1 + 1) + 1) by rw [w64 (n := ((v1 + 1) + 1)) (by omega) (by omega)])) ?_
   refine X.seq (rs 3 ?_)
   refine CH.idxR hτ (rows := (((L0.set (Int.toNat v5) (⟨(mt v1), x9.f1, x9.f2, x9.f3, x9.f4⟩ : S38)).set (Int.toNat v5) (⟨x10.f0, (v1 + 1), x10.f2, x10.f3, x10.f4⟩ : S38)).map d38)) (n := v5) (b := 0) (by kernel_rfl) (by kernel_rfl) (by first | omega | (simp; done) | (simp; omega)) (by simp only [List.length_map, List.length_set]; first | omega | (simp; done) | (simp; omega)) (by kernel_rfl) ?_
   refine go 1 ?_
   obtain ⟨x11, hx11⟩ : ∃ x, ((L0.set (Int.toNat v5) (⟨(mt v1), x9.f1, x9.f2, x9.f3, x9.f4⟩ : S38)).set (Int.toNat v5) (⟨x10.f0, (v1 + 1), x10.f2, x10.f3, x10.f4⟩ : S38))[Int.toNat v5]? = some x := ⟨_, List.getElem?_eq_getElem (by first | omega | (simp; done) | (simp; omega))⟩
   have qhx11 := congrArg (fun a : S38 => a.f4.length) (set_get hx11); simp only at qhx11
   refine CH.stN hτ (rows := (((L0.set (Int.toNat v5) (⟨(mt v1), x9.f1, x9.f2, x9.f3, x9.f4⟩ : S38)).set (Int.toNat v5) (⟨x10.f0, (v1 + 1), x10.f2, x10.f3, x10.f4⟩ : S38)).map d38)) (n := Int.toNat v5) (p := 2) (len := 1) (op := []) (L := []) (d38 x11) (by kernel_rfl) (by kernel_rfl) (by rw [List.getElem?_map, hx11]; rfl) trivial trivial (by kernel_rfl) ?_
   refine CH.endk ⟨[(0, rV 0), (1, iV ((v1 + 1) + 1)), (5, iV v5)], [(0, some (.nst 5 38 [(4, 2, 188)] ((((L0.set (Int.toNat v5) (⟨(mt v1), x9.f1, x9.f2, x9.f3, x9.f4⟩ : S38)).set (Int.toNat v5) (⟨x10.f0, (v1 + 1), x10.f2, x10.f3, x10.f4⟩ : S38)).map d38).set (Int.toNat v5) (d38 (⟨x11.f0, x11.f1, ((v1 + 1) + 1), x11.f3, x11.f4⟩ : S38))) []))], 560⟩ (by kernel_rfl) (by kernel_rfl) (s2 := ⟨[(0, rV 0), (1, iV ((v1 + 1) + 1)), (5, iV v5)], [(0, some (.nst 5 38 [(4, 2, 188)] ((((L0.set (Int.toNat v5) (⟨(mt v1), x9.f1, x9.f2, x9.f3, x9.f4⟩ : S38)).set (Int.toNat v5) (⟨x10.f0, (v1 + 1), x10.f2, x10.f3, x10.f4⟩ : S38)).set (Int.toNat v5) (⟨x11.f0, x11.f1, ((v1 + 1) + 1), x11.f3, x11.f4⟩ : S38)).map d38) []))], 560⟩) (congrArg (fun z : List (List D) => (⟨[(0, rV 0), (1, iV ((v1 + 1) + 1)), (5, iV v5)], [(0, some (.nst 5 38 [(4, 2, 188)] z []))], 560⟩ : St)) (show ((((L0.set (Int.toNat v5) (⟨(mt v1), x9.f1, x9.f2, x9.f3, x9.f4⟩ : S38)).set (Int.toNat v5) (⟨x10.f0, (v1 + 1), x10.f2, x10.f3, x10.f4⟩ : S38)).map d38).set (Int.toNat v5) (d38 (⟨x11.f0, x11.f1, ((v1 + 1) + 1), x11.f3, x11.f4⟩ : S38))) = ((((L0.set (Int.toNat v5) (⟨(mt v1), x9.f1, x9.f2, x9.f3, x9.f4⟩ : S38)).set (Int.toNat v5) (⟨x10.f0, (v1 + 1), x10.f2, x10.f3, x10.f4⟩ : S38)).set (Int.toNat v5) (⟨x11.f0, x11.f1, ((v1 + 1) + 1), x11.f3, x11.f4⟩ : S38)).map d38) from List.map_set.symm)) ?_
   refine X.seq ?_
   refine X.rk ⟨[(0, rV 0), (1, iV (wrap64 (((v1 + 1) + 1) + 1))), (5, iV v5)], [(0, some (.nst 5 38 [(4, 2, 188)] ((((L0.set (Int.toNat v5) (⟨(mt v1), x9.f1, x9.f2, x9.f3, x9.f4⟩ : S38)).set (Int.toNat v5) (⟨x10.f0, (v1 + 1), x10.f2, x10.f3, x10.f4⟩ : S38)).set (Int.toNat v5) (⟨x11.f0, x11.f1, ((v1 + 1) + 1), x11.f3, x11.f4⟩ : S38)).map d38) []))], 608⟩ hτ hmix (by kernel_rfl) (by kernel_rfl) (s2 := ⟨[(0, rV 0), (1, iV (((v1 + 1) + 1) + 1)), (5, iV v5)], [(0, some (.nst 5 38 [(4, 2, 188)] ((((L0.set (Int.toNat v5) (⟨(mt v1), x9.f1, x9.f2, x9.f3, x9.f4⟩ : S38)).set (Int.toNat v5) (⟨x10.f0, (v1 + 1), x10.f2, x10.f3, x10.f4⟩ : S38)).set (Int.toNat v5) (⟨x11.f0, x11.f1, ((v1 + 1) + 1), x11.f3, x11.f4⟩ : S38)).map d38) []))], 608⟩) (congrArg (fun z : Int => (⟨[(0, rV 0), (1, iV z), (5, iV v5)], [(0, some (.nst 5 38 [(4, 2, 188)] ((((L0.set (Int.toNat v5) (⟨(mt v1), x9.f1, x9.f2, x9.f3, x9.f4⟩ : S38)).set (Int.toNat v5) (⟨x10.f0, (v1 + 1), x10.f2, x10.f3, x10.f4⟩ : S38)).set (Int.toNat v5) (⟨x11.f0, x11.f1, ((v1 + 1) + 1), x11.f3, x11.f4⟩ : S38)).map d38) []))], 608⟩ : St)) (show wrap64 (((v1 + 1) + 1) + 1) = (((v1 + 1) + 1) + 1) by rw [w64 (n := (((v1 + 1) + 1) + 1)) (by omega) (by omega)])) ?_
   refine X.seq (rs 3 ?_)
   refine CH.idxR hτ (rows := ((((L0.set (Int.toNat v5) (⟨(mt v1), x9.f1, x9.f2, x9.f3, x9.f4⟩ : S38)).set (Int.toNat v5) (⟨x10.f0, (v1 + 1), x10.f2, x10.f3, x10.f4⟩ : S38)).set (Int.toNat v5) (⟨x11.f0, x11.f1, ((v1 + 1) + 1), x11.f3, x11.f4⟩ : S38)).map d38)) (n := v5) (b := 0) (by kernel_rfl) (by kernel_rfl) (by first | omega | (simp; done) | (simp; omega)) (by simp only [List.length_map, List.length_set]; first | omega | (simp; done) | (simp; omega)) (by kernel_rfl) ?_
   refine go 1 ?_
   obtain ⟨x12, hx12⟩ : ∃ x, (((L0.set (Int.toNat v5) (⟨(mt v1), x9.f1, x9.f2, x9.f3, x9.f4⟩ : S38)).set (Int.toNat v5) (⟨x10.f0, (v1 + 1), x10.f2, x10.f3, x10.f4⟩ : S38)).set (Int.toNat v5) (⟨x11.f0, x11.f1, ((v1 + 1) + 1), x11.f3, x11.f4⟩ : S38))[Int.toNat v5]? = some x := ⟨_, List.getElem?_eq_getElem (by first | omega | (simp; done) | (simp; omega))⟩
   have qhx12 := congrArg (fun a : S38 => a.f4.length) (set_get hx12); simp only at qhx12
   refine CH.stN hτ (rows := ((((L0.set (Int.toNat v5) (⟨(mt v1), x9.f1, x9.f2, x9.f3, x9.f4⟩ : S38)).set (Int.toNat v5) (⟨x10.f0, (v1 + 1), x10.f2, x10.f3, x10.f4⟩ : S38)).set (Int.toNat v5) (⟨x11.f0, x11.f1, ((v1 + 1) + 1), x11.f3, x11.f4⟩ : S38)).map d38)) (n := Int.toNat v5) (p := 3) (len := 1) (op := []) (L := []) (d38 x12) (by kernel_rfl) (by kernel_rfl) (by rw [List.getElem?_map, hx12]; rfl) trivial trivial (by kernel_rfl) ?_
   refine CH.endk ⟨[(0, rV 0), (1, iV (((v1 + 1) + 1) + 1)), (5, iV v5)], [(0, some (.nst 5 38 [(4, 2, 188)] (((((L0.set (Int.toNat v5) (⟨(mt v1), x9.f1, x9.f2, x9.f3, x9.f4⟩ : S38)).set (Int.toNat v5) (⟨x10.f0, (v1 + 1), x10.f2, x10.f3, x10.f4⟩ : S38)).set (Int.toNat v5) (⟨x11.f0, x11.f1, ((v1 + 1) + 1), x11.f3, x11.f4⟩ : S38)).map d38).set (Int.toNat v5) (d38 (⟨x12.f0, x12.f1, x12.f2, (((v1 + 1) + 1) + 1), x12.f4⟩ : S38))) []))], 704⟩ (by kernel_rfl) (by kernel_rfl) (s2 := ⟨[(0, rV 0), (1, iV (((v1 + 1) + 1) + 1)), (5, iV v5)], [(0, some (.nst 5 38 [(4, 2, 188)] (((((L0.set (Int.toNat v5) (⟨(mt v1), x9.f1, x9.f2, x9.f3, x9.f4⟩ : S38)).set (Int.toNat v5) (⟨x10.f0, (v1 + 1), x10.f2, x10.f3, x10.f4⟩ : S38)).set (Int.toNat v5) (⟨x11.f0, x11.f1, ((v1 + 1) + 1), x11.f3, x11.f4⟩ : S38)).set (Int.toNat v5) (⟨x12.f0, x12.f1, x12.f2, (((v1 + 1) + 1) + 1), x12.f4⟩ : S38)).map d38) []))], 704⟩) (congrArg (fun z : List (List D) => (⟨[(0, rV 0), (1, iV (((v1 + 1) + 1) + 1)), (5, iV v5)], [(0, some (.nst 5 38 [(4, 2, 188)] z []))], 704⟩ : St)) (show (((((L0.set (Int.toNat v5) (⟨(mt v1), x9.f1, x9.f2, x9.f3, x9.f4⟩ : S38)).set (Int.toNat v5) (⟨x10.f0, (v1 + 1), x10.f2, x10.f3, x10.f4⟩ : S38)).set (Int.toNat v5) (⟨x11.f0, x11.f1, ((v1 + 1) + 1), x11.f3, x11.f4⟩ : S38)).map d38).set (Int.toNat v5) (d38 (⟨x12.f0, x12.f1, x12.f2, (((v1 + 1) + 1) + 1), x12.f4⟩ : S38))) = (((((L0.set (Int.toNat v5) (⟨(mt v1), x9.f1, x9.f2, x9.f3, x9.f4⟩ : S38)).set (Int.toNat v5) (⟨x10.f0, (v1 + 1), x10.f2, x10.f3, x10.f4⟩ : S38)).set (Int.toNat v5) (⟨x11.f0, x11.f1, ((v1 + 1) + 1), x11.f3, x11.f4⟩ : S38)).set (Int.toNat v5) (⟨x12.f0, x12.f1, x12.f2, (((v1 + 1) + 1) + 1), x12.f4⟩ : S38)).map d38) from List.map_set.symm)) ?_
   refine X.seq ?_
   refine X.rk ⟨[(0, rV 0), (1, iV (wrap64 ((((v1 + 1) + 1) + 1) + 1))), (5, iV v5)], [(0, some (.nst 5 38 [(4, 2, 188)] (((((L0.set (Int.toNat v5) (⟨(mt v1), x9.f1, x9.f2, x9.f3, x9.f4⟩ : S38)).set (Int.toNat v5) (⟨x10.f0, (v1 + 1), x10.f2, x10.f3, x10.f4⟩ : S38)).set (Int.toNat v5) (⟨x11.f0, x11.f1, ((v1 + 1) + 1), x11.f3, x11.f4⟩ : S38)).set (Int.toNat v5) (⟨x12.f0, x12.f1, x12.f2, (((v1 + 1) + 1) + 1), x12.f4⟩ : S38)).map d38) []))], 752⟩ hτ hmix (by kernel_rfl) (by kernel_rfl) (s2 := ⟨[(0, rV 0), (1, iV ((((v1 + 1) + 1) + 1) + 1)), (5, iV v5)], [(0, some (.nst 5 38 [(4, 2, 188)] (((((L0.set (Int.toNat v5) (⟨(mt v1), x9.f1, x9.f2, x9.f3, x9.f4⟩ : S38)).set (Int.toNat v5) (⟨x10.f0, (v1 + 1), x10.f2, x10.f3, x10.f4⟩ : S38)).set (Int.toNat v5) (⟨x11.f0, x11.f1, ((v1 + 1) + 1), x11.f3, x11.f4⟩ : S38)).set (Int.toNat v5) (⟨x12.f0, x12.f1, x12.f2, (((v1 + 1) + 1) + 1), x12.f4⟩ : S38)).map d38) []))], 752⟩) (congrArg (fun z : Int => (⟨[(0, rV 0), (1, iV z), (5, iV v5)], [(0, some (.nst 5 38 [(4, 2, 188)] (((((L0.set (Int.toNat v5) (⟨(mt v1), x9.f1, x9.f2, x9.f3, x9.f4⟩ : S38)).set (Int.toNat v5) (⟨x10.f0, (v1 + 1), x10.f2, x10.f3, x10.f4⟩ : S38)).set (Int.toNat v5) (⟨x11.f0, x11.f1, ((v1 + 1) + 1), x11.f3, x11.f4⟩ : S38)).set (Int.toNat v5) (⟨x12.f0, x12.f1, x12.f2, (((v1 + 1) + 1) + 1), x12.f4⟩ : S38)).map d38) []))], 752⟩ : St)) (show wrap64 ((((v1 + 1) + 1) + 1) + 1) = ((((v1 + 1) + 1) + 1) + 1) by rw [w64 (n := ((((v1 + 1) + 1) + 1) + 1)) (by omega) (by omega)])) ?_
   refine rs 2 ?_
   refine CH.idxR hτ (rows := (((((L0.set (Int.toNat v5) (⟨(mt v1), x9.f1, x9.f2, x9.f3, x9.f4⟩ : S38)).set (Int.toNat v5) (⟨x10.f0, (v1 + 1), x10.f2, x10.f3, x10.f4⟩ : S38)).set (Int.toNat v5) (⟨x11.f0, x11.f1, ((v1 + 1) + 1), x11.f3, x11.f4⟩ : S38)).set (Int.toNat v5) (⟨x12.f0, x12.f1, x12.f2, (((v1 + 1) + 1) + 1), x12.f4⟩ : S38)).map d38)) (n := v5) (b := 0) (by kernel_rfl) (by kernel_rfl) (by first | omega | (simp; done) | (simp; omega)) (by simp only [List.length_map, List.length_set]; first | omega | (simp; done) | (simp; omega)) (by kernel_rfl) ?_
   refine go 1 ?_
   obtain ⟨x13, hx13⟩ : ∃ x, ((((L0.set (Int.toNat v5) (⟨(mt v1), x9.f1, x9.f2, x9.f3, x9.f4⟩ : S38)).set (Int.toNat v5) (⟨x10.f0, (v1 + 1), x10.f2, x10.f3, x10.f4⟩ : S38)).set (Int.toNat v5) (⟨x11.f0, x11.f1, ((v1 + 1) + 1), x11.f3, x11.f4⟩ : S38)).set (Int.toNat v5) (⟨x12.f0, x12.f1, x12.f2, (((v1 + 1) + 1) + 1), x12.f4⟩ : S38))[Int.toNat v5]? = some x := ⟨_, List.getElem?_eq_getElem (by first | omega | (simp; done) | (simp; omega))⟩
   have qhx13 := congrArg (fun a : S38 => a.f4.length) (set_get hx13); simp only at qhx13
   refine CH.ldN hτ (rows := (((((L0.set (Int.toNat v5) (⟨(mt v1), x9.f1, x9.f2, x9.f3, x9.f4⟩ : S38)).set (Int.toNat v5) (⟨x10.f0, (v1 + 1), x10.f2, x10.f3, x10.f4⟩ : S38)).set (Int.toNat v5) (⟨x11.f0, x11.f1, ((v1 + 1) + 1), x11.f3, x11.f4⟩ : S38)).set (Int.toNat v5) (⟨x12.f0, x12.f1, x12.f2, (((v1 + 1) + 1) + 1), x12.f4⟩ : S38)).map d38)) (n := Int.toNat v5) (p := 4) (op := []) (d38 x13) (.sl (x13.f4.map d188)) (by kernel_rfl) (by kernel_rfl) (by rw [List.getElem?_map, hx13]; rfl) rfl trivial (by kernel_rfl) ?_
   refine go 1 ?_
   obtain ⟨r14, q15, hr17, hf16⟩ := l_markLeaveS x13.f4 ((((v1 + 1) + 1) + 1) + 1) (by first | assumption | omega) (by first | assumption | omega)
   obtain ⟨hql, hqk⟩ := hr17
   refine CH.callB hf16 Try.func123 ⟨rfl, rfl⟩ 816 2 188 (x13.f4.map d188) true 188 (q15.map d188) (by kernel_rfl) (by kernel_rfl) (by kernel_rfl) (by kernel_rfl) (by kernel_rfl) (by first | (simp; done) | (simp; omega)) (by kernel_rfl) ?_
   refine go 1 ?_
   refine ek ⟨[(0, rV 0), (1, iV r14), (5, iV v5)], [(0, some (.nst 5 38 [(4, 2, 188)] (((((L0.set (Int.toNat v5) (⟨(mt v1), x9.f1, x9.f2, x9.f3, x9.f4⟩ : S38)).set (Int.toNat v5) (⟨x10.f0, (v1 + 1), x10.f2, x10.f3, x10.f4⟩ : S38)).set (Int.toNat v5) (⟨x11.f0, x11.f1, ((v1 + 1) + 1), x11.f3, x11.f4⟩ : S38)).set (Int.toNat v5) (⟨x12.f0, x12.f1, x12.f2, (((v1 + 1) + 1) + 1), x12.f4⟩ : S38)).map d38) [(Int.toNat v5, 4, 816)])), (816, some (.row 2 188 (q15.map d188) false true))], 880⟩ ?_
   refine X.weak (Wk.closeN (wd := 5) (wd' := 2) (i := Int.toNat v5) (j := 4) (r := 816) (e := 38) (ty := 188) (co := [(4, 2, 188)]) (rows := (((((L0.set (Int.toNat v5) (⟨(mt v1), x9.f1, x9.f2, x9.f3, x9.f4⟩ : S38)).set (Int.toNat v5) (⟨x10.f0, (v1 + 1), x10.f2, x10.f3, x10.f4⟩ : S38)).set (Int.toNat v5) (⟨x11.f0, x11.f1, ((v1 + 1) + 1), x11.f3, x11.f4⟩ : S38)).set (Int.toNat v5) (⟨x12.f0, x12.f1, x12.f2, (((v1 + 1) + 1) + 1), x12.f4⟩ : S38)).map d38)) (q := (q15.map d188)) (op2 := []) 0 (d38 x13) (by kernel_rfl) (by kernel_rfl) (by rw [List.getElem?_map, hx13]; rfl) (flat_d d188 (fun x => rfl)) (by exact trivial) (by kernel_rfl) (by kernel_rfl) (by kernel_rfl) (by kernel_rfl)) ?_
   refine X.sub (fun z : List (List D) => (⟨[(0, rV 0), (1, iV r14), (5, iV v5)], (0, some (.nst 5 38 [(4, 2, 188)] z [])) :: (816, none) :: [(0, some (.nst 5 38 [(4, 2, 188)] (((((L0.set (Int.toNat v5) (⟨(mt v1), x9.f1, x9.f2, x9.f3, x9.f4⟩ : S38)).set (Int.toNat v5) (⟨x10.f0, (v1 + 1), x10.f2, x10.f3, x10.f4⟩ : S38)).set (Int.toNat v5) (⟨x11.f0, x11.f1, ((v1 + 1) + 1), x11.f3, x11.f4⟩ : S38)).set (Int.toNat v5) (⟨x12.f0, x12.f1, x12.f2, (((v1 + 1) + 1) + 1), x12.f4⟩ : S38)).map d38) [(Int.toNat v5, 4, 816)])), (816, some (.row 2 188 (q15.map d188) false true))], 880⟩ : St)) (show (((((L0.set (Int.toNat v5) (⟨(mt v1), x9.f1, x9.f2, x9.f3, x9.f4⟩ : S38)).set (Int.toNat v5) (⟨x10.f0, (v1 + 1), x10.f2, x10.f3, x10.f4⟩ : S38)).set (Int.toNat v5) (⟨x11.f0, x11.f1, ((v1 + 1) + 1), x11.f3, x11.f4⟩ : S38)).set (Int.toNat v5) (⟨x12.f0, x12.f1, x12.f2, (((v1 + 1) + 1) + 1), x12.f4⟩ : S38)).map d38).set (Int.toNat v5) ((d38 x13).set 4 (.sl (q15.map d188))) = ((((((L0.set (Int.toNat v5) (⟨(mt v1), x9.f1, x9.f2, x9.f3, x9.f4⟩ : S38)).set (Int.toNat v5) (⟨x10.f0, (v1 + 1), x10.f2, x10.f3, x10.f4⟩ : S38)).set (Int.toNat v5) (⟨x11.f0, x11.f1, ((v1 + 1) + 1), x11.f3, x11.f4⟩ : S38)).set (Int.toNat v5) (⟨x12.f0, x12.f1, x12.f2, (((v1 + 1) + 1) + 1), x12.f4⟩ : S38)).set (Int.toNat v5) (⟨x13.f0, x13.f1, x13.f2, x13.f3, q15⟩ : S38)).map d38) from (List.map_set (f := d38) (l := ((((L0.set (Int.toNat v5) (⟨(mt v1), x9.f1, x9.f2, x9.f3, x9.f4⟩ : S38)).set (Int.toNat v5) (⟨x10.f0, (v1 + 1), x10.f2, x10.f3, x10.f4⟩ : S38)).set (Int.toNat v5) (⟨x11.f0, x11.f1, ((v1 + 1) + 1), x11.f3, x11.f4⟩ : S38)).set (Int.toNat v5) (⟨x12.f0, x12.f1, x12.f2, (((v1 + 1) + 1) + 1), x12.f4⟩ : S38))) (i := Int.toNat v5) (a := (⟨x13.f0, x13.f1, x13.f2, x13.f3, q15⟩ : S38))).symm) ?_
   refine X.weak (Wk.less (s1 := ⟨[(0, rV 0), (1, iV r14), (5, iV v5)], [(0, some (.nst 5 38 [(4, 2, 188)] ((((((L0.set (Int.toNat v5) (⟨(mt v1), x9.f1, x9.f2, x9.f3, x9.f4⟩ : S38)).set (Int.toNat v5) (⟨x10.f0, (v1 + 1), x10.f2, x10.f3, x10.f4⟩ : S38)).set (Int.toNat v5) (⟨x11.f0, x11.f1, ((v1 + 1) + 1), x11.f3, x11.f4⟩ : S38)).set (Int.toNat v5) (⟨x12.f0, x12.f1, x12.f2, (((v1 + 1) + 1) + 1), x12.f4⟩ : S38)).set (Int.toNat v5) (⟨x13.f0, x13.f1, x13.f2, x13.f3, q15⟩ : S38)).map d38) []))], 880⟩) (by kernel_rfl)) ?_
   refine X.rk ⟨[(0, rV 0), (1, iV r14), (5, iV (wrap64 (v5 + 1)))], [(0, some (.nst 5 38 [(4, 2, 188)] ((((((L0.set (Int.toNat v5) (⟨(mt v1), x9.f1, x9.f2, x9.f3, x9.f4⟩ : S38)).set (Int.toNat v5) (⟨x10.f0, (v1 + 1), x10.f2, x10.f3, x10.f4⟩ : S38)).set (Int.toNat v5) (⟨x11.f0, x11.f1, ((v1 + 1) + 1), x11.f3, x11.f4⟩ : S38)).set (Int.toNat v5) (⟨x12.f0, x12.f1, x12.f2, (((v1 + 1) + 1) + 1), x12.f4⟩ : S38)).set (Int.toNat v5) (⟨x13.f0, x13.f1, x13.f2, x13.f3, q15⟩ : S38)).map d38) []))], 928⟩ hτ hmix (by kernel_rfl) (by kernel_rfl) (s2 := ⟨[(0, rV 0), (1, iV r14), (5, iV (v5 + 1))], [(0, some (.nst 5 38 [(4, 2, 188)] ((((((L0.set (Int.toNat v5) (⟨(mt v1), x9.f1, x9.f2, x9.f3, x9.f4⟩ : S38)).set (Int.toNat v5) (⟨x10.f0, (v1 + 1), x10.f2, x10.f3, x10.f4⟩ : S38)).set (Int.toNat v5) (⟨x11.f0, x11.f1, ((v1 + 1) + 1), x11.f3, x11.f4⟩ : S38)).set (Int.toNat v5) (⟨x12.f0, x12.f1, x12.f2, (((v1 + 1) + 1) + 1), x12.f4⟩ : S38)).set (Int.toNat v5) (⟨x13.f0, x13.f1, x13.f2, x13.f3, q15⟩ : S38)).map d38) []))], 928⟩) (congrArg (fun z : Int => (⟨[(0, rV 0), (1, iV r14), (5, iV z)], [(0, some (.nst 5 38 [(4, 2, 188)] ((((((L0.set (Int.toNat v5) (⟨(mt v1), x9.f1, x9.f2, x9.f3, x9.f4⟩ : S38)).set (Int.toNat v5) (⟨x10.f0, (v1 + 1), x10.f2, x10.f3, x10.f4⟩ : S38)).set (Int.toNat v5) (⟨x11.f0, x11.f1, ((v1 + 1) + 1), x11.f3, x11.f4⟩ : S38)).set (Int.toNat v5) (⟨x12.f0, x12.f1, x12.f2, (((v1 + 1) + 1) + 1), x12.f4⟩ : S38)).set (Int.toNat v5) (⟨x13.f0, x13.f1, x13.f2, x13.f3, q15⟩ : S38)).map d38) []))], 928⟩ : St)) (show wrap64 (v5 + 1) = (v5 + 1) by rw [w64 (n := (v5 + 1)) (by omega) (by omega)])) ?_
   refine ⟨⟨((((((L0.set (Int.toNat v5) (⟨(mt v1), x9.f1, x9.f2, x9.f3, x9.f4⟩ : S38)).set (Int.toNat v5) (⟨x10.f0, (v1 + 1), x10.f2, x10.f3, x10.f4⟩ : S38)).set (Int.toNat v5) (⟨x11.f0, x11.f1, ((v1 + 1) + 1), x11.f3, x11.f4⟩ : S38)).set (Int.toNat v5) (⟨x12.f0, x12.f1, x12.f2, (((v1 + 1) + 1) + 1), x12.f4⟩ : S38)).set (Int.toNat v5) (⟨x13.f0, x13.f1, x13.f2, x13.f3, q15⟩ : S38)), r14, (v5 + 1)), ⟨by first | omega | (dsimp only; omega), by first | omega | (dsimp only; omega), by first | omega | (dsimp only; omega), by simp only [List.length_set]; omega, fun j hj => by (try dsimp only at hj); (try dsimp only); simp only [List.set_set]; rw [List.getElem?_set_ne (by first | omega | (dsimp only; omega))]; exact hA j (by first | omega | (dsimp only; omega))⟩⟩, by first | exact rfl | omega | (dsimp only; omega) | (simp only [List.length_append, List.length_cons, List.length_nil, List.length_set]; omega) | (simp; done) | (simp; omega), Wk.mk' [] (by kernel_rfl) (by kernel_rfl) (by kernel_rfl)⟩
  ·replace hb4 := of_decide_eq_false (hb4)
   refine X.exit ?_
   refine sk ⟨[(4, iV v1)], [(0, some (.nst 5 38 [(4, 2, 188)] (L0.map d38) []))], 192⟩ ?_
   refine X.ret ?_
   exact ⟨trivial, _, _, ⟨v1, L0, ⟨hL, by omega⟩, rfl, rfl⟩, mkr⟩
 obtain ⟨_, _, ⟨r0, q0, h1_, rfl, rfl⟩, hf⟩ := key
 exact ⟨r0, q0, h1_, hf⟩

theorem l_markLedger (g : S27) (k : Int) (hl : acsSm g.f1) (hk : 0 ≤ k ∧ k + 4 * g.f1.length + 2 * acT g.f1 ≤ 100000000) : ∃ r0 : Int, ∃ q0 : List S38, (q0.length = g.f1.length ∧ 0 ≤ r0) ∧ Fn Try.prog 22 [.e (.agg [.d (.v (.int .i64 g.f0)), .ref 0]), iV k] (lookH [(0, some (.nst 5 38 [(4, 2, 188)] (g.f1.map d38) []))]) (iV r0) (lookH [(0, some (.nst 5 38 [(4, 2, 188)] (q0.map d38) []))]) := by
 have key : ∃ x' h', ((fun x' h' => ∃ r0 : Int, ∃ q0 : List S38, (q0.length = g.f1.length ∧ 0 ≤ r0) ∧ x' = iV r0 ∧ h' = [(0, some (.nst 5 38 [(4, 2, 188)] (q0.map d38) []))])) x' h' ∧ Fn Try.prog 22 [.e (.agg [.d (.v (.int .i64 g.f0)), .ref 0]), iV k] (lookH [(0, some (.nst 5 38 [(4, 2, 188)] (g.f1.map d38) []))]) x' (lookH h') := by
  refine Fn.bodyX (N := 10) hτ Try.func22 rfl rfl rfl rfl ?_
  refine sk ⟨[(1, iV k), (2, .pt 64 0 0)], [(0, some (.nst 5 38 [(4, 2, 188)] (g.f1.map d38) [])), (64, some (.box [.d (.v (.int .i64 g.f0)), .ref 0]))], 96⟩ ?_
  refine X.seq (rs 3 ?_)
  obtain ⟨r1, q2, hr4, hf3⟩ := l_markAcctS g.f1 k (by assumption) (by first | assumption | omega)
  obtain ⟨hmq, hmk⟩ := hr4
  refine CH.callG hf3 Try.func59 ⟨rfl, rfl⟩ [(0, 0)] (by kernel_rfl) (by kernel_rfl) (by kernel_rfl) (nb := true) (fun _ => (back_consN 5 38 [(4, 2, 188)] (g.f1.map d38) 38 [(4, 2, 188)] (q2.map d38) (by kernel_rfl) (by kernel_rfl) (by first | (simp; done) | (simp only [List.length_map]; first | assumption | omega) | (simp; omega)) back_nil)) (by kernel_rfl) ?_
  refine go 1 ?_
  refine ek ⟨[(1, iV r1)], [(0, some (.nst 5 38 [(4, 2, 188)] (q2.map d38) []))], 176⟩ ?_
  refine sk ⟨[(4, iV r1)], [(0, some (.nst 5 38 [(4, 2, 188)] (q2.map d38) []))], 208⟩ ?_
  refine X.ret ?_
  exact ⟨trivial, _, _, ⟨r1, q2, ⟨hmq, hmk⟩, rfl, rfl⟩, mkr⟩
 obtain ⟨_, _, ⟨r0, q0, h1_, rfl, rfl⟩, hf⟩ := key
 exact ⟨r0, q0, h1_, hf⟩

theorem s_PoolFit (l : List S35) (q : S27) (hl : SmT l) (hg : acsSm q.f1) : ∃ r0 : List S35, (r0 = fitW q l) ∧ Fn Try.prog 16 [lV (l.map d35), .e (.agg [.d (.v (.int .i64 q.f0)), .d (.sl (q.f1.map d38))])] (lookH []) (.e (.c (.f (.sl (r0.map d35))))) (lookH []) := by
 have key : ∃ x' h', ((fun x' h' => ∃ r0 : List S35, (r0 = fitW q l) ∧ x' = .e (.c (.f (.sl (r0.map d35)))) ∧ h' = [])) x' h' ∧ Fn Try.prog 16 [lV (l.map d35), .e (.agg [.d (.v (.int .i64 q.f0)), .d (.sl (q.f1.map d38))])] (lookH []) x' (lookH h') := by
  refine Fn.bodyX (N := 36) hτ Try.func16 rfl rfl rfl rfl ?_
  refine sk ⟨[(0, lV (l.map d35)), (3, .pt 64 0 0)], [(64, some (.box [.d (.v (.int .i64 q.f0)), .d (.sl (q.f1.map d38))]))], 96⟩ ?_
  refine sk ⟨[(0, lV (l.map d35)), (3, .pt 64 0 0), (5, rV 96)], [(64, some (.box [.d (.v (.int .i64 q.f0)), .d (.sl (q.f1.map d38))])), (96, some (.row 5 35 [] false true))], 128⟩ ?_
  refine X.seq ?_
  refine X.seq ?_
  have hll := hl.1
  have hgl := hg.1
  refine rk ⟨[(0, lV (l.map d35)), (3, .pt 64 0 0), (5, rV 96), (6, iV 0)], [(64, some (.box [.d (.v (.int .i64 q.f0)), .d (.sl (q.f1.map d38))])), (96, some (.row 5 35 [] false true))], 144⟩ ?_
  refine X.block ?_
  -- 3: c64_0 : Int, c64_1 : List S38, Lv5 : List S35, v6 : Int
  refine X.loop (σ := { g : Int × (List S38) × (List S35) × Int // (fun (c64_0 : Int) (c64_1 : List S38) (Lv5 : List S35) (v6 : Int) => 0 ≤ v6 ∧ v6 ≤ l.length ∧ Lv5.length ≤ (v6).toNat ∧ fitI l q Lv5 ⟨c64_0, c64_1⟩ v6 ∧ acsSm c64_1) g.1 g.2.1 g.2.2.1 g.2.2.2 }) (fun g => (fun (c64_0 : Int) (c64_1 : List S38) (Lv5 : List S35) (v6 : Int) => ⟨[(0, lV (l.map d35)), (3, .pt 64 0 0), (5, rV 96), (6, iV v6)], [(64, some (.box [.d (.v (.int .i64 c64_0)), .d (.sl (c64_1.map d38))])), (96, some (.row 5 35 (Lv5.map d35) false true))], 144⟩) g.1.1 g.1.2.1 g.1.2.2.1 g.1.2.2.2) (fun g => (fun (c64_0 : Int) (c64_1 : List S38) (Lv5 : List S35) (v6 : Int) => (l.length - v6).toNat) g.1.1 g.1.2.1 g.1.2.2.1 g.1.2.2.2) ⟨(q.f0, q.f1, [], 0), ⟨by first | omega | (dsimp only; omega), by first | omega | (dsimp only; omega), by simp, fi_i0, hg⟩⟩ (Wk.less (by kernel_rfl)) (fun g => ?_)
  obtain ⟨⟨c64_0, c64_1, Lv5, v6⟩, hg2⟩ := g
  have hg2 : 0 ≤ v6 ∧ v6 ≤ l.length ∧ Lv5.length ≤ (v6).toNat ∧ fitI l q Lv5 ⟨c64_0, c64_1⟩ v6 ∧ acsSm c64_1 := hg2
  obtain ⟨_, _, hL, hE, hG⟩ := hg2
  refine X.seq ?_
  refine X.seq ?_
  have el3 : (l.map d35).length = l.length := List.length_map ..
  refine rk ⟨[(0, lV (l.map d35)), (3, .pt 64 0 0), (5, rV 96), (6, iV v6), (13, bV (decide ((v6 : Int) < ((l.map d35).length : Int))))], [(64, some (.box [.d (.v (.int .i64 c64_0)), .d (.sl (c64_1.map d38))])), (96, some (.row 5 35 (Lv5.map d35) false true))], 208⟩ ?_
  refine if_ (b := decide ((v6 : Int) < ((l.map d35).length : Int))) (fun hb4 => ?_) (fun hb4 => ?_)
  ·replace hb4 := of_decide_eq_true (hb4)
   refine X.skip ?_
   refine X.seq ?_
   refine X.block ?_
   refine X.seq (rs 3 ?_)
   obtain ⟨x5, hx5⟩ : ∃ x, l[Int.toNat v6]? = some x := ⟨_, List.getElem?_eq_getElem (by first | omega | (simp; done) | (simp; omega))⟩
   have htx := all_at hl.2 hx5
   refine CH.idx hτ (d35 x5) (rows := (l.map d35)) (n := v6) (sz := 5) (by kernel_rfl) (by kernel_rfl) (by first | omega | (simp; done) | (simp; omega)) (by rw [List.getElem?_map, hx5]; rfl) (by kernel_rfl) ?_
   refine go 1 ?_
   obtain ⟨r6, r7, hr9, hf8⟩ := s_Apply (⟨c64_0, c64_1⟩ : S27) x5 (by assumption) (by assumption)
   obtain ⟨e10, e11⟩ := hr9
   replace e10 := e10.symm; subst e10
   replace e11 := e11.symm; subst e11
   have hap := ap_sm (t := x5) (g := (⟨c64_0, c64_1⟩ : S27)) (by assumption) (by assumption)
   refine ca hf8 Try.func53 ?_
   refine go 6 ?_
   refine ek ⟨[(0, lV (l.map d35)), (3, .pt 64 0 0), (5, rV 96), (6, iV v6), (7, .pt 352 0 0), (8, iV ((apW (⟨c64_0, c64_1⟩ : S27) x5).2))], [(64, some (.box [.d (.v (.int .i64 c64_0)), .d (.sl (c64_1.map d38))])), (96, some (.row 5 35 (Lv5.map d35) false true)), (288, some (.row 5 38 ((((apW (⟨c64_0, c64_1⟩ : S27) x5).1).f1).map d38) false true)), (352, some (.box [.d (.v (.int .i64 (((apW (⟨c64_0, c64_1⟩ : S27) x5).1).f0))), .ref 288]))], 400⟩ ?_
   refine sk ⟨[(0, lV (l.map d35)), (3, .pt 64 0 0), (5, rV 96), (6, iV v6), (7, .pt 352 0 0), (26, bV (((apW (⟨c64_0, c64_1⟩ : S27) x5).2) == 0))], [(64, some (.box [.d (.v (.int .i64 c64_0)), .d (.sl (c64_1.map d38))])), (96, some (.row 5 35 (Lv5.map d35) false true)), (288, some (.row 5 38 ((((apW (⟨c64_0, c64_1⟩ : S27) x5).1).f1).map d38) false true)), (352, some (.box [.d (.v (.int .i64 (((apW (⟨c64_0, c64_1⟩ : S27) x5).1).f0))), .ref 288]))], 432⟩ ?_
   refine if_ (b := (((apW (⟨c64_0, c64_1⟩ : S27) x5).2) == 0)) (fun hb12 => ?_) (fun hb12 => ?_)
   ·replace hb12 := eq_of_beq (hb12)
    refine sk ⟨[(0, lV (l.map d35)), (3, .pt 64 0 0), (5, rV 96), (6, iV v6)], [(64, some (.box [.d (.v (.int .i64 (((apW (⟨c64_0, c64_1⟩ : S27) x5).1).f0))), .ref 288])), (96, some (.row 5 35 (Lv5.map d35) false true)), (288, some (.row 5 38 ((((apW (⟨c64_0, c64_1⟩ : S27) x5).1).f1).map d38) false true))], 464⟩ ?_
    refine rs 3 ?_
    refine CH.idx hτ (d35 x5) (rows := (l.map d35)) (n := v6) (sz := 5) (by kernel_rfl) (by kernel_rfl) (by first | omega | (simp; done) | (simp; omega)) (by rw [List.getElem?_map, hx5]; rfl) (by kernel_rfl) ?_
    refine go 2 ?_
    have el13 : (Lv5.map d35).length = Lv5.length := List.length_map ..
    have el14 : (([x5] : List S35).map d35).length = ([x5] : List S35).length := List.length_map ..
    have el15 : ([x5] : List S35).length = 1 := rfl
    refine CH.app hτ (rows := (Lv5.map d35)) (rows2 := (([x5] : List S35).map d35)) (sz := 5) (bys := 56) true (by kernel_rfl) (by kernel_rfl) (fun _ => flat_d d35 (fun x => rfl)) (flat_ok (f := d35) (fun x => rfl)) (by simp only [List.length_map] <;> (first | done | omega | (simp; done) | (simp; omega))) (by kernel_rfl) ?_
    refine go 1 ?_
    refine CH.endk ⟨[(0, lV (l.map d35)), (3, .pt 64 0 0), (5, rV 560), (6, iV v6)], [(64, some (.box [.d (.v (.int .i64 (((apW (⟨c64_0, c64_1⟩ : S27) x5).1).f0))), .ref 288])), (288, some (.row 5 38 ((((apW (⟨c64_0, c64_1⟩ : S27) x5).1).f1).map d38) false true)), (560, some (.row 5 35 ((Lv5.map d35) ++ (([x5] : List S35).map d35)) false true))], 592⟩ (by kernel_rfl) (by kernel_rfl) (s2 := ⟨[(0, lV (l.map d35)), (3, .pt 64 0 0), (5, rV 560), (6, iV v6)], [(64, some (.box [.d (.v (.int .i64 (((apW (⟨c64_0, c64_1⟩ : S27) x5).1).f0))), .ref 288])), (288, some (.row 5 38 ((((apW (⟨c64_0, c64_1⟩ : S27) x5).1).f1).map d38) false true)), (560, some (.row 5 35 ((Lv5 ++ ([x5] : List S35)).map d35) false true))], 592⟩) (congrArg (fun z : List (List D) => (⟨[(0, lV (l.map d35)), (3, .pt 64 0 0), (5, rV 560), (6, iV v6)], [(64, some (.box [.d (.v (.int .i64 (((apW (⟨c64_0, c64_1⟩ : S27) x5).1).f0))), .ref 288])), (288, some (.row 5 38 ((((apW (⟨c64_0, c64_1⟩ : S27) x5).1).f1).map d38) false true)), (560, some (.row 5 35 z false true))], 592⟩ : St)) (show (Lv5.map d35) ++ (([x5] : List S35).map d35) = ((Lv5 ++ ([x5] : List S35)).map d35) from List.map_append.symm)) ?_
    refine X.weak (Wk.less (s1 := ⟨[(0, lV (l.map d35)), (3, .pt 64 0 0), (5, rV 560), (6, iV v6)], [(64, some (.box [.d (.v (.int .i64 (((apW (⟨c64_0, c64_1⟩ : S27) x5).1).f0))), .f (.sl ((((apW (⟨c64_0, c64_1⟩ : S27) x5).1).f1).map d38))])), (288, some (.row 5 38 ((((apW (⟨c64_0, c64_1⟩ : S27) x5).1).f1).map d38) true true)), (560, some (.row 5 35 ((Lv5 ++ ([x5] : List S35)).map d35) false true))], 592⟩) (by kernel_rfl)) ?_
    refine X.rk ⟨[(0, lV (l.map d35)), (3, .pt 64 0 0), (5, rV 560), (6, iV (wrap64 (v6 + 1)))], [(64, some (.box [.d (.v (.int .i64 (((apW (⟨c64_0, c64_1⟩ : S27) x5).1).f0))), .f (.sl ((((apW (⟨c64_0, c64_1⟩ : S27) x5).1).f1).map d38))])), (560, some (.row 5 35 ((Lv5 ++ ([x5] : List S35)).map d35) false true))], 640⟩ hτ hmix (by kernel_rfl) (by kernel_rfl) (s2 := ⟨[(0, lV (l.map d35)), (3, .pt 64 0 0), (5, rV 560), (6, iV (v6 + 1))], [(64, some (.box [.d (.v (.int .i64 (((apW (⟨c64_0, c64_1⟩ : S27) x5).1).f0))), .f (.sl ((((apW (⟨c64_0, c64_1⟩ : S27) x5).1).f1).map d38))])), (560, some (.row 5 35 ((Lv5 ++ ([x5] : List S35)).map d35) false true))], 640⟩) (congrArg (fun z : Int => (⟨[(0, lV (l.map d35)), (3, .pt 64 0 0), (5, rV 560), (6, iV z)], [(64, some (.box [.d (.v (.int .i64 (((apW (⟨c64_0, c64_1⟩ : S27) x5).1).f0))), .f (.sl ((((apW (⟨c64_0, c64_1⟩ : S27) x5).1).f1).map d38))])), (560, some (.row 5 35 ((Lv5 ++ ([x5] : List S35)).map d35) false true))], 640⟩ : St)) (show wrap64 (v6 + 1) = (v6 + 1) by rw [w64 (n := (v6 + 1)) (by omega) (by omega)])) ?_
    refine ⟨⟨(((apW (⟨c64_0, c64_1⟩ : S27) x5).1).f0, ((apW (⟨c64_0, c64_1⟩ : S27) x5).1).f1, (Lv5 ++ ([x5] : List S35)), (v6 + 1)), ⟨by first | omega | (dsimp only; omega), by first | omega | (dsimp only; omega), by first | omega | (simp only [List.length_append, List.length_cons, List.length_nil]; (first | omega | (dsimp only; omega))), by first | exact fi_y (by first | omega | (dsimp only; omega)) ‹_› hE ‹_› | exact fi_n2 (by first | omega | (dsimp only; omega)) ‹_› hE ‹_›, by first | exact hG | exact hap⟩⟩, by first | exact rfl | omega | (dsimp only; omega) | (simp only [List.length_append, List.length_cons, List.length_nil, List.length_set]; omega) | (simp; done) | (simp; omega), Wk.mk' [(64, 64), (96, 560)] (by kernel_rfl) (by kernel_rfl) (by kernel_rfl)⟩
   ·replace hb12 := beq_eq_false_iff_ne.1 (hb12)
    refine X.skip ?_
    refine X.rk ⟨[(0, lV (l.map d35)), (3, .pt 64 0 0), (5, rV 96), (6, iV (wrap64 (v6 + 1)))], [(64, some (.box [.d (.v (.int .i64 c64_0)), .d (.sl (c64_1.map d38))])), (96, some (.row 5 35 (Lv5.map d35) false true))], 480⟩ hτ hmix (by kernel_rfl) (by kernel_rfl) (s2 := ⟨[(0, lV (l.map d35)), (3, .pt 64 0 0), (5, rV 96), (6, iV (v6 + 1))], [(64, some (.box [.d (.v (.int .i64 c64_0)), .d (.sl (c64_1.map d38))])), (96, some (.row 5 35 (Lv5.map d35) false true))], 480⟩) (congrArg (fun z : Int => (⟨[(0, lV (l.map d35)), (3, .pt 64 0 0), (5, rV 96), (6, iV z)], [(64, some (.box [.d (.v (.int .i64 c64_0)), .d (.sl (c64_1.map d38))])), (96, some (.row 5 35 (Lv5.map d35) false true))], 480⟩ : St)) (show wrap64 (v6 + 1) = (v6 + 1) by rw [w64 (n := (v6 + 1)) (by omega) (by omega)])) ?_
    refine ⟨⟨(c64_0, c64_1, Lv5, (v6 + 1)), ⟨by first | omega | (dsimp only; omega), by first | omega | (dsimp only; omega), by first | omega | (simp only [List.length_append, List.length_cons, List.length_nil]; (first | omega | (dsimp only; omega))), by first | exact fi_y (by first | omega | (dsimp only; omega)) ‹_› hE ‹_› | exact fi_n2 (by first | omega | (dsimp only; omega)) ‹_› hE ‹_›, by first | exact hG | exact hap⟩⟩, by first | exact rfl | omega | (dsimp only; omega) | (simp only [List.length_append, List.length_cons, List.length_nil, List.length_set]; omega) | (simp; done) | (simp; omega), Wk.mk' [(64, 64), (96, 96)] (by kernel_rfl) (by kernel_rfl) (by kernel_rfl)⟩
  ·replace hb4 := of_decide_eq_false (hb4)
   refine X.exit ?_
   refine sk ⟨[(4, rV 96)], [(96, some (.row 5 35 (Lv5.map d35) false true))], 240⟩ ?_
   refine X.ret ?_
   exact ⟨trivial, _, _, ⟨Lv5, (fi_e hE (by omega)), rfl, rfl⟩, .inr ⟨⟨[(4, .e (.c (.f (.sl (Lv5.map d35)))))], [(96, some (.row 5 35 (Lv5.map d35) true true))], 240⟩, Wk.less (by kernel_rfl), Ret.mk' [] (by kernel_rfl) (by kernel_rfl) (by kernel_rfl)⟩⟩
 obtain ⟨_, _, ⟨r0, h1_, rfl, rfl⟩, hf⟩ := key
 exact ⟨r0, h1_, hf⟩

theorem i_PoolFitR (l : List S35) (q : S27) (hl : SmT l) (hg : acsSm q.f1) : ∃ r0 : List S35, (r0 = fitW q l) ∧ Fn Try.prog 9 [lV (l.map d35), .e (.agg [.d (.v (.int .i64 q.f0)), .d (.sl (q.f1.map d38))])] (lookH []) (rV 64) (lookH [(64, some (.row 5 35 (r0.map d35) false true))]) := by
 have key : ∃ x' h', ((fun x' h' => ∃ r0 : List S35, (r0 = fitW q l) ∧ x' = rV 64 ∧ h' = [(64, some (.row 5 35 (r0.map d35) false true))])) x' h' ∧ Fn Try.prog 9 [lV (l.map d35), .e (.agg [.d (.v (.int .i64 q.f0)), .d (.sl (q.f1.map d38))])] (lookH []) x' (lookH h') := by
  refine Fn.bodyX (N := 31) hτ Try.func9 rfl rfl rfl rfl ?_
  refine sk ⟨[(0, lV (l.map d35)), (3, .pt 64 0 0)], [(64, some (.box [.d (.v (.int .i64 q.f0)), .d (.sl (q.f1.map d38))]))], 96⟩ ?_
  refine sk ⟨[(0, lV (l.map d35)), (3, .pt 64 0 0), (5, .e (.c (.nil)))], [(64, some (.box [.d (.v (.int .i64 q.f0)), .d (.sl (q.f1.map d38))]))], 112⟩ ?_
  refine X.seq ?_
  refine X.seq ?_
  have hll := hl.1
  have hgl := hg.1
  have el1 : (l.map d35).length = l.length := List.length_map ..
  refine rk ⟨[(3, .pt 64 0 0), (5, .e (.c (.nil))), (10, lV (l.map d35)), (11, iV ((l.map d35).length : Int)), (12, iV 0)], [(64, some (.box [.d (.v (.int .i64 q.f0)), .d (.sl (q.f1.map d38))]))], 160⟩ ?_
  refine X.block ?_
  refine X.weak (Wk.ownT 5 5 35 (by kernel_rfl) (by kernel_rfl) (by kernel_rfl)) ?_
  -- 3: c64_0 : Int, c64_1 : List S38, Lv5 : List S35, v12 : Int
  refine X.loop (σ := { g : Int × (List S38) × (List S35) × Int // (fun (c64_0 : Int) (c64_1 : List S38) (Lv5 : List S35) (v12 : Int) => 0 ≤ v12 ∧ v12 ≤ l.length ∧ Lv5.length ≤ (v12).toNat ∧ fitI l q Lv5 ⟨c64_0, c64_1⟩ v12 ∧ acsSm c64_1) g.1 g.2.1 g.2.2.1 g.2.2.2 }) (fun g => (fun (c64_0 : Int) (c64_1 : List S38) (Lv5 : List S35) (v12 : Int) => ⟨[(3, .pt 64 0 0), (5, rV 160), (10, lV (l.map d35)), (11, iV ((l.map d35).length : Int)), (12, iV v12)], [(64, some (.box [.d (.v (.int .i64 c64_0)), .d (.sl (c64_1.map d38))])), (160, some (.row 5 35 (Lv5.map d35) false true))], 176⟩) g.1.1 g.1.2.1 g.1.2.2.1 g.1.2.2.2) (fun g => (fun (c64_0 : Int) (c64_1 : List S38) (Lv5 : List S35) (v12 : Int) => (l.length - v12).toNat) g.1.1 g.1.2.1 g.1.2.2.1 g.1.2.2.2) ⟨(q.f0, q.f1, [], 0), ⟨by first | omega | (dsimp only; omega), by first | omega | (dsimp only; omega), by simp, fi_i0, hg⟩⟩ (Wk.less (by kernel_rfl)) (fun g => ?_)
  obtain ⟨⟨c64_0, c64_1, Lv5, v12⟩, hg3⟩ := g
  have hg3 : 0 ≤ v12 ∧ v12 ≤ l.length ∧ Lv5.length ≤ (v12).toNat ∧ fitI l q Lv5 ⟨c64_0, c64_1⟩ v12 ∧ acsSm c64_1 := hg3
  obtain ⟨_, _, hL, hE, hG⟩ := hg3
  refine sk ⟨[(3, .pt 64 0 0), (5, rV 160), (10, lV (l.map d35)), (11, iV ((l.map d35).length : Int)), (12, iV v12), (13, bV (decide ((v12 : Int) < ((l.map d35).length : Int))))], [(64, some (.box [.d (.v (.int .i64 c64_0)), .d (.sl (c64_1.map d38))])), (160, some (.row 5 35 (Lv5.map d35) false true))], 192⟩ ?_
  refine X.seq ?_
  refine if_ (b := decide ((v12 : Int) < ((l.map d35).length : Int))) (fun hb4 => ?_) (fun hb4 => ?_)
  ·replace hb4 := of_decide_eq_true (hb4)
   refine X.skip ?_
   refine X.seq ?_
   refine X.block ?_
   refine X.seq (rs 0 ?_)
   obtain ⟨x5, hx5⟩ : ∃ x, l[Int.toNat v12]? = some x := ⟨_, List.getElem?_eq_getElem (by first | omega | (simp; done) | (simp; omega))⟩
   have htx := all_at hl.2 hx5
   refine CH.idx hτ (d35 x5) (rows := (l.map d35)) (n := v12) (sz := 5) (by kernel_rfl) (by kernel_rfl) (by first | omega | (simp; done) | (simp; omega)) (by rw [List.getElem?_map, hx5]; rfl) (by kernel_rfl) ?_
   refine go 3 ?_
   refine ek ⟨[(3, .pt 64 0 0), (5, rV 160), (7, .pt 224 0 0), (10, lV (l.map d35)), (11, iV ((l.map d35).length : Int)), (12, iV v12)], [(64, some (.box [.d (.v (.int .i64 c64_0)), .d (.sl (c64_1.map d38))])), (160, some (.row 5 35 (Lv5.map d35) false true)), (224, some (.box (cD (d35 x5))))], 256⟩ ?_
   refine X.seq (rs 2 ?_)
   obtain ⟨r6, r7, hr9, hf8⟩ := i_Apply (⟨c64_0, c64_1⟩ : S27) x5 (by assumption) (by assumption)
   obtain ⟨e10, e11⟩ := hr9
   replace e10 := e10.symm; subst e10
   replace e11 := e11.symm; subst e11
   have hap := ap_sm (t := x5) (g := (⟨c64_0, c64_1⟩ : S27)) (by assumption) (by assumption)
   refine ca hf8 Try.func46 ?_
   refine go 6 ?_
   refine ek ⟨[(3, .pt 64 0 0), (5, rV 160), (7, .pt 224 0 0), (8, .pt 352 0 0), (9, iV ((apW (⟨c64_0, c64_1⟩ : S27) x5).2)), (10, lV (l.map d35)), (11, iV ((l.map d35).length : Int)), (12, iV v12)], [(64, some (.box [.d (.v (.int .i64 c64_0)), .d (.sl (c64_1.map d38))])), (160, some (.row 5 35 (Lv5.map d35) false true)), (224, some (.box (cD (d35 x5)))), (288, some (.nst 5 38 [(4, 2, 188)] ((((apW (⟨c64_0, c64_1⟩ : S27) x5).1).f1).map d38) [])), (352, some (.box [.d (.v (.int .i64 (((apW (⟨c64_0, c64_1⟩ : S27) x5).1).f0))), .ref 288]))], 400⟩ ?_
   refine sk ⟨[(3, .pt 64 0 0), (5, rV 160), (7, .pt 224 0 0), (9, iV ((apW (⟨c64_0, c64_1⟩ : S27) x5).2)), (10, lV (l.map d35)), (11, iV ((l.map d35).length : Int)), (12, iV v12)], [(64, some (.box [.d (.v (.int .i64 (((apW (⟨c64_0, c64_1⟩ : S27) x5).1).f0))), .ref 288])), (160, some (.row 5 35 (Lv5.map d35) false true)), (224, some (.box (cD (d35 x5)))), (288, some (.nst 5 38 [(4, 2, 188)] ((((apW (⟨c64_0, c64_1⟩ : S27) x5).1).f1).map d38) []))], 432⟩ ?_
   refine sk ⟨[(3, .pt 64 0 0), (5, rV 160), (7, .pt 224 0 0), (10, lV (l.map d35)), (11, iV ((l.map d35).length : Int)), (12, iV v12), (24, bV (((apW (⟨c64_0, c64_1⟩ : S27) x5).2) == 0))], [(64, some (.box [.d (.v (.int .i64 (((apW (⟨c64_0, c64_1⟩ : S27) x5).1).f0))), .ref 288])), (160, some (.row 5 35 (Lv5.map d35) false true)), (224, some (.box (cD (d35 x5)))), (288, some (.nst 5 38 [(4, 2, 188)] ((((apW (⟨c64_0, c64_1⟩ : S27) x5).1).f1).map d38) []))], 464⟩ ?_
   refine if_ (b := (((apW (⟨c64_0, c64_1⟩ : S27) x5).2) == 0)) (fun hb12 => ?_) (fun hb12 => ?_)
   ·replace hb12 := eq_of_beq (hb12)
    refine rs 3 ?_
    have el13 : (Lv5.map d35).length = Lv5.length := List.length_map ..
    have el14 : (([x5] : List S35).map d35).length = ([x5] : List S35).length := List.length_map ..
    have el15 : ([x5] : List S35).length = 1 := rfl
    refine CH.app hτ (rows := (Lv5.map d35)) (rows2 := (([x5] : List S35).map d35)) (sz := 5) (bys := 56) true (by kernel_rfl) (by kernel_rfl) (fun _ => flat_d d35 (fun x => rfl)) (flat_ok (f := d35) (fun x => rfl)) (by simp only [List.length_map] <;> (first | done | omega | (simp; done) | (simp; omega))) (by kernel_rfl) ?_
    refine go 1 ?_
    refine CH.endk ⟨[(3, .pt 64 0 0), (5, rV 512), (10, lV (l.map d35)), (11, iV ((l.map d35).length : Int)), (12, iV v12)], [(64, some (.box [.d (.v (.int .i64 (((apW (⟨c64_0, c64_1⟩ : S27) x5).1).f0))), .ref 288])), (288, some (.nst 5 38 [(4, 2, 188)] ((((apW (⟨c64_0, c64_1⟩ : S27) x5).1).f1).map d38) [])), (512, some (.row 5 35 ((Lv5.map d35) ++ (([x5] : List S35).map d35)) false true))], 544⟩ (by kernel_rfl) (by kernel_rfl) (s2 := ⟨[(3, .pt 64 0 0), (5, rV 512), (10, lV (l.map d35)), (11, iV ((l.map d35).length : Int)), (12, iV v12)], [(64, some (.box [.d (.v (.int .i64 (((apW (⟨c64_0, c64_1⟩ : S27) x5).1).f0))), .ref 288])), (288, some (.nst 5 38 [(4, 2, 188)] ((((apW (⟨c64_0, c64_1⟩ : S27) x5).1).f1).map d38) [])), (512, some (.row 5 35 ((Lv5 ++ ([x5] : List S35)).map d35) false true))], 544⟩) (congrArg (fun z : List (List D) => (⟨[(3, .pt 64 0 0), (5, rV 512), (10, lV (l.map d35)), (11, iV ((l.map d35).length : Int)), (12, iV v12)], [(64, some (.box [.d (.v (.int .i64 (((apW (⟨c64_0, c64_1⟩ : S27) x5).1).f0))), .ref 288])), (288, some (.nst 5 38 [(4, 2, 188)] ((((apW (⟨c64_0, c64_1⟩ : S27) x5).1).f1).map d38) [])), (512, some (.row 5 35 z false true))], 544⟩ : St)) (show (Lv5.map d35) ++ (([x5] : List S35).map d35) = ((Lv5 ++ ([x5] : List S35)).map d35) from List.map_append.symm)) ?_
    refine X.weak ((Wk.frzN (wd := 5) (e := 38) (co := [(4, 2, 188)]) (rows := ((((apW (⟨c64_0, c64_1⟩ : S27) x5).1).f1).map d38)) 288 (by kernel_rfl) (by kernel_rfl)).trans (Wk.less (s1 := ⟨[(3, .pt 64 0 0), (5, rV 512), (10, lV (l.map d35)), (11, iV ((l.map d35).length : Int)), (12, iV v12)], [(64, some (.box [.d (.v (.int .i64 (((apW (⟨c64_0, c64_1⟩ : S27) x5).1).f0))), .f (.sl ((((apW (⟨c64_0, c64_1⟩ : S27) x5).1).f1).map d38))])), (288, some (.row 5 38 ((((apW (⟨c64_0, c64_1⟩ : S27) x5).1).f1).map d38) true true)), (512, some (.row 5 35 ((Lv5 ++ ([x5] : List S35)).map d35) false true))], 544⟩) (by kernel_rfl))) ?_
    refine X.rk ⟨[(3, .pt 64 0 0), (5, rV 512), (10, lV (l.map d35)), (11, iV ((l.map d35).length : Int)), (12, iV (wrap64 (v12 + 1)))], [(64, some (.box [.d (.v (.int .i64 (((apW (⟨c64_0, c64_1⟩ : S27) x5).1).f0))), .f (.sl ((((apW (⟨c64_0, c64_1⟩ : S27) x5).1).f1).map d38))])), (512, some (.row 5 35 ((Lv5 ++ ([x5] : List S35)).map d35) false true))], 576⟩ hτ hmix (by kernel_rfl) (by kernel_rfl) (s2 := ⟨[(3, .pt 64 0 0), (5, rV 512), (10, lV (l.map d35)), (11, iV ((l.map d35).length : Int)), (12, iV (v12 + 1))], [(64, some (.box [.d (.v (.int .i64 (((apW (⟨c64_0, c64_1⟩ : S27) x5).1).f0))), .f (.sl ((((apW (⟨c64_0, c64_1⟩ : S27) x5).1).f1).map d38))])), (512, some (.row 5 35 ((Lv5 ++ ([x5] : List S35)).map d35) false true))], 576⟩) (congrArg (fun z : Int => (⟨[(3, .pt 64 0 0), (5, rV 512), (10, lV (l.map d35)), (11, iV ((l.map d35).length : Int)), (12, iV z)], [(64, some (.box [.d (.v (.int .i64 (((apW (⟨c64_0, c64_1⟩ : S27) x5).1).f0))), .f (.sl ((((apW (⟨c64_0, c64_1⟩ : S27) x5).1).f1).map d38))])), (512, some (.row 5 35 ((Lv5 ++ ([x5] : List S35)).map d35) false true))], 576⟩ : St)) (show wrap64 (v12 + 1) = (v12 + 1) by rw [w64 (n := (v12 + 1)) (by omega) (by omega)])) ?_
    refine ⟨⟨(((apW (⟨c64_0, c64_1⟩ : S27) x5).1).f0, ((apW (⟨c64_0, c64_1⟩ : S27) x5).1).f1, (Lv5 ++ ([x5] : List S35)), (v12 + 1)), ⟨by first | omega | (dsimp only; omega), by first | omega | (dsimp only; omega), by first | omega | (simp only [List.length_append, List.length_cons, List.length_nil]; (first | omega | (dsimp only; omega))), by first | exact fi_y (by first | omega | (dsimp only; omega)) ‹_› hE ‹_› | exact fi_n (by first | omega | (dsimp only; omega)) ‹_› hE ‹_›, hap⟩⟩, by first | exact rfl | omega | (dsimp only; omega) | (simp only [List.length_append, List.length_cons, List.length_nil, List.length_set]; omega) | (simp; done) | (simp; omega), Wk.mk' [(64, 64), (160, 512)] (by kernel_rfl) (by kernel_rfl) (by kernel_rfl)⟩
   ·replace hb12 := beq_eq_false_iff_ne.1 (hb12)
    refine X.skip ?_
    refine X.weak ((Wk.frzN (wd := 5) (e := 38) (co := [(4, 2, 188)]) (rows := ((((apW (⟨c64_0, c64_1⟩ : S27) x5).1).f1).map d38)) 288 (by kernel_rfl) (by kernel_rfl)).trans (Wk.less (s1 := ⟨[(3, .pt 64 0 0), (5, rV 160), (7, .pt 224 0 0), (10, lV (l.map d35)), (11, iV ((l.map d35).length : Int)), (12, iV v12), (24, bV (((apW (⟨c64_0, c64_1⟩ : S27) x5).2) == 0))], [(64, some (.box [.d (.v (.int .i64 (((apW (⟨c64_0, c64_1⟩ : S27) x5).1).f0))), .f (.sl ((((apW (⟨c64_0, c64_1⟩ : S27) x5).1).f1).map d38))])), (160, some (.row 5 35 (Lv5.map d35) false true)), (224, some (.box (cD (d35 x5)))), (288, some (.row 5 38 ((((apW (⟨c64_0, c64_1⟩ : S27) x5).1).f1).map d38) true true))], 464⟩) (by kernel_rfl))) ?_
    refine X.rk ⟨[(3, .pt 64 0 0), (5, rV 160), (10, lV (l.map d35)), (11, iV ((l.map d35).length : Int)), (12, iV (wrap64 (v12 + 1)))], [(64, some (.box [.d (.v (.int .i64 (((apW (⟨c64_0, c64_1⟩ : S27) x5).1).f0))), .f (.sl ((((apW (⟨c64_0, c64_1⟩ : S27) x5).1).f1).map d38))])), (160, some (.row 5 35 (Lv5.map d35) false true))], 496⟩ hτ hmix (by kernel_rfl) (by kernel_rfl) (s2 := ⟨[(3, .pt 64 0 0), (5, rV 160), (10, lV (l.map d35)), (11, iV ((l.map d35).length : Int)), (12, iV (v12 + 1))], [(64, some (.box [.d (.v (.int .i64 (((apW (⟨c64_0, c64_1⟩ : S27) x5).1).f0))), .f (.sl ((((apW (⟨c64_0, c64_1⟩ : S27) x5).1).f1).map d38))])), (160, some (.row 5 35 (Lv5.map d35) false true))], 496⟩) (congrArg (fun z : Int => (⟨[(3, .pt 64 0 0), (5, rV 160), (10, lV (l.map d35)), (11, iV ((l.map d35).length : Int)), (12, iV z)], [(64, some (.box [.d (.v (.int .i64 (((apW (⟨c64_0, c64_1⟩ : S27) x5).1).f0))), .f (.sl ((((apW (⟨c64_0, c64_1⟩ : S27) x5).1).f1).map d38))])), (160, some (.row 5 35 (Lv5.map d35) false true))], 496⟩ : St)) (show wrap64 (v12 + 1) = (v12 + 1) by rw [w64 (n := (v12 + 1)) (by omega) (by omega)])) ?_
    refine ⟨⟨(((apW (⟨c64_0, c64_1⟩ : S27) x5).1).f0, ((apW (⟨c64_0, c64_1⟩ : S27) x5).1).f1, Lv5, (v12 + 1)), ⟨by first | omega | (dsimp only; omega), by first | omega | (dsimp only; omega), by first | omega | (simp only [List.length_append, List.length_cons, List.length_nil]; (first | omega | (dsimp only; omega))), by first | exact fi_y (by first | omega | (dsimp only; omega)) ‹_› hE ‹_› | exact fi_n (by first | omega | (dsimp only; omega)) ‹_› hE ‹_›, hap⟩⟩, by first | exact rfl | omega | (dsimp only; omega) | (simp only [List.length_append, List.length_cons, List.length_nil, List.length_set]; omega) | (simp; done) | (simp; omega), Wk.mk' [(64, 64), (160, 160)] (by kernel_rfl) (by kernel_rfl) (by kernel_rfl)⟩
  ·replace hb4 := of_decide_eq_false (hb4)
   refine X.exit ?_
   refine sk ⟨[(4, rV 160)], [(160, some (.row 5 35 (Lv5.map d35) false true))], 224⟩ ?_
   refine X.ret ?_
   exact ⟨trivial, _, _, ⟨Lv5, (fi_e hE (by omega)), rfl, rfl⟩, .inl (Ret.mk' [(64, 160)] (by kernel_rfl) (by kernel_rfl) (by kernel_rfl))⟩
 obtain ⟨_, _, ⟨r0, h1_, rfl, rfl⟩, hf⟩ := key
 exact ⟨r0, h1_, hf⟩

theorem l_FnExactPoolFit (l : List S100) (x : S42) (hwl : l.length ≤ maxLen ∧ ∀ y ∈ l, w100 y) (hwg : w42 x) : ∃ r0 : Bool, (r0 = true) ∧ Fn Try.prog 4 [lV (l.map d100), .e (.agg [.d (.v (.int .i64 x.f0)), .d (.sl (x.f1.map d151))])] (lookH []) (bV r0) (lookH []) := by
 have key : ∃ x' h', ((fun x' h' => ∃ r0 : Bool, (r0 = true) ∧ x' = bV r0 ∧ h' = [])) x' h' ∧ Fn Try.prog 4 [lV (l.map d100), .e (.agg [.d (.v (.int .i64 x.f0)), .d (.sl (x.f1.map d151))])] (lookH []) x' (lookH h') := by
  refine Fn.bodyX (N := 92) hτ Try.func4 rfl rfl rfl rfl ?_
  refine sk ⟨[(0, lV (l.map d100)), (3, .pt 64 0 0)], [(64, some (.box [.d (.v (.int .i64 x.f0)), .d (.sl (x.f1.map d151))]))], 96⟩ ?_
  refine sk ⟨[(0, lV (l.map d100)), (3, .pt 64 0 0), (5, iV 1048576)], [(64, some (.box [.d (.v (.int .i64 x.f0)), .d (.sl (x.f1.map d151))]))], 112⟩ ?_
  refine X.seq (rs 2 ?_)
  obtain ⟨r1, hr3, hf2⟩ := l_szTxS l 1048576 (by assumption) (by first | omega | assumption)
  obtain ⟨hz1, hz0, hz2⟩ := hr3
  refine ca hf2 Try.func14 ?_
  refine go 1 ?_
  refine ek ⟨[(0, lV (l.map d100)), (3, .pt 64 0 0), (5, iV r1)], [(64, some (.box [.d (.v (.int .i64 x.f0)), .d (.sl (x.f1.map d151))]))], 176⟩ ?_
  refine X.seq ?_
  refine X.seq ?_
  have hzl := hz2
  refine rk ⟨[(0, lV (l.map d100)), (3, .pt 64 0 0), (5, iV r1), (18, bV (decide ((r1 : Int) < 0)))], [(64, some (.box [.d (.v (.int .i64 x.f0)), .d (.sl (x.f1.map d151))]))], 208⟩ ?_
  refine if_ (b := decide ((r1 : Int) < 0)) (fun hb4 => ?_) (fun hb4 => ?_)
  ·replace hb4 := of_decide_eq_true (hb4)
   refine sk ⟨[(4, bV true)], [], 224⟩ ?_
   refine X.ret ?_
   exact ⟨trivial, _, _, ⟨true, (by first | exact rfl | exact (by exfalso; omega) | exact (tf (allEq_self _) ‹_›) | exact (tf (eqV_self _) ‹_›) | exact (absurd rfl ‹_›)), rfl, rfl⟩, mkr⟩
  ·replace hb4 := of_decide_eq_false (hb4)
   refine X.skip ?_
   refine X.seq (rs 2 ?_)
   obtain ⟨r5, hr7, hf6⟩ := l_szLedger x r1 (by assumption) (by first | omega | assumption)
   obtain ⟨hz1, hz0, hz2⟩ := hr7
   refine ca hf6 Try.func15 ?_
   refine go 1 ?_
   refine ek ⟨[(0, lV (l.map d100)), (3, .pt 64 0 0), (5, iV r5)], [(64, some (.box [.d (.v (.int .i64 x.f0)), .d (.sl (x.f1.map d151))]))], 272⟩ ?_
   refine X.seq ?_
   refine sk ⟨[(0, lV (l.map d100)), (3, .pt 64 0 0), (23, bV (decide ((r5 : Int) < 0)))], [(64, some (.box [.d (.v (.int .i64 x.f0)), .d (.sl (x.f1.map d151))]))], 304⟩ ?_
   refine if_ (b := decide ((r5 : Int) < 0)) (fun hb8 => ?_) (fun hb8 => ?_)
   ·replace hb8 := of_decide_eq_true (hb8)
    refine sk ⟨[(4, bV true)], [], 320⟩ ?_
    refine X.ret ?_
    exact ⟨trivial, _, _, ⟨true, (by first | exact rfl | exact (by exfalso; omega) | exact (tf (allEq_self _) ‹_›) | exact (tf (eqV_self _) ‹_›) | exact (absurd rfl ‹_›)), rfl, rfl⟩, mkr⟩
   ·replace hb8 := of_decide_eq_false (hb8)
    refine X.skip ?_
    refine X.seq ?_
    obtain ⟨hG, hGl⟩ := hz2 (by omega)
    obtain ⟨hL, hLl⟩ := hzl (by omega)
    have hGm : (toLedger x).f1.length ≤ 2000000 := hG.1
    refine rs 1 ?_
    obtain ⟨r9, hr11, hf10⟩ := l_toTxS l (by first | assumption | omega)
    replace hr11 := hr11.symm; subst hr11
    have hlm : (l.map toTx).length = l.length := List.length_map ..
    refine ca hf10 Try.func17 ?_
    refine go 1 ?_
    obtain ⟨r13, hr15, hf14⟩ := l_toLedger x (by assumption)
    replace hr15 := hr15.symm; subst hr15
    refine ca hf14 Try.func18 ?_
    obtain ⟨r17, hr19, hf18⟩ := s_PoolFit (l.map toTx) ((toLedger x)) (by assumption) (by assumption)
    replace hr19 := hr19.symm; subst hr19
    have hftl := fit_len ((toLedger x)) (l.map toTx)
    refine ca hf18 Try.func16 ?_
    refine go 1 ?_
    refine ek ⟨[(0, lV (l.map d100)), (3, .pt 64 0 0), (6, .e (.c (.f (.sl ((fitW ((toLedger x)) (l.map toTx)).map d35)))))], [(64, some (.box [.d (.v (.int .i64 x.f0)), .d (.sl (x.f1.map d151))]))], 400⟩ ?_
    refine X.seq (rs 1 ?_)
    obtain ⟨r21, hr23, hf22⟩ := l_toTxS l (by first | assumption | omega)
    replace hr23 := hr23.symm; subst hr23
    have hlm : (l.map toTx).length = l.length := List.length_map ..
    refine ca hf22 Try.func17 ?_
    refine go 1 ?_
    refine ek ⟨[(0, lV (l.map d100)), (3, .pt 64 0 0), (6, .e (.c (.f (.sl ((fitW ((toLedger x)) (l.map toTx)).map d35))))), (7, rV 416)], [(64, some (.box [.d (.v (.int .i64 x.f0)), .d (.sl (x.f1.map d151))])), (416, some (.row 5 35 ((l.map toTx).map d35) false true))], 448⟩ ?_
    refine X.seq (rs 1 ?_)
    obtain ⟨r25, hr27, hf26⟩ := l_toLedger x (by assumption)
    replace hr27 := hr27.symm; subst hr27
    refine ca hf26 Try.func18 ?_
    refine go 2 ?_
    refine ek ⟨[(0, lV (l.map d100)), (3, .pt 64 0 0), (6, .e (.c (.f (.sl ((fitW ((toLedger x)) (l.map toTx)).map d35))))), (7, rV 416), (8, .pt 480 0 0)], [(64, some (.box [.d (.v (.int .i64 x.f0)), .d (.sl (x.f1.map d151))])), (416, some (.row 5 35 ((l.map toTx).map d35) false true)), (464, some (.nst 5 38 [(4, 2, 188)] ((((toLedger x)).f1).map d38) [])), (480, some (.box [.d (.v (.int .i64 (((toLedger x)).f0))), .ref 464]))], 512⟩ ?_
    refine X.seq (rs 2 ?_)
    obtain ⟨r29, hr31, hf30⟩ := i_PoolFitR (l.map toTx) ((toLedger x)) (by assumption) (by assumption)
    replace hr31 := hr31.symm; subst hr31
    have hftl := fit_len ((toLedger x)) (l.map toTx)
    refine ca hf30 Try.func9 ?_
    refine go 1 ?_
    refine ek ⟨[(0, lV (l.map d100)), (3, .pt 64 0 0), (6, .e (.c (.f (.sl ((fitW ((toLedger x)) (l.map toTx)).map d35))))), (7, rV 416), (8, .pt 480 0 0), (9, rV 544)], [(64, some (.box [.d (.v (.int .i64 x.f0)), .d (.sl (x.f1.map d151))])), (416, some (.row 5 35 ((l.map toTx).map d35) false true)), (464, some (.nst 5 38 [(4, 2, 188)] ((((toLedger x)).f1).map d38) [])), (480, some (.box [.d (.v (.int .i64 (((toLedger x)).f0))), .ref 464])), (544, some (.row 5 35 ((fitW ((toLedger x)) (l.map toTx)).map d35) false true))], 576⟩ ?_
    refine X.seq ?_
    refine X.seq (rs 2 ?_)
    obtain ⟨r33, hr35, hf34⟩ := l_eqTxS (fitW ((toLedger x)) (l.map toTx)) (fitW ((toLedger x)) (l.map toTx)) (by first | assumption | omega) (by first | assumption | omega)
    replace hr35 := hr35.symm; subst hr35
    refine ca hf34 Try.func19 ?_
    refine go 1 ?_
    refine ek ⟨[(0, lV (l.map d100)), (3, .pt 64 0 0), (6, .e (.c (.f (.sl ((fitW ((toLedger x)) (l.map toTx)).map d35))))), (7, rV 416), (8, .pt 480 0 0), (9, rV 544), (39, bV (!(allEq (fitW ((toLedger x)) (l.map toTx)) (fitW ((toLedger x)) (l.map toTx)))))], [(64, some (.box [.d (.v (.int .i64 x.f0)), .d (.sl (x.f1.map d151))])), (416, some (.row 5 35 ((l.map toTx).map d35) false true)), (464, some (.nst 5 38 [(4, 2, 188)] ((((toLedger x)).f1).map d38) [])), (480, some (.box [.d (.v (.int .i64 (((toLedger x)).f0))), .ref 464])), (544, some (.row 5 35 ((fitW ((toLedger x)) (l.map toTx)).map d35) false true))], 640⟩ ?_
    refine if_ (b := !(allEq (fitW ((toLedger x)) (l.map toTx)) (fitW ((toLedger x)) (l.map toTx)))) (fun hb37 => ?_) (fun hb37 => ?_)
    ·replace hb37 := bnot_yes (hb37)
     refine sk ⟨[(4, bV false)], [], 656⟩ ?_
     refine X.ret ?_
     exact ⟨trivial, _, _, ⟨false, (by first | exact rfl | exact (by exfalso; omega) | exact (tf (allEq_self _) ‹_›) | exact (tf (eqV_self _) ‹_›) | exact (absurd rfl ‹_›)), rfl, rfl⟩, mkr⟩
    ·replace hb37 := bnot_no (hb37)
     refine X.skip ?_
     refine X.seq ?_
     refine X.seq (rs 2 ?_)
     obtain ⟨r38, hr40, hf39⟩ := l_toTxS l (by first | assumption | omega)
     replace hr40 := hr40.symm; subst hr40
     have hlm : (l.map toTx).length = l.length := List.length_map ..
     refine ca hf39 Try.func17 ?_
     obtain ⟨r42, hr44, hf43⟩ := l_eqTxS (l.map toTx) (l.map toTx) (by first | assumption | omega) (by first | assumption | omega)
     replace hr44 := hr44.symm; subst hr44
     refine ca hf43 Try.func19 ?_
     refine go 1 ?_
     refine ek ⟨[(0, lV (l.map d100)), (3, .pt 64 0 0), (6, .e (.c (.f (.sl ((fitW ((toLedger x)) (l.map toTx)).map d35))))), (7, rV 416), (8, .pt 480 0 0), (9, rV 544), (44, bV (!(allEq (l.map toTx) (l.map toTx))))], [(64, some (.box [.d (.v (.int .i64 x.f0)), .d (.sl (x.f1.map d151))])), (416, some (.row 5 35 ((l.map toTx).map d35) false true)), (464, some (.nst 5 38 [(4, 2, 188)] ((((toLedger x)).f1).map d38) [])), (480, some (.box [.d (.v (.int .i64 (((toLedger x)).f0))), .ref 464])), (544, some (.row 5 35 ((fitW ((toLedger x)) (l.map toTx)).map d35) false true))], 720⟩ ?_
     refine if_ (b := !(allEq (l.map toTx) (l.map toTx))) (fun hb46 => ?_) (fun hb46 => ?_)
     ·replace hb46 := bnot_yes (hb46)
      refine sk ⟨[(4, bV false)], [], 736⟩ ?_
      refine X.ret ?_
      exact ⟨trivial, _, _, ⟨false, (by first | exact rfl | exact (by exfalso; omega) | exact (tf (allEq_self _) ‹_›) | exact (tf (eqV_self _) ‹_›) | exact (absurd rfl ‹_›)), rfl, rfl⟩, mkr⟩
     ·replace hb46 := bnot_no (hb46)
      refine X.skip ?_
      refine X.seq ?_
      refine X.seq (rs 2 ?_)
      obtain ⟨r47, hr49, hf48⟩ := l_toLedger x (by assumption)
      replace hr49 := hr49.symm; subst hr49
      refine ca hf48 Try.func18 ?_
      obtain ⟨r51, hr53, hf52⟩ := l_eqLedger ((toLedger x)) ((toLedger x)) (by assumption) (by assumption)
      replace hr53 := hr53.symm; subst hr53
      refine ca hf52 Try.func20 ?_
      refine go 1 ?_
      refine ek ⟨[(0, lV (l.map d100)), (3, .pt 64 0 0), (6, .e (.c (.f (.sl ((fitW ((toLedger x)) (l.map toTx)).map d35))))), (7, rV 416), (8, .pt 480 0 0), (9, rV 544), (49, bV (!(eqV ((toLedger x)) ((toLedger x)))))], [(64, some (.box [.d (.v (.int .i64 x.f0)), .d (.sl (x.f1.map d151))])), (416, some (.row 5 35 ((l.map toTx).map d35) false true)), (464, some (.nst 5 38 [(4, 2, 188)] ((((toLedger x)).f1).map d38) [])), (480, some (.box [.d (.v (.int .i64 (((toLedger x)).f0))), .ref 464])), (544, some (.row 5 35 ((fitW ((toLedger x)) (l.map toTx)).map d35) false true))], 800⟩ ?_
      refine if_ (b := !(eqV ((toLedger x)) ((toLedger x)))) (fun hb55 => ?_) (fun hb55 => ?_)
      ·replace hb55 := bnot_yes (hb55)
       refine sk ⟨[(4, bV false)], [], 816⟩ ?_
       refine X.ret ?_
       exact ⟨trivial, _, _, ⟨false, (by first | exact rfl | exact (by exfalso; omega) | exact (tf (allEq_self _) ‹_›) | exact (tf (eqV_self _) ‹_›) | exact (absurd rfl ‹_›)), rfl, rfl⟩, mkr⟩
      ·replace hb55 := bnot_no (hb55)
       refine X.skip ?_
       refine sk ⟨[(0, lV (l.map d100)), (3, .pt 64 0 0), (6, .e (.c (.f (.sl ((fitW ((toLedger x)) (l.map toTx)).map d35))))), (7, rV 416), (8, .pt 480 0 0), (9, rV 544), (10, iV 1)], [(64, some (.box [.d (.v (.int .i64 x.f0)), .d (.sl (x.f1.map d151))])), (416, some (.row 5 35 ((l.map toTx).map d35) false true)), (464, some (.nst 5 38 [(4, 2, 188)] ((((toLedger x)).f1).map d38) [])), (480, some (.box [.d (.v (.int .i64 (((toLedger x)).f0))), .ref 464])), (544, some (.row 5 35 ((fitW ((toLedger x)) (l.map toTx)).map d35) false true))], 816⟩ ?_
       refine X.seq (rs 2 ?_)
       obtain ⟨r56, q57, hr59, hf58⟩ := l_markTxS (l.map toTx) 1 (by first | assumption | omega) (by omega)
       obtain ⟨hql, hqk, hqm⟩ := hr59
       refine CH.callB hf58 Try.func21 ⟨rfl, rfl⟩ 416 5 35 ((l.map toTx).map d35) true 35 (q57.map d35) (by kernel_rfl) (by kernel_rfl) (by kernel_rfl) (by kernel_rfl) (by kernel_rfl) (by first | (simp; done) | (simp; omega)) (by kernel_rfl) ?_
       refine go 1 ?_
       refine ek ⟨[(0, lV (l.map d100)), (3, .pt 64 0 0), (6, .e (.c (.f (.sl ((fitW ((toLedger x)) (l.map toTx)).map d35))))), (8, .pt 480 0 0), (9, rV 544), (10, iV r56)], [(64, some (.box [.d (.v (.int .i64 x.f0)), .d (.sl (x.f1.map d151))])), (464, some (.nst 5 38 [(4, 2, 188)] ((((toLedger x)).f1).map d38) [])), (480, some (.box [.d (.v (.int .i64 (((toLedger x)).f0))), .ref 464])), (544, some (.row 5 35 ((fitW ((toLedger x)) (l.map toTx)).map d35) false true))], 880⟩ ?_
       refine X.seq (rs 2 ?_)
       obtain ⟨r60, q61, hr63, hf62⟩ := l_markLedger ((toLedger x)) r56 (by assumption) (by first | assumption | omega)
       obtain ⟨hmq, hmk⟩ := hr63
       refine CH.callG hf62 Try.func22 ⟨rfl, rfl⟩ [(464, 0)] (by kernel_rfl) (by kernel_rfl) (by kernel_rfl) (nb := true) (fun _ => (back_consN 5 38 [(4, 2, 188)] ((((toLedger x)).f1).map d38) 38 [(4, 2, 188)] (q61.map d38) (by kernel_rfl) (by kernel_rfl) (by first | (simp; done) | (simp only [List.length_map]; first | assumption | omega) | (simp; omega)) back_nil)) (by kernel_rfl) ?_
       refine go 1 ?_
       refine ek ⟨[(0, lV (l.map d100)), (3, .pt 64 0 0), (6, .e (.c (.f (.sl ((fitW ((toLedger x)) (l.map toTx)).map d35))))), (9, rV 544), (10, iV r60)], [(64, some (.box [.d (.v (.int .i64 x.f0)), .d (.sl (x.f1.map d151))])), (544, some (.row 5 35 ((fitW ((toLedger x)) (l.map toTx)).map d35) false true))], 944⟩ ?_
       refine X.seq ?_
       refine X.seq (rs 3 ?_)
       rcases Bool.eq_false_or_eq_true (decide ((r60 : Int) < 0)) with hb64 | hb64
       ·refine aT 57 hb64 ?_
        refine aT 58 hb64 ?_
        replace hb64 := of_decide_eq_true (hb64)
        refine go 5 ?_
        refine ek ⟨[(0, lV (l.map d100)), (3, .pt 64 0 0), (6, .e (.c (.f (.sl ((fitW ((toLedger x)) (l.map toTx)).map d35))))), (9, rV 544), (63, bV true)], [(64, some (.box [.d (.v (.int .i64 x.f0)), .d (.sl (x.f1.map d151))])), (544, some (.row 5 35 ((fitW ((toLedger x)) (l.map toTx)).map d35) false true))], 1072⟩ ?_
        refine X.ifT (by kernel_rfl) ?_
        refine sk ⟨[(4, bV false)], [], 1088⟩ ?_
        refine X.ret ?_
        exact ⟨trivial, _, _, ⟨false, (by first | exact rfl | exact (by exfalso; omega) | exact (tf (allEq_self _) ‹_›) | exact (tf (eqV_self _) ‹_›) | exact (absurd rfl ‹_›)), rfl, rfl⟩, mkr⟩
       ·refine aF 57 hb64 ?_
        refine aF 58 hb64 ?_
        replace hb64 := of_decide_eq_false (hb64)
        refine go 2 ?_
        obtain ⟨r65, hr67, hf66⟩ := l_eqTxS (fitW ((toLedger x)) (l.map toTx)) (fitW ((toLedger x)) (l.map toTx)) (by first | assumption | omega) (by first | assumption | omega)
        replace hr67 := hr67.symm; subst hr67
        refine ca hf66 Try.func19 ?_
        refine go 2 ?_
        refine ek ⟨[(0, lV (l.map d100)), (3, .pt 64 0 0), (6, .e (.c (.f (.sl ((fitW ((toLedger x)) (l.map toTx)).map d35))))), (9, rV 544), (63, bV (!(allEq (fitW ((toLedger x)) (l.map toTx)) (fitW ((toLedger x)) (l.map toTx)))))], [(64, some (.box [.d (.v (.int .i64 x.f0)), .d (.sl (x.f1.map d151))])), (544, some (.row 5 35 ((fitW ((toLedger x)) (l.map toTx)).map d35) false true))], 1072⟩ ?_
        refine if_ (b := !(allEq (fitW ((toLedger x)) (l.map toTx)) (fitW ((toLedger x)) (l.map toTx)))) (fun hb69 => ?_) (fun hb69 => ?_)
        ·replace hb69 := bnot_yes (hb69)
         refine sk ⟨[(4, bV false)], [], 1088⟩ ?_
         refine X.ret ?_
         exact ⟨trivial, _, _, ⟨false, (by first | exact rfl | exact (by exfalso; omega) | exact (tf (allEq_self _) ‹_›) | exact (tf (eqV_self _) ‹_›) | exact (absurd rfl ‹_›)), rfl, rfl⟩, mkr⟩
        ·replace hb69 := bnot_no (hb69)
         refine X.skip ?_
         refine sk ⟨[(0, lV (l.map d100)), (3, .pt 64 0 0), (6, .e (.c (.f (.sl ((fitW ((toLedger x)) (l.map toTx)).map d35))))), (9, rV 544), (11, iV 1)], [(64, some (.box [.d (.v (.int .i64 x.f0)), .d (.sl (x.f1.map d151))])), (544, some (.row 5 35 ((fitW ((toLedger x)) (l.map toTx)).map d35) false true))], 1088⟩ ?_
         refine X.seq (rs 2 ?_)
         obtain ⟨r70, q71, hr73, hf72⟩ := l_markTxS (fitW ((toLedger x)) (l.map toTx)) 1 (by first | assumption | omega) (by omega)
         obtain ⟨hql, hqk, hqm⟩ := hr73
         refine CH.callB hf72 Try.func21 ⟨rfl, rfl⟩ 544 5 35 ((fitW ((toLedger x)) (l.map toTx)).map d35) true 35 (q71.map d35) (by kernel_rfl) (by kernel_rfl) (by kernel_rfl) (by kernel_rfl) (by kernel_rfl) (by first | (simp; done) | (simp; omega)) (by kernel_rfl) ?_
         refine go 1 ?_
         refine ek ⟨[(0, lV (l.map d100)), (3, .pt 64 0 0), (6, .e (.c (.f (.sl ((fitW ((toLedger x)) (l.map toTx)).map d35))))), (9, rV 544), (11, iV r70)], [(64, some (.box [.d (.v (.int .i64 x.f0)), .d (.sl (x.f1.map d151))])), (544, some (.row 5 35 (q71.map d35) false true))], 1152⟩ ?_
         refine sk ⟨[(0, lV (l.map d100)), (3, .pt 64 0 0), (6, .e (.c (.f (.sl ((fitW ((toLedger x)) (l.map toTx)).map d35))))), (9, rV 544), (11, iV r70), (12, iV 1)], [(64, some (.box [.d (.v (.int .i64 x.f0)), .d (.sl (x.f1.map d151))])), (544, some (.row 5 35 (q71.map d35) false true))], 1168⟩ ?_
         refine X.seq (rs 2 ?_)
         obtain ⟨r74, hr76, hf75⟩ := l_heldTxS q71 1 (by first | assumption | omega) (by omega)
         obtain ⟨hhb, hhd⟩ := hr76
         refine ca hf75 Try.func23 ?_
         refine go 1 ?_
         refine ek ⟨[(0, lV (l.map d100)), (3, .pt 64 0 0), (6, .e (.c (.f (.sl ((fitW ((toLedger x)) (l.map toTx)).map d35))))), (9, rV 544), (11, iV r70), (12, iV r74)], [(64, some (.box [.d (.v (.int .i64 x.f0)), .d (.sl (x.f1.map d151))])), (544, some (.row 5 35 (q71.map d35) false true))], 1232⟩ ?_
         refine X.seq ?_
         refine X.seq ?_
         have hh := hhd (by rw [hql]; exact hqm)
         refine rk ⟨[(0, lV (l.map d100)), (3, .pt 64 0 0), (6, .e (.c (.f (.sl ((fitW ((toLedger x)) (l.map toTx)).map d35))))), (9, rV 544), (11, iV r70), (12, iV r74), (71, bV (decide ((r74 : Int) < 0)))], [(64, some (.box [.d (.v (.int .i64 x.f0)), .d (.sl (x.f1.map d151))])), (544, some (.row 5 35 (q71.map d35) false true))], 1264⟩ ?_
         refine if_ (b := decide ((r74 : Int) < 0)) (fun hb77 => ?_) (fun hb77 => ?_)
         ·replace hb77 := of_decide_eq_true (hb77)
          refine sk ⟨[(4, bV false)], [], 1280⟩ ?_
          refine X.ret ?_
          exact ⟨trivial, _, _, ⟨false, (by first | exact rfl | exact (by exfalso; omega) | exact (tf (allEq_self _) ‹_›) | exact (tf (eqV_self _) ‹_›) | exact (absurd rfl ‹_›)), rfl, rfl⟩, mkr⟩
         ·replace hb77 := of_decide_eq_false (hb77)
          refine X.skip ?_
          refine X.seq ?_
          refine sk ⟨[(0, lV (l.map d100)), (3, .pt 64 0 0), (6, .e (.c (.f (.sl ((fitW ((toLedger x)) (l.map toTx)).map d35))))), (9, rV 544), (11, iV r70), (74, bV (r74 != r70))], [(64, some (.box [.d (.v (.int .i64 x.f0)), .d (.sl (x.f1.map d151))])), (544, some (.row 5 35 (q71.map d35) false true))], 1312⟩ ?_
          refine if_ (b := (r74 != r70)) (fun hb78 => ?_) (fun hb78 => ?_)
          ·replace hb78 := bne_iff_ne.1 (hb78)
           refine sk ⟨[(4, bV false)], [], 1328⟩ ?_
           refine X.ret ?_
           exact ⟨trivial, _, _, ⟨false, (by first | exact rfl | exact (by exfalso; omega) | exact (tf (allEq_self _) ‹_›) | exact (tf (eqV_self _) ‹_›) | exact (absurd rfl ‹_›)), rfl, rfl⟩, mkr⟩
          ·replace hb78 := bne_eq_false_iff_eq.1 (hb78)
           refine X.skip ?_
           refine X.seq (rs 1 ?_)
           obtain ⟨r79, hr81, hf80⟩ := l_toTxS l (by first | assumption | omega)
           replace hr81 := hr81.symm; subst hr81
           have hlm : (l.map toTx).length = l.length := List.length_map ..
           refine ca hf80 Try.func17 ?_
           refine go 1 ?_
           obtain ⟨r83, hr85, hf84⟩ := l_toLedger x (by assumption)
           replace hr85 := hr85.symm; subst hr85
           refine ca hf84 Try.func18 ?_
           obtain ⟨r87, hr89, hf88⟩ := i_PoolFitR (l.map toTx) ((toLedger x)) (by assumption) (by assumption)
           replace hr89 := hr89.symm; subst hr89
           have hftl := fit_len ((toLedger x)) (l.map toTx)
           refine ca hf88 Try.func9 ?_
           refine go 1 ?_
           refine ek ⟨[(6, .e (.c (.f (.sl ((fitW ((toLedger x)) (l.map toTx)).map d35))))), (9, rV 544), (11, iV r70), (13, rV 1376)], [(544, some (.row 5 35 (q71.map d35) false true)), (1376, some (.row 5 35 ((fitW ((toLedger x)) (l.map toTx)).map d35) false true))], 1408⟩ ?_
           refine X.seq ?_
           refine X.seq (rs 2 ?_)
           obtain ⟨r91, hr93, hf92⟩ := l_eqTxS (fitW ((toLedger x)) (l.map toTx)) (fitW ((toLedger x)) (l.map toTx)) (by first | assumption | omega) (by first | assumption | omega)
           replace hr93 := hr93.symm; subst hr93
           refine ca hf92 Try.func19 ?_
           refine go 1 ?_
           refine ek ⟨[(9, rV 544), (11, iV r70), (83, bV (!(allEq (fitW ((toLedger x)) (l.map toTx)) (fitW ((toLedger x)) (l.map toTx)))))], [(544, some (.row 5 35 (q71.map d35) false true))], 1472⟩ ?_
           refine if_ (b := !(allEq (fitW ((toLedger x)) (l.map toTx)) (fitW ((toLedger x)) (l.map toTx)))) (fun hb95 => ?_) (fun hb95 => ?_)
           ·replace hb95 := bnot_yes (hb95)
            refine sk ⟨[(4, bV false)], [], 1488⟩ ?_
            refine X.ret ?_
            exact ⟨trivial, _, _, ⟨false, (by first | exact rfl | exact (by exfalso; omega) | exact (tf (allEq_self _) ‹_›) | exact (tf (eqV_self _) ‹_›) | exact (absurd rfl ‹_›)), rfl, rfl⟩, mkr⟩
           ·replace hb95 := bnot_no (hb95)
            refine X.skip ?_
            refine sk ⟨[(9, rV 544), (11, iV r70), (12, iV 1)], [(544, some (.row 5 35 (q71.map d35) false true))], 1488⟩ ?_
            refine X.seq (rs 2 ?_)
            obtain ⟨r96, hr98, hf97⟩ := l_heldTxS q71 1 (by first | assumption | omega) (by omega)
            obtain ⟨hhb, hhd⟩ := hr98
            refine ca hf97 Try.func23 ?_
            refine go 1 ?_
            refine ek ⟨[(11, iV r70), (12, iV r96)], [], 1552⟩ ?_
            refine X.seq ?_
            refine X.seq ?_
            have hh := hhd (by rw [hql]; exact hqm)
            refine rk ⟨[(11, iV r70), (12, iV r96), (88, bV (decide ((r96 : Int) < 0)))], [], 1584⟩ ?_
            refine if_ (b := decide ((r96 : Int) < 0)) (fun hb99 => ?_) (fun hb99 => ?_)
            ·replace hb99 := of_decide_eq_true (hb99)
             refine sk ⟨[(4, bV false)], [], 1600⟩ ?_
             refine X.ret ?_
             exact ⟨trivial, _, _, ⟨false, (by first | exact rfl | exact (by exfalso; omega) | exact (tf (allEq_self _) ‹_›) | exact (tf (eqV_self _) ‹_›) | exact (absurd rfl ‹_›)), rfl, rfl⟩, mkr⟩
            ·replace hb99 := of_decide_eq_false (hb99)
             refine X.skip ?_
             refine X.seq ?_
             refine sk ⟨[(91, bV (r96 != r70))], [], 1632⟩ ?_
             refine if_ (b := (r96 != r70)) (fun hb100 => ?_) (fun hb100 => ?_)
             ·replace hb100 := bne_iff_ne.1 (hb100)
              refine sk ⟨[(4, bV false)], [], 1648⟩ ?_
              refine X.ret ?_
              exact ⟨trivial, _, _, ⟨false, (by first | exact rfl | exact (by exfalso; omega) | exact (tf (allEq_self _) ‹_›) | exact (tf (eqV_self _) ‹_›) | exact (absurd rfl ‹_›)), rfl, rfl⟩, mkr⟩
             ·replace hb100 := bne_eq_false_iff_eq.1 (hb100)
              refine X.skip ?_
              refine sk ⟨[(4, bV true)], [], 1648⟩ ?_
              refine X.ret ?_
              exact ⟨trivial, _, _, ⟨true, (by first | exact rfl | exact (by exfalso; omega) | exact (tf (allEq_self _) ‹_›) | exact (tf (eqV_self _) ‹_›) | exact (absurd rfl ‹_›)), rfl, rfl⟩, mkr⟩
 obtain ⟨_, _, ⟨r0, h1_, rfl, rfl⟩, hf⟩ := key
 exact ⟨r0, h1_, hf⟩
end Go.Proofs.Ytggmeldoecnkaaa.Av
