/-
What functions of the program come to, walked one by one.
Conditions: none beside those that each theorem names.
-/
import Derived.Test.YtggmeldoecnkaaaAvLE
import Derived.Test.YtggmeldoecnkaaaAv36
import Derived.Test.YtggmeldoecnkaaaAvPO
import Derived.Test.YtggmeldoecnkaaaAvH
set_option linter.unusedVariables false
set_option linter.unusedSimpArgs false
namespace Go.Proofs.Ytggmeldoecnkaaa.Av
open Go.RowKit
set_option maxRecDepth 20000
set_option maxHeartbeats 4000000

noncomputable def eqV {α : Type} (a b : α) : Bool := @decide (a = b) (Classical.propDecidable _)
theorem eqV_iff {α : Type} {a b : α} : eqV a b = true ↔ a = b := by simp [eqV]
theorem eqV_self {α : Type} (a : α) : eqV a a = true := eqV_iff.2 rfl
theorem eqV_no {α : Type} {a b : α} (h : eqV a b = false) : a ≠ b := fun e => by rw [eqV_iff.2 e] at h; cases h
def toLeave (x : S211) : S188 := ⟨x.f0, x.f1⟩
def toAcct (x : S151) : S38 := ⟨x.f0, x.f1, x.f2, x.f3, (x.f4.map toLeave)⟩
def Sm38 (x : S38) : Prop := SmS x.f0 ∧ x.f4.length ≤ 2000000
def toLedger (x : S42) : S27 := ⟨x.f0, (x.f1.map toAcct)⟩
def Sm27 (x : S27) : Prop := (x.f1.length ≤ 2000000 ∧ ∀ z, z ∈ x.f1 → Sm38 z)

/-- How many leavings. -/
def acT : List S38 → Nat
  | [] => 0
  | x :: l => x.f4.length + acT l
theorem acT_app (l m : List S38) : acT (l ++ m) = acT l + acT m := by
  induction l with
  | nil => simp [acT]
  | cons x l ih => simp only [List.cons_append, acT, ih]; omega
theorem acT_take {l : List S38} {i : Int} {x : S38} (h0 : 0 ≤ i) (hx : l[i.toNat]? = some x) : acT (l.take (i + 1).toNat) = acT (l.take i.toNat) + x.f4.length := by
  rw [← take_succ h0 hx, acT_app]
  rfl
theorem acT_le (l : List S38) (n : Nat) : acT (l.take n) ≤ acT l := by
  have := acT_app (l.take n) (l.drop n)
  rw [List.take_append_drop] at this
  omega
theorem acT_mp {l : List S151} {i : Int} {x : S151} (h0 : 0 ≤ i) (hx : l[i.toNat]? = some x) : acT ((l.take (i + 1).toNat).map toAcct) = acT ((l.take i.toNat).map toAcct) + (toAcct x).f4.length := by
  rw [← take_succ h0 hx, List.map_append, acT_app]
  rfl
theorem acT_end {l : List S151} {i : Int} (h : (l.length : Int) ≤ i) : acT ((l.take i.toNat).map toAcct) = acT (l.map toAcct) := by rw [List.take_of_length_le (by omega)]
theorem l_szLeaveS (l : List S211) (n : Int) (hw : l.length ≤ maxLen ∧ ∀ y ∈ l, w211 y) (hn : 0 ≤ n ∧ n ≤ 2000000) : ∃ r0 : Int, (r0 ≤ n ∧ -1 ≤ r0 ∧ (0 ≤ r0 → r0 + l.length ≤ n)) ∧ Fn Try.prog 164 [lV (l.map d211), iV n] (lookH []) (iV r0) (lookH []) := by
 have key : ∃ x' h', ((fun x' h' => ∃ r0 : Int, (r0 ≤ n ∧ -1 ≤ r0 ∧ (0 ≤ r0 → r0 + l.length ≤ n)) ∧ x' = iV r0 ∧ h' = [])) x' h' ∧ Fn Try.prog 164 [lV (l.map d211), iV n] (lookH []) x' (lookH h') := by
  refine Fn.bodyX (N := 12) hτ Try.func164 rfl rfl rfl rfl ?_
  refine sk ⟨[(0, lV (l.map d211)), (1, iV n)], [], 80⟩ ?_
  refine X.seq ?_
  have hsl : l.length ≤ 9223372036854775807 := hw.1
  have el1 : (l.map d211).length = l.length := List.length_map ..
  refine X.rk ⟨[(1, iV (wrap64 (n - ((l.map d211).length : Int))))], [], 160⟩ hτ hmix (by kernel_rfl) (by kernel_rfl) (s2 := ⟨[(1, iV (n - ((l.map d211).length : Int)))], [], 160⟩) (congrArg (fun z : Int => (⟨[(1, iV z)], [], 160⟩ : St)) (show wrap64 (n - ((l.map d211).length : Int)) = (n - ((l.map d211).length : Int)) by rw [w64 (n := (n - ((l.map d211).length : Int))) (by omega) (by omega)])) ?_
  refine X.seq ?_
  refine sk ⟨[(1, iV (n - ((l.map d211).length : Int))), (10, bV (decide (((n - ((l.map d211).length : Int)) : Int) < 0)))], [], 192⟩ ?_
  refine if_ (b := decide (((n - ((l.map d211).length : Int)) : Int) < 0)) (fun hb2 => ?_) (fun hb2 => ?_)
  ·replace hb2 := of_decide_eq_true (hb2)
   refine sk ⟨[(4, iV (-1))], [], 208⟩ ?_
   refine X.ret ?_
   exact ⟨trivial, _, _, ⟨(-1), ⟨by omega, by omega, fun h => by first | omega | (simp only [List.length_map] at *; omega)⟩, rfl, rfl⟩, mkr⟩
  ·replace hb2 := of_decide_eq_false (hb2)
   refine X.skip ?_
   refine sk ⟨[(4, iV (n - ((l.map d211).length : Int)))], [], 224⟩ ?_
   refine X.ret ?_
   exact ⟨trivial, _, _, ⟨(n - ((l.map d211).length : Int)), ⟨by omega, by omega, fun h => by first | omega | (simp only [List.length_map] at *; omega)⟩, rfl, rfl⟩, mkr⟩
 obtain ⟨_, _, ⟨r0, h1_, rfl, rfl⟩, hf⟩ := key
 exact ⟨r0, h1_, hf⟩

theorem l_szAcct (x : S151) (n : Int) (hw : w151 x) (hn : 0 ≤ n ∧ n ≤ 2000000) : ∃ r0 : Int, (r0 ≤ n ∧ -1 ≤ r0 ∧ (0 ≤ r0 → Sm38 (toAcct x) ∧ r0 + (toAcct x).f4.length ≤ n)) ∧ Fn Try.prog 118 [.e (.agg (cD (d151 x))), iV n] (lookH []) (iV r0) (lookH []) := by
 have key : ∃ x' h', ((fun x' h' => ∃ r0 : Int, (r0 ≤ n ∧ -1 ≤ r0 ∧ (0 ≤ r0 → Sm38 (toAcct x) ∧ r0 + (toAcct x).f4.length ≤ n)) ∧ x' = iV r0 ∧ h' = [])) x' h' ∧ Fn Try.prog 118 [.e (.agg (cD (d151 x))), iV n] (lookH []) x' (lookH h') := by
  refine Fn.bodyX (N := 19) hτ Try.func118 rfl rfl rfl rfl ?_
  refine sk ⟨[(1, iV n), (2, .pt 64 0 0)], [(64, some (.box (cD (d151 x))))], 96⟩ ?_
  refine X.seq ?_
  have hs0 : x.f0.size ≤ 9223372036854775807 := hw.1
  have hw4 := hw.2.2.2.2
  refine X.rk ⟨[(1, iV (wrap64 (n - (x.f0.size : Int)))), (2, .pt 64 0 0)], [(64, some (.box (cD (d151 x))))], 192⟩ hτ hmix (by kernel_rfl) (by kernel_rfl) (s2 := ⟨[(1, iV (n - (x.f0.size : Int))), (2, .pt 64 0 0)], [(64, some (.box (cD (d151 x))))], 192⟩) (congrArg (fun z : Int => (⟨[(1, iV z), (2, .pt 64 0 0)], [(64, some (.box (cD (d151 x))))], 192⟩ : St)) (show wrap64 (n - (x.f0.size : Int)) = (n - (x.f0.size : Int)) by rw [w64 (n := (n - (x.f0.size : Int))) (by omega) (by omega)])) ?_
  refine X.seq ?_
  refine sk ⟨[(1, iV (n - (x.f0.size : Int))), (2, .pt 64 0 0), (11, bV (decide (((n - (x.f0.size : Int)) : Int) < 0)))], [(64, some (.box (cD (d151 x))))], 224⟩ ?_
  refine if_ (b := decide (((n - (x.f0.size : Int)) : Int) < 0)) (fun hb1 => ?_) (fun hb1 => ?_)
  ·replace hb1 := of_decide_eq_true (hb1)
   refine sk ⟨[(4, iV (-1))], [], 240⟩ ?_
   refine X.ret ?_
   exact ⟨trivial, _, _, ⟨(-1), ⟨by omega, by omega, fun h => by first | omega | (have h9 := hz2 (by omega); have h8 : (x.f4.map toLeave).length = x.f4.length := List.length_map ..; exact ⟨⟨m0, by show (x.f4.map toLeave).length ≤ _; omega⟩, by show _ + ((x.f4.map toLeave).length : Int) ≤ _; omega⟩)⟩, rfl, rfl⟩, mkr⟩
  ·replace hb1 := of_decide_eq_false (hb1)
   refine X.skip ?_
   refine X.seq ?_
   have m0 : SmS x.f0 := (by show _ ≤ 2000000; omega)
   refine rs 3 ?_
   obtain ⟨r2, hr4, hf3⟩ := l_szLeaveS x.f4 (n - (x.f0.size : Int)) (by assumption) (by first | omega | assumption)
   obtain ⟨hz1, hz0, hz2⟩ := hr4
   refine ca hf3 Try.func164 ?_
   refine go 1 ?_
   refine ek ⟨[(1, iV r2)], [], 304⟩ ?_
   refine X.seq ?_
   refine X.seq ?_
   have m0 : SmS x.f0 := (by show _ ≤ 2000000; omega)
   refine rk ⟨[(1, iV r2), (17, bV (decide ((r2 : Int) < 0)))], [], 336⟩ ?_
   refine if_ (b := decide ((r2 : Int) < 0)) (fun hb5 => ?_) (fun hb5 => ?_)
   ·replace hb5 := of_decide_eq_true (hb5)
    refine sk ⟨[(4, iV (-1))], [], 352⟩ ?_
    refine X.ret ?_
    exact ⟨trivial, _, _, ⟨(-1), ⟨by omega, by omega, fun h => by first | omega | (have h9 := hz2 (by omega); have h8 : (x.f4.map toLeave).length = x.f4.length := List.length_map ..; exact ⟨⟨m0, by show (x.f4.map toLeave).length ≤ _; omega⟩, by show _ + ((x.f4.map toLeave).length : Int) ≤ _; omega⟩)⟩, rfl, rfl⟩, mkr⟩
   ·replace hb5 := of_decide_eq_false (hb5)
    refine X.skip ?_
    refine sk ⟨[(4, iV r2)], [], 368⟩ ?_
    refine X.ret ?_
    exact ⟨trivial, _, _, ⟨r2, ⟨by omega, by omega, fun h => by first | omega | (have h9 := hz2 (by omega); have h8 : (x.f4.map toLeave).length = x.f4.length := List.length_map ..; exact ⟨⟨m0, by show (x.f4.map toLeave).length ≤ _; omega⟩, by show _ + ((x.f4.map toLeave).length : Int) ≤ _; omega⟩)⟩, rfl, rfl⟩, mkr⟩
 obtain ⟨_, _, ⟨r0, h1_, rfl, rfl⟩, hf⟩ := key
 exact ⟨r0, h1_, hf⟩

theorem l_szAcctS (l : List S151) (n : Int) (hw : l.length ≤ maxLen ∧ ∀ y ∈ l, w151 y) (hn : 0 ≤ n ∧ n ≤ 2000000) : ∃ r0 : Int, (r0 ≤ n ∧ -1 ≤ r0 ∧ (0 ≤ r0 → ((l.map toAcct).length ≤ 2000000 ∧ ∀ x, x ∈ (l.map toAcct) → Sm38 x) ∧ r0 + l.length + acT (l.map toAcct) ≤ n)) ∧ Fn Try.prog 52 [lV (l.map d151), iV n] (lookH []) (iV r0) (lookH []) := by
 have key : ∃ x' h', ((fun x' h' => ∃ r0 : Int, (r0 ≤ n ∧ -1 ≤ r0 ∧ (0 ≤ r0 → ((l.map toAcct).length ≤ 2000000 ∧ ∀ x, x ∈ (l.map toAcct) → Sm38 x) ∧ r0 + l.length + acT (l.map toAcct) ≤ n)) ∧ x' = iV r0 ∧ h' = [])) x' h' ∧ Fn Try.prog 52 [lV (l.map d151), iV n] (lookH []) x' (lookH h') := by
  refine Fn.bodyX (N := 27) hτ Try.func52 rfl rfl rfl rfl ?_
  refine sk ⟨[(0, lV (l.map d151)), (1, iV n)], [], 80⟩ ?_
  refine X.seq ?_
  have hsl : l.length ≤ 9223372036854775807 := hw.1
  have el1 : (l.map d151).length = l.length := List.length_map ..
  refine X.rk ⟨[(0, lV (l.map d151)), (1, iV (wrap64 (n - ((l.map d151).length : Int))))], [], 160⟩ hτ hmix (by kernel_rfl) (by kernel_rfl) (s2 := ⟨[(0, lV (l.map d151)), (1, iV (n - ((l.map d151).length : Int)))], [], 160⟩) (congrArg (fun z : Int => (⟨[(0, lV (l.map d151)), (1, iV z)], [], 160⟩ : St)) (show wrap64 (n - ((l.map d151).length : Int)) = (n - ((l.map d151).length : Int)) by rw [w64 (n := (n - ((l.map d151).length : Int))) (by omega) (by omega)])) ?_
  refine X.seq ?_
  refine sk ⟨[(0, lV (l.map d151)), (1, iV (n - ((l.map d151).length : Int))), (11, bV (decide (((n - ((l.map d151).length : Int)) : Int) < 0)))], [], 192⟩ ?_
  refine if_ (b := decide (((n - ((l.map d151).length : Int)) : Int) < 0)) (fun hb2 => ?_) (fun hb2 => ?_)
  ·replace hb2 := of_decide_eq_true (hb2)
   refine sk ⟨[(4, iV (-1))], [], 208⟩ ?_
   refine X.ret ?_
   exact ⟨trivial, _, _, ⟨(-1), ⟨by omega, by omega, fun h => by first | omega | (have h9 := acT_end (l := l) (i := _) ‹_›; omega) | exact ⟨⟨by rw [List.length_map]; omega, fun y hy => by obtain ⟨x, hx, rfl⟩ := List.mem_map.1 hy; exact mem_upto hA (by omega) x hx⟩, by rw [acT_end (by omega)] at hT; omega⟩⟩, rfl, rfl⟩, mkr⟩
  ·replace hb2 := of_decide_eq_false (hb2)
   refine X.skip ?_
   refine X.seq ?_
   refine sk ⟨[(0, lV (l.map d151)), (1, iV (n - ((l.map d151).length : Int))), (5, iV 0)], [], 208⟩ ?_
   refine X.block ?_
   -- 5: v1 : Int, v5 : Int
   refine X.loop (σ := { g : Int × Int // (fun (v1 : Int) (v5 : Int) => 0 ≤ v5 ∧ v5 ≤ l.length ∧ 0 ≤ v1 ∧ v1 + acT ((l.take (v5).toNat).map toAcct) ≤ n - l.length ∧ Upto (fun _ y => Sm38 (toAcct y)) (fun n => l[n]?) v5) g.1 g.2 }) (fun g => (fun (v1 : Int) (v5 : Int) => ⟨[(0, lV (l.map d151)), (1, iV v1), (5, iV v5)], [], 208⟩) g.1.1 g.1.2) (fun g => (fun (v1 : Int) (v5 : Int) => (l.length - v5).toNat) g.1.1 g.1.2) ⟨((n - ((l.map d151).length : Int)), 0), ⟨by first | omega | (dsimp only; omega), by first | omega | (dsimp only; omega), by first | omega | (dsimp only; omega), by simp only [List.length_map, List.take_zero, List.map_nil, acT, Int.toNat_zero]; omega, upto_zero⟩⟩ (Wk.less (by kernel_rfl)) (fun g => ?_)
   obtain ⟨⟨v1, v5⟩, hg4⟩ := g
   have hg4 : 0 ≤ v5 ∧ v5 ≤ l.length ∧ 0 ≤ v1 ∧ v1 + acT ((l.take (v5).toNat).map toAcct) ≤ n - l.length ∧ Upto (fun _ y => Sm38 (toAcct y)) (fun n => l[n]?) v5 := hg4
   obtain ⟨_, _, _, hT, hA⟩ := hg4
   refine X.seq ?_
   refine sk ⟨[(0, lV (l.map d151)), (1, iV v1), (5, iV v5), (15, bV (decide ((v5 : Int) < ((l.map d151).length : Int))))], [], 272⟩ ?_
   refine if_ (b := decide ((v5 : Int) < ((l.map d151).length : Int))) (fun hb5 => ?_) (fun hb5 => ?_)
   ·replace hb5 := of_decide_eq_true (hb5)
    refine X.skip ?_
    refine X.seq ?_
    refine X.block ?_
    refine X.seq (rs 2 ?_)
    obtain ⟨x6, hx6⟩ : ∃ x, l[Int.toNat v5]? = some x := ⟨_, List.getElem?_eq_getElem (by first | omega | (simp; done) | (simp; omega))⟩
    refine CH.idx hτ (d151 x6) (rows := (l.map d151)) (n := v5) (sz := 5) (by kernel_rfl) (by kernel_rfl) (by first | omega | (simp; done) | (simp; omega)) (by rw [List.getElem?_map, hx6]; rfl) (by kernel_rfl) ?_
    refine go 2 ?_
    obtain ⟨r7, hr9, hf8⟩ := l_szAcct x6 v1 (by exact hw.2 _ (List.mem_of_getElem? ‹_›)) (by omega)
    obtain ⟨hz1, hz0, hz2⟩ := hr9
    refine ca hf8 Try.func118 ?_
    refine go 1 ?_
    refine ek ⟨[(0, lV (l.map d151)), (1, iV r7), (5, iV v5)], [], 384⟩ ?_
    refine sk ⟨[(0, lV (l.map d151)), (1, iV r7), (5, iV v5), (25, bV (decide ((r7 : Int) < 0)))], [], 416⟩ ?_
    refine if_ (b := decide ((r7 : Int) < 0)) (fun hb10 => ?_) (fun hb10 => ?_)
    ·replace hb10 := of_decide_eq_true (hb10)
     refine sk ⟨[(4, iV (-1))], [], 432⟩ ?_
     refine X.ret ?_
     exact ⟨trivial, _, _, ⟨(-1), ⟨by omega, by omega, fun h => by first | omega | (have h9 := acT_end (l := l) (i := _) ‹_›; omega) | exact ⟨⟨by rw [List.length_map]; omega, fun y hy => by obtain ⟨x, hx, rfl⟩ := List.mem_map.1 hy; exact mem_upto hA (by omega) x hx⟩, by rw [acT_end (by omega)] at hT; omega⟩⟩, rfl, rfl⟩, mkr⟩
    ·replace hb10 := of_decide_eq_false (hb10)
     refine X.skip ?_
     refine X.rk ⟨[(0, lV (l.map d151)), (1, iV r7), (5, iV (wrap64 (v5 + 1)))], [], 464⟩ hτ hmix (by kernel_rfl) (by kernel_rfl) (s2 := ⟨[(0, lV (l.map d151)), (1, iV r7), (5, iV (v5 + 1))], [], 464⟩) (congrArg (fun z : Int => (⟨[(0, lV (l.map d151)), (1, iV r7), (5, iV z)], [], 464⟩ : St)) (show wrap64 (v5 + 1) = (v5 + 1) by rw [w64 (n := (v5 + 1)) (by omega) (by omega)])) ?_
     refine ⟨⟨(r7, (v5 + 1)), ⟨by first | omega | (dsimp only; omega), by first | omega | (dsimp only; omega), by first | omega | (dsimp only; omega), (by have h9 := hz2 (by first | omega | (dsimp only; omega)); rw [acT_mp (by first | omega | (dsimp only; omega)) ‹_›]; have h8 := h9.2; omega), upto_nx (by first | omega | (dsimp only; omega)) hA ‹_› (hz2 (by first | omega | (dsimp only; omega))).1⟩⟩, by first | exact rfl | omega | (dsimp only; omega) | (simp only [List.length_append, List.length_cons, List.length_nil, List.length_set]; omega) | (simp; done) | (simp; omega), Wk.mk' [] (by kernel_rfl) (by kernel_rfl) (by kernel_rfl)⟩
   ·replace hb5 := of_decide_eq_false (hb5)
    refine X.exit ?_
    refine sk ⟨[(4, iV v1)], [], 304⟩ ?_
    refine X.ret ?_
    exact ⟨trivial, _, _, ⟨v1, ⟨by omega, by omega, fun h => by first | omega | (have h9 := acT_end (l := l) (i := _) ‹_›; omega) | exact ⟨⟨by rw [List.length_map]; omega, fun y hy => by obtain ⟨x, hx, rfl⟩ := List.mem_map.1 hy; exact mem_upto hA (by omega) x hx⟩, by rw [acT_end (by omega)] at hT; omega⟩⟩, rfl, rfl⟩, mkr⟩
 obtain ⟨_, _, ⟨r0, h1_, rfl, rfl⟩, hf⟩ := key
 exact ⟨r0, h1_, hf⟩

theorem l_szLedger (x : S42) (n : Int) (hw : w42 x) (hn : 0 ≤ n ∧ n ≤ 2000000) : ∃ r0 : Int, (r0 ≤ n ∧ -1 ≤ r0 ∧ (0 ≤ r0 → acsSm (toLedger x).f1 ∧ r0 + (toLedger x).f1.length + acT (toLedger x).f1 ≤ n)) ∧ Fn Try.prog 15 [.e (.agg [.d (.v (.int .i64 x.f0)), .d (.sl (x.f1.map d151))]), iV n] (lookH []) (iV r0) (lookH []) := by
 have key : ∃ x' h', ((fun x' h' => ∃ r0 : Int, (r0 ≤ n ∧ -1 ≤ r0 ∧ (0 ≤ r0 → acsSm (toLedger x).f1 ∧ r0 + (toLedger x).f1.length + acT (toLedger x).f1 ≤ n)) ∧ x' = iV r0 ∧ h' = [])) x' h' ∧ Fn Try.prog 15 [.e (.agg [.d (.v (.int .i64 x.f0)), .d (.sl (x.f1.map d151))]), iV n] (lookH []) x' (lookH h') := by
  refine Fn.bodyX (N := 12) hτ Try.func15 rfl rfl rfl rfl ?_
  refine sk ⟨[(1, iV n), (2, .pt 64 0 0)], [(64, some (.box [.d (.v (.int .i64 x.f0)), .d (.sl (x.f1.map d151))]))], 96⟩ ?_
  refine X.seq ?_
  have hwa := hw.2
  refine rs 3 ?_
  obtain ⟨r1, hr3, hf2⟩ := l_szAcctS x.f1 n (by assumption) (by first | omega | assumption)
  obtain ⟨hz1, hz0, hz2⟩ := hr3
  refine ca hf2 Try.func52 ?_
  refine go 1 ?_
  refine ek ⟨[(1, iV r1)], [], 176⟩ ?_
  refine X.seq ?_
  refine sk ⟨[(1, iV r1), (10, bV (decide ((r1 : Int) < 0)))], [], 208⟩ ?_
  refine if_ (b := decide ((r1 : Int) < 0)) (fun hb4 => ?_) (fun hb4 => ?_)
  ·replace hb4 := of_decide_eq_true (hb4)
   refine sk ⟨[(4, iV (-1))], [], 224⟩ ?_
   refine X.ret ?_
   exact ⟨trivial, _, _, ⟨(-1), ⟨by omega, by omega, fun h => by first | omega | (have h9 := hz2 (by omega); exact ⟨h9.1, by show _ + ((x.f1.map toAcct).length : Int) + (acT (x.f1.map toAcct) : Int) ≤ _; rw [List.length_map]; exact h9.2⟩)⟩, rfl, rfl⟩, mkr⟩
  ·replace hb4 := of_decide_eq_false (hb4)
   refine X.skip ?_
   refine sk ⟨[(4, iV r1)], [], 240⟩ ?_
   refine X.ret ?_
   exact ⟨trivial, _, _, ⟨r1, ⟨by omega, by omega, fun h => by first | omega | (have h9 := hz2 (by omega); exact ⟨h9.1, by show _ + ((x.f1.map toAcct).length : Int) + (acT (x.f1.map toAcct) : Int) ≤ _; rw [List.length_map]; exact h9.2⟩)⟩, rfl, rfl⟩, mkr⟩
 obtain ⟨_, _, ⟨r0, h1_, rfl, rfl⟩, hf⟩ := key
 exact ⟨r0, h1_, hf⟩

theorem l_toLeave (x : S211) : ∃ r0 : S188, (r0 = toLeave x) ∧ Fn Try.prog 191 [.e (.agg [.d (.v (.int .i64 x.f0)), .d (.v (.int .i64 x.f1))])] (lookH []) (.e (.agg [.d (.v (.int .i64 r0.f0)), .d (.v (.int .i64 r0.f1))])) (lookH []) := by
 have key : ∃ x' h', ((fun x' h' => ∃ r0 : S188, (r0 = toLeave x) ∧ x' = .e (.agg [.d (.v (.int .i64 r0.f0)), .d (.v (.int .i64 r0.f1))]) ∧ h' = [])) x' h' ∧ Fn Try.prog 191 [.e (.agg [.d (.v (.int .i64 x.f0)), .d (.v (.int .i64 x.f1))])] (lookH []) x' (lookH h') := by
  refine Fn.bodyX (N := 11) hτ Try.func191 rfl rfl rfl rfl ?_
  refine sk ⟨[(1, .pt 64 0 0), (2, .pt 80 0 0)], [(64, some (.box [.d (.v (.int .i64 x.f0)), .d (.v (.int .i64 x.f1))])), (80, some (.box [.d (.v (.int .i64 0)), .d (.v (.int .i64 0))]))], 96⟩ ?_
  refine sk ⟨[(1, .pt 64 0 0), (2, .pt 80 0 0), (3, .pt 96 0 0)], [(64, some (.box [.d (.v (.int .i64 x.f0)), .d (.v (.int .i64 x.f1))])), (80, some (.box [.d (.v (.int .i64 0)), .d (.v (.int .i64 0))])), (96, some (.box [.d (.v (.int .i64 0)), .d (.v (.int .i64 0))]))], 112⟩ ?_
  refine sk ⟨[(1, .pt 64 0 0), (2, .pt 80 0 0), (3, .pt 96 0 0)], [(64, some (.box [.d (.v (.int .i64 x.f0)), .d (.v (.int .i64 x.f1))])), (80, some (.box [.d (.v (.int .i64 0)), .d (.v (.int .i64 0))])), (96, some (.box [.d (.v (.int .i64 x.f0)), .d (.v (.int .i64 0))]))], 176⟩ ?_
  refine sk ⟨[(2, .pt 80 0 0), (3, .pt 96 0 0)], [(80, some (.box [.d (.v (.int .i64 0)), .d (.v (.int .i64 0))])), (96, some (.box [.d (.v (.int .i64 x.f0)), .d (.v (.int .i64 x.f1))]))], 240⟩ ?_
  refine sk ⟨[(2, .pt 80 0 0)], [(80, some (.box [.d (.v (.int .i64 x.f0)), .d (.v (.int .i64 x.f1))]))], 272⟩ ?_
  refine X.ret ?_
  exact ⟨trivial, _, _, ⟨(⟨x.f0, x.f1⟩ : S188), rfl, rfl, rfl⟩, mkr⟩
 obtain ⟨_, _, ⟨r0, h1_, rfl, rfl⟩, hf⟩ := key
 exact ⟨r0, h1_, hf⟩

theorem l_toLeaveS (l : List S211) (hl : l.length ≤ 2000000) : ∃ r0 : List S188, (r0 = l.map toLeave) ∧ Fn Try.prog 167 [lV (l.map d211)] (lookH []) (rV 64) (lookH [(64, some (.row 2 188 (r0.map d188) false true))]) := by
 have key : ∃ x' h', ((fun x' h' => ∃ r0 : List S188, (r0 = l.map toLeave) ∧ x' = rV 64 ∧ h' = [(64, some (.row 2 188 (r0.map d188) false true))])) x' h' ∧ Fn Try.prog 167 [lV (l.map d211)] (lookH []) x' (lookH h') := by
  refine Fn.bodyX (N := 23) hτ Try.func167 rfl rfl rfl rfl ?_
  refine sk ⟨[(0, lV (l.map d211))], [], 80⟩ ?_
  refine X.seq ?_
  have el1 : (l.map d211).length = l.length := List.length_map ..
  refine rs 2 ?_
  refine CH.mks hτ (n := (l.map d211).length) (bys := 16) (by kernel_rfl) (by kernel_rfl) (by first | omega | (simp only [List.length_map]; omega) | (simp; omega)) (by first | omega | (simp only [List.length_map]; omega) | (simp; omega)) (by kernel_rfl) ?_
  refine go 1 ?_
  refine CH.endk ⟨[(0, lV (l.map d211)), (3, rV 112)], [(112, some (.row 2 188 (List.replicate ((l.map d211).length) (d188 z188)) false true))], 144⟩ (by kernel_rfl) (by kernel_rfl) (s2 := ⟨[(0, lV (l.map d211)), (3, rV 112)], [(112, some (.row 2 188 ((List.replicate ((l.map d211).length) z188).map d188) false true))], 144⟩) (congrArg (fun z : List (List D) => (⟨[(0, lV (l.map d211)), (3, rV 112)], [(112, some (.row 2 188 z false true))], 144⟩ : St)) (show List.replicate ((l.map d211).length) (d188 z188) = ((List.replicate ((l.map d211).length) z188).map d188) from List.map_replicate.symm)) ?_
  refine X.seq ?_
  refine sk ⟨[(0, lV (l.map d211)), (3, rV 112), (4, iV 0)], [(112, some (.row 2 188 ((List.replicate ((l.map d211).length) z188).map d188) false true))], 160⟩ ?_
  refine X.block ?_
  -- 3: Lv3 : List S188, v4 : Int
  refine X.loop (σ := { g : (List S188) × Int // (fun (Lv3 : List S188) (v4 : Int) => 0 ≤ v4 ∧ v4 ≤ l.length ∧ Lv3.length = l.length ∧ ∀ (j : Nat) (x : S211), (j : Int) < v4 → l[j]? = some x → Lv3[j]? = some (toLeave x)) g.1 g.2 }) (fun g => (fun (Lv3 : List S188) (v4 : Int) => ⟨[(0, lV (l.map d211)), (3, rV 112), (4, iV v4)], [(112, some (.row 2 188 (Lv3.map d188) false true))], 160⟩) g.1.1 g.1.2) (fun g => (fun (Lv3 : List S188) (v4 : Int) => (l.length - v4).toNat) g.1.1 g.1.2) ⟨((List.replicate ((l.map d211).length) z188), 0), ⟨by first | omega | (dsimp only; omega), by first | omega | (dsimp only; omega), by simp, fun j x h => by first | omega | (dsimp only; omega)⟩⟩ (Wk.less (by kernel_rfl)) (fun g => ?_)
  obtain ⟨⟨Lv3, v4⟩, hg3⟩ := g
  have hg3 : 0 ≤ v4 ∧ v4 ≤ l.length ∧ Lv3.length = l.length ∧ ∀ (j : Nat) (x : S211), (j : Int) < v4 → l[j]? = some x → Lv3[j]? = some (toLeave x) := hg3
  obtain ⟨_, _, hL, hA⟩ := hg3
  refine X.seq ?_
  refine sk ⟨[(0, lV (l.map d211)), (3, rV 112), (4, iV v4), (11, bV (decide ((v4 : Int) < ((l.map d211).length : Int))))], [(112, some (.row 2 188 (Lv3.map d188) false true))], 224⟩ ?_
  refine if_ (b := decide ((v4 : Int) < ((l.map d211).length : Int))) (fun hb4 => ?_) (fun hb4 => ?_)
  ·replace hb4 := of_decide_eq_true (hb4)
   refine X.skip ?_
   refine X.seq ?_
   refine X.block ?_
   refine rs 4 ?_
   obtain ⟨x5, hx5⟩ : ∃ x, l[Int.toNat v4]? = some x := ⟨_, List.getElem?_eq_getElem (by first | omega | (simp; done) | (simp; omega))⟩
   refine CH.idx hτ (d211 x5) (rows := (l.map d211)) (n := v4) (sz := 2) (by kernel_rfl) (by kernel_rfl) (by first | omega | (simp; done) | (simp; omega)) (by rw [List.getElem?_map, hx5]; rfl) (by kernel_rfl) ?_
   refine go 1 ?_
   obtain ⟨r6, hr8, hf7⟩ := l_toLeave x5
   replace hr8 := hr8.symm; subst hr8
   refine ca hf7 Try.func191 ?_
   refine CH.idxR hτ (rows := (Lv3.map d188)) (n := v4) (b := 112) (by kernel_rfl) (by kernel_rfl) (by first | omega | (simp; done) | (simp; omega)) (by simp only [List.length_map, List.length_set]; first | omega | (simp; done) | (simp; omega)) (by kernel_rfl) ?_
   obtain ⟨x10, hx10⟩ : ∃ x, Lv3[Int.toNat v4]? = some x := ⟨_, List.getElem?_eq_getElem (by first | omega | (simp; done) | (simp; omega))⟩
   refine CH.row hτ (d188 x10) (by kernel_rfl) (by kernel_rfl) (by rw [List.getElem?_map, hx10]; rfl) (by kernel_rfl) ?_
   refine CH.endk ⟨[(0, lV (l.map d211)), (3, rV 112), (4, iV v4)], [(112, some (.row 2 188 ((Lv3.map d188).set (Int.toNat v4) (d188 ((toLeave x5)))) false true))], 368⟩ (by kernel_rfl) (by kernel_rfl) (s2 := ⟨[(0, lV (l.map d211)), (3, rV 112), (4, iV v4)], [(112, some (.row 2 188 ((Lv3.set (Int.toNat v4) ((toLeave x5))).map d188) false true))], 368⟩) (congrArg (fun z : List (List D) => (⟨[(0, lV (l.map d211)), (3, rV 112), (4, iV v4)], [(112, some (.row 2 188 z false true))], 368⟩ : St)) (show ((Lv3.map d188).set (Int.toNat v4) (d188 ((toLeave x5)))) = ((Lv3.set (Int.toNat v4) ((toLeave x5))).map d188) from List.map_set.symm)) ?_
   refine X.rk ⟨[(0, lV (l.map d211)), (3, rV 112), (4, iV (wrap64 (v4 + 1)))], [(112, some (.row 2 188 ((Lv3.set (Int.toNat v4) ((toLeave x5))).map d188) false true))], 416⟩ hτ hmix (by kernel_rfl) (by kernel_rfl) (s2 := ⟨[(0, lV (l.map d211)), (3, rV 112), (4, iV (v4 + 1))], [(112, some (.row 2 188 ((Lv3.set (Int.toNat v4) ((toLeave x5))).map d188) false true))], 416⟩) (congrArg (fun z : Int => (⟨[(0, lV (l.map d211)), (3, rV 112), (4, iV z)], [(112, some (.row 2 188 ((Lv3.set (Int.toNat v4) ((toLeave x5))).map d188) false true))], 416⟩ : St)) (show wrap64 (v4 + 1) = (v4 + 1) by rw [w64 (n := (v4 + 1)) (by omega) (by omega)])) ?_
   refine ⟨⟨((Lv3.set (Int.toNat v4) ((toLeave x5))), (v4 + 1)), ⟨by first | omega | (dsimp only; omega), by first | omega | (dsimp only; omega), by simp; omega, ts_next (f := toLeave) hA (by first | omega | (dsimp only; omega)) (by first | omega | (dsimp only; omega)) ‹_›⟩⟩, by first | exact rfl | omega | (dsimp only; omega) | (simp only [List.length_append, List.length_cons, List.length_nil, List.length_set]; omega) | (simp; done) | (simp; omega), Wk.mk' [(112, 112)] (by kernel_rfl) (by kernel_rfl) (by kernel_rfl)⟩
  ·replace hb4 := of_decide_eq_false (hb4)
   refine X.exit ?_
   refine sk ⟨[(2, rV 112)], [(112, some (.row 2 188 (Lv3.map d188) false true))], 256⟩ ?_
   refine X.ret ?_
   exact ⟨trivial, _, _, ⟨Lv3, ts_end hA hL (by omega), rfl, rfl⟩, .inl (Ret.mk' [(64, 112)] (by kernel_rfl) (by kernel_rfl) (by kernel_rfl))⟩
 obtain ⟨_, _, ⟨r0, h1_, rfl, rfl⟩, hf⟩ := key
 exact ⟨r0, h1_, hf⟩

theorem l_toAcct (x : S151) (hl : x.f4.length ≤ 2000000) : ∃ r0 : S38, (r0 = toAcct x) ∧ Fn Try.prog 121 [.e (.agg (cD (d151 x)))] (lookH []) (.e (.agg [.d (.v (.string r0.f0)), .d (.v (.int .i64 r0.f1)), .d (.v (.int .i64 r0.f2)), .d (.v (.int .i64 r0.f3)), .ref 64])) (lookH [(64, some (.row 2 188 (r0.f4.map d188) false true))]) := by
 have key : ∃ x' h', ((fun x' h' => ∃ r0 : S38, (r0 = toAcct x) ∧ x' = .e (.agg [.d (.v (.string r0.f0)), .d (.v (.int .i64 r0.f1)), .d (.v (.int .i64 r0.f2)), .d (.v (.int .i64 r0.f3)), .ref 64]) ∧ h' = [(64, some (.row 2 188 (r0.f4.map d188) false true))])) x' h' ∧ Fn Try.prog 121 [.e (.agg (cD (d151 x)))] (lookH []) x' (lookH h') := by
  refine Fn.bodyX (N := 21) hτ Try.func121 rfl rfl rfl rfl ?_
  refine sk ⟨[(1, .pt 64 0 0), (2, .pt 80 0 0)], [(64, some (.box (cD (d151 x)))), (80, some (.box [.d (.v (.string (⟨#[]⟩ : ByteArray))), .d (.v (.int .i64 0)), .d (.v (.int .i64 0)), .d (.v (.int .i64 0)), .nil]))], 96⟩ ?_
  refine sk ⟨[(1, .pt 64 0 0), (2, .pt 80 0 0), (3, .pt 96 0 0)], [(64, some (.box (cD (d151 x)))), (80, some (.box [.d (.v (.string (⟨#[]⟩ : ByteArray))), .d (.v (.int .i64 0)), .d (.v (.int .i64 0)), .d (.v (.int .i64 0)), .nil])), (96, some (.box [.d (.v (.string (⟨#[]⟩ : ByteArray))), .d (.v (.int .i64 0)), .d (.v (.int .i64 0)), .d (.v (.int .i64 0)), .nil]))], 112⟩ ?_
  refine sk ⟨[(1, .pt 64 0 0), (2, .pt 80 0 0), (3, .pt 96 0 0)], [(64, some (.box (cD (d151 x)))), (80, some (.box [.d (.v (.string (⟨#[]⟩ : ByteArray))), .d (.v (.int .i64 0)), .d (.v (.int .i64 0)), .d (.v (.int .i64 0)), .nil])), (96, some (.box [.d (.v (.string x.f0)), .d (.v (.int .i64 0)), .d (.v (.int .i64 0)), .d (.v (.int .i64 0)), .nil]))], 176⟩ ?_
  refine sk ⟨[(1, .pt 64 0 0), (2, .pt 80 0 0), (3, .pt 96 0 0)], [(64, some (.box (cD (d151 x)))), (80, some (.box [.d (.v (.string (⟨#[]⟩ : ByteArray))), .d (.v (.int .i64 0)), .d (.v (.int .i64 0)), .d (.v (.int .i64 0)), .nil])), (96, some (.box [.d (.v (.string x.f0)), .d (.v (.int .i64 x.f1)), .d (.v (.int .i64 0)), .d (.v (.int .i64 0)), .nil]))], 240⟩ ?_
  refine sk ⟨[(1, .pt 64 0 0), (2, .pt 80 0 0), (3, .pt 96 0 0)], [(64, some (.box (cD (d151 x)))), (80, some (.box [.d (.v (.string (⟨#[]⟩ : ByteArray))), .d (.v (.int .i64 0)), .d (.v (.int .i64 0)), .d (.v (.int .i64 0)), .nil])), (96, some (.box [.d (.v (.string x.f0)), .d (.v (.int .i64 x.f1)), .d (.v (.int .i64 x.f2)), .d (.v (.int .i64 0)), .nil]))], 304⟩ ?_
  refine sk ⟨[(1, .pt 64 0 0), (2, .pt 80 0 0), (3, .pt 96 0 0)], [(64, some (.box (cD (d151 x)))), (80, some (.box [.d (.v (.string (⟨#[]⟩ : ByteArray))), .d (.v (.int .i64 0)), .d (.v (.int .i64 0)), .d (.v (.int .i64 0)), .nil])), (96, some (.box [.d (.v (.string x.f0)), .d (.v (.int .i64 x.f1)), .d (.v (.int .i64 x.f2)), .d (.v (.int .i64 x.f3)), .nil]))], 368⟩ ?_
  refine X.seq (rs 2 ?_)
  obtain ⟨r1, hr3, hf2⟩ := l_toLeaveS x.f4 (by first | assumption | omega)
  replace hr3 := hr3.symm; subst hr3
  have hlm : (x.f4.map toLeave).length = x.f4.length := List.length_map ..
  refine ca hf2 Try.func167 ?_
  refine go 2 ?_
  refine ek ⟨[(2, .pt 80 0 0), (3, .pt 96 0 0)], [(80, some (.box [.d (.v (.string (⟨#[]⟩ : ByteArray))), .d (.v (.int .i64 0)), .d (.v (.int .i64 0)), .d (.v (.int .i64 0)), .nil])), (96, some (.box [.d (.v (.string x.f0)), .d (.v (.int .i64 x.f1)), .d (.v (.int .i64 x.f2)), .d (.v (.int .i64 x.f3)), .ref 400])), (400, some (.row 2 188 ((x.f4.map toLeave).map d188) false true))], 448⟩ ?_
  refine sk ⟨[(2, .pt 80 0 0)], [(80, some (.box [.d (.v (.string x.f0)), .d (.v (.int .i64 x.f1)), .d (.v (.int .i64 x.f2)), .d (.v (.int .i64 x.f3)), .ref 400])), (400, some (.row 2 188 ((x.f4.map toLeave).map d188) false true))], 480⟩ ?_
  refine X.ret ?_
  exact ⟨trivial, _, _, ⟨(⟨x.f0, x.f1, x.f2, x.f3, (x.f4.map toLeave)⟩ : S38), rfl, rfl, rfl⟩, .inl (Ret.mk' [(64, 400)] (by kernel_rfl) (by kernel_rfl) (by kernel_rfl))⟩
 obtain ⟨_, _, ⟨r0, h1_, rfl, rfl⟩, hf⟩ := key
 exact ⟨r0, h1_, hf⟩

theorem l_toAcctS (l : List S151) (hl : acsSm (l.map toAcct)) : ∃ r0 : List S38, (r0 = l.map toAcct) ∧ Fn Try.prog 55 [lV (l.map d151)] (lookH []) (rV 64) (lookH [(64, some (.nst 5 38 [(4, 2, 188)] (r0.map d38) []))]) := by
 have key : ∃ x' h', ((fun x' h' => ∃ r0 : List S38, (r0 = l.map toAcct) ∧ x' = rV 64 ∧ h' = [(64, some (.nst 5 38 [(4, 2, 188)] (r0.map d38) []))])) x' h' ∧ Fn Try.prog 55 [lV (l.map d151)] (lookH []) x' (lookH h') := by
  refine Fn.bodyX (N := 23) hτ Try.func55 rfl rfl rfl rfl ?_
  refine sk ⟨[(0, lV (l.map d151))], [], 80⟩ ?_
  refine X.seq ?_
  have hll : l.length ≤ 2000000 := by have := hl.1; rwa [List.length_map] at this
  have el1 : (l.map d151).length = l.length := List.length_map ..
  refine rs 2 ?_
  refine CH.mkN hτ (n := (l.map d151).length) (bys := 64) [(4, 2, 188)] (by kernel_rfl) (by kernel_rfl) (by first | omega | (simp only [List.length_map]; omega) | (simp; omega)) (by first | omega | (simp only [List.length_map]; omega) | (simp; omega)) (by kernel_rfl) ?_
  refine go 1 ?_
  refine CH.endk ⟨[(0, lV (l.map d151)), (3, rV 112)], [(112, some (.nst 5 38 [(4, 2, 188)] (List.replicate ((l.map d151).length) (d38 z38)) []))], 144⟩ (by kernel_rfl) (by kernel_rfl) (s2 := ⟨[(0, lV (l.map d151)), (3, rV 112)], [(112, some (.nst 5 38 [(4, 2, 188)] ((List.replicate ((l.map d151).length) z38).map d38) []))], 144⟩) (congrArg (fun z : List (List D) => (⟨[(0, lV (l.map d151)), (3, rV 112)], [(112, some (.nst 5 38 [(4, 2, 188)] z []))], 144⟩ : St)) (show List.replicate ((l.map d151).length) (d38 z38) = ((List.replicate ((l.map d151).length) z38).map d38) from List.map_replicate.symm)) ?_
  refine X.seq ?_
  refine sk ⟨[(0, lV (l.map d151)), (3, rV 112), (4, iV 0)], [(112, some (.nst 5 38 [(4, 2, 188)] ((List.replicate ((l.map d151).length) z38).map d38) []))], 160⟩ ?_
  refine X.block ?_
  -- 3: Lv3 : List S38, v4 : Int
  refine X.loop (σ := { g : (List S38) × Int // (fun (Lv3 : List S38) (v4 : Int) => 0 ≤ v4 ∧ v4 ≤ l.length ∧ Lv3.length = l.length ∧ ∀ (j : Nat) (x : S151), (j : Int) < v4 → l[j]? = some x → Lv3[j]? = some (toAcct x)) g.1 g.2 }) (fun g => (fun (Lv3 : List S38) (v4 : Int) => ⟨[(0, lV (l.map d151)), (3, rV 112), (4, iV v4)], [(112, some (.nst 5 38 [(4, 2, 188)] (Lv3.map d38) []))], 160⟩) g.1.1 g.1.2) (fun g => (fun (Lv3 : List S38) (v4 : Int) => (l.length - v4).toNat) g.1.1 g.1.2) ⟨((List.replicate ((l.map d151).length) z38), 0), ⟨by first | omega | (dsimp only; omega), by first | omega | (dsimp only; omega), by simp, fun j x h => by first | omega | (dsimp only; omega)⟩⟩ (Wk.less (by kernel_rfl)) (fun g => ?_)
  obtain ⟨⟨Lv3, v4⟩, hg3⟩ := g
  have hg3 : 0 ≤ v4 ∧ v4 ≤ l.length ∧ Lv3.length = l.length ∧ ∀ (j : Nat) (x : S151), (j : Int) < v4 → l[j]? = some x → Lv3[j]? = some (toAcct x) := hg3
  obtain ⟨_, _, hL, hA⟩ := hg3
  refine X.seq ?_
  refine sk ⟨[(0, lV (l.map d151)), (3, rV 112), (4, iV v4), (11, bV (decide ((v4 : Int) < ((l.map d151).length : Int))))], [(112, some (.nst 5 38 [(4, 2, 188)] (Lv3.map d38) []))], 224⟩ ?_
  refine if_ (b := decide ((v4 : Int) < ((l.map d151).length : Int))) (fun hb4 => ?_) (fun hb4 => ?_)
  ·replace hb4 := of_decide_eq_true (hb4)
   refine X.skip ?_
   refine X.seq ?_
   refine X.block ?_
   refine rs 4 ?_
   obtain ⟨x5, hx5⟩ : ∃ x, l[Int.toNat v4]? = some x := ⟨_, List.getElem?_eq_getElem (by first | omega | (simp; done) | (simp; omega))⟩
   refine CH.idx hτ (d151 x5) (rows := (l.map d151)) (n := v4) (sz := 5) (by kernel_rfl) (by kernel_rfl) (by first | omega | (simp; done) | (simp; omega)) (by rw [List.getElem?_map, hx5]; rfl) (by kernel_rfl) ?_
   refine go 1 ?_
   obtain ⟨r6, hr8, hf7⟩ := l_toAcct x5 (by (have h9 := (hl.2 _ (List.mem_map.2 ⟨_, List.mem_of_getElem? ‹_›, rfl⟩)).2; simpa only [toAcct, List.length_map] using h9))
   replace hr8 := hr8.symm; subst hr8
   refine ca hf7 Try.func121 ?_
   refine CH.idxR hτ (rows := (Lv3.map d38)) (n := v4) (b := 112) (by kernel_rfl) (by kernel_rfl) (by first | omega | (simp; done) | (simp; omega)) (by simp only [List.length_map, List.length_set]; first | omega | (simp; done) | (simp; omega)) (by kernel_rfl) ?_
   obtain ⟨x10, hx10⟩ : ∃ x, Lv3[Int.toNat v4]? = some x := ⟨_, List.getElem?_eq_getElem (by first | omega | (simp; done) | (simp; omega))⟩
   refine CH.stN hτ (rows := (Lv3.map d38)) (n := Int.toNat v4) (p := 0) (len := 5) (op := []) (L := [(4, 320, ((((toAcct x5)).f4).map d188))]) (d38 x10) (by kernel_rfl) (by kernel_rfl) (by rw [List.getElem?_map, hx10]; rfl) trivial ⟨flat_d d188 (fun x => rfl), trivial⟩ (by kernel_rfl) ?_
   refine CH.endk ⟨[(0, lV (l.map d151)), (3, rV 112), (4, iV v4)], [(112, some (.nst 5 38 [(4, 2, 188)] ((Lv3.map d38).set (Int.toNat v4) (d38 ((toAcct x5)))) []))], 368⟩ (by kernel_rfl) (by kernel_rfl) (s2 := ⟨[(0, lV (l.map d151)), (3, rV 112), (4, iV v4)], [(112, some (.nst 5 38 [(4, 2, 188)] ((Lv3.set (Int.toNat v4) ((toAcct x5))).map d38) []))], 368⟩) (congrArg (fun z : List (List D) => (⟨[(0, lV (l.map d151)), (3, rV 112), (4, iV v4)], [(112, some (.nst 5 38 [(4, 2, 188)] z []))], 368⟩ : St)) (show ((Lv3.map d38).set (Int.toNat v4) (d38 ((toAcct x5)))) = ((Lv3.set (Int.toNat v4) ((toAcct x5))).map d38) from List.map_set.symm)) ?_
   refine X.rk ⟨[(0, lV (l.map d151)), (3, rV 112), (4, iV (wrap64 (v4 + 1)))], [(112, some (.nst 5 38 [(4, 2, 188)] ((Lv3.set (Int.toNat v4) ((toAcct x5))).map d38) []))], 416⟩ hτ hmix (by kernel_rfl) (by kernel_rfl) (s2 := ⟨[(0, lV (l.map d151)), (3, rV 112), (4, iV (v4 + 1))], [(112, some (.nst 5 38 [(4, 2, 188)] ((Lv3.set (Int.toNat v4) ((toAcct x5))).map d38) []))], 416⟩) (congrArg (fun z : Int => (⟨[(0, lV (l.map d151)), (3, rV 112), (4, iV z)], [(112, some (.nst 5 38 [(4, 2, 188)] ((Lv3.set (Int.toNat v4) ((toAcct x5))).map d38) []))], 416⟩ : St)) (show wrap64 (v4 + 1) = (v4 + 1) by rw [w64 (n := (v4 + 1)) (by omega) (by omega)])) ?_
   refine ⟨⟨((Lv3.set (Int.toNat v4) ((toAcct x5))), (v4 + 1)), ⟨by first | omega | (dsimp only; omega), by first | omega | (dsimp only; omega), by simp; omega, ts_next (f := toAcct) hA (by first | omega | (dsimp only; omega)) (by first | omega | (dsimp only; omega)) ‹_›⟩⟩, by first | exact rfl | omega | (dsimp only; omega) | (simp only [List.length_append, List.length_cons, List.length_nil, List.length_set]; omega) | (simp; done) | (simp; omega), Wk.mk' [(112, 112)] (by kernel_rfl) (by kernel_rfl) (by kernel_rfl)⟩
  ·replace hb4 := of_decide_eq_false (hb4)
   refine X.exit ?_
   refine sk ⟨[(2, rV 112)], [(112, some (.nst 5 38 [(4, 2, 188)] (Lv3.map d38) []))], 256⟩ ?_
   refine X.ret ?_
   exact ⟨trivial, _, _, ⟨Lv3, ts_end hA hL (by omega), rfl, rfl⟩, .inl (Ret.mk' [(64, 112)] (by kernel_rfl) (by kernel_rfl) (by kernel_rfl))⟩
 obtain ⟨_, _, ⟨r0, h1_, rfl, rfl⟩, hf⟩ := key
 exact ⟨r0, h1_, hf⟩

theorem l_toLedger (x : S42) (hl : acsSm (toLedger x).f1) : ∃ r0 : S27, (r0 = toLedger x) ∧ Fn Try.prog 18 [.e (.agg [.d (.v (.int .i64 x.f0)), .d (.sl (x.f1.map d151))])] (lookH []) (.e (.agg [.d (.v (.int .i64 r0.f0)), .ref 64])) (lookH [(64, some (.nst 5 38 [(4, 2, 188)] (r0.f1.map d38) []))]) := by
 have key : ∃ x' h', ((fun x' h' => ∃ r0 : S27, (r0 = toLedger x) ∧ x' = .e (.agg [.d (.v (.int .i64 r0.f0)), .ref 64]) ∧ h' = [(64, some (.nst 5 38 [(4, 2, 188)] (r0.f1.map d38) []))])) x' h' ∧ Fn Try.prog 18 [.e (.agg [.d (.v (.int .i64 x.f0)), .d (.sl (x.f1.map d151))])] (lookH []) x' (lookH h') := by
  refine Fn.bodyX (N := 12) hτ Try.func18 rfl rfl rfl rfl ?_
  refine sk ⟨[(1, .pt 64 0 0), (2, .pt 80 0 0)], [(64, some (.box [.d (.v (.int .i64 x.f0)), .d (.sl (x.f1.map d151))])), (80, some (.box [.d (.v (.int .i64 0)), .nil]))], 96⟩ ?_
  refine sk ⟨[(1, .pt 64 0 0), (2, .pt 80 0 0), (3, .pt 96 0 0)], [(64, some (.box [.d (.v (.int .i64 x.f0)), .d (.sl (x.f1.map d151))])), (80, some (.box [.d (.v (.int .i64 0)), .nil])), (96, some (.box [.d (.v (.int .i64 0)), .nil]))], 112⟩ ?_
  refine sk ⟨[(1, .pt 64 0 0), (2, .pt 80 0 0), (3, .pt 96 0 0)], [(64, some (.box [.d (.v (.int .i64 x.f0)), .d (.sl (x.f1.map d151))])), (80, some (.box [.d (.v (.int .i64 0)), .nil])), (96, some (.box [.d (.v (.int .i64 x.f0)), .nil]))], 176⟩ ?_
  refine X.seq (rs 2 ?_)
  obtain ⟨r1, hr3, hf2⟩ := l_toAcctS x.f1 (by assumption)
  replace hr3 := hr3.symm; subst hr3
  have hlm : (x.f1.map toAcct).length = x.f1.length := List.length_map ..
  refine ca hf2 Try.func55 ?_
  refine go 2 ?_
  refine ek ⟨[(2, .pt 80 0 0), (3, .pt 96 0 0)], [(80, some (.box [.d (.v (.int .i64 0)), .nil])), (96, some (.box [.d (.v (.int .i64 x.f0)), .ref 208])), (208, some (.nst 5 38 [(4, 2, 188)] ((x.f1.map toAcct).map d38) []))], 256⟩ ?_
  refine sk ⟨[(2, .pt 80 0 0)], [(80, some (.box [.d (.v (.int .i64 x.f0)), .ref 208])), (208, some (.nst 5 38 [(4, 2, 188)] ((x.f1.map toAcct).map d38) []))], 288⟩ ?_
  refine X.ret ?_
  exact ⟨trivial, _, _, ⟨(⟨x.f0, (x.f1.map toAcct)⟩ : S27), rfl, rfl, rfl⟩, .inl (Ret.mk' [(64, 208)] (by kernel_rfl) (by kernel_rfl) (by kernel_rfl))⟩
 obtain ⟨_, _, ⟨r0, h1_, rfl, rfl⟩, hf⟩ := key
 exact ⟨r0, h1_, hf⟩

theorem l_eqLeave (a : S188) (b : S188) : ∃ r0 : Bool, (r0 = eqV a b) ∧ Fn Try.prog 192 [.e (.agg [.d (.v (.int .i64 a.f0)), .d (.v (.int .i64 a.f1))]), .e (.agg [.d (.v (.int .i64 b.f0)), .d (.v (.int .i64 b.f1))])] (lookH []) (bV r0) (lookH []) := by
 have key : ∃ x' h', ((fun x' h' => ∃ r0 : Bool, (r0 = eqV a b) ∧ x' = bV r0 ∧ h' = [])) x' h' ∧ Fn Try.prog 192 [.e (.agg [.d (.v (.int .i64 a.f0)), .d (.v (.int .i64 a.f1))]), .e (.agg [.d (.v (.int .i64 b.f0)), .d (.v (.int .i64 b.f1))])] (lookH []) x' (lookH h') := by
  refine Fn.bodyX (N := 15) hτ Try.func192 rfl rfl rfl rfl ?_
  refine sk ⟨[(2, .pt 64 0 0), (3, .pt 80 0 0)], [(64, some (.box [.d (.v (.int .i64 a.f0)), .d (.v (.int .i64 a.f1))])), (80, some (.box [.d (.v (.int .i64 b.f0)), .d (.v (.int .i64 b.f1))]))], 112⟩ ?_
  refine X.seq ?_
  refine sk ⟨[(2, .pt 64 0 0), (3, .pt 80 0 0), (9, bV (a.f0 != b.f0))], [(64, some (.box [.d (.v (.int .i64 a.f0)), .d (.v (.int .i64 a.f1))])), (80, some (.box [.d (.v (.int .i64 b.f0)), .d (.v (.int .i64 b.f1))]))], 192⟩ ?_
  refine if_ (b := (a.f0 != b.f0)) (fun hb1 => ?_) (fun hb1 => ?_)
  ·replace hb1 := bne_iff_ne.1 (hb1)
   refine sk ⟨[(4, bV false)], [], 208⟩ ?_
   refine X.ret ?_
   exact ⟨trivial, _, _, ⟨false, (by first | exact fls (fun h => by subst h; first | exact absurd rfl ‹_› | exact tf (eqV_self _) ‹_› | exact tf (allEq_self _) ‹_›) | exact tru (by cases a; cases b; simp_all [eqV_iff, allEq_iff, tl_inj])), rfl, rfl⟩, mkr⟩
  ·replace hb1 := bne_eq_false_iff_eq.1 (hb1)
   refine X.skip ?_
   refine X.seq ?_
   refine sk ⟨[(14, bV (a.f1 != b.f1))], [], 272⟩ ?_
   refine if_ (b := (a.f1 != b.f1)) (fun hb2 => ?_) (fun hb2 => ?_)
   ·replace hb2 := bne_iff_ne.1 (hb2)
    refine sk ⟨[(4, bV false)], [], 288⟩ ?_
    refine X.ret ?_
    exact ⟨trivial, _, _, ⟨false, (by first | exact fls (fun h => by subst h; first | exact absurd rfl ‹_› | exact tf (eqV_self _) ‹_› | exact tf (allEq_self _) ‹_›) | exact tru (by cases a; cases b; simp_all [eqV_iff, allEq_iff, tl_inj])), rfl, rfl⟩, mkr⟩
   ·replace hb2 := bne_eq_false_iff_eq.1 (hb2)
    refine X.skip ?_
    refine sk ⟨[(4, bV true)], [], 288⟩ ?_
    refine X.ret ?_
    exact ⟨trivial, _, _, ⟨true, (by first | exact fls (fun h => by subst h; first | exact absurd rfl ‹_› | exact tf (eqV_self _) ‹_› | exact tf (allEq_self _) ‹_›) | exact tru (by cases a; cases b; simp_all [eqV_iff, allEq_iff, tl_inj])), rfl, rfl⟩, mkr⟩
 obtain ⟨_, _, ⟨r0, h1_, rfl, rfl⟩, hf⟩ := key
 exact ⟨r0, h1_, hf⟩

theorem l_eqLeaveS (l : List S188) (m : List S188) (hl : l.length ≤ 2000000) (hm : m.length ≤ 2000000) : ∃ r0 : Bool, (r0 = allEq l m) ∧ Fn Try.prog 168 [lV (l.map d188), lV (m.map d188)] (lookH []) (bV r0) (lookH []) := by
 have key : ∃ x' h', ((fun x' h' => ∃ r0 : Bool, (r0 = allEq l m) ∧ x' = bV r0 ∧ h' = [])) x' h' ∧ Fn Try.prog 168 [lV (l.map d188), lV (m.map d188)] (lookH []) x' (lookH h') := by
  refine Fn.bodyX (N := 27) hτ Try.func168 rfl rfl rfl rfl ?_
  refine sk ⟨[(0, lV (l.map d188)), (1, lV (m.map d188))], [], 80⟩ ?_
  refine X.seq ?_
  refine X.seq ?_
  have hll : l.length ≤ 2000000 := hl
  have hml : m.length ≤ 2000000 := hm
  have el1 : (l.map d188).length = l.length := List.length_map ..
  have el2 : (m.map d188).length = m.length := List.length_map ..
  refine rk ⟨[(0, lV (l.map d188)), (1, lV (m.map d188)), (10, bV (((l.map d188).length : Int) != ((m.map d188).length : Int)))], [], 160⟩ ?_
  refine if_ (b := (((l.map d188).length : Int) != ((m.map d188).length : Int))) (fun hb3 => ?_) (fun hb3 => ?_)
  ·replace hb3 := bne_iff_ne.1 (hb3)
   refine sk ⟨[(4, bV false)], [], 176⟩ ?_
   refine X.ret ?_
   exact ⟨trivial, _, _, ⟨false, (by first | exact fls (fun h => by have := congrArg List.length h; omega) | exact fls (eq_no ‹_› ‹_› (eqV_no ‹_›)) | exact tru (eq_all hA (by omega) (by omega))), rfl, rfl⟩, mkr⟩
  ·replace hb3 := bne_eq_false_iff_eq.1 (hb3)
   refine X.skip ?_
   refine X.seq ?_
   refine sk ⟨[(0, lV (l.map d188)), (1, lV (m.map d188)), (5, iV 0)], [], 176⟩ ?_
   refine X.block ?_
   -- 4: v5 : Int
   refine X.loop (σ := { g : Int // (fun (v5 : Int) => 0 ≤ v5 ∧ v5 ≤ l.length ∧ Upto (fun j x => m[j.toNat]? = some x) (fun n => l[n]?) v5) g }) (fun g => (fun (v5 : Int) => ⟨[(0, lV (l.map d188)), (1, lV (m.map d188)), (5, iV v5)], [], 176⟩) g.1) (fun g => (fun (v5 : Int) => (l.length - v5).toNat) g.1) ⟨0, ⟨by first | omega | (dsimp only; omega), by first | omega | (dsimp only; omega), upto_zero⟩⟩ (Wk.less (by kernel_rfl)) (fun g => ?_)
   obtain ⟨v5, hg5⟩ := g
   have hg5 : 0 ≤ v5 ∧ v5 ≤ l.length ∧ Upto (fun j x => m[j.toNat]? = some x) (fun n => l[n]?) v5 := hg5
   obtain ⟨_, _, hA⟩ := hg5
   refine X.seq ?_
   refine sk ⟨[(0, lV (l.map d188)), (1, lV (m.map d188)), (5, iV v5), (14, bV (decide ((v5 : Int) < ((l.map d188).length : Int))))], [], 240⟩ ?_
   refine if_ (b := decide ((v5 : Int) < ((l.map d188).length : Int))) (fun hb6 => ?_) (fun hb6 => ?_)
   ·replace hb6 := of_decide_eq_true (hb6)
    refine X.skip ?_
    refine X.seq ?_
    refine X.block ?_
    refine X.seq (rs 2 ?_)
    obtain ⟨x7, hx7⟩ : ∃ x, l[Int.toNat v5]? = some x := ⟨_, List.getElem?_eq_getElem (by first | omega | (simp; done) | (simp; omega))⟩
    refine CH.idx hτ (d188 x7) (rows := (l.map d188)) (n := v5) (sz := 2) (by kernel_rfl) (by kernel_rfl) (by first | omega | (simp; done) | (simp; omega)) (by rw [List.getElem?_map, hx7]; rfl) (by kernel_rfl) ?_
    refine go 3 ?_
    obtain ⟨x8, hx8⟩ : ∃ x, m[Int.toNat v5]? = some x := ⟨_, List.getElem?_eq_getElem (by first | omega | (simp; done) | (simp; omega))⟩
    refine CH.idx hτ (d188 x8) (rows := (m.map d188)) (n := v5) (sz := 2) (by kernel_rfl) (by kernel_rfl) (by first | omega | (simp; done) | (simp; omega)) (by rw [List.getElem?_map, hx8]; rfl) (by kernel_rfl) ?_
    refine go 1 ?_
    obtain ⟨r9, hr11, hf10⟩ := l_eqLeave x7 x8
    replace hr11 := hr11.symm; subst hr11
    refine ca hf10 Try.func192 ?_
    refine go 1 ?_
    refine ek ⟨[(0, lV (l.map d188)), (1, lV (m.map d188)), (5, iV v5), (26, bV (!(eqV x7 x8)))], [], 400⟩ ?_
    refine if_ (b := !(eqV x7 x8)) (fun hb13 => ?_) (fun hb13 => ?_)
    ·replace hb13 := bnot_yes (hb13)
     refine sk ⟨[(4, bV false)], [], 416⟩ ?_
     refine X.ret ?_
     exact ⟨trivial, _, _, ⟨false, (by first | exact fls (fun h => by have := congrArg List.length h; omega) | exact fls (eq_no ‹_› ‹_› (eqV_no ‹_›)) | exact tru (eq_all hA (by omega) (by omega))), rfl, rfl⟩, mkr⟩
    ·replace hb13 := bnot_no (hb13)
     refine X.skip ?_
     refine X.rk ⟨[(0, lV (l.map d188)), (1, lV (m.map d188)), (5, iV (wrap64 (v5 + 1)))], [], 448⟩ hτ hmix (by kernel_rfl) (by kernel_rfl) (s2 := ⟨[(0, lV (l.map d188)), (1, lV (m.map d188)), (5, iV (v5 + 1))], [], 448⟩) (congrArg (fun z : Int => (⟨[(0, lV (l.map d188)), (1, lV (m.map d188)), (5, iV z)], [], 448⟩ : St)) (show wrap64 (v5 + 1) = (v5 + 1) by rw [w64 (n := (v5 + 1)) (by omega) (by omega)])) ?_
     refine ⟨⟨(v5 + 1), ⟨by first | omega | (dsimp only; omega), by first | omega | (dsimp only; omega), upto_nx (by first | omega | (dsimp only; omega)) hA ‹_› (eq_stp ‹_› (eqV_iff.1 ‹_›))⟩⟩, by first | exact rfl | omega | (dsimp only; omega) | (simp only [List.length_append, List.length_cons, List.length_nil, List.length_set]; omega) | (simp; done) | (simp; omega), Wk.mk' [] (by kernel_rfl) (by kernel_rfl) (by kernel_rfl)⟩
   ·replace hb6 := of_decide_eq_false (hb6)
    refine X.exit ?_
    refine sk ⟨[(4, bV true)], [], 256⟩ ?_
    refine X.ret ?_
    exact ⟨trivial, _, _, ⟨true, (by first | exact fls (fun h => by have := congrArg List.length h; omega) | exact fls (eq_no ‹_› ‹_› (eqV_no ‹_›)) | exact tru (eq_all hA (by omega) (by omega))), rfl, rfl⟩, mkr⟩
 obtain ⟨_, _, ⟨r0, h1_, rfl, rfl⟩, hf⟩ := key
 exact ⟨r0, h1_, hf⟩

theorem l_eqAcct (a : S38) (b : S38) (ha : Sm38 a) (hb : Sm38 b) : ∃ r0 : Bool, (r0 = eqV a b) ∧ Fn Try.prog 122 [.e (.agg (cD (d38 a))), .e (.agg (cD (d38 b)))] (lookH []) (bV r0) (lookH []) := by
 have key : ∃ x' h', ((fun x' h' => ∃ r0 : Bool, (r0 = eqV a b) ∧ x' = bV r0 ∧ h' = [])) x' h' ∧ Fn Try.prog 122 [.e (.agg (cD (d38 a))), .e (.agg (cD (d38 b)))] (lookH []) x' (lookH h') := by
  refine Fn.bodyX (N := 31) hτ Try.func122 rfl rfl rfl rfl ?_
  refine sk ⟨[(2, .pt 64 0 0), (3, .pt 80 0 0)], [(64, some (.box (cD (d38 a)))), (80, some (.box (cD (d38 b))))], 112⟩ ?_
  refine X.seq ?_
  refine X.seq ?_
  have a0 : SmS a.f0 := ha.1
  have b0 : SmS b.f0 := hb.1
  have a4 : a.f4.length ≤ 2000000 := ha.2
  have b4 : b.f4.length ≤ 2000000 := hb.2
  refine rk ⟨[(2, .pt 64 0 0), (3, .pt 80 0 0), (9, bV (!(a.f0.toList == b.f0.toList)))], [(64, some (.box (cD (d38 a)))), (80, some (.box (cD (d38 b))))], 192⟩ ?_
  refine if_ (b := !(a.f0.toList == b.f0.toList)) (fun hb1 => ?_) (fun hb1 => ?_)
  ·replace hb1 := beq_no (bnot_yes (hb1))
   refine sk ⟨[(4, bV false)], [], 208⟩ ?_
   refine X.ret ?_
   exact ⟨trivial, _, _, ⟨false, (by first | exact fls (fun h => by subst h; first | exact absurd rfl ‹_› | exact tf (eqV_self _) ‹_› | exact tf (allEq_self _) ‹_›) | exact tru (by cases a; cases b; simp_all [eqV_iff, allEq_iff, tl_inj])), rfl, rfl⟩, mkr⟩
  ·replace hb1 := beq_yes (bnot_no (hb1))
   refine X.skip ?_
   refine X.seq ?_
   refine sk ⟨[(2, .pt 64 0 0), (3, .pt 80 0 0), (14, bV (a.f1 != b.f1))], [(64, some (.box (cD (d38 a)))), (80, some (.box (cD (d38 b))))], 272⟩ ?_
   refine if_ (b := (a.f1 != b.f1)) (fun hb2 => ?_) (fun hb2 => ?_)
   ·replace hb2 := bne_iff_ne.1 (hb2)
    refine sk ⟨[(4, bV false)], [], 288⟩ ?_
    refine X.ret ?_
    exact ⟨trivial, _, _, ⟨false, (by first | exact fls (fun h => by subst h; first | exact absurd rfl ‹_› | exact tf (eqV_self _) ‹_› | exact tf (allEq_self _) ‹_›) | exact tru (by cases a; cases b; simp_all [eqV_iff, allEq_iff, tl_inj])), rfl, rfl⟩, mkr⟩
   ·replace hb2 := bne_eq_false_iff_eq.1 (hb2)
    refine X.skip ?_
    refine X.seq ?_
    refine sk ⟨[(2, .pt 64 0 0), (3, .pt 80 0 0), (19, bV (a.f2 != b.f2))], [(64, some (.box (cD (d38 a)))), (80, some (.box (cD (d38 b))))], 352⟩ ?_
    refine if_ (b := (a.f2 != b.f2)) (fun hb3 => ?_) (fun hb3 => ?_)
    ·replace hb3 := bne_iff_ne.1 (hb3)
     refine sk ⟨[(4, bV false)], [], 368⟩ ?_
     refine X.ret ?_
     exact ⟨trivial, _, _, ⟨false, (by first | exact fls (fun h => by subst h; first | exact absurd rfl ‹_› | exact tf (eqV_self _) ‹_› | exact tf (allEq_self _) ‹_›) | exact tru (by cases a; cases b; simp_all [eqV_iff, allEq_iff, tl_inj])), rfl, rfl⟩, mkr⟩
    ·replace hb3 := bne_eq_false_iff_eq.1 (hb3)
     refine X.skip ?_
     refine X.seq ?_
     refine sk ⟨[(2, .pt 64 0 0), (3, .pt 80 0 0), (24, bV (a.f3 != b.f3))], [(64, some (.box (cD (d38 a)))), (80, some (.box (cD (d38 b))))], 432⟩ ?_
     refine if_ (b := (a.f3 != b.f3)) (fun hb4 => ?_) (fun hb4 => ?_)
     ·replace hb4 := bne_iff_ne.1 (hb4)
      refine sk ⟨[(4, bV false)], [], 448⟩ ?_
      refine X.ret ?_
      exact ⟨trivial, _, _, ⟨false, (by first | exact fls (fun h => by subst h; first | exact absurd rfl ‹_› | exact tf (eqV_self _) ‹_› | exact tf (allEq_self _) ‹_›) | exact tru (by cases a; cases b; simp_all [eqV_iff, allEq_iff, tl_inj])), rfl, rfl⟩, mkr⟩
     ·replace hb4 := bne_eq_false_iff_eq.1 (hb4)
      refine X.skip ?_
      refine X.seq ?_
      refine X.seq (rs 4 ?_)
      obtain ⟨r5, hr7, hf6⟩ := l_eqLeaveS a.f4 b.f4 (by assumption) (by assumption)
      replace hr7 := hr7.symm; subst hr7
      refine ca hf6 Try.func168 ?_
      refine go 1 ?_
      refine ek ⟨[(30, bV (!(allEq a.f4 b.f4)))], [], 528⟩ ?_
      refine if_ (b := !(allEq a.f4 b.f4)) (fun hb9 => ?_) (fun hb9 => ?_)
      ·replace hb9 := bnot_yes (hb9)
       refine sk ⟨[(4, bV false)], [], 544⟩ ?_
       refine X.ret ?_
       exact ⟨trivial, _, _, ⟨false, (by first | exact fls (fun h => by subst h; first | exact absurd rfl ‹_› | exact tf (eqV_self _) ‹_› | exact tf (allEq_self _) ‹_›) | exact tru (by cases a; cases b; simp_all [eqV_iff, allEq_iff, tl_inj])), rfl, rfl⟩, mkr⟩
      ·replace hb9 := bnot_no (hb9)
       refine X.skip ?_
       refine sk ⟨[(4, bV true)], [], 544⟩ ?_
       refine X.ret ?_
       exact ⟨trivial, _, _, ⟨true, (by first | exact fls (fun h => by subst h; first | exact absurd rfl ‹_› | exact tf (eqV_self _) ‹_› | exact tf (allEq_self _) ‹_›) | exact tru (by cases a; cases b; simp_all [eqV_iff, allEq_iff, tl_inj])), rfl, rfl⟩, mkr⟩
 obtain ⟨_, _, ⟨r0, h1_, rfl, rfl⟩, hf⟩ := key
 exact ⟨r0, h1_, hf⟩

theorem l_eqAcctS (l : List S38) (m : List S38) (hl : (l.length ≤ 2000000 ∧ ∀ z, z ∈ l → Sm38 z)) (hm : (m.length ≤ 2000000 ∧ ∀ z, z ∈ m → Sm38 z)) : ∃ r0 : Bool, (r0 = allEq l m) ∧ Fn Try.prog 57 [lV (l.map d38), lV (m.map d38)] (lookH []) (bV r0) (lookH []) := by
 have key : ∃ x' h', ((fun x' h' => ∃ r0 : Bool, (r0 = allEq l m) ∧ x' = bV r0 ∧ h' = [])) x' h' ∧ Fn Try.prog 57 [lV (l.map d38), lV (m.map d38)] (lookH []) x' (lookH h') := by
  refine Fn.bodyX (N := 27) hτ Try.func57 rfl rfl rfl rfl ?_
  refine sk ⟨[(0, lV (l.map d38)), (1, lV (m.map d38))], [], 80⟩ ?_
  refine X.seq ?_
  refine X.seq ?_
  have hll : l.length ≤ 2000000 := hl.1
  have hml : m.length ≤ 2000000 := hm.1
  have el1 : (l.map d38).length = l.length := List.length_map ..
  have el2 : (m.map d38).length = m.length := List.length_map ..
  refine rk ⟨[(0, lV (l.map d38)), (1, lV (m.map d38)), (10, bV (((l.map d38).length : Int) != ((m.map d38).length : Int)))], [], 160⟩ ?_
  refine if_ (b := (((l.map d38).length : Int) != ((m.map d38).length : Int))) (fun hb3 => ?_) (fun hb3 => ?_)
  ·replace hb3 := bne_iff_ne.1 (hb3)
   refine sk ⟨[(4, bV false)], [], 176⟩ ?_
   refine X.ret ?_
   exact ⟨trivial, _, _, ⟨false, (by first | exact fls (fun h => by have := congrArg List.length h; omega) | exact fls (eq_no ‹_› ‹_› (eqV_no ‹_›)) | exact tru (eq_all hA (by omega) (by omega))), rfl, rfl⟩, mkr⟩
  ·replace hb3 := bne_eq_false_iff_eq.1 (hb3)
   refine X.skip ?_
   refine X.seq ?_
   refine sk ⟨[(0, lV (l.map d38)), (1, lV (m.map d38)), (5, iV 0)], [], 176⟩ ?_
   refine X.block ?_
   -- 4: v5 : Int
   refine X.loop (σ := { g : Int // (fun (v5 : Int) => 0 ≤ v5 ∧ v5 ≤ l.length ∧ Upto (fun j x => m[j.toNat]? = some x) (fun n => l[n]?) v5) g }) (fun g => (fun (v5 : Int) => ⟨[(0, lV (l.map d38)), (1, lV (m.map d38)), (5, iV v5)], [], 176⟩) g.1) (fun g => (fun (v5 : Int) => (l.length - v5).toNat) g.1) ⟨0, ⟨by first | omega | (dsimp only; omega), by first | omega | (dsimp only; omega), upto_zero⟩⟩ (Wk.less (by kernel_rfl)) (fun g => ?_)
   obtain ⟨v5, hg5⟩ := g
   have hg5 : 0 ≤ v5 ∧ v5 ≤ l.length ∧ Upto (fun j x => m[j.toNat]? = some x) (fun n => l[n]?) v5 := hg5
   obtain ⟨_, _, hA⟩ := hg5
   refine X.seq ?_
   refine sk ⟨[(0, lV (l.map d38)), (1, lV (m.map d38)), (5, iV v5), (14, bV (decide ((v5 : Int) < ((l.map d38).length : Int))))], [], 240⟩ ?_
   refine if_ (b := decide ((v5 : Int) < ((l.map d38).length : Int))) (fun hb6 => ?_) (fun hb6 => ?_)
   ·replace hb6 := of_decide_eq_true (hb6)
    refine X.skip ?_
    refine X.seq ?_
    refine X.block ?_
    refine X.seq (rs 2 ?_)
    obtain ⟨x7, hx7⟩ : ∃ x, l[Int.toNat v5]? = some x := ⟨_, List.getElem?_eq_getElem (by first | omega | (simp; done) | (simp; omega))⟩
    refine CH.idx hτ (d38 x7) (rows := (l.map d38)) (n := v5) (sz := 5) (by kernel_rfl) (by kernel_rfl) (by first | omega | (simp; done) | (simp; omega)) (by rw [List.getElem?_map, hx7]; rfl) (by kernel_rfl) ?_
    refine go 3 ?_
    obtain ⟨x8, hx8⟩ : ∃ x, m[Int.toNat v5]? = some x := ⟨_, List.getElem?_eq_getElem (by first | omega | (simp; done) | (simp; omega))⟩
    refine CH.idx hτ (d38 x8) (rows := (m.map d38)) (n := v5) (sz := 5) (by kernel_rfl) (by kernel_rfl) (by first | omega | (simp; done) | (simp; omega)) (by rw [List.getElem?_map, hx8]; rfl) (by kernel_rfl) ?_
    refine go 1 ?_
    obtain ⟨r9, hr11, hf10⟩ := l_eqAcct x7 x8 (by exact all_at hl.2 ‹_›) (by exact all_at hm.2 ‹_›)
    replace hr11 := hr11.symm; subst hr11
    refine ca hf10 Try.func122 ?_
    refine go 1 ?_
    refine ek ⟨[(0, lV (l.map d38)), (1, lV (m.map d38)), (5, iV v5), (26, bV (!(eqV x7 x8)))], [], 400⟩ ?_
    refine if_ (b := !(eqV x7 x8)) (fun hb13 => ?_) (fun hb13 => ?_)
    ·replace hb13 := bnot_yes (hb13)
     refine sk ⟨[(4, bV false)], [], 416⟩ ?_
     refine X.ret ?_
     exact ⟨trivial, _, _, ⟨false, (by first | exact fls (fun h => by have := congrArg List.length h; omega) | exact fls (eq_no ‹_› ‹_› (eqV_no ‹_›)) | exact tru (eq_all hA (by omega) (by omega))), rfl, rfl⟩, mkr⟩
    ·replace hb13 := bnot_no (hb13)
     refine X.skip ?_
     refine X.rk ⟨[(0, lV (l.map d38)), (1, lV (m.map d38)), (5, iV (wrap64 (v5 + 1)))], [], 448⟩ hτ hmix (by kernel_rfl) (by kernel_rfl) (s2 := ⟨[(0, lV (l.map d38)), (1, lV (m.map d38)), (5, iV (v5 + 1))], [], 448⟩) (congrArg (fun z : Int => (⟨[(0, lV (l.map d38)), (1, lV (m.map d38)), (5, iV z)], [], 448⟩ : St)) (show wrap64 (v5 + 1) = (v5 + 1) by rw [w64 (n := (v5 + 1)) (by omega) (by omega)])) ?_
     refine ⟨⟨(v5 + 1), ⟨by first | omega | (dsimp only; omega), by first | omega | (dsimp only; omega), upto_nx (by first | omega | (dsimp only; omega)) hA ‹_› (eq_stp ‹_› (eqV_iff.1 ‹_›))⟩⟩, by first | exact rfl | omega | (dsimp only; omega) | (simp only [List.length_append, List.length_cons, List.length_nil, List.length_set]; omega) | (simp; done) | (simp; omega), Wk.mk' [] (by kernel_rfl) (by kernel_rfl) (by kernel_rfl)⟩
   ·replace hb6 := of_decide_eq_false (hb6)
    refine X.exit ?_
    refine sk ⟨[(4, bV true)], [], 256⟩ ?_
    refine X.ret ?_
    exact ⟨trivial, _, _, ⟨true, (by first | exact fls (fun h => by have := congrArg List.length h; omega) | exact fls (eq_no ‹_› ‹_› (eqV_no ‹_›)) | exact tru (eq_all hA (by omega) (by omega))), rfl, rfl⟩, mkr⟩
 obtain ⟨_, _, ⟨r0, h1_, rfl, rfl⟩, hf⟩ := key
 exact ⟨r0, h1_, hf⟩

theorem l_eqLedger (a : S27) (b : S27) (ha : Sm27 a) (hb : Sm27 b) : ∃ r0 : Bool, (r0 = eqV a b) ∧ Fn Try.prog 20 [.e (.agg [.d (.v (.int .i64 a.f0)), .d (.sl (a.f1.map d38))]), .e (.agg [.d (.v (.int .i64 b.f0)), .d (.sl (b.f1.map d38))])] (lookH []) (bV r0) (lookH []) := by
 have key : ∃ x' h', ((fun x' h' => ∃ r0 : Bool, (r0 = eqV a b) ∧ x' = bV r0 ∧ h' = [])) x' h' ∧ Fn Try.prog 20 [.e (.agg [.d (.v (.int .i64 a.f0)), .d (.sl (a.f1.map d38))]), .e (.agg [.d (.v (.int .i64 b.f0)), .d (.sl (b.f1.map d38))])] (lookH []) x' (lookH h') := by
  refine Fn.bodyX (N := 16) hτ Try.func20 rfl rfl rfl rfl ?_
  refine sk ⟨[(2, .pt 64 0 0), (3, .pt 80 0 0)], [(64, some (.box [.d (.v (.int .i64 a.f0)), .d (.sl (a.f1.map d38))])), (80, some (.box [.d (.v (.int .i64 b.f0)), .d (.sl (b.f1.map d38))]))], 112⟩ ?_
  refine X.seq ?_
  refine X.seq ?_
  have a1 : (a.f1.length ≤ 2000000 ∧ ∀ z, z ∈ a.f1 → Sm38 z) := ha
  have b1 : (b.f1.length ≤ 2000000 ∧ ∀ z, z ∈ b.f1 → Sm38 z) := hb
  refine rk ⟨[(2, .pt 64 0 0), (3, .pt 80 0 0), (9, bV (a.f0 != b.f0))], [(64, some (.box [.d (.v (.int .i64 a.f0)), .d (.sl (a.f1.map d38))])), (80, some (.box [.d (.v (.int .i64 b.f0)), .d (.sl (b.f1.map d38))]))], 192⟩ ?_
  refine if_ (b := (a.f0 != b.f0)) (fun hb1 => ?_) (fun hb1 => ?_)
  ·replace hb1 := bne_iff_ne.1 (hb1)
   refine sk ⟨[(4, bV false)], [], 208⟩ ?_
   refine X.ret ?_
   exact ⟨trivial, _, _, ⟨false, (by first | exact fls (fun h => by subst h; first | exact absurd rfl ‹_› | exact tf (eqV_self _) ‹_› | exact tf (allEq_self _) ‹_›) | exact tru (by cases a; cases b; simp_all [eqV_iff, allEq_iff, tl_inj])), rfl, rfl⟩, mkr⟩
  ·replace hb1 := bne_eq_false_iff_eq.1 (hb1)
   refine X.skip ?_
   refine X.seq ?_
   refine X.seq (rs 4 ?_)
   obtain ⟨r2, hr4, hf3⟩ := l_eqAcctS a.f1 b.f1 (by assumption) (by assumption)
   replace hr4 := hr4.symm; subst hr4
   refine ca hf3 Try.func57 ?_
   refine go 1 ?_
   refine ek ⟨[(15, bV (!(allEq a.f1 b.f1)))], [], 288⟩ ?_
   refine if_ (b := !(allEq a.f1 b.f1)) (fun hb6 => ?_) (fun hb6 => ?_)
   ·replace hb6 := bnot_yes (hb6)
    refine sk ⟨[(4, bV false)], [], 304⟩ ?_
    refine X.ret ?_
    exact ⟨trivial, _, _, ⟨false, (by first | exact fls (fun h => by subst h; first | exact absurd rfl ‹_› | exact tf (eqV_self _) ‹_› | exact tf (allEq_self _) ‹_›) | exact tru (by cases a; cases b; simp_all [eqV_iff, allEq_iff, tl_inj])), rfl, rfl⟩, mkr⟩
   ·replace hb6 := bnot_no (hb6)
    refine X.skip ?_
    refine sk ⟨[(4, bV true)], [], 304⟩ ?_
    refine X.ret ?_
    exact ⟨trivial, _, _, ⟨true, (by first | exact fls (fun h => by subst h; first | exact absurd rfl ‹_› | exact tf (eqV_self _) ‹_› | exact tf (allEq_self _) ‹_›) | exact tru (by cases a; cases b; simp_all [eqV_iff, allEq_iff, tl_inj])), rfl, rfl⟩, mkr⟩
 obtain ⟨_, _, ⟨r0, h1_, rfl, rfl⟩, hf⟩ := key
 exact ⟨r0, h1_, hf⟩

end Go.Proofs.Ytggmeldoecnkaaa.Av
