/-
What functions of the program come to, walked one by one.
Conditions: none beside those that each theorem names.
-/
import Derived.Test.YtggmeldoecnkaaaAvG
import Derived.Test.YtggmeldoecnkaaaAvK
import Derived.Test.YtggmeldoecnkaaaAvH
import Derived.Test.YtggmeldoecnkaaaAv28
set_option linter.unusedVariables false
set_option linter.unusedSimpArgs false
namespace Go.Proofs.Ytggmeldoecnkaaa.Av
open Go.RowKit
set_option maxRecDepth 20000
set_option maxHeartbeats 4000000

noncomputable def sameQ (q r : S68) : Bool := q.f0 == r.f0 && (q.f1 == r.f1 && allEq q.f2 r.f2)
noncomputable def sameT (q r : S69) : Bool := q.f0 == r.f0 && (allEq q.f1 r.f1 && allEq q.f2 r.f2)
def mkStr (k : Int) (j : Int) (x : ByteArray) : Prop := x = mt (k + j)
def mkInt (k : Int) (j : Int) (x : Int) : Prop := x = k + j
def mkVal (k : Int) (j : Int) (x : S165) : Prop := x.f0 = mt (k + 2 * j) ∧ x.f1 = k + 2 * j + 1
def mkQ (k : Int) (q : S68) : Prop := Upto (mkStr k) (fun n => q.f2[n]?) q.f2.length
def mkT (k : Int) (t : S69) : Prop := Upto (mkStr k) (fun n => t.f1[n]?) t.f1.length ∧ Upto (mkInt (k + t.f1.length)) (fun n => t.f2[n]?) t.f2.length
theorem l_eqStringS (l : List ByteArray) (m : List ByteArray) (hl : l.length ≤ 2000000) (hm : m.length ≤ 2000000) : ∃ r0 : Bool, (r0 = allEq l m) ∧ Fn Try.prog 144 [lV (l.map dS), lV (m.map dS)] (lookH []) (bV r0) (lookH []) := by
 have key : ∃ x' h', ((fun x' h' => ∃ r0 : Bool, (r0 = allEq l m) ∧ x' = bV r0 ∧ h' = [])) x' h' ∧ Fn Try.prog 144 [lV (l.map dS), lV (m.map dS)] (lookH []) x' (lookH h') := by
  refine Fn.bodyX (N := 26) hτ Try.func144 rfl rfl rfl rfl ?_
  refine sk ⟨[(0, lV (l.map dS)), (1, lV (m.map dS))], [], 80⟩ ?_
  refine X.seq ?_
  refine X.seq ?_
  have el1 : (l.map dS).length = l.length := List.length_map ..
  have el2 : (m.map dS).length = m.length := List.length_map ..
  refine rk ⟨[(0, lV (l.map dS)), (1, lV (m.map dS)), (10, bV (((l.map dS).length : Int) != ((m.map dS).length : Int)))], [], 160⟩ ?_
  refine if_ (b := (((l.map dS).length : Int) != ((m.map dS).length : Int))) (fun hb3 => ?_) (fun hb3 => ?_)
  ·replace hb3 := bne_iff_ne.1 (hb3)
   refine sk ⟨[(4, bV false)], [], 176⟩ ?_
   refine X.ret ?_
   exact ⟨trivial, _, _, ⟨false, (by first | exact fls (fun h => by have := congrArg List.length h; omega) | exact fls (eq_noS ‹_› ‹_› ‹_›) | exact tru (eq_all hA (by omega) (by omega))), rfl, rfl⟩, mkr⟩
  ·replace hb3 := bne_eq_false_iff_eq.1 (hb3)
   refine X.skip ?_
   refine X.seq ?_
   refine sk ⟨[(0, lV (l.map dS)), (1, lV (m.map dS)), (5, iV 0)], [], 176⟩ ?_
   refine X.block ?_
   -- 4: v5 : Int
   refine X.loop (σ := { g : Int // (fun (v5 : Int) => 0 ≤ v5 ∧ v5 ≤ l.length ∧ Upto (fun j x => m[j.toNat]? = some x) (fun n => l[n]?) v5) g }) (fun g => (fun (v5 : Int) => ⟨[(0, lV (l.map dS)), (1, lV (m.map dS)), (5, iV v5)], [], 176⟩) g.1) (fun g => (fun (v5 : Int) => (l.length - v5).toNat) g.1) ⟨0, ⟨by first | omega | (dsimp only; omega), by first | omega | (dsimp only; omega), upto_zero⟩⟩ (Wk.less (by kernel_rfl)) (fun g => ?_)
   obtain ⟨v5, hg5⟩ := g
   have hg5 : 0 ≤ v5 ∧ v5 ≤ l.length ∧ Upto (fun j x => m[j.toNat]? = some x) (fun n => l[n]?) v5 := hg5
   obtain ⟨_, _, hA⟩ := hg5
   refine X.seq ?_
   refine sk ⟨[(0, lV (l.map dS)), (1, lV (m.map dS)), (5, iV v5), (14, bV (decide ((v5 : Int) < ((l.map dS).length : Int))))], [], 240⟩ ?_
   refine if_ (b := decide ((v5 : Int) < ((l.map dS).length : Int))) (fun hb6 => ?_) (fun hb6 => ?_)
   ·replace hb6 := of_decide_eq_true (hb6)
    refine X.skip ?_
    refine X.seq ?_
    refine X.block ?_
    refine X.seq (rs 2 ?_)
    obtain ⟨x7, hx7⟩ : ∃ x, l[Int.toNat v5]? = some x := ⟨_, List.getElem?_eq_getElem (by first | omega | (simp; done) | (simp; omega))⟩
    refine CH.idx hτ (dS x7) (rows := (l.map dS)) (n := v5) (sz := 1) (by kernel_rfl) (by kernel_rfl) (by first | omega | (simp; done) | (simp; omega)) (by rw [List.getElem?_map, hx7]; rfl) (by kernel_rfl) ?_
    refine go 3 ?_
    obtain ⟨x8, hx8⟩ : ∃ x, m[Int.toNat v5]? = some x := ⟨_, List.getElem?_eq_getElem (by first | omega | (simp; done) | (simp; omega))⟩
    refine CH.idx hτ (dS x8) (rows := (m.map dS)) (n := v5) (sz := 1) (by kernel_rfl) (by kernel_rfl) (by first | omega | (simp; done) | (simp; omega)) (by rw [List.getElem?_map, hx8]; rfl) (by kernel_rfl) ?_
    refine go 2 ?_
    refine ek ⟨[(0, lV (l.map dS)), (1, lV (m.map dS)), (5, iV v5), (25, bV (!(x7.toList == x8.toList)))], [], 384⟩ ?_
    refine if_ (b := !(x7.toList == x8.toList)) (fun hb9 => ?_) (fun hb9 => ?_)
    ·replace hb9 := beq_no (bnot_yes (hb9))
     refine sk ⟨[(4, bV false)], [], 400⟩ ?_
     refine X.ret ?_
     exact ⟨trivial, _, _, ⟨false, (by first | exact fls (fun h => by have := congrArg List.length h; omega) | exact fls (eq_noS ‹_› ‹_› ‹_›) | exact tru (eq_all hA (by omega) (by omega))), rfl, rfl⟩, mkr⟩
    ·replace hb9 := beq_yes (bnot_no (hb9))
     refine X.skip ?_
     refine X.rk ⟨[(0, lV (l.map dS)), (1, lV (m.map dS)), (5, iV (wrap64 (v5 + 1)))], [], 432⟩ hτ hmix (by kernel_rfl) (by kernel_rfl) (s2 := ⟨[(0, lV (l.map dS)), (1, lV (m.map dS)), (5, iV (v5 + 1))], [], 432⟩) (congrArg (fun z : Int => (⟨[(0, lV (l.map dS)), (1, lV (m.map dS)), (5, iV z)], [], 432⟩ : St)) (show wrap64 (v5 + 1) = (v5 + 1) by rw [w64 (n := (v5 + 1)) (by omega) (by omega)])) ?_
     refine ⟨⟨(v5 + 1), ⟨by first | omega | (dsimp only; omega), by first | omega | (dsimp only; omega), upto_nx (by first | omega | (dsimp only; omega)) hA ‹_› (eq_stp ‹_› (tl_inj.1 ‹_›))⟩⟩, by first | exact rfl | omega | (dsimp only; omega) | (simp only [List.length_append, List.length_cons, List.length_nil, List.length_set]; omega) | (simp; done) | (simp; omega), Wk.mk' [] (by kernel_rfl) (by kernel_rfl) (by kernel_rfl)⟩
   ·replace hb6 := of_decide_eq_false (hb6)
    refine X.exit ?_
    refine sk ⟨[(4, bV true)], [], 256⟩ ?_
    refine X.ret ?_
    exact ⟨trivial, _, _, ⟨true, (by first | exact fls (fun h => by have := congrArg List.length h; omega) | exact fls (eq_noS ‹_› ‹_› ‹_›) | exact tru (eq_all hA (by omega) (by omega))), rfl, rfl⟩, mkr⟩
 obtain ⟨_, _, ⟨r0, h1_, rfl, rfl⟩, hf⟩ := key
 exact ⟨r0, h1_, hf⟩

theorem l_eqIntS (l : List Int) (m : List Int) (hl : l.length ≤ 2000000) (hm : m.length ≤ 2000000) : ∃ r0 : Bool, (r0 = allEq l m) ∧ Fn Try.prog 96 [lV (l.map dI), lV (m.map dI)] (lookH []) (bV r0) (lookH []) := by
 have key : ∃ x' h', ((fun x' h' => ∃ r0 : Bool, (r0 = allEq l m) ∧ x' = bV r0 ∧ h' = [])) x' h' ∧ Fn Try.prog 96 [lV (l.map dI), lV (m.map dI)] (lookH []) x' (lookH h') := by
  refine Fn.bodyX (N := 26) hτ Try.func96 rfl rfl rfl rfl ?_
  refine sk ⟨[(0, lV (l.map dI)), (1, lV (m.map dI))], [], 80⟩ ?_
  refine X.seq ?_
  refine X.seq ?_
  have el1 : (l.map dI).length = l.length := List.length_map ..
  have el2 : (m.map dI).length = m.length := List.length_map ..
  refine rk ⟨[(0, lV (l.map dI)), (1, lV (m.map dI)), (10, bV (((l.map dI).length : Int) != ((m.map dI).length : Int)))], [], 160⟩ ?_
  refine if_ (b := (((l.map dI).length : Int) != ((m.map dI).length : Int))) (fun hb3 => ?_) (fun hb3 => ?_)
  ·replace hb3 := bne_iff_ne.1 (hb3)
   refine sk ⟨[(4, bV false)], [], 176⟩ ?_
   refine X.ret ?_
   exact ⟨trivial, _, _, ⟨false, (by first | exact fls (fun h => by have := congrArg List.length h; omega) | exact fls (eq_no ‹_› ‹_› ‹_›) | exact tru (eq_all hA (by omega) (by omega))), rfl, rfl⟩, mkr⟩
  ·replace hb3 := bne_eq_false_iff_eq.1 (hb3)
   refine X.skip ?_
   refine X.seq ?_
   refine sk ⟨[(0, lV (l.map dI)), (1, lV (m.map dI)), (5, iV 0)], [], 176⟩ ?_
   refine X.block ?_
   -- 4: v5 : Int
   refine X.loop (σ := { g : Int // (fun (v5 : Int) => 0 ≤ v5 ∧ v5 ≤ l.length ∧ Upto (fun j x => m[j.toNat]? = some x) (fun n => l[n]?) v5) g }) (fun g => (fun (v5 : Int) => ⟨[(0, lV (l.map dI)), (1, lV (m.map dI)), (5, iV v5)], [], 176⟩) g.1) (fun g => (fun (v5 : Int) => (l.length - v5).toNat) g.1) ⟨0, ⟨by first | omega | (dsimp only; omega), by first | omega | (dsimp only; omega), upto_zero⟩⟩ (Wk.less (by kernel_rfl)) (fun g => ?_)
   obtain ⟨v5, hg5⟩ := g
   have hg5 : 0 ≤ v5 ∧ v5 ≤ l.length ∧ Upto (fun j x => m[j.toNat]? = some x) (fun n => l[n]?) v5 := hg5
   obtain ⟨_, _, hA⟩ := hg5
   refine X.seq ?_
   refine sk ⟨[(0, lV (l.map dI)), (1, lV (m.map dI)), (5, iV v5), (14, bV (decide ((v5 : Int) < ((l.map dI).length : Int))))], [], 240⟩ ?_
   refine if_ (b := decide ((v5 : Int) < ((l.map dI).length : Int))) (fun hb6 => ?_) (fun hb6 => ?_)
   ·replace hb6 := of_decide_eq_true (hb6)
    refine X.skip ?_
    refine X.seq ?_
    refine X.block ?_
    refine X.seq (rs 2 ?_)
    obtain ⟨x7, hx7⟩ : ∃ x, l[Int.toNat v5]? = some x := ⟨_, List.getElem?_eq_getElem (by first | omega | (simp; done) | (simp; omega))⟩
    refine CH.idx hτ (dI x7) (rows := (l.map dI)) (n := v5) (sz := 1) (by kernel_rfl) (by kernel_rfl) (by first | omega | (simp; done) | (simp; omega)) (by rw [List.getElem?_map, hx7]; rfl) (by kernel_rfl) ?_
    refine go 3 ?_
    obtain ⟨x8, hx8⟩ : ∃ x, m[Int.toNat v5]? = some x := ⟨_, List.getElem?_eq_getElem (by first | omega | (simp; done) | (simp; omega))⟩
    refine CH.idx hτ (dI x8) (rows := (m.map dI)) (n := v5) (sz := 1) (by kernel_rfl) (by kernel_rfl) (by first | omega | (simp; done) | (simp; omega)) (by rw [List.getElem?_map, hx8]; rfl) (by kernel_rfl) ?_
    refine go 2 ?_
    refine ek ⟨[(0, lV (l.map dI)), (1, lV (m.map dI)), (5, iV v5), (25, bV (x7 != x8))], [], 384⟩ ?_
    refine if_ (b := (x7 != x8)) (fun hb9 => ?_) (fun hb9 => ?_)
    ·replace hb9 := bne_iff_ne.1 (hb9)
     refine sk ⟨[(4, bV false)], [], 400⟩ ?_
     refine X.ret ?_
     exact ⟨trivial, _, _, ⟨false, (by first | exact fls (fun h => by have := congrArg List.length h; omega) | exact fls (eq_no ‹_› ‹_› ‹_›) | exact tru (eq_all hA (by omega) (by omega))), rfl, rfl⟩, mkr⟩
    ·replace hb9 := bne_eq_false_iff_eq.1 (hb9)
     refine X.skip ?_
     refine X.rk ⟨[(0, lV (l.map dI)), (1, lV (m.map dI)), (5, iV (wrap64 (v5 + 1)))], [], 432⟩ hτ hmix (by kernel_rfl) (by kernel_rfl) (s2 := ⟨[(0, lV (l.map dI)), (1, lV (m.map dI)), (5, iV (v5 + 1))], [], 432⟩) (congrArg (fun z : Int => (⟨[(0, lV (l.map dI)), (1, lV (m.map dI)), (5, iV z)], [], 432⟩ : St)) (show wrap64 (v5 + 1) = (v5 + 1) by rw [w64 (n := (v5 + 1)) (by omega) (by omega)])) ?_
     refine ⟨⟨(v5 + 1), ⟨by first | omega | (dsimp only; omega), by first | omega | (dsimp only; omega), upto_nx (by first | omega | (dsimp only; omega)) hA ‹_› (eq_stp ‹_› ‹_›)⟩⟩, by first | exact rfl | omega | (dsimp only; omega) | (simp only [List.length_append, List.length_cons, List.length_nil, List.length_set]; omega) | (simp; done) | (simp; omega), Wk.mk' [] (by kernel_rfl) (by kernel_rfl) (by kernel_rfl)⟩
   ·replace hb6 := of_decide_eq_false (hb6)
    refine X.exit ?_
    refine sk ⟨[(4, bV true)], [], 256⟩ ?_
    refine X.ret ?_
    exact ⟨trivial, _, _, ⟨true, (by first | exact fls (fun h => by have := congrArg List.length h; omega) | exact fls (eq_no ‹_› ‹_› ‹_›) | exact tru (eq_all hA (by omega) (by omega))), rfl, rfl⟩, mkr⟩
 obtain ⟨_, _, ⟨r0, h1_, rfl, rfl⟩, hf⟩ := key
 exact ⟨r0, h1_, hf⟩

theorem l_eqVal (a : S165) (b : S165) : ∃ r0 : Bool, (r0 = sm165 a b) ∧ Fn Try.prog 145 [.e (.agg [.d (.v (.string a.f0)), .d (.v (.int .i64 a.f1))]), .e (.agg [.d (.v (.string b.f0)), .d (.v (.int .i64 b.f1))])] (lookH []) (bV r0) (lookH []) := by
 have key : ∃ x' h', ((fun x' h' => ∃ r0 : Bool, (r0 = sm165 a b) ∧ x' = bV r0 ∧ h' = [])) x' h' ∧ Fn Try.prog 145 [.e (.agg [.d (.v (.string a.f0)), .d (.v (.int .i64 a.f1))]), .e (.agg [.d (.v (.string b.f0)), .d (.v (.int .i64 b.f1))])] (lookH []) x' (lookH h') := by
  refine Fn.bodyX (N := 15) hτ Try.func145 rfl rfl rfl rfl ?_
  refine sk ⟨[(2, .pt 64 0 0), (3, .pt 80 0 0)], [(64, some (.box [.d (.v (.string a.f0)), .d (.v (.int .i64 a.f1))])), (80, some (.box [.d (.v (.string b.f0)), .d (.v (.int .i64 b.f1))]))], 112⟩ ?_
  refine X.seq ?_
  refine sk ⟨[(2, .pt 64 0 0), (3, .pt 80 0 0), (9, bV (!(a.f0.toList == b.f0.toList)))], [(64, some (.box [.d (.v (.string a.f0)), .d (.v (.int .i64 a.f1))])), (80, some (.box [.d (.v (.string b.f0)), .d (.v (.int .i64 b.f1))]))], 192⟩ ?_
  refine if_ (b := !(a.f0.toList == b.f0.toList)) (fun hb1 => ?_) (fun hb1 => ?_)
  ·replace hb1 := beq_no (bnot_yes (hb1))
   refine sk ⟨[(4, bV false)], [], 208⟩ ?_
   refine X.ret ?_
   exact ⟨trivial, _, _, ⟨false, (by simp_all [sm165]), rfl, rfl⟩, mkr⟩
  ·replace hb1 := beq_yes (bnot_no (hb1))
   refine X.skip ?_
   refine X.seq ?_
   refine sk ⟨[(14, bV (a.f1 != b.f1))], [], 272⟩ ?_
   refine if_ (b := (a.f1 != b.f1)) (fun hb2 => ?_) (fun hb2 => ?_)
   ·replace hb2 := bne_iff_ne.1 (hb2)
    refine sk ⟨[(4, bV false)], [], 288⟩ ?_
    refine X.ret ?_
    exact ⟨trivial, _, _, ⟨false, (by simp_all [sm165]), rfl, rfl⟩, mkr⟩
   ·replace hb2 := bne_eq_false_iff_eq.1 (hb2)
    refine X.skip ?_
    refine sk ⟨[(4, bV true)], [], 288⟩ ?_
    refine X.ret ?_
    exact ⟨trivial, _, _, ⟨true, (by simp_all [sm165]), rfl, rfl⟩, mkr⟩
 obtain ⟨_, _, ⟨r0, h1_, rfl, rfl⟩, hf⟩ := key
 exact ⟨r0, h1_, hf⟩

theorem l_eqValS (l : List S165) (m : List S165) (hl : l.length ≤ 2000000) (hm : m.length ≤ 2000000) : ∃ r0 : Bool, (r0 = allEq l m) ∧ Fn Try.prog 77 [lV (l.map d165), lV (m.map d165)] (lookH []) (bV r0) (lookH []) := by
 have key : ∃ x' h', ((fun x' h' => ∃ r0 : Bool, (r0 = allEq l m) ∧ x' = bV r0 ∧ h' = [])) x' h' ∧ Fn Try.prog 77 [lV (l.map d165), lV (m.map d165)] (lookH []) x' (lookH h') := by
  refine Fn.bodyX (N := 27) hτ Try.func77 rfl rfl rfl rfl ?_
  refine sk ⟨[(0, lV (l.map d165)), (1, lV (m.map d165))], [], 80⟩ ?_
  refine X.seq ?_
  refine X.seq ?_
  have el1 : (l.map d165).length = l.length := List.length_map ..
  have el2 : (m.map d165).length = m.length := List.length_map ..
  refine rk ⟨[(0, lV (l.map d165)), (1, lV (m.map d165)), (10, bV (((l.map d165).length : Int) != ((m.map d165).length : Int)))], [], 160⟩ ?_
  refine if_ (b := (((l.map d165).length : Int) != ((m.map d165).length : Int))) (fun hb3 => ?_) (fun hb3 => ?_)
  ·replace hb3 := bne_iff_ne.1 (hb3)
   refine sk ⟨[(4, bV false)], [], 176⟩ ?_
   refine X.ret ?_
   exact ⟨trivial, _, _, ⟨false, (by first | exact fls (fun h => by have := congrArg List.length h; omega) | exact fls (eq_no ‹_› ‹_› ‹_›) | exact tru (eq_all hA (by omega) (by omega))), rfl, rfl⟩, mkr⟩
  ·replace hb3 := bne_eq_false_iff_eq.1 (hb3)
   refine X.skip ?_
   refine X.seq ?_
   refine sk ⟨[(0, lV (l.map d165)), (1, lV (m.map d165)), (5, iV 0)], [], 176⟩ ?_
   refine X.block ?_
   -- 4: v5 : Int
   refine X.loop (σ := { g : Int // (fun (v5 : Int) => 0 ≤ v5 ∧ v5 ≤ l.length ∧ Upto (fun j x => m[j.toNat]? = some x) (fun n => l[n]?) v5) g }) (fun g => (fun (v5 : Int) => ⟨[(0, lV (l.map d165)), (1, lV (m.map d165)), (5, iV v5)], [], 176⟩) g.1) (fun g => (fun (v5 : Int) => (l.length - v5).toNat) g.1) ⟨0, ⟨by first | omega | (dsimp only; omega), by first | omega | (dsimp only; omega), upto_zero⟩⟩ (Wk.less (by kernel_rfl)) (fun g => ?_)
   obtain ⟨v5, hg5⟩ := g
   have hg5 : 0 ≤ v5 ∧ v5 ≤ l.length ∧ Upto (fun j x => m[j.toNat]? = some x) (fun n => l[n]?) v5 := hg5
   obtain ⟨_, _, hA⟩ := hg5
   refine X.seq ?_
   refine sk ⟨[(0, lV (l.map d165)), (1, lV (m.map d165)), (5, iV v5), (14, bV (decide ((v5 : Int) < ((l.map d165).length : Int))))], [], 240⟩ ?_
   refine if_ (b := decide ((v5 : Int) < ((l.map d165).length : Int))) (fun hb6 => ?_) (fun hb6 => ?_)
   ·replace hb6 := of_decide_eq_true (hb6)
    refine X.skip ?_
    refine X.seq ?_
    refine X.block ?_
    refine X.seq (rs 2 ?_)
    obtain ⟨x7, hx7⟩ : ∃ x, l[Int.toNat v5]? = some x := ⟨_, List.getElem?_eq_getElem (by first | omega | (simp; done) | (simp; omega))⟩
    refine CH.idx hτ (d165 x7) (rows := (l.map d165)) (n := v5) (sz := 2) (by kernel_rfl) (by kernel_rfl) (by first | omega | (simp; done) | (simp; omega)) (by rw [List.getElem?_map, hx7]; rfl) (by kernel_rfl) ?_
    refine go 3 ?_
    obtain ⟨x8, hx8⟩ : ∃ x, m[Int.toNat v5]? = some x := ⟨_, List.getElem?_eq_getElem (by first | omega | (simp; done) | (simp; omega))⟩
    refine CH.idx hτ (d165 x8) (rows := (m.map d165)) (n := v5) (sz := 2) (by kernel_rfl) (by kernel_rfl) (by first | omega | (simp; done) | (simp; omega)) (by rw [List.getElem?_map, hx8]; rfl) (by kernel_rfl) ?_
    refine go 1 ?_
    obtain ⟨r9, hr11, hf10⟩ := l_eqVal x7 x8
    replace hr11 := hr11.symm; subst hr11
    refine ca hf10 Try.func145 ?_
    refine go 1 ?_
    refine ek ⟨[(0, lV (l.map d165)), (1, lV (m.map d165)), (5, iV v5), (26, bV (!(sm165 x7 x8)))], [], 400⟩ ?_
    refine if_ (b := !(sm165 x7 x8)) (fun hb13 => ?_) (fun hb13 => ?_)
    ·replace hb13 := sm_no sm165_iff (bnot_yes (hb13))
     refine sk ⟨[(4, bV false)], [], 416⟩ ?_
     refine X.ret ?_
     exact ⟨trivial, _, _, ⟨false, (by first | exact fls (fun h => by have := congrArg List.length h; omega) | exact fls (eq_no ‹_› ‹_› ‹_›) | exact tru (eq_all hA (by omega) (by omega))), rfl, rfl⟩, mkr⟩
    ·replace hb13 := (sm165_iff _ _).1 (bnot_no (hb13))
     refine X.skip ?_
     refine X.rk ⟨[(0, lV (l.map d165)), (1, lV (m.map d165)), (5, iV (wrap64 (v5 + 1)))], [], 448⟩ hτ hmix (by kernel_rfl) (by kernel_rfl) (s2 := ⟨[(0, lV (l.map d165)), (1, lV (m.map d165)), (5, iV (v5 + 1))], [], 448⟩) (congrArg (fun z : Int => (⟨[(0, lV (l.map d165)), (1, lV (m.map d165)), (5, iV z)], [], 448⟩ : St)) (show wrap64 (v5 + 1) = (v5 + 1) by rw [w64 (n := (v5 + 1)) (by omega) (by omega)])) ?_
     refine ⟨⟨(v5 + 1), ⟨by first | omega | (dsimp only; omega), by first | omega | (dsimp only; omega), upto_nx (by first | omega | (dsimp only; omega)) hA ‹_› (eq_stp ‹_› ‹_›)⟩⟩, by first | exact rfl | omega | (dsimp only; omega) | (simp only [List.length_append, List.length_cons, List.length_nil, List.length_set]; omega) | (simp; done) | (simp; omega), Wk.mk' [] (by kernel_rfl) (by kernel_rfl) (by kernel_rfl)⟩
   ·replace hb6 := of_decide_eq_false (hb6)
    refine X.exit ?_
    refine sk ⟨[(4, bV true)], [], 256⟩ ?_
    refine X.ret ?_
    exact ⟨trivial, _, _, ⟨true, (by first | exact fls (fun h => by have := congrArg List.length h; omega) | exact fls (eq_no ‹_› ‹_› ‹_›) | exact tru (eq_all hA (by omega) (by omega))), rfl, rfl⟩, mkr⟩
 obtain ⟨_, _, ⟨r0, h1_, rfl, rfl⟩, hf⟩ := key
 exact ⟨r0, h1_, hf⟩

theorem l_eqQc (q : S68) (r : S68) (hq : q.f2.length ≤ 2000000) (hr : r.f2.length ≤ 2000000) : ∃ r0 : Bool, (r0 = sameQ q r) ∧ Fn Try.prog 75 [.e (.agg (cD (d68 q))), .e (.agg (cD (d68 r)))] (lookH []) (bV r0) (lookH []) := by
 have key : ∃ x' h', ((fun x' h' => ∃ r0 : Bool, (r0 = sameQ q r) ∧ x' = bV r0 ∧ h' = [])) x' h' ∧ Fn Try.prog 75 [.e (.agg (cD (d68 q))), .e (.agg (cD (d68 r)))] (lookH []) x' (lookH h') := by
  refine Fn.bodyX (N := 21) hτ Try.func75 rfl rfl rfl rfl ?_
  refine sk ⟨[(2, .pt 64 0 0), (3, .pt 80 0 0)], [(64, some (.box (cD (d68 q)))), (80, some (.box (cD (d68 r))))], 112⟩ ?_
  refine X.seq ?_
  refine sk ⟨[(2, .pt 64 0 0), (3, .pt 80 0 0), (9, bV (q.f0 != r.f0))], [(64, some (.box (cD (d68 q)))), (80, some (.box (cD (d68 r))))], 192⟩ ?_
  refine if_ (b := (q.f0 != r.f0)) (fun hb1 => ?_) (fun hb1 => ?_)
  ·replace hb1 := bne_iff_ne.1 (hb1)
   refine sk ⟨[(4, bV false)], [], 208⟩ ?_
   refine X.ret ?_
   exact ⟨trivial, _, _, ⟨false, (by simp_all [sameQ]), rfl, rfl⟩, mkr⟩
  ·replace hb1 := bne_eq_false_iff_eq.1 (hb1)
   refine X.skip ?_
   refine X.seq ?_
   refine sk ⟨[(2, .pt 64 0 0), (3, .pt 80 0 0), (14, bV (q.f1 != r.f1))], [(64, some (.box (cD (d68 q)))), (80, some (.box (cD (d68 r))))], 272⟩ ?_
   refine if_ (b := (q.f1 != r.f1)) (fun hb2 => ?_) (fun hb2 => ?_)
   ·replace hb2 := bne_iff_ne.1 (hb2)
    refine sk ⟨[(4, bV false)], [], 288⟩ ?_
    refine X.ret ?_
    exact ⟨trivial, _, _, ⟨false, (by simp_all [sameQ]), rfl, rfl⟩, mkr⟩
   ·replace hb2 := bne_eq_false_iff_eq.1 (hb2)
    refine X.skip ?_
    refine X.seq ?_
    refine X.seq (rs 4 ?_)
    obtain ⟨r3, hr5, hf4⟩ := l_eqStringS q.f2 r.f2 (by first | assumption | omega) (by first | assumption | omega)
    replace hr5 := hr5.symm; subst hr5
    refine ca hf4 Try.func144 ?_
    refine go 1 ?_
    refine ek ⟨[(20, bV (!(allEq q.f2 r.f2)))], [], 368⟩ ?_
    refine if_ (b := !(allEq q.f2 r.f2)) (fun hb7 => ?_) (fun hb7 => ?_)
    ·replace hb7 := bnot_yes (hb7)
     refine sk ⟨[(4, bV false)], [], 384⟩ ?_
     refine X.ret ?_
     exact ⟨trivial, _, _, ⟨false, (by simp_all [sameQ]), rfl, rfl⟩, mkr⟩
    ·replace hb7 := bnot_no (hb7)
     refine X.skip ?_
     refine sk ⟨[(4, bV true)], [], 384⟩ ?_
     refine X.ret ?_
     exact ⟨trivial, _, _, ⟨true, (by simp_all [sameQ]), rfl, rfl⟩, mkr⟩
 obtain ⟨_, _, ⟨r0, h1_, rfl, rfl⟩, hf⟩ := key
 exact ⟨r0, h1_, hf⟩

theorem l_eqTc (q : S69) (r : S69) (hq : q.f1.length ≤ 2000000) (hq2 : q.f2.length ≤ 2000000) (hr : r.f1.length ≤ 2000000) (hr2 : r.f2.length ≤ 2000000) : ∃ r0 : Bool, (r0 = sameT q r) ∧ Fn Try.prog 76 [.e (.agg (cD (d69 q))), .e (.agg (cD (d69 r)))] (lookH []) (bV r0) (lookH []) := by
 have key : ∃ x' h', ((fun x' h' => ∃ r0 : Bool, (r0 = sameT q r) ∧ x' = bV r0 ∧ h' = [])) x' h' ∧ Fn Try.prog 76 [.e (.agg (cD (d69 q))), .e (.agg (cD (d69 r)))] (lookH []) x' (lookH h') := by
  refine Fn.bodyX (N := 22) hτ Try.func76 rfl rfl rfl rfl ?_
  refine sk ⟨[(2, .pt 64 0 0), (3, .pt 80 0 0)], [(64, some (.box (cD (d69 q)))), (80, some (.box (cD (d69 r))))], 112⟩ ?_
  refine X.seq ?_
  refine sk ⟨[(2, .pt 64 0 0), (3, .pt 80 0 0), (9, bV (q.f0 != r.f0))], [(64, some (.box (cD (d69 q)))), (80, some (.box (cD (d69 r))))], 192⟩ ?_
  refine if_ (b := (q.f0 != r.f0)) (fun hb1 => ?_) (fun hb1 => ?_)
  ·replace hb1 := bne_iff_ne.1 (hb1)
   refine sk ⟨[(4, bV false)], [], 208⟩ ?_
   refine X.ret ?_
   exact ⟨trivial, _, _, ⟨false, (by simp_all [sameT]), rfl, rfl⟩, mkr⟩
  ·replace hb1 := bne_eq_false_iff_eq.1 (hb1)
   refine X.skip ?_
   refine X.seq ?_
   refine X.seq (rs 4 ?_)
   obtain ⟨r2, hr4, hf3⟩ := l_eqStringS q.f1 r.f1 (by first | assumption | omega) (by first | assumption | omega)
   replace hr4 := hr4.symm; subst hr4
   refine ca hf3 Try.func144 ?_
   refine go 1 ?_
   refine ek ⟨[(2, .pt 64 0 0), (3, .pt 80 0 0), (15, bV (!(allEq q.f1 r.f1)))], [(64, some (.box (cD (d69 q)))), (80, some (.box (cD (d69 r))))], 288⟩ ?_
   refine if_ (b := !(allEq q.f1 r.f1)) (fun hb6 => ?_) (fun hb6 => ?_)
   ·replace hb6 := bnot_yes (hb6)
    refine sk ⟨[(4, bV false)], [], 304⟩ ?_
    refine X.ret ?_
    exact ⟨trivial, _, _, ⟨false, (by simp_all [sameT]), rfl, rfl⟩, mkr⟩
   ·replace hb6 := bnot_no (hb6)
    refine X.skip ?_
    refine X.seq ?_
    refine X.seq (rs 4 ?_)
    obtain ⟨r7, hr9, hf8⟩ := l_eqIntS q.f2 r.f2 (by first | assumption | omega) (by first | assumption | omega)
    replace hr9 := hr9.symm; subst hr9
    refine ca hf8 Try.func96 ?_
    refine go 1 ?_
    refine ek ⟨[(21, bV (!(allEq q.f2 r.f2)))], [], 384⟩ ?_
    refine if_ (b := !(allEq q.f2 r.f2)) (fun hb11 => ?_) (fun hb11 => ?_)
    ·replace hb11 := bnot_yes (hb11)
     refine sk ⟨[(4, bV false)], [], 400⟩ ?_
     refine X.ret ?_
     exact ⟨trivial, _, _, ⟨false, (by simp_all [sameT]), rfl, rfl⟩, mkr⟩
    ·replace hb11 := bnot_no (hb11)
     refine X.skip ?_
     refine sk ⟨[(4, bV true)], [], 400⟩ ?_
     refine X.ret ?_
     exact ⟨trivial, _, _, ⟨true, (by simp_all [sameT]), rfl, rfl⟩, mkr⟩
 obtain ⟨_, _, ⟨r0, h1_, rfl, rfl⟩, hf⟩ := key
 exact ⟨r0, h1_, hf⟩

theorem l_markStringS (l : List ByteArray) (k : Int) (hl : l.length ≤ 2000000) (hk : 0 ≤ k ∧ k ≤ 100000000) : ∃ r0 : Int, ∃ q0 : List ByteArray, (q0.length = l.length ∧ r0 = k + l.length ∧ Upto (mkStr k) (fun n => q0[n]?) l.length) ∧ Fn Try.prog 78 [rV 0, iV k] (lookH [(0, some (.row 1 9 (l.map dS) false true))]) (iV r0) (lookH [(0, some (.row 1 9 (q0.map dS) false true))]) := by
 have key : ∃ x' h', ((fun x' h' => ∃ r0 : Int, ∃ q0 : List ByteArray, (q0.length = l.length ∧ r0 = k + l.length ∧ Upto (mkStr k) (fun n => q0[n]?) l.length) ∧ x' = iV r0 ∧ h' = [(0, some (.row 1 9 (q0.map dS) false true))])) x' h' ∧ Fn Try.prog 78 [rV 0, iV k] (lookH [(0, some (.row 1 9 (l.map dS) false true))]) x' (lookH h') := by
  refine Fn.bodyX (N := 20) hτ Try.func78 rfl rfl rfl rfl ?_
  refine sk ⟨[(0, rV 0), (1, iV k)], [(0, some (.row 1 9 (l.map dS) false true))], 80⟩ ?_
  refine X.seq ?_
  refine sk ⟨[(0, rV 0), (1, iV k), (5, iV 0)], [(0, some (.row 1 9 (l.map dS) false true))], 96⟩ ?_
  refine X.block ?_
  -- 2: L0 : List ByteArray, v1 : Int, v5 : Int
  refine X.loop (σ := { g : (List ByteArray) × Int × Int // (fun (L0 : List ByteArray) (v1 : Int) (v5 : Int) => 0 ≤ v5 ∧ v5 ≤ l.length ∧ v1 = k + 1 * v5 ∧ L0.length = l.length ∧ Upto (mkStr k) (fun n => L0[n]?) v5) g.1 g.2.1 g.2.2 }) (fun g => (fun (L0 : List ByteArray) (v1 : Int) (v5 : Int) => ⟨[(0, rV 0), (1, iV v1), (5, iV v5)], [(0, some (.row 1 9 (L0.map dS) false true))], 96⟩) g.1.1 g.1.2.1 g.1.2.2) (fun g => (fun (L0 : List ByteArray) (v1 : Int) (v5 : Int) => (l.length - v5).toNat) g.1.1 g.1.2.1 g.1.2.2) ⟨(l, k, 0), ⟨by first | omega | (dsimp only; omega), by first | omega | (dsimp only; omega), by first | omega | (dsimp only; omega), rfl, upto_zero⟩⟩ (Wk.less (by kernel_rfl)) (fun g => ?_)
  obtain ⟨⟨L0, v1, v5⟩, hg2⟩ := g
  have hg2 : 0 ≤ v5 ∧ v5 ≤ l.length ∧ v1 = k + 1 * v5 ∧ L0.length = l.length ∧ Upto (mkStr k) (fun n => L0[n]?) v5 := hg2
  obtain ⟨_, _, _, hL, hA⟩ := hg2
  refine X.seq ?_
  refine X.seq ?_
  have hlb : (l.map dS).length = l.length := List.length_map ..
  have el3 : (L0.map dS).length = L0.length := List.length_map ..
  refine rk ⟨[(0, rV 0), (1, iV v1), (5, iV v5), (9, bV (decide ((v5 : Int) < ((L0.map dS).length : Int))))], [(0, some (.row 1 9 (L0.map dS) false true))], 160⟩ ?_
  refine if_ (b := decide ((v5 : Int) < ((L0.map dS).length : Int))) (fun hb4 => ?_) (fun hb4 => ?_)
  ·replace hb4 := of_decide_eq_true (hb4)
   refine X.skip ?_
   refine X.seq ?_
   refine X.block ?_
   refine X.seq (rs 3 ?_)
   obtain ⟨r5, hr7, hf6⟩ := l_markText v1 (by omega)
   replace hr7 := hr7.symm; subst hr7
   refine ca hf6 Try.func58 ?_
   refine CH.idxR hτ (rows := (L0.map dS)) (n := v5) (b := 0) (by kernel_rfl) (by kernel_rfl) (by first | omega | (simp; done) | (simp; omega)) (by simp only [List.length_map, List.length_set]; first | omega | (simp; done) | (simp; omega)) (by kernel_rfl) ?_
   obtain ⟨x9, hx9⟩ : ∃ x, L0[Int.toNat v5]? = some x := ⟨_, List.getElem?_eq_getElem (by first | omega | (simp; done) | (simp; omega))⟩
   refine CH.row hτ (dS x9) (by kernel_rfl) (by kernel_rfl) (by rw [List.getElem?_map, hx9]; rfl) (by kernel_rfl) ?_
   refine CH.endk ⟨[(0, rV 0), (1, iV v1), (5, iV v5)], [(0, some (.row 1 9 ((L0.map dS).set (Int.toNat v5) (dS (mt v1))) false true))], 256⟩ (by kernel_rfl) (by kernel_rfl) (s2 := ⟨[(0, rV 0), (1, iV v1), (5, iV v5)], [(0, some (.row 1 9 ((L0.set (Int.toNat v5) (mt v1)).map dS) false true))], 256⟩) (congrArg (fun z : List (List D) => (⟨[(0, rV 0), (1, iV v1), (5, iV v5)], [(0, some (.row 1 9 z false true))], 256⟩ : St)) (show ((L0.map dS).set (Int.toNat v5) (dS (mt v1))) = ((L0.set (Int.toNat v5) (mt v1)).map dS) from List.map_set.symm)) ?_
   refine X.rk ⟨[(0, rV 0), (1, iV (wrap64 (v1 + 1))), (5, iV v5)], [(0, some (.row 1 9 ((L0.set (Int.toNat v5) (mt v1)).map dS) false true))], 304⟩ hτ hmix (by kernel_rfl) (by kernel_rfl) (s2 := ⟨[(0, rV 0), (1, iV (v1 + 1)), (5, iV v5)], [(0, some (.row 1 9 ((L0.set (Int.toNat v5) (mt v1)).map dS) false true))], 304⟩) (congrArg (fun z : Int => (⟨[(0, rV 0), (1, iV z), (5, iV v5)], [(0, some (.row 1 9 ((L0.set (Int.toNat v5) (mt v1)).map dS) false true))], 304⟩ : St)) (show wrap64 (v1 + 1) = (v1 + 1) by rw [w64 (n := (v1 + 1)) (by omega) (by omega)])) ?_
   refine X.rk ⟨[(0, rV 0), (1, iV (v1 + 1)), (5, iV (wrap64 (v5 + 1)))], [(0, some (.row 1 9 ((L0.set (Int.toNat v5) (mt v1)).map dS) false true))], 352⟩ hτ hmix (by kernel_rfl) (by kernel_rfl) (s2 := ⟨[(0, rV 0), (1, iV (v1 + 1)), (5, iV (v5 + 1))], [(0, some (.row 1 9 ((L0.set (Int.toNat v5) (mt v1)).map dS) false true))], 352⟩) (congrArg (fun z : Int => (⟨[(0, rV 0), (1, iV (v1 + 1)), (5, iV z)], [(0, some (.row 1 9 ((L0.set (Int.toNat v5) (mt v1)).map dS) false true))], 352⟩ : St)) (show wrap64 (v5 + 1) = (v5 + 1) by rw [w64 (n := (v5 + 1)) (by omega) (by omega)])) ?_
   refine ⟨⟨((L0.set (Int.toNat v5) (mt v1)), (v1 + 1), (v5 + 1)), ⟨by first | omega | (dsimp only; omega), by first | omega | (dsimp only; omega), by first | omega | (dsimp only; omega), by simp only [List.length_set]; omega, by (try simp only [List.set_set]); exact set_all hA (by first | omega | (dsimp only; omega)) (by show mt _ = mt _; congr 1; omega)⟩⟩, by first | exact rfl | omega | (dsimp only; omega) | (simp only [List.length_append, List.length_cons, List.length_nil, List.length_set]; omega) | (simp; done) | (simp; omega), Wk.mk' [] (by kernel_rfl) (by kernel_rfl) (by kernel_rfl)⟩
  ·replace hb4 := of_decide_eq_false (hb4)
   refine X.exit ?_
   refine sk ⟨[(4, iV v1)], [(0, some (.row 1 9 (L0.map dS) false true))], 192⟩ ?_
   refine X.ret ?_
   exact ⟨trivial, _, _, ⟨v1, L0, ⟨hL, by omega, upto_all hA (by omega)⟩, rfl, rfl⟩, mkr⟩
 obtain ⟨_, _, ⟨r0, q0, h1_, rfl, rfl⟩, hf⟩ := key
 exact ⟨r0, q0, h1_, hf⟩

theorem l_markIntS (l : List Int) (k : Int) (hl : l.length ≤ 2000000) (hk : 0 ≤ k ∧ k ≤ 100000000) : ∃ r0 : Int, ∃ q0 : List Int, (q0.length = l.length ∧ r0 = k + l.length ∧ Upto (mkInt k) (fun n => q0[n]?) l.length) ∧ Fn Try.prog 79 [rV 0, iV k] (lookH [(0, some (.row 1 3 (l.map dI) false true))]) (iV r0) (lookH [(0, some (.row 1 3 (q0.map dI) false true))]) := by
 have key : ∃ x' h', ((fun x' h' => ∃ r0 : Int, ∃ q0 : List Int, (q0.length = l.length ∧ r0 = k + l.length ∧ Upto (mkInt k) (fun n => q0[n]?) l.length) ∧ x' = iV r0 ∧ h' = [(0, some (.row 1 3 (q0.map dI) false true))])) x' h' ∧ Fn Try.prog 79 [rV 0, iV k] (lookH [(0, some (.row 1 3 (l.map dI) false true))]) x' (lookH h') := by
  refine Fn.bodyX (N := 19) hτ Try.func79 rfl rfl rfl rfl ?_
  refine sk ⟨[(0, rV 0), (1, iV k)], [(0, some (.row 1 3 (l.map dI) false true))], 80⟩ ?_
  refine X.seq ?_
  refine sk ⟨[(0, rV 0), (1, iV k), (5, iV 0)], [(0, some (.row 1 3 (l.map dI) false true))], 96⟩ ?_
  refine X.block ?_
  -- 2: L0 : List Int, v1 : Int, v5 : Int
  refine X.loop (σ := { g : (List Int) × Int × Int // (fun (L0 : List Int) (v1 : Int) (v5 : Int) => 0 ≤ v5 ∧ v5 ≤ l.length ∧ v1 = k + 1 * v5 ∧ L0.length = l.length ∧ Upto (mkInt k) (fun n => L0[n]?) v5) g.1 g.2.1 g.2.2 }) (fun g => (fun (L0 : List Int) (v1 : Int) (v5 : Int) => ⟨[(0, rV 0), (1, iV v1), (5, iV v5)], [(0, some (.row 1 3 (L0.map dI) false true))], 96⟩) g.1.1 g.1.2.1 g.1.2.2) (fun g => (fun (L0 : List Int) (v1 : Int) (v5 : Int) => (l.length - v5).toNat) g.1.1 g.1.2.1 g.1.2.2) ⟨(l, k, 0), ⟨by first | omega | (dsimp only; omega), by first | omega | (dsimp only; omega), by first | omega | (dsimp only; omega), rfl, upto_zero⟩⟩ (Wk.less (by kernel_rfl)) (fun g => ?_)
  obtain ⟨⟨L0, v1, v5⟩, hg2⟩ := g
  have hg2 : 0 ≤ v5 ∧ v5 ≤ l.length ∧ v1 = k + 1 * v5 ∧ L0.length = l.length ∧ Upto (mkInt k) (fun n => L0[n]?) v5 := hg2
  obtain ⟨_, _, _, hL, hA⟩ := hg2
  refine X.seq ?_
  refine X.seq ?_
  have hlb : (l.map dI).length = l.length := List.length_map ..
  have el3 : (L0.map dI).length = L0.length := List.length_map ..
  refine rk ⟨[(0, rV 0), (1, iV v1), (5, iV v5), (9, bV (decide ((v5 : Int) < ((L0.map dI).length : Int))))], [(0, some (.row 1 3 (L0.map dI) false true))], 160⟩ ?_
  refine if_ (b := decide ((v5 : Int) < ((L0.map dI).length : Int))) (fun hb4 => ?_) (fun hb4 => ?_)
  ·replace hb4 := of_decide_eq_true (hb4)
   refine X.skip ?_
   refine X.seq ?_
   refine X.block ?_
   refine X.seq (rs 3 ?_)
   refine CH.idxR hτ (rows := (L0.map dI)) (n := v5) (b := 0) (by kernel_rfl) (by kernel_rfl) (by first | omega | (simp; done) | (simp; omega)) (by simp only [List.length_map, List.length_set]; first | omega | (simp; done) | (simp; omega)) (by kernel_rfl) ?_
   obtain ⟨x5, hx5⟩ : ∃ x, L0[Int.toNat v5]? = some x := ⟨_, List.getElem?_eq_getElem (by first | omega | (simp; done) | (simp; omega))⟩
   refine CH.row hτ (dI x5) (by kernel_rfl) (by kernel_rfl) (by rw [List.getElem?_map, hx5]; rfl) (by kernel_rfl) ?_
   refine CH.endk ⟨[(0, rV 0), (1, iV v1), (5, iV v5)], [(0, some (.row 1 3 ((L0.map dI).set (Int.toNat v5) (dI v1)) false true))], 240⟩ (by kernel_rfl) (by kernel_rfl) (s2 := ⟨[(0, rV 0), (1, iV v1), (5, iV v5)], [(0, some (.row 1 3 ((L0.set (Int.toNat v5) v1).map dI) false true))], 240⟩) (congrArg (fun z : List (List D) => (⟨[(0, rV 0), (1, iV v1), (5, iV v5)], [(0, some (.row 1 3 z false true))], 240⟩ : St)) (show ((L0.map dI).set (Int.toNat v5) (dI v1)) = ((L0.set (Int.toNat v5) v1).map dI) from List.map_set.symm)) ?_
   refine X.rk ⟨[(0, rV 0), (1, iV (wrap64 (v1 + 1))), (5, iV v5)], [(0, some (.row 1 3 ((L0.set (Int.toNat v5) v1).map dI) false true))], 288⟩ hτ hmix (by kernel_rfl) (by kernel_rfl) (s2 := ⟨[(0, rV 0), (1, iV (v1 + 1)), (5, iV v5)], [(0, some (.row 1 3 ((L0.set (Int.toNat v5) v1).map dI) false true))], 288⟩) (congrArg (fun z : Int => (⟨[(0, rV 0), (1, iV z), (5, iV v5)], [(0, some (.row 1 3 ((L0.set (Int.toNat v5) v1).map dI) false true))], 288⟩ : St)) (show wrap64 (v1 + 1) = (v1 + 1) by rw [w64 (n := (v1 + 1)) (by omega) (by omega)])) ?_
   refine X.rk ⟨[(0, rV 0), (1, iV (v1 + 1)), (5, iV (wrap64 (v5 + 1)))], [(0, some (.row 1 3 ((L0.set (Int.toNat v5) v1).map dI) false true))], 336⟩ hτ hmix (by kernel_rfl) (by kernel_rfl) (s2 := ⟨[(0, rV 0), (1, iV (v1 + 1)), (5, iV (v5 + 1))], [(0, some (.row 1 3 ((L0.set (Int.toNat v5) v1).map dI) false true))], 336⟩) (congrArg (fun z : Int => (⟨[(0, rV 0), (1, iV (v1 + 1)), (5, iV z)], [(0, some (.row 1 3 ((L0.set (Int.toNat v5) v1).map dI) false true))], 336⟩ : St)) (show wrap64 (v5 + 1) = (v5 + 1) by rw [w64 (n := (v5 + 1)) (by omega) (by omega)])) ?_
   refine ⟨⟨((L0.set (Int.toNat v5) v1), (v1 + 1), (v5 + 1)), ⟨by first | omega | (dsimp only; omega), by first | omega | (dsimp only; omega), by first | omega | (dsimp only; omega), by simp only [List.length_set]; omega, by (try simp only [List.set_set]); exact set_all hA (by first | omega | (dsimp only; omega)) (by show _ = k + _; omega)⟩⟩, by first | exact rfl | omega | (dsimp only; omega) | (simp only [List.length_append, List.length_cons, List.length_nil, List.length_set]; omega) | (simp; done) | (simp; omega), Wk.mk' [] (by kernel_rfl) (by kernel_rfl) (by kernel_rfl)⟩
  ·replace hb4 := of_decide_eq_false (hb4)
   refine X.exit ?_
   refine sk ⟨[(4, iV v1)], [(0, some (.row 1 3 (L0.map dI) false true))], 192⟩ ?_
   refine X.ret ?_
   exact ⟨trivial, _, _, ⟨v1, L0, ⟨hL, by omega, upto_all hA (by omega)⟩, rfl, rfl⟩, mkr⟩
 obtain ⟨_, _, ⟨r0, q0, h1_, rfl, rfl⟩, hf⟩ := key
 exact ⟨r0, q0, h1_, hf⟩

theorem l_markValS (l : List S165) (k : Int) (hl : l.length ≤ 2000000) (hk : 0 ≤ k ∧ k ≤ 100000000) : ∃ r0 : Int, ∃ q0 : List S165, (q0.length = l.length ∧ r0 = k + 2 * l.length ∧ Upto (mkVal k) (fun n => q0[n]?) l.length) ∧ Fn Try.prog 80 [rV 0, iV k] (lookH [(0, some (.row 2 165 (l.map d165) false true))]) (iV r0) (lookH [(0, some (.row 2 165 (q0.map d165) false true))]) := by
 have key : ∃ x' h', ((fun x' h' => ∃ r0 : Int, ∃ q0 : List S165, (q0.length = l.length ∧ r0 = k + 2 * l.length ∧ Upto (mkVal k) (fun n => q0[n]?) l.length) ∧ x' = iV r0 ∧ h' = [(0, some (.row 2 165 (q0.map d165) false true))])) x' h' ∧ Fn Try.prog 80 [rV 0, iV k] (lookH [(0, some (.row 2 165 (l.map d165) false true))]) x' (lookH h') := by
  refine Fn.bodyX (N := 28) hτ Try.func80 rfl rfl rfl rfl ?_
  refine sk ⟨[(0, rV 0), (1, iV k)], [(0, some (.row 2 165 (l.map d165) false true))], 80⟩ ?_
  refine X.seq ?_
  refine sk ⟨[(0, rV 0), (1, iV k), (5, iV 0)], [(0, some (.row 2 165 (l.map d165) false true))], 96⟩ ?_
  refine X.block ?_
  -- 2: L0 : List S165, v1 : Int, v5 : Int
  refine X.loop (σ := { g : (List S165) × Int × Int // (fun (L0 : List S165) (v1 : Int) (v5 : Int) => 0 ≤ v5 ∧ v5 ≤ l.length ∧ v1 = k + 2 * v5 ∧ L0.length = l.length ∧ Upto (mkVal k) (fun n => L0[n]?) v5) g.1 g.2.1 g.2.2 }) (fun g => (fun (L0 : List S165) (v1 : Int) (v5 : Int) => ⟨[(0, rV 0), (1, iV v1), (5, iV v5)], [(0, some (.row 2 165 (L0.map d165) false true))], 96⟩) g.1.1 g.1.2.1 g.1.2.2) (fun g => (fun (L0 : List S165) (v1 : Int) (v5 : Int) => (l.length - v5).toNat) g.1.1 g.1.2.1 g.1.2.2) ⟨(l, k, 0), ⟨by first | omega | (dsimp only; omega), by first | omega | (dsimp only; omega), by first | omega | (dsimp only; omega), rfl, upto_zero⟩⟩ (Wk.less (by kernel_rfl)) (fun g => ?_)
  obtain ⟨⟨L0, v1, v5⟩, hg2⟩ := g
  have hg2 : 0 ≤ v5 ∧ v5 ≤ l.length ∧ v1 = k + 2 * v5 ∧ L0.length = l.length ∧ Upto (mkVal k) (fun n => L0[n]?) v5 := hg2
  obtain ⟨_, _, _, hL, hA⟩ := hg2
  refine X.seq ?_
  refine X.seq ?_
  have hlb : (l.map d165).length = l.length := List.length_map ..
  have el3 : (L0.map d165).length = L0.length := List.length_map ..
  refine rk ⟨[(0, rV 0), (1, iV v1), (5, iV v5), (9, bV (decide ((v5 : Int) < ((L0.map d165).length : Int))))], [(0, some (.row 2 165 (L0.map d165) false true))], 160⟩ ?_
  refine if_ (b := decide ((v5 : Int) < ((L0.map d165).length : Int))) (fun hb4 => ?_) (fun hb4 => ?_)
  ·replace hb4 := of_decide_eq_true (hb4)
   refine X.skip ?_
   refine X.seq ?_
   refine X.block ?_
   refine X.seq (rs 3 ?_)
   obtain ⟨r5, hr7, hf6⟩ := l_markText v1 (by omega)
   replace hr7 := hr7.symm; subst hr7
   refine ca hf6 Try.func58 ?_
   refine CH.idxR hτ (rows := (L0.map d165)) (n := v5) (b := 0) (by kernel_rfl) (by kernel_rfl) (by first | omega | (simp; done) | (simp; omega)) (by simp only [List.length_map, List.length_set]; first | omega | (simp; done) | (simp; omega)) (by kernel_rfl) ?_
   refine go 1 ?_
   obtain ⟨x9, hx9⟩ : ∃ x, L0[Int.toNat v5]? = some x := ⟨_, List.getElem?_eq_getElem (by first | omega | (simp; done) | (simp; omega))⟩
   refine CH.row hτ (d165 x9) (by kernel_rfl) (by kernel_rfl) (by rw [List.getElem?_map, hx9]; rfl) (by kernel_rfl) ?_
   refine CH.endk ⟨[(0, rV 0), (1, iV v1), (5, iV v5)], [(0, some (.row 2 165 ((L0.map d165).set (Int.toNat v5) (d165 (⟨(mt v1), x9.f1⟩ : S165))) false true))], 272⟩ (by kernel_rfl) (by kernel_rfl) (s2 := ⟨[(0, rV 0), (1, iV v1), (5, iV v5)], [(0, some (.row 2 165 ((L0.set (Int.toNat v5) (⟨(mt v1), x9.f1⟩ : S165)).map d165) false true))], 272⟩) (congrArg (fun z : List (List D) => (⟨[(0, rV 0), (1, iV v1), (5, iV v5)], [(0, some (.row 2 165 z false true))], 272⟩ : St)) (show ((L0.map d165).set (Int.toNat v5) (d165 (⟨(mt v1), x9.f1⟩ : S165))) = ((L0.set (Int.toNat v5) (⟨(mt v1), x9.f1⟩ : S165)).map d165) from List.map_set.symm)) ?_
   refine X.seq ?_
   refine X.rk ⟨[(0, rV 0), (1, iV (wrap64 (v1 + 1))), (5, iV v5)], [(0, some (.row 2 165 ((L0.set (Int.toNat v5) (⟨(mt v1), x9.f1⟩ : S165)).map d165) false true))], 320⟩ hτ hmix (by kernel_rfl) (by kernel_rfl) (s2 := ⟨[(0, rV 0), (1, iV (v1 + 1)), (5, iV v5)], [(0, some (.row 2 165 ((L0.set (Int.toNat v5) (⟨(mt v1), x9.f1⟩ : S165)).map d165) false true))], 320⟩) (congrArg (fun z : Int => (⟨[(0, rV 0), (1, iV z), (5, iV v5)], [(0, some (.row 2 165 ((L0.set (Int.toNat v5) (⟨(mt v1), x9.f1⟩ : S165)).map d165) false true))], 320⟩ : St)) (show wrap64 (v1 + 1) = (v1 + 1) by rw [w64 (n := (v1 + 1)) (by omega) (by omega)])) ?_
   refine X.seq (rs 3 ?_)
   refine CH.idxR hτ (rows := ((L0.set (Int.toNat v5) (⟨(mt v1), x9.f1⟩ : S165)).map d165)) (n := v5) (b := 0) (by kernel_rfl) (by kernel_rfl) (by first | omega | (simp; done) | (simp; omega)) (by simp only [List.length_map, List.length_set]; first | omega | (simp; done) | (simp; omega)) (by kernel_rfl) ?_
   refine go 1 ?_
   obtain ⟨x10, hx10⟩ : ∃ x, (L0.set (Int.toNat v5) (⟨(mt v1), x9.f1⟩ : S165))[Int.toNat v5]? = some x := ⟨_, List.getElem?_eq_getElem (by first | omega | (simp; done) | (simp; omega))⟩
   have qhx10 := set_get hx10
   refine CH.row hτ (d165 x10) (by kernel_rfl) (by kernel_rfl) (by rw [List.getElem?_map, hx10]; rfl) (by kernel_rfl) ?_
   refine CH.endk ⟨[(0, rV 0), (1, iV (v1 + 1)), (5, iV v5)], [(0, some (.row 2 165 (((L0.set (Int.toNat v5) (⟨(mt v1), x9.f1⟩ : S165)).map d165).set (Int.toNat v5) (d165 (⟨x10.f0, (v1 + 1)⟩ : S165))) false true))], 416⟩ (by kernel_rfl) (by kernel_rfl) (s2 := ⟨[(0, rV 0), (1, iV (v1 + 1)), (5, iV v5)], [(0, some (.row 2 165 (((L0.set (Int.toNat v5) (⟨(mt v1), x9.f1⟩ : S165)).set (Int.toNat v5) (⟨x10.f0, (v1 + 1)⟩ : S165)).map d165) false true))], 416⟩) (congrArg (fun z : List (List D) => (⟨[(0, rV 0), (1, iV (v1 + 1)), (5, iV v5)], [(0, some (.row 2 165 z false true))], 416⟩ : St)) (show (((L0.set (Int.toNat v5) (⟨(mt v1), x9.f1⟩ : S165)).map d165).set (Int.toNat v5) (d165 (⟨x10.f0, (v1 + 1)⟩ : S165))) = (((L0.set (Int.toNat v5) (⟨(mt v1), x9.f1⟩ : S165)).set (Int.toNat v5) (⟨x10.f0, (v1 + 1)⟩ : S165)).map d165) from List.map_set.symm)) ?_
   refine X.rk ⟨[(0, rV 0), (1, iV (wrap64 ((v1 + 1) + 1))), (5, iV v5)], [(0, some (.row 2 165 (((L0.set (Int.toNat v5) (⟨(mt v1), x9.f1⟩ : S165)).set (Int.toNat v5) (⟨x10.f0, (v1 + 1)⟩ : S165)).map d165) false true))], 464⟩ hτ hmix (by kernel_rfl) (by kernel_rfl) (s2 := ⟨[(0, rV 0), (1, iV ((v1 + 1) + 1)), (5, iV v5)], [(0, some (.row 2 165 (((L0.set (Int.toNat v5) (⟨(mt v1), x9.f1⟩ : S165)).set (Int.toNat v5) (⟨x10.f0, (v1 + 1)⟩ : S165)).map d165) false true))], 464⟩) (congrArg (fun z : Int => (⟨[(0, rV 0), (1, iV z), (5, iV v5)], [(0, some (.row 2 165 (((L0.set (Int.toNat v5) (⟨(mt v1), x9.f1⟩ : S165)).set (Int.toNat v5) (⟨x10.f0, (v1 + 1)⟩ : S165)).map d165) false true))], 464⟩ : St)) (show wrap64 ((v1 + 1) + 1) = ((v1 + 1) + 1) by rw [w64 (n := ((v1 + 1) + 1)) (by omega) (by omega)])) ?_
   refine X.rk ⟨[(0, rV 0), (1, iV ((v1 + 1) + 1)), (5, iV (wrap64 (v5 + 1)))], [(0, some (.row 2 165 (((L0.set (Int.toNat v5) (⟨(mt v1), x9.f1⟩ : S165)).set (Int.toNat v5) (⟨x10.f0, (v1 + 1)⟩ : S165)).map d165) false true))], 512⟩ hτ hmix (by kernel_rfl) (by kernel_rfl) (s2 := ⟨[(0, rV 0), (1, iV ((v1 + 1) + 1)), (5, iV (v5 + 1))], [(0, some (.row 2 165 (((L0.set (Int.toNat v5) (⟨(mt v1), x9.f1⟩ : S165)).set (Int.toNat v5) (⟨x10.f0, (v1 + 1)⟩ : S165)).map d165) false true))], 512⟩) (congrArg (fun z : Int => (⟨[(0, rV 0), (1, iV ((v1 + 1) + 1)), (5, iV z)], [(0, some (.row 2 165 (((L0.set (Int.toNat v5) (⟨(mt v1), x9.f1⟩ : S165)).set (Int.toNat v5) (⟨x10.f0, (v1 + 1)⟩ : S165)).map d165) false true))], 512⟩ : St)) (show wrap64 (v5 + 1) = (v5 + 1) by rw [w64 (n := (v5 + 1)) (by omega) (by omega)])) ?_
   refine ⟨⟨(((L0.set (Int.toNat v5) (⟨(mt v1), x9.f1⟩ : S165)).set (Int.toNat v5) (⟨x10.f0, (v1 + 1)⟩ : S165)), ((v1 + 1) + 1), (v5 + 1)), ⟨by first | omega | (dsimp only; omega), by first | omega | (dsimp only; omega), by first | omega | (dsimp only; omega), by simp only [List.length_set]; omega, by (try simp only [List.set_set]); exact set_all hA (by first | omega | (dsimp only; omega)) (by subst_vars; exact ⟨rfl, by dsimp only⟩)⟩⟩, by first | exact rfl | omega | (dsimp only; omega) | (simp only [List.length_append, List.length_cons, List.length_nil, List.length_set]; omega) | (simp; done) | (simp; omega), Wk.mk' [] (by kernel_rfl) (by kernel_rfl) (by kernel_rfl)⟩
  ·replace hb4 := of_decide_eq_false (hb4)
   refine X.exit ?_
   refine sk ⟨[(4, iV v1)], [(0, some (.row 2 165 (L0.map d165) false true))], 192⟩ ?_
   refine X.ret ?_
   exact ⟨trivial, _, _, ⟨v1, L0, ⟨hL, by omega, upto_all hA (by omega)⟩, rfl, rfl⟩, mkr⟩
 obtain ⟨_, _, ⟨r0, q0, h1_, rfl, rfl⟩, hf⟩ := key
 exact ⟨r0, q0, h1_, hf⟩

theorem l_heldStringS (l : List ByteArray) (k : Int) (hl : l.length ≤ 2000000) (hk : 0 ≤ k ∧ k ≤ 100000000) : ∃ r0 : Int, ((-1 ≤ r0 ∧ r0 ≤ k + l.length) ∧ (Upto (mkStr k) (fun n => l[n]?) l.length → r0 = k + l.length)) ∧ Fn Try.prog 83 [lV (l.map dS), iV k] (lookH []) (iV r0) (lookH []) := by
 have key : ∃ x' h', ((fun x' h' => ∃ r0 : Int, ((-1 ≤ r0 ∧ r0 ≤ k + l.length) ∧ (Upto (mkStr k) (fun n => l[n]?) l.length → r0 = k + l.length)) ∧ x' = iV r0 ∧ h' = [])) x' h' ∧ Fn Try.prog 83 [lV (l.map dS), iV k] (lookH []) x' (lookH h') := by
  refine Fn.bodyX (N := 22) hτ Try.func83 rfl rfl rfl rfl ?_
  refine sk ⟨[(0, lV (l.map dS)), (1, iV k)], [], 80⟩ ?_
  refine X.seq ?_
  refine sk ⟨[(0, lV (l.map dS)), (1, iV k), (5, iV 0)], [], 96⟩ ?_
  refine X.block ?_
  -- 2: v1 : Int, v5 : Int
  refine X.loop (σ := { g : Int × Int // (fun (v1 : Int) (v5 : Int) => 0 ≤ v5 ∧ v5 ≤ l.length ∧ v1 = k + 1 * v5) g.1 g.2 }) (fun g => (fun (v1 : Int) (v5 : Int) => ⟨[(0, lV (l.map dS)), (1, iV v1), (5, iV v5)], [], 96⟩) g.1.1 g.1.2) (fun g => (fun (v1 : Int) (v5 : Int) => (l.length - v5).toNat) g.1.1 g.1.2) ⟨(k, 0), ⟨by first | omega | (dsimp only; omega), by first | omega | (dsimp only; omega), by first | omega | (dsimp only; omega)⟩⟩ (Wk.less (by kernel_rfl)) (fun g => ?_)
  obtain ⟨⟨v1, v5⟩, hg2⟩ := g
  have hg2 : 0 ≤ v5 ∧ v5 ≤ l.length ∧ v1 = k + 1 * v5 := hg2
  obtain ⟨_, _, _⟩ := hg2
  refine X.seq ?_
  refine X.seq ?_
  have el3 : (l.map dS).length = l.length := List.length_map ..
  refine rk ⟨[(0, lV (l.map dS)), (1, iV v1), (5, iV v5), (9, bV (decide ((v5 : Int) < ((l.map dS).length : Int))))], [], 160⟩ ?_
  refine if_ (b := decide ((v5 : Int) < ((l.map dS).length : Int))) (fun hb4 => ?_) (fun hb4 => ?_)
  ·replace hb4 := of_decide_eq_true (hb4)
   refine X.skip ?_
   refine X.seq ?_
   refine X.block ?_
   refine X.seq ?_
   refine X.seq (rs 2 ?_)
   obtain ⟨x5, hx5⟩ : ∃ x, l[Int.toNat v5]? = some x := ⟨_, List.getElem?_eq_getElem (by first | omega | (simp; done) | (simp; omega))⟩
   refine CH.idx hτ (dS x5) (rows := (l.map dS)) (n := v5) (sz := 1) (by kernel_rfl) (by kernel_rfl) (by first | omega | (simp; done) | (simp; omega)) (by rw [List.getElem?_map, hx5]; rfl) (by kernel_rfl) ?_
   refine go 2 ?_
   obtain ⟨r6, hr8, hf7⟩ := l_markText v1 (by omega)
   replace hr8 := hr8.symm; subst hr8
   refine ca hf7 Try.func58 ?_
   refine go 1 ?_
   refine ek ⟨[(0, lV (l.map dS)), (1, iV v1), (5, iV v5), (18, bV (!(x5.toList == (mt v1).toList)))], [], 272⟩ ?_
   refine if_ (b := !(x5.toList == (mt v1).toList)) (fun hb10 => ?_) (fun hb10 => ?_)
   ·replace hb10 := beq_no (bnot_yes (hb10))
    refine sk ⟨[(4, iV (-1))], [], 288⟩ ?_
    refine X.ret ?_
    exact ⟨trivial, _, _, ⟨(-1), ⟨by omega, (fun hM => by first | omega | (have hq := hM _ _ (by omega) (by omega) (‹l[_]? = some _›); exfalso; exact ‹¬ _› (by rw [show _ = mt _ from hq]; congr 2; omega)))⟩, rfl, rfl⟩, mkr⟩
   ·replace hb10 := beq_yes (bnot_no (hb10))
    refine X.skip ?_
    refine X.rk ⟨[(0, lV (l.map dS)), (1, iV (wrap64 (v1 + 1))), (5, iV v5)], [], 320⟩ hτ hmix (by kernel_rfl) (by kernel_rfl) (s2 := ⟨[(0, lV (l.map dS)), (1, iV (v1 + 1)), (5, iV v5)], [], 320⟩) (congrArg (fun z : Int => (⟨[(0, lV (l.map dS)), (1, iV z), (5, iV v5)], [], 320⟩ : St)) (show wrap64 (v1 + 1) = (v1 + 1) by rw [w64 (n := (v1 + 1)) (by omega) (by omega)])) ?_
    refine X.rk ⟨[(0, lV (l.map dS)), (1, iV (v1 + 1)), (5, iV (wrap64 (v5 + 1)))], [], 368⟩ hτ hmix (by kernel_rfl) (by kernel_rfl) (s2 := ⟨[(0, lV (l.map dS)), (1, iV (v1 + 1)), (5, iV (v5 + 1))], [], 368⟩) (congrArg (fun z : Int => (⟨[(0, lV (l.map dS)), (1, iV (v1 + 1)), (5, iV z)], [], 368⟩ : St)) (show wrap64 (v5 + 1) = (v5 + 1) by rw [w64 (n := (v5 + 1)) (by omega) (by omega)])) ?_
    refine ⟨⟨((v1 + 1), (v5 + 1)), ⟨by first | omega | (dsimp only; omega), by first | omega | (dsimp only; omega), by first | omega | (dsimp only; omega)⟩⟩, by first | exact rfl | omega | (dsimp only; omega) | (simp only [List.length_append, List.length_cons, List.length_nil, List.length_set]; omega) | (simp; done) | (simp; omega), Wk.mk' [] (by kernel_rfl) (by kernel_rfl) (by kernel_rfl)⟩
  ·replace hb4 := of_decide_eq_false (hb4)
   refine X.exit ?_
   refine sk ⟨[(4, iV v1)], [], 192⟩ ?_
   refine X.ret ?_
   exact ⟨trivial, _, _, ⟨v1, ⟨by omega, (fun hM => by first | omega | (have hq := hM _ _ (by omega) (by omega) (‹l[_]? = some _›); exfalso; exact ‹¬ _› (by rw [show _ = mt _ from hq]; congr 2; omega)))⟩, rfl, rfl⟩, mkr⟩
 obtain ⟨_, _, ⟨r0, h1_, rfl, rfl⟩, hf⟩ := key
 exact ⟨r0, h1_, hf⟩

theorem l_heldIntS (l : List Int) (k : Int) (hl : l.length ≤ 2000000) (hk : 0 ≤ k ∧ k ≤ 100000000) : ∃ r0 : Int, ((-1 ≤ r0 ∧ r0 ≤ k + l.length) ∧ (Upto (mkInt k) (fun n => l[n]?) l.length → r0 = k + l.length)) ∧ Fn Try.prog 84 [lV (l.map dI), iV k] (lookH []) (iV r0) (lookH []) := by
 have key : ∃ x' h', ((fun x' h' => ∃ r0 : Int, ((-1 ≤ r0 ∧ r0 ≤ k + l.length) ∧ (Upto (mkInt k) (fun n => l[n]?) l.length → r0 = k + l.length)) ∧ x' = iV r0 ∧ h' = [])) x' h' ∧ Fn Try.prog 84 [lV (l.map dI), iV k] (lookH []) x' (lookH h') := by
  refine Fn.bodyX (N := 21) hτ Try.func84 rfl rfl rfl rfl ?_
  refine sk ⟨[(0, lV (l.map dI)), (1, iV k)], [], 80⟩ ?_
  refine X.seq ?_
  refine sk ⟨[(0, lV (l.map dI)), (1, iV k), (5, iV 0)], [], 96⟩ ?_
  refine X.block ?_
  -- 2: v1 : Int, v5 : Int
  refine X.loop (σ := { g : Int × Int // (fun (v1 : Int) (v5 : Int) => 0 ≤ v5 ∧ v5 ≤ l.length ∧ v1 = k + 1 * v5) g.1 g.2 }) (fun g => (fun (v1 : Int) (v5 : Int) => ⟨[(0, lV (l.map dI)), (1, iV v1), (5, iV v5)], [], 96⟩) g.1.1 g.1.2) (fun g => (fun (v1 : Int) (v5 : Int) => (l.length - v5).toNat) g.1.1 g.1.2) ⟨(k, 0), ⟨by first | omega | (dsimp only; omega), by first | omega | (dsimp only; omega), by first | omega | (dsimp only; omega)⟩⟩ (Wk.less (by kernel_rfl)) (fun g => ?_)
  obtain ⟨⟨v1, v5⟩, hg2⟩ := g
  have hg2 : 0 ≤ v5 ∧ v5 ≤ l.length ∧ v1 = k + 1 * v5 := hg2
  obtain ⟨_, _, _⟩ := hg2
  refine X.seq ?_
  refine X.seq ?_
  have el3 : (l.map dI).length = l.length := List.length_map ..
  refine rk ⟨[(0, lV (l.map dI)), (1, iV v1), (5, iV v5), (9, bV (decide ((v5 : Int) < ((l.map dI).length : Int))))], [], 160⟩ ?_
  refine if_ (b := decide ((v5 : Int) < ((l.map dI).length : Int))) (fun hb4 => ?_) (fun hb4 => ?_)
  ·replace hb4 := of_decide_eq_true (hb4)
   refine X.skip ?_
   refine X.seq ?_
   refine X.block ?_
   refine X.seq ?_
   refine X.seq (rs 2 ?_)
   obtain ⟨x5, hx5⟩ : ∃ x, l[Int.toNat v5]? = some x := ⟨_, List.getElem?_eq_getElem (by first | omega | (simp; done) | (simp; omega))⟩
   refine CH.idx hτ (dI x5) (rows := (l.map dI)) (n := v5) (sz := 1) (by kernel_rfl) (by kernel_rfl) (by first | omega | (simp; done) | (simp; omega)) (by rw [List.getElem?_map, hx5]; rfl) (by kernel_rfl) ?_
   refine go 3 ?_
   refine ek ⟨[(0, lV (l.map dI)), (1, iV v1), (5, iV v5), (17, bV (x5 != v1))], [], 256⟩ ?_
   refine if_ (b := (x5 != v1)) (fun hb6 => ?_) (fun hb6 => ?_)
   ·replace hb6 := bne_iff_ne.1 (hb6)
    refine sk ⟨[(4, iV (-1))], [], 272⟩ ?_
    refine X.ret ?_
    exact ⟨trivial, _, _, ⟨(-1), ⟨by omega, (fun hM => by first | omega | (have hq := hM _ _ (by omega) (by omega) (‹l[_]? = some _›); exfalso; have hq2 : _ = k + _ := hq; omega))⟩, rfl, rfl⟩, mkr⟩
   ·replace hb6 := bne_eq_false_iff_eq.1 (hb6)
    refine X.skip ?_
    refine X.rk ⟨[(0, lV (l.map dI)), (1, iV (wrap64 (v1 + 1))), (5, iV v5)], [], 304⟩ hτ hmix (by kernel_rfl) (by kernel_rfl) (s2 := ⟨[(0, lV (l.map dI)), (1, iV (v1 + 1)), (5, iV v5)], [], 304⟩) (congrArg (fun z : Int => (⟨[(0, lV (l.map dI)), (1, iV z), (5, iV v5)], [], 304⟩ : St)) (show wrap64 (v1 + 1) = (v1 + 1) by rw [w64 (n := (v1 + 1)) (by omega) (by omega)])) ?_
    refine X.rk ⟨[(0, lV (l.map dI)), (1, iV (v1 + 1)), (5, iV (wrap64 (v5 + 1)))], [], 352⟩ hτ hmix (by kernel_rfl) (by kernel_rfl) (s2 := ⟨[(0, lV (l.map dI)), (1, iV (v1 + 1)), (5, iV (v5 + 1))], [], 352⟩) (congrArg (fun z : Int => (⟨[(0, lV (l.map dI)), (1, iV (v1 + 1)), (5, iV z)], [], 352⟩ : St)) (show wrap64 (v5 + 1) = (v5 + 1) by rw [w64 (n := (v5 + 1)) (by omega) (by omega)])) ?_
    refine ⟨⟨((v1 + 1), (v5 + 1)), ⟨by first | omega | (dsimp only; omega), by first | omega | (dsimp only; omega), by first | omega | (dsimp only; omega)⟩⟩, by first | exact rfl | omega | (dsimp only; omega) | (simp only [List.length_append, List.length_cons, List.length_nil, List.length_set]; omega) | (simp; done) | (simp; omega), Wk.mk' [] (by kernel_rfl) (by kernel_rfl) (by kernel_rfl)⟩
  ·replace hb4 := of_decide_eq_false (hb4)
   refine X.exit ?_
   refine sk ⟨[(4, iV v1)], [], 192⟩ ?_
   refine X.ret ?_
   exact ⟨trivial, _, _, ⟨v1, ⟨by omega, (fun hM => by first | omega | (have hq := hM _ _ (by omega) (by omega) (‹l[_]? = some _›); exfalso; have hq2 : _ = k + _ := hq; omega))⟩, rfl, rfl⟩, mkr⟩
 obtain ⟨_, _, ⟨r0, h1_, rfl, rfl⟩, hf⟩ := key
 exact ⟨r0, h1_, hf⟩

theorem l_heldValS (l : List S165) (k : Int) (hl : l.length ≤ 2000000) (hk : 0 ≤ k ∧ k ≤ 100000000) : ∃ r0 : Int, ((-1 ≤ r0 ∧ r0 ≤ k + 2 * l.length) ∧ (Upto (mkVal k) (fun n => l[n]?) l.length → r0 = k + 2 * l.length)) ∧ Fn Try.prog 85 [lV (l.map d165), iV k] (lookH []) (iV r0) (lookH []) := by
 have key : ∃ x' h', ((fun x' h' => ∃ r0 : Int, ((-1 ≤ r0 ∧ r0 ≤ k + 2 * l.length) ∧ (Upto (mkVal k) (fun n => l[n]?) l.length → r0 = k + 2 * l.length)) ∧ x' = iV r0 ∧ h' = [])) x' h' ∧ Fn Try.prog 85 [lV (l.map d165), iV k] (lookH []) x' (lookH h') := by
  refine Fn.bodyX (N := 32) hτ Try.func85 rfl rfl rfl rfl ?_
  refine sk ⟨[(0, lV (l.map d165)), (1, iV k)], [], 80⟩ ?_
  refine X.seq ?_
  refine sk ⟨[(0, lV (l.map d165)), (1, iV k), (5, iV 0)], [], 96⟩ ?_
  refine X.block ?_
  -- 2: v1 : Int, v5 : Int
  refine X.loop (σ := { g : Int × Int // (fun (v1 : Int) (v5 : Int) => 0 ≤ v5 ∧ v5 ≤ l.length ∧ v1 = k + 2 * v5) g.1 g.2 }) (fun g => (fun (v1 : Int) (v5 : Int) => ⟨[(0, lV (l.map d165)), (1, iV v1), (5, iV v5)], [], 96⟩) g.1.1 g.1.2) (fun g => (fun (v1 : Int) (v5 : Int) => (l.length - v5).toNat) g.1.1 g.1.2) ⟨(k, 0), ⟨by first | omega | (dsimp only; omega), by first | omega | (dsimp only; omega), by first | omega | (dsimp only; omega)⟩⟩ (Wk.less (by kernel_rfl)) (fun g => ?_)
  obtain ⟨⟨v1, v5⟩, hg2⟩ := g
  have hg2 : 0 ≤ v5 ∧ v5 ≤ l.length ∧ v1 = k + 2 * v5 := hg2
  obtain ⟨_, _, _⟩ := hg2
  refine X.seq ?_
  refine X.seq ?_
  have el3 : (l.map d165).length = l.length := List.length_map ..
  refine rk ⟨[(0, lV (l.map d165)), (1, iV v1), (5, iV v5), (9, bV (decide ((v5 : Int) < ((l.map d165).length : Int))))], [], 160⟩ ?_
  refine if_ (b := decide ((v5 : Int) < ((l.map d165).length : Int))) (fun hb4 => ?_) (fun hb4 => ?_)
  ·replace hb4 := of_decide_eq_true (hb4)
   refine X.skip ?_
   refine X.seq ?_
   refine X.block ?_
   refine X.seq ?_
   refine X.seq (rs 2 ?_)
   obtain ⟨x5, hx5⟩ : ∃ x, l[Int.toNat v5]? = some x := ⟨_, List.getElem?_eq_getElem (by first | omega | (simp; done) | (simp; omega))⟩
   refine CH.idx hτ (d165 x5) (rows := (l.map d165)) (n := v5) (sz := 2) (by kernel_rfl) (by kernel_rfl) (by first | omega | (simp; done) | (simp; omega)) (by rw [List.getElem?_map, hx5]; rfl) (by kernel_rfl) ?_
   refine go 3 ?_
   obtain ⟨r6, hr8, hf7⟩ := l_markText v1 (by omega)
   replace hr8 := hr8.symm; subst hr8
   refine ca hf7 Try.func58 ?_
   refine go 1 ?_
   refine ek ⟨[(0, lV (l.map d165)), (1, iV v1), (5, iV v5), (19, bV (!(x5.f0.toList == (mt v1).toList)))], [], 288⟩ ?_
   refine if_ (b := !(x5.f0.toList == (mt v1).toList)) (fun hb10 => ?_) (fun hb10 => ?_)
   ·replace hb10 := beq_no (bnot_yes (hb10))
    refine sk ⟨[(4, iV (-1))], [], 304⟩ ?_
    refine X.ret ?_
    exact ⟨trivial, _, _, ⟨(-1), ⟨by omega, (fun hM => by first | omega | (have hq := hM _ _ (by omega) (by omega) (‹l[_]? = some _›); exfalso; first | (have := hq.2; omega) | (exact ‹¬ _› (by rw [hq.1]; congr 2; omega))))⟩, rfl, rfl⟩, mkr⟩
   ·replace hb10 := beq_yes (bnot_no (hb10))
    refine X.skip ?_
    refine X.seq ?_
    refine X.rk ⟨[(0, lV (l.map d165)), (1, iV (wrap64 (v1 + 1))), (5, iV v5)], [], 336⟩ hτ hmix (by kernel_rfl) (by kernel_rfl) (s2 := ⟨[(0, lV (l.map d165)), (1, iV (v1 + 1)), (5, iV v5)], [], 336⟩) (congrArg (fun z : Int => (⟨[(0, lV (l.map d165)), (1, iV z), (5, iV v5)], [], 336⟩ : St)) (show wrap64 (v1 + 1) = (v1 + 1) by rw [w64 (n := (v1 + 1)) (by omega) (by omega)])) ?_
    refine X.seq ?_
    refine X.seq (rs 2 ?_)
    refine CH.idx hτ (d165 x5) (rows := (l.map d165)) (n := v5) (sz := 2) (by kernel_rfl) (by kernel_rfl) (by first | omega | (simp; done) | (simp; omega)) (by rw [List.getElem?_map, hx5]; rfl) (by kernel_rfl) ?_
    refine go 4 ?_
    refine ek ⟨[(0, lV (l.map d165)), (1, iV (v1 + 1)), (5, iV v5), (28, bV (x5.f1 != (v1 + 1)))], [], 448⟩ ?_
    refine if_ (b := (x5.f1 != (v1 + 1))) (fun hb11 => ?_) (fun hb11 => ?_)
    ·replace hb11 := bne_iff_ne.1 (hb11)
     refine sk ⟨[(4, iV (-1))], [], 464⟩ ?_
     refine X.ret ?_
     exact ⟨trivial, _, _, ⟨(-1), ⟨by omega, (fun hM => by first | omega | (have hq := hM _ _ (by omega) (by omega) (‹l[_]? = some _›); exfalso; first | (have := hq.2; omega) | (exact ‹¬ _› (by rw [hq.1]; congr 2; omega))))⟩, rfl, rfl⟩, mkr⟩
    ·replace hb11 := bne_eq_false_iff_eq.1 (hb11)
     refine X.skip ?_
     refine X.rk ⟨[(0, lV (l.map d165)), (1, iV (wrap64 ((v1 + 1) + 1))), (5, iV v5)], [], 496⟩ hτ hmix (by kernel_rfl) (by kernel_rfl) (s2 := ⟨[(0, lV (l.map d165)), (1, iV ((v1 + 1) + 1)), (5, iV v5)], [], 496⟩) (congrArg (fun z : Int => (⟨[(0, lV (l.map d165)), (1, iV z), (5, iV v5)], [], 496⟩ : St)) (show wrap64 ((v1 + 1) + 1) = ((v1 + 1) + 1) by rw [w64 (n := ((v1 + 1) + 1)) (by omega) (by omega)])) ?_
     refine X.rk ⟨[(0, lV (l.map d165)), (1, iV ((v1 + 1) + 1)), (5, iV (wrap64 (v5 + 1)))], [], 544⟩ hτ hmix (by kernel_rfl) (by kernel_rfl) (s2 := ⟨[(0, lV (l.map d165)), (1, iV ((v1 + 1) + 1)), (5, iV (v5 + 1))], [], 544⟩) (congrArg (fun z : Int => (⟨[(0, lV (l.map d165)), (1, iV ((v1 + 1) + 1)), (5, iV z)], [], 544⟩ : St)) (show wrap64 (v5 + 1) = (v5 + 1) by rw [w64 (n := (v5 + 1)) (by omega) (by omega)])) ?_
     refine ⟨⟨(((v1 + 1) + 1), (v5 + 1)), ⟨by first | omega | (dsimp only; omega), by first | omega | (dsimp only; omega), by first | omega | (dsimp only; omega)⟩⟩, by first | exact rfl | omega | (dsimp only; omega) | (simp only [List.length_append, List.length_cons, List.length_nil, List.length_set]; omega) | (simp; done) | (simp; omega), Wk.mk' [] (by kernel_rfl) (by kernel_rfl) (by kernel_rfl)⟩
  ·replace hb4 := of_decide_eq_false (hb4)
   refine X.exit ?_
   refine sk ⟨[(4, iV v1)], [], 192⟩ ?_
   refine X.ret ?_
   exact ⟨trivial, _, _, ⟨v1, ⟨by omega, (fun hM => by first | omega | (have hq := hM _ _ (by omega) (by omega) (‹l[_]? = some _›); exfalso; first | (have := hq.2; omega) | (exact ‹¬ _› (by rw [hq.1]; congr 2; omega))))⟩, rfl, rfl⟩, mkr⟩
 obtain ⟨_, _, ⟨r0, h1_, rfl, rfl⟩, hf⟩ := key
 exact ⟨r0, h1_, hf⟩

theorem l_markQc (q : S68) (k : Int) (hl : q.f2.length ≤ 2000000) (hk : 0 ≤ k ∧ k ≤ 50000000) : ∃ r0 : Int, ∃ q0 : List ByteArray, (q0.length = q.f2.length ∧ r0 = k + q.f2.length ∧ Upto (mkStr k) (fun n => q0[n]?) q.f2.length) ∧ Fn Try.prog 81 [.e (.agg [.d (.v (.int .i64 q.f0)), .d (.v (.int .i64 q.f1)), .ref 0]), iV k] (lookH [(0, some (.row 1 9 (q.f2.map dS) false true))]) (iV r0) (lookH [(0, some (.row 1 9 (q0.map dS) false true))]) := by
 have key : ∃ x' h', ((fun x' h' => ∃ r0 : Int, ∃ q0 : List ByteArray, (q0.length = q.f2.length ∧ r0 = k + q.f2.length ∧ Upto (mkStr k) (fun n => q0[n]?) q.f2.length) ∧ x' = iV r0 ∧ h' = [(0, some (.row 1 9 (q0.map dS) false true))])) x' h' ∧ Fn Try.prog 81 [.e (.agg [.d (.v (.int .i64 q.f0)), .d (.v (.int .i64 q.f1)), .ref 0]), iV k] (lookH [(0, some (.row 1 9 (q.f2.map dS) false true))]) x' (lookH h') := by
  refine Fn.bodyX (N := 10) hτ Try.func81 rfl rfl rfl rfl ?_
  refine sk ⟨[(1, iV k), (2, .pt 64 0 0)], [(0, some (.row 1 9 (q.f2.map dS) false true)), (64, some (.box [.d (.v (.int .i64 q.f0)), .d (.v (.int .i64 q.f1)), .ref 0]))], 96⟩ ?_
  refine X.seq (rs 3 ?_)
  obtain ⟨r1, q2, hr4, hf3⟩ := l_markStringS q.f2 k (by first | assumption | omega) (by first | assumption | omega)
  obtain ⟨hql, hqk, hqm⟩ := hr4
  refine CH.callB hf3 Try.func78 ⟨rfl, rfl⟩ 0 1 9 (q.f2.map dS) true 9 (q2.map dS) (by kernel_rfl) (by kernel_rfl) (by kernel_rfl) (by kernel_rfl) (by kernel_rfl) (by first | (simp; done) | (simp; omega)) (by kernel_rfl) ?_
  refine go 1 ?_
  refine ek ⟨[(1, iV r1)], [(0, some (.row 1 9 (q2.map dS) false true))], 176⟩ ?_
  refine sk ⟨[(4, iV r1)], [(0, some (.row 1 9 (q2.map dS) false true))], 208⟩ ?_
  refine X.ret ?_
  exact ⟨trivial, _, _, ⟨r1, q2, ⟨hql, by omega, hqm⟩, rfl, rfl⟩, mkr⟩
 obtain ⟨_, _, ⟨r0, q0, h1_, rfl, rfl⟩, hf⟩ := key
 exact ⟨r0, q0, h1_, hf⟩

theorem l_markTc (t : S69) (k : Int) (hl : t.f1.length ≤ 2000000) (hl2 : t.f2.length ≤ 2000000) (hk : 0 ≤ k ∧ k ≤ 50000000) : ∃ r0 : Int, ∃ q0 : List ByteArray, ∃ q1 : List Int, (q0.length = t.f1.length ∧ q1.length = t.f2.length ∧ r0 = k + t.f1.length + t.f2.length ∧ Upto (mkStr k) (fun n => q0[n]?) t.f1.length ∧ Upto (mkInt (k + t.f1.length)) (fun n => q1[n]?) t.f2.length) ∧ Fn Try.prog 82 [.e (.agg [.d (.v (.int .i64 t.f0)), .ref 0, .ref 1]), iV k] (lookH [(0, some (.row 1 9 (t.f1.map dS) false true)), (1, some (.row 1 3 (t.f2.map dI) false true))]) (iV r0) (lookH [(0, some (.row 1 9 (q0.map dS) false true)), (1, some (.row 1 3 (q1.map dI) false true))]) := by
 have key : ∃ x' h', ((fun x' h' => ∃ r0 : Int, ∃ q0 : List ByteArray, ∃ q1 : List Int, (q0.length = t.f1.length ∧ q1.length = t.f2.length ∧ r0 = k + t.f1.length + t.f2.length ∧ Upto (mkStr k) (fun n => q0[n]?) t.f1.length ∧ Upto (mkInt (k + t.f1.length)) (fun n => q1[n]?) t.f2.length) ∧ x' = iV r0 ∧ h' = [(0, some (.row 1 9 (q0.map dS) false true)), (1, some (.row 1 3 (q1.map dI) false true))])) x' h' ∧ Fn Try.prog 82 [.e (.agg [.d (.v (.int .i64 t.f0)), .ref 0, .ref 1]), iV k] (lookH [(0, some (.row 1 9 (t.f1.map dS) false true)), (1, some (.row 1 3 (t.f2.map dI) false true))]) x' (lookH h') := by
  refine Fn.bodyX (N := 14) hτ Try.func82 rfl rfl rfl rfl ?_
  refine sk ⟨[(1, iV k), (2, .pt 64 0 0)], [(0, some (.row 1 9 (t.f1.map dS) false true)), (1, some (.row 1 3 (t.f2.map dI) false true)), (64, some (.box [.d (.v (.int .i64 t.f0)), .ref 0, .ref 1]))], 96⟩ ?_
  refine X.seq (rs 3 ?_)
  obtain ⟨r1, q2, hr4, hf3⟩ := l_markStringS t.f1 k (by first | assumption | omega) (by first | assumption | omega)
  obtain ⟨hql, hqk, hqm⟩ := hr4
  refine CH.callB hf3 Try.func78 ⟨rfl, rfl⟩ 0 1 9 (t.f1.map dS) true 9 (q2.map dS) (by kernel_rfl) (by kernel_rfl) (by kernel_rfl) (by kernel_rfl) (by kernel_rfl) (by first | (simp; done) | (simp; omega)) (by kernel_rfl) ?_
  refine go 1 ?_
  refine ek ⟨[(1, iV r1), (2, .pt 64 0 0)], [(0, some (.row 1 9 (q2.map dS) false true)), (1, some (.row 1 3 (t.f2.map dI) false true)), (64, some (.box [.d (.v (.int .i64 t.f0)), .ref 0, .ref 1]))], 176⟩ ?_
  refine X.seq ?_
  have e1 := hql
  have e2 := hqk
  have e3 := hqm
  refine rs 3 ?_
  obtain ⟨r5, q6, hr8, hf7⟩ := l_markIntS t.f2 r1 (by first | assumption | omega) (by first | assumption | omega)
  obtain ⟨hql, hqk, hqm⟩ := hr8
  refine CH.callB hf7 Try.func79 ⟨rfl, rfl⟩ 1 1 3 (t.f2.map dI) true 3 (q6.map dI) (by kernel_rfl) (by kernel_rfl) (by kernel_rfl) (by kernel_rfl) (by kernel_rfl) (by first | (simp; done) | (simp; omega)) (by kernel_rfl) ?_
  refine go 1 ?_
  refine ek ⟨[(1, iV r5)], [(0, some (.row 1 9 (q2.map dS) false true)), (1, some (.row 1 3 (q6.map dI) false true))], 256⟩ ?_
  refine sk ⟨[(4, iV r5)], [(0, some (.row 1 9 (q2.map dS) false true)), (1, some (.row 1 3 (q6.map dI) false true))], 288⟩ ?_
  refine X.ret ?_
  exact ⟨trivial, _, _, ⟨r5, q2, q6, ⟨e1, hql, by omega, e3, by rw [← e2]; exact hqm⟩, rfl, rfl⟩, mkr⟩
 obtain ⟨_, _, ⟨r0, q0, q1, h1_, rfl, rfl⟩, hf⟩ := key
 exact ⟨r0, q0, q1, h1_, hf⟩

theorem l_heldQc (q : S68) (k : Int) (hl : q.f2.length ≤ 2000000) (hk : 0 ≤ k ∧ k ≤ 50000000) : ∃ r0 : Int, ((-1 ≤ r0 ∧ r0 ≤ k + q.f2.length) ∧ (mkQ k q → r0 = k + q.f2.length)) ∧ Fn Try.prog 102 [.e (.agg (cD (d68 q))), iV k] (lookH []) (iV r0) (lookH []) := by
 have key : ∃ x' h', ((fun x' h' => ∃ r0 : Int, ((-1 ≤ r0 ∧ r0 ≤ k + q.f2.length) ∧ (mkQ k q → r0 = k + q.f2.length)) ∧ x' = iV r0 ∧ h' = [])) x' h' ∧ Fn Try.prog 102 [.e (.agg (cD (d68 q))), iV k] (lookH []) x' (lookH h') := by
  refine Fn.bodyX (N := 12) hτ Try.func102 rfl rfl rfl rfl ?_
  refine sk ⟨[(1, iV k), (2, .pt 64 0 0)], [(64, some (.box (cD (d68 q))))], 96⟩ ?_
  refine X.seq (rs 3 ?_)
  obtain ⟨r1, hr3, hf2⟩ := l_heldStringS q.f2 k (by first | assumption | omega) (by first | assumption | omega)
  obtain ⟨hhb, hhd⟩ := hr3
  refine ca hf2 Try.func83 ?_
  refine go 1 ?_
  refine ek ⟨[(1, iV r1)], [], 176⟩ ?_
  refine X.seq ?_
  refine sk ⟨[(1, iV r1), (10, bV (decide ((r1 : Int) < 0)))], [], 208⟩ ?_
  refine if_ (b := decide ((r1 : Int) < 0)) (fun hb4 => ?_) (fun hb4 => ?_)
  ·replace hb4 := of_decide_eq_true (hb4)
   refine sk ⟨[(4, iV (-1))], [], 224⟩ ?_
   refine X.ret ?_
   exact ⟨trivial, _, _, ⟨(-1), ⟨by omega, (fun hM => by have := hhd hM; omega)⟩, rfl, rfl⟩, mkr⟩
  ·replace hb4 := of_decide_eq_false (hb4)
   refine X.skip ?_
   refine sk ⟨[(4, iV r1)], [], 240⟩ ?_
   refine X.ret ?_
   exact ⟨trivial, _, _, ⟨r1, ⟨by omega, (fun hM => by have := hhd hM; omega)⟩, rfl, rfl⟩, mkr⟩
 obtain ⟨_, _, ⟨r0, h1_, rfl, rfl⟩, hf⟩ := key
 exact ⟨r0, h1_, hf⟩

theorem l_heldTc (t : S69) (k : Int) (hl : t.f1.length ≤ 2000000) (hl2 : t.f2.length ≤ 2000000) (hk : 0 ≤ k ∧ k ≤ 50000000) : ∃ r0 : Int, ((-1 ≤ r0 ∧ r0 ≤ k + t.f1.length + t.f2.length) ∧ (mkT k t → r0 = k + t.f1.length + t.f2.length)) ∧ Fn Try.prog 103 [.e (.agg (cD (d69 t))), iV k] (lookH []) (iV r0) (lookH []) := by
 have key : ∃ x' h', ((fun x' h' => ∃ r0 : Int, ((-1 ≤ r0 ∧ r0 ≤ k + t.f1.length + t.f2.length) ∧ (mkT k t → r0 = k + t.f1.length + t.f2.length)) ∧ x' = iV r0 ∧ h' = [])) x' h' ∧ Fn Try.prog 103 [.e (.agg (cD (d69 t))), iV k] (lookH []) x' (lookH h') := by
  refine Fn.bodyX (N := 18) hτ Try.func103 rfl rfl rfl rfl ?_
  refine sk ⟨[(1, iV k), (2, .pt 64 0 0)], [(64, some (.box (cD (d69 t))))], 96⟩ ?_
  refine X.seq (rs 3 ?_)
  obtain ⟨r1, hr3, hf2⟩ := l_heldStringS t.f1 k (by first | assumption | omega) (by first | assumption | omega)
  obtain ⟨hhb, hhd⟩ := hr3
  refine ca hf2 Try.func83 ?_
  refine go 1 ?_
  refine ek ⟨[(1, iV r1), (2, .pt 64 0 0)], [(64, some (.box (cD (d69 t))))], 176⟩ ?_
  refine X.seq ?_
  refine X.seq ?_
  have g1 := hhd
  refine rk ⟨[(1, iV r1), (2, .pt 64 0 0), (10, bV (decide ((r1 : Int) < 0)))], [(64, some (.box (cD (d69 t))))], 208⟩ ?_
  refine if_ (b := decide ((r1 : Int) < 0)) (fun hb4 => ?_) (fun hb4 => ?_)
  ·replace hb4 := of_decide_eq_true (hb4)
   refine sk ⟨[(4, iV (-1))], [], 224⟩ ?_
   refine X.ret ?_
   exact ⟨trivial, _, _, ⟨(-1), (by first | exact ⟨by omega, fun hM => by have e1 := g1 hM.1; exfalso; omega⟩ | exact ⟨by omega, fun hM => by have e1 := g1 hM.1; have e2 := hhd (by rw [e1]; exact hM.2); omega⟩), rfl, rfl⟩, mkr⟩
  ·replace hb4 := of_decide_eq_false (hb4)
   refine X.skip ?_
   refine X.seq (rs 3 ?_)
   obtain ⟨r5, hr7, hf6⟩ := l_heldIntS t.f2 r1 (by first | assumption | omega) (by first | assumption | omega)
   obtain ⟨hhb, hhd⟩ := hr7
   refine ca hf6 Try.func84 ?_
   refine go 1 ?_
   refine ek ⟨[(1, iV r5)], [], 288⟩ ?_
   refine X.seq ?_
   refine sk ⟨[(1, iV r5), (16, bV (decide ((r5 : Int) < 0)))], [], 320⟩ ?_
   refine if_ (b := decide ((r5 : Int) < 0)) (fun hb8 => ?_) (fun hb8 => ?_)
   ·replace hb8 := of_decide_eq_true (hb8)
    refine sk ⟨[(4, iV (-1))], [], 336⟩ ?_
    refine X.ret ?_
    exact ⟨trivial, _, _, ⟨(-1), (by first | exact ⟨by omega, fun hM => by have e1 := g1 hM.1; exfalso; omega⟩ | exact ⟨by omega, fun hM => by have e1 := g1 hM.1; have e2 := hhd (by rw [e1]; exact hM.2); omega⟩), rfl, rfl⟩, mkr⟩
   ·replace hb8 := of_decide_eq_false (hb8)
    refine X.skip ?_
    refine sk ⟨[(4, iV r5)], [], 352⟩ ?_
    refine X.ret ?_
    exact ⟨trivial, _, _, ⟨r5, (by first | exact ⟨by omega, fun hM => by have e1 := g1 hM.1; exfalso; omega⟩ | exact ⟨by omega, fun hM => by have e1 := g1 hM.1; have e2 := hhd (by rw [e1]; exact hM.2); omega⟩), rfl, rfl⟩, mkr⟩
 obtain ⟨_, _, ⟨r0, h1_, rfl, rfl⟩, hf⟩ := key
 exact ⟨r0, h1_, hf⟩
end Go.Proofs.Ytggmeldoecnkaaa.Av
