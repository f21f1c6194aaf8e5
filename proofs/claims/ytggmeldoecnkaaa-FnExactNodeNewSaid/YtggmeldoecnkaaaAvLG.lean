/-
What functions of the program come to, walked one by one.
Conditions: none beside those that each theorem names.
-/
import Derived.Test.YtggmeldoecnkaaaAvK
import Derived.Test.YtggmeldoecnkaaaAvPO
set_option linter.unusedVariables false
set_option linter.unusedSimpArgs false
namespace Go.Proofs.Ytggmeldoecnkaaa.Av
open Go.RowKit
set_option maxRecDepth 20000
set_option maxHeartbeats 4000000

theorem wrw (a : Int) : wr .i64 a = (a + 9223372036854775808) % 18446744073709551616 - 9223372036854775808 := by
  show wrap64 a = _
  unfold wrap64
  omega
theorem wr_l (a b : Int) : wr .i64 (wr .i64 a + b) = wr .i64 (a + b) := by rw [wrw, wrw, wrw]; omega
theorem wr_r (a b : Int) : wr .i64 (a + wr .i64 b) = wr .i64 (a + b) := by rw [Int.add_comm, wr_l, Int.add_comm]
def lvS : List S188 → Int
  | [] => 0
  | x :: l => x.f0 + lvS l
def acS (a : S38) : Int := a.f1 + a.f3 + lvS a.f4
def wS : List S38 → Int
  | [] => 0
  | x :: l => acS x + wS l
def wealth (l : List S38) : Int := wr .i64 (wS l)
theorem lvS_app : ∀ l m, lvS (l ++ m) = lvS l + lvS m
  | [], m => by simp [lvS]
  | x :: l, m => by simp only [List.cons_append, lvS, lvS_app l m]; omega
theorem wS_app : ∀ l m, wS (l ++ m) = wS l + wS m
  | [], m => by simp [wS]
  | x :: l, m => by simp only [List.cons_append, wS, wS_app l m]; omega
theorem lv_next {l : List S188} {i : Int} {x : S188} (h0 : 0 ≤ i) (hx : l[i.toNat]? = some x) {a n : Int} (h : n = wr .i64 (a + lvS (l.take i.toNat))) : wr .i64 (n + x.f0) = wr .i64 (a + lvS (l.take (i + 1).toNat)) := by
  rw [h, wr_l, ← take_succ h0 hx, lvS_app]
  simp only [lvS]
  congr 1; omega
theorem lv_end {l : List S188} {i a n : Int} (hi : ¬ i < (l.length : Int)) (h : n = wr .i64 (a + lvS (l.take i.toNat))) : n = wr .i64 (a + lvS l) := by rw [h, List.take_of_length_le (by omega)]
theorem w_next {l : List S38} {i : Int} {x : S38} (h0 : 0 ≤ i) (hx : l[i.toNat]? = some x) : wr .i64 (wS (l.take i.toNat) + acS x) = wr .i64 (wS (l.take (i + 1).toNat)) := by
  rw [← take_succ h0 hx, wS_app]
  simp only [wS]
  congr 1; omega
def leafR (l : List S188) (i : Int) (x : S188) : Prop := (1 ≤ x.f0 ∧ x.f0 ≤ 1000000) ∧ (0 ≤ x.f1 ∧ x.f1 ≤ 1000) ∧ ∀ y, 0 < i → l[(i - 1).toNat]? = some y → y.f1 < x.f1
def acctP (a : S38) : Prop := Upto (leafR a.f4) (fun n => a.f4[n]?) a.f4.length ∧ nameOk a.f0 = true ∧ (0 ≤ a.f1 ∧ a.f1 ≤ 1000000) ∧ (0 ≤ a.f2 ∧ a.f2 ≤ 10000) ∧ (0 ≤ a.f3 ∧ a.f3 ≤ 1000000) ∧ (a.f4.length : Int) ≤ 4
noncomputable def acctOk (a : S38) : Bool := @decide (acctP a) (Classical.propDecidable _)
def acctR (l : List S38) (i : Int) (x : S38) : Prop := acctOk x = true ∧ ∀ y, 0 < i → l[(i - 1).toNat]? = some y → Op.bytesLess y.f0.toList x.f0.toList = true
def acctsP (l : List S38) : Prop := Upto (acctR l) (fun n => l[n]?) l.length ∧ (l.length : Int) ≤ 12 ∧ wealth l ≤ 1000000
noncomputable def acctsOk (l : List S38) : Bool := @decide (acctsP l) (Classical.propDecidable _)
noncomputable def ledgerOk (l : S27) : Bool := inR l.f0 0 900 && acctsOk l.f1
def acSm (a : S38) : Prop := SmS a.f0 ∧ a.f4.length ≤ 2000000
def acsSm (l : List S38) : Prop := l.length ≤ 2000000 ∧ ∀ x, x ∈ l → acSm x
theorem i_isAmount (n : Int) : ∃ r0 : Bool, (r0 = inR n 0 1000000) ∧ Fn Try.prog 199 [iV n] (lookH []) (bV r0) (lookH []) := by
 have key : ∃ x' h', ((fun x' h' => ∃ r0 : Bool, (r0 = inR n 0 1000000) ∧ x' = bV r0 ∧ h' = [])) x' h' ∧ Fn Try.prog 199 [iV n] (lookH []) x' (lookH h') := by
  refine Fn.bodyX (N := 5) hτ Try.func199 rfl rfl rfl rfl ?_
  refine sk ⟨[(0, iV n)], [], 80⟩ ?_
  refine X.seq (rs 1 ?_)
  obtain ⟨r1, hr3, hf2⟩ := i_inRange n 0 1000000
  replace hr3 := hr3.symm; subst hr3
  refine ca hf2 Try.func149 ?_
  refine go 1 ?_
  refine ek ⟨[(2, bV (inR n 0 1000000))], [], 128⟩ ?_
  refine X.ret ?_
  exact ⟨trivial, _, _, ⟨(inR n 0 1000000), rfl, rfl, rfl⟩, mkr⟩
 obtain ⟨_, _, ⟨r0, h1_, rfl, rfl⟩, hf⟩ := key
 exact ⟨r0, h1_, hf⟩

theorem s_AcctOk (a : S38) (ha : acSm a) : ∃ r0 : Bool, (r0 = acctOk a) ∧ Fn Try.prog 179 [.e (.agg (cD (d38 a)))] (lookH []) (bV r0) (lookH []) := by
 have key : ∃ x' h', ((fun x' h' => ∃ r0 : Bool, (r0 = acctOk a) ∧ x' = bV r0 ∧ h' = [])) x' h' ∧ Fn Try.prog 179 [.e (.agg (cD (d38 a)))] (lookH []) x' (lookH h') := by
  refine Fn.bodyX (N := 71) hτ Try.func179 rfl rfl rfl rfl ?_
  refine sk ⟨[(1, .pt 64 0 0)], [(64, some (.box (cD (d38 a))))], 96⟩ ?_
  refine X.seq ?_
  refine X.seq ?_
  have hm := ha.2
  have hn := ha.1
  refine rs 2 ?_
  obtain ⟨r1, hr3, hf2⟩ := s_NameOk a.f0 (by assumption)
  replace hr3 := hr3.symm; subst hr3
  refine ca hf2 Try.func86 ?_
  refine go 2 ?_
  rcases Bool.eq_false_or_eq_true (!(nameOk a.f0)) with hb5 | hb5
  ·refine aT 8 hb5 ?_
   refine aT 9 hb5 ?_
   replace hb5 := bnot_yes (hb5)
   refine go 23 ?_
   refine ek ⟨[(1, .pt 64 0 0), (32, bV true)], [(64, some (.box (cD (d38 a))))], 544⟩ ?_
   refine X.ifT (by kernel_rfl) ?_
   refine sk ⟨[(2, bV false)], [], 560⟩ ?_
   refine X.ret ?_
   exact ⟨trivial, _, _, ⟨false, (by first | exact (fls (fun h => upto_no (by omega) (by omega) ‹_› (fun hr => by first | exact hr.1 (by omega) | (have := hr.1; omega) | (have := hr.2.1; omega) | (have := hr.2.2 _ (by omega) ‹_›; omega)) h.1)) | exact fls (fun h => tf h.2.1 ‹_›) | exact fls (fun h => by have := h.2.2; omega) | exact tru ⟨upto_all hA (by omega), ‹_›, by omega, by omega, by omega, by omega⟩ | exact (dcd (by simp only [decide_eq_true_eq, List.length_map]; exact ⟨fun h => ⟨upto_all hA (by omega), ‹_›, by omega, by omega, by omega, by omega⟩, fun h => by have := h.2.2; omega⟩))), rfl, rfl⟩, mkr⟩
  ·refine aF 8 hb5 ?_
   refine aF 9 hb5 ?_
   replace hb5 := bnot_no (hb5)
   refine go 2 ?_
   obtain ⟨r6, hr8, hf7⟩ := s_l1In a.f1 0 1000000
   replace hr8 := hr8.symm; subst hr8
   refine ca hf7 Try.func146 ?_
   refine go 3 ?_
   rcases Bool.eq_false_or_eq_true (!(inR a.f1 0 1000000)) with hb10 | hb10
   ·refine aT 13 hb10 ?_
    refine aT 14 hb10 ?_
    refine aT 15 hb10 ?_
    replace hb10 := inR_no (bnot_yes (hb10))
    refine go 17 ?_
    refine ek ⟨[(1, .pt 64 0 0), (32, bV true)], [(64, some (.box (cD (d38 a))))], 544⟩ ?_
    refine X.ifT (by kernel_rfl) ?_
    refine sk ⟨[(2, bV false)], [], 560⟩ ?_
    refine X.ret ?_
    exact ⟨trivial, _, _, ⟨false, (by first | exact (fls (fun h => upto_no (by omega) (by omega) ‹_› (fun hr => by first | exact hr.1 (by omega) | (have := hr.1; omega) | (have := hr.2.1; omega) | (have := hr.2.2 _ (by omega) ‹_›; omega)) h.1)) | exact fls (fun h => tf h.2.1 ‹_›) | exact fls (fun h => by have := h.2.2; omega) | exact tru ⟨upto_all hA (by omega), ‹_›, by omega, by omega, by omega, by omega⟩ | exact (dcd (by simp only [decide_eq_true_eq, List.length_map]; exact ⟨fun h => ⟨upto_all hA (by omega), ‹_›, by omega, by omega, by omega, by omega⟩, fun h => by have := h.2.2; omega⟩))), rfl, rfl⟩, mkr⟩
   ·refine aF 13 hb10 ?_
    refine aF 14 hb10 ?_
    refine aF 15 hb10 ?_
    replace hb10 := inR_yes (bnot_no (hb10))
    refine go 2 ?_
    obtain ⟨r11, hr13, hf12⟩ := s_l1In a.f2 0 10000
    replace hr13 := hr13.symm; subst hr13
    refine ca hf12 Try.func146 ?_
    refine go 3 ?_
    rcases Bool.eq_false_or_eq_true (!(inR a.f2 0 10000)) with hb15 | hb15
    ·refine aT 19 hb15 ?_
     refine aT 20 hb15 ?_
     refine aT 21 hb15 ?_
     replace hb15 := inR_no (bnot_yes (hb15))
     refine go 11 ?_
     refine ek ⟨[(1, .pt 64 0 0), (32, bV true)], [(64, some (.box (cD (d38 a))))], 544⟩ ?_
     refine X.ifT (by kernel_rfl) ?_
     refine sk ⟨[(2, bV false)], [], 560⟩ ?_
     refine X.ret ?_
     exact ⟨trivial, _, _, ⟨false, (by first | exact (fls (fun h => upto_no (by omega) (by omega) ‹_› (fun hr => by first | exact hr.1 (by omega) | (have := hr.1; omega) | (have := hr.2.1; omega) | (have := hr.2.2 _ (by omega) ‹_›; omega)) h.1)) | exact fls (fun h => tf h.2.1 ‹_›) | exact fls (fun h => by have := h.2.2; omega) | exact tru ⟨upto_all hA (by omega), ‹_›, by omega, by omega, by omega, by omega⟩ | exact (dcd (by simp only [decide_eq_true_eq, List.length_map]; exact ⟨fun h => ⟨upto_all hA (by omega), ‹_›, by omega, by omega, by omega, by omega⟩, fun h => by have := h.2.2; omega⟩))), rfl, rfl⟩, mkr⟩
    ·refine aF 19 hb15 ?_
     refine aF 20 hb15 ?_
     refine aF 21 hb15 ?_
     replace hb15 := inR_yes (bnot_no (hb15))
     refine go 2 ?_
     obtain ⟨r16, hr18, hf17⟩ := s_l1In a.f3 0 1000000
     replace hr18 := hr18.symm; subst hr18
     refine ca hf17 Try.func146 ?_
     refine go 3 ?_
     rcases Bool.eq_false_or_eq_true (!(inR a.f3 0 1000000)) with hb20 | hb20
     ·refine aT 25 hb20 ?_
      refine aT 26 hb20 ?_
      refine aT 27 hb20 ?_
      replace hb20 := inR_no (bnot_yes (hb20))
      refine go 5 ?_
      refine ek ⟨[(1, .pt 64 0 0), (32, bV true)], [(64, some (.box (cD (d38 a))))], 544⟩ ?_
      refine X.ifT (by kernel_rfl) ?_
      refine sk ⟨[(2, bV false)], [], 560⟩ ?_
      refine X.ret ?_
      exact ⟨trivial, _, _, ⟨false, (by first | exact (fls (fun h => upto_no (by omega) (by omega) ‹_› (fun hr => by first | exact hr.1 (by omega) | (have := hr.1; omega) | (have := hr.2.1; omega) | (have := hr.2.2 _ (by omega) ‹_›; omega)) h.1)) | exact fls (fun h => tf h.2.1 ‹_›) | exact fls (fun h => by have := h.2.2; omega) | exact tru ⟨upto_all hA (by omega), ‹_›, by omega, by omega, by omega, by omega⟩ | exact (dcd (by simp only [decide_eq_true_eq, List.length_map]; exact ⟨fun h => ⟨upto_all hA (by omega), ‹_›, by omega, by omega, by omega, by omega⟩, fun h => by have := h.2.2; omega⟩))), rfl, rfl⟩, mkr⟩
     ·refine aF 25 hb20 ?_
      refine aF 26 hb20 ?_
      refine aF 27 hb20 ?_
      replace hb20 := inR_yes (bnot_no (hb20))
      refine go 5 ?_
      have el21 : (a.f4.map d188).length = a.f4.length := List.length_map ..
      refine ek ⟨[(1, .pt 64 0 0), (32, bV (decide ((((a.f4.map d188).length : Int) : Int) > 4)))], [(64, some (.box (cD (d38 a))))], 544⟩ ?_
      refine if_ (b := decide ((((a.f4.map d188).length : Int) : Int) > 4)) (fun hb22 => ?_) (fun hb22 => ?_)
      ·replace hb22 := of_decide_eq_true (hb22)
       refine sk ⟨[(2, bV false)], [], 560⟩ ?_
       refine X.ret ?_
       exact ⟨trivial, _, _, ⟨false, (by first | exact (fls (fun h => upto_no (by omega) (by omega) ‹_› (fun hr => by first | exact hr.1 (by omega) | (have := hr.1; omega) | (have := hr.2.1; omega) | (have := hr.2.2 _ (by omega) ‹_›; omega)) h.1)) | exact fls (fun h => tf h.2.1 ‹_›) | exact fls (fun h => by have := h.2.2; omega) | exact tru ⟨upto_all hA (by omega), ‹_›, by omega, by omega, by omega, by omega⟩ | exact (dcd (by simp only [decide_eq_true_eq, List.length_map]; exact ⟨fun h => ⟨upto_all hA (by omega), ‹_›, by omega, by omega, by omega, by omega⟩, fun h => by have := h.2.2; omega⟩))), rfl, rfl⟩, mkr⟩
      ·replace hb22 := of_decide_eq_false (hb22)
       refine X.skip ?_
       refine X.seq ?_
       refine sk ⟨[(1, .pt 64 0 0), (3, iV 0)], [(64, some (.box (cD (d38 a))))], 560⟩ ?_
       refine X.block ?_
       -- 4: v3 : Int
       refine X.loop (σ := { g : Int // (fun (v3 : Int) => 0 ≤ v3 ∧ v3 ≤ a.f4.length ∧ Upto (leafR a.f4) (fun n => a.f4[n]?) v3) g }) (fun g => (fun (v3 : Int) => ⟨[(1, .pt 64 0 0), (3, iV v3)], [(64, some (.box (cD (d38 a))))], 560⟩) g.1) (fun g => (fun (v3 : Int) => (a.f4.length - v3).toNat) g.1) ⟨0, ⟨by first | omega | (dsimp only; omega), by first | omega | (dsimp only; omega), upto_zero⟩⟩ (Wk.less (by kernel_rfl)) (fun g => ?_)
       obtain ⟨v3, hg24⟩ := g
       have hg24 : 0 ≤ v3 ∧ v3 ≤ a.f4.length ∧ Upto (leafR a.f4) (fun n => a.f4[n]?) v3 := hg24
       obtain ⟨_, _, hA⟩ := hg24
       refine X.seq ?_
       refine sk ⟨[(1, .pt 64 0 0), (3, iV v3), (37, bV (decide ((v3 : Int) < ((a.f4.map d188).length : Int))))], [(64, some (.box (cD (d38 a))))], 640⟩ ?_
       refine if_ (b := decide ((v3 : Int) < ((a.f4.map d188).length : Int))) (fun hb25 => ?_) (fun hb25 => ?_)
       ·replace hb25 := of_decide_eq_true (hb25)
        refine X.skip ?_
        refine X.seq ?_
        refine X.block ?_
        refine X.seq (rs 3 ?_)
        obtain ⟨x26, hx26⟩ : ∃ x, a.f4[Int.toNat v3]? = some x := ⟨_, List.getElem?_eq_getElem (by first | omega | (simp; done) | (simp; omega))⟩
        refine CH.idx hτ (d188 x26) (rows := (a.f4.map d188)) (n := v3) (sz := 2) (by kernel_rfl) (by kernel_rfl) (by first | omega | (simp; done) | (simp; omega)) (by rw [List.getElem?_map, hx26]; rfl) (by kernel_rfl) ?_
        refine go 3 ?_
        refine ek ⟨[(1, .pt 64 0 0), (3, iV v3), (4, .pt 720 0 0)], [(64, some (.box (cD (d38 a)))), (720, some (.box [.d (.v (.int .i64 x26.f0)), .d (.v (.int .i64 x26.f1))]))], 752⟩ ?_
        refine X.seq (rs 2 ?_)
        obtain ⟨r27, hr29, hf28⟩ := s_l1In x26.f0 1 1000000
        replace hr29 := hr29.symm; subst hr29
        refine ca hf28 Try.func146 ?_
        refine go 2 ?_
        rcases Bool.eq_false_or_eq_true (!(inR x26.f0 1 1000000)) with hb31 | hb31
        ·refine aT 48 hb31 ?_
         refine aT 49 hb31 ?_
         replace hb31 := inR_no (bnot_yes (hb31))
         refine go 21 ?_
         refine ek ⟨[(1, .pt 64 0 0), (3, iV v3), (70, bV true)], [(64, some (.box (cD (d38 a))))], 1168⟩ ?_
         refine X.ifT (by kernel_rfl) ?_
         refine sk ⟨[(2, bV false)], [], 1184⟩ ?_
         refine X.ret ?_
         exact ⟨trivial, _, _, ⟨false, (by first | exact (fls (fun h => upto_no (by omega) (by omega) ‹_› (fun hr => by first | exact hr.1 (by omega) | (have := hr.1; omega) | (have := hr.2.1; omega) | (have := hr.2.2 _ (by omega) ‹_›; omega)) h.1)) | exact fls (fun h => tf h.2.1 ‹_›) | exact fls (fun h => by have := h.2.2; omega) | exact tru ⟨upto_all hA (by omega), ‹_›, by omega, by omega, by omega, by omega⟩ | exact (dcd (by simp only [decide_eq_true_eq, List.length_map]; exact ⟨fun h => ⟨upto_all hA (by omega), ‹_›, by omega, by omega, by omega, by omega⟩, fun h => by have := h.2.2; omega⟩))), rfl, rfl⟩, mkr⟩
        ·refine aF 48 hb31 ?_
         refine aF 49 hb31 ?_
         replace hb31 := inR_yes (bnot_no (hb31))
         refine go 2 ?_
         obtain ⟨r32, hr34, hf33⟩ := s_l1In x26.f1 0 1000
         replace hr34 := hr34.symm; subst hr34
         refine ca hf33 Try.func146 ?_
         refine go 3 ?_
         rcases Bool.eq_false_or_eq_true (!(inR x26.f1 0 1000)) with hb36 | hb36
         ·refine aT 53 hb36 ?_
          refine aT 54 hb36 ?_
          refine aT 55 hb36 ?_
          replace hb36 := inR_no (bnot_yes (hb36))
          refine go 15 ?_
          refine ek ⟨[(1, .pt 64 0 0), (3, iV v3), (70, bV true)], [(64, some (.box (cD (d38 a))))], 1168⟩ ?_
          refine X.ifT (by kernel_rfl) ?_
          refine sk ⟨[(2, bV false)], [], 1184⟩ ?_
          refine X.ret ?_
          exact ⟨trivial, _, _, ⟨false, (by first | exact (fls (fun h => upto_no (by omega) (by omega) ‹_› (fun hr => by first | exact hr.1 (by omega) | (have := hr.1; omega) | (have := hr.2.1; omega) | (have := hr.2.2 _ (by omega) ‹_›; omega)) h.1)) | exact fls (fun h => tf h.2.1 ‹_›) | exact fls (fun h => by have := h.2.2; omega) | exact tru ⟨upto_all hA (by omega), ‹_›, by omega, by omega, by omega, by omega⟩ | exact (dcd (by simp only [decide_eq_true_eq, List.length_map]; exact ⟨fun h => ⟨upto_all hA (by omega), ‹_›, by omega, by omega, by omega, by omega⟩, fun h => by have := h.2.2; omega⟩))), rfl, rfl⟩, mkr⟩
         ·refine aF 53 hb36 ?_
          refine aF 54 hb36 ?_
          refine aF 55 hb36 ?_
          replace hb36 := inR_yes (bnot_no (hb36))
          refine go 3 ?_
          rcases Bool.eq_false_or_eq_true (decide ((v3 : Int) > 0)) with hb37 | hb37
          ·refine aT 57 hb37 ?_
           refine aT 58 hb37 ?_
           replace hb37 := of_decide_eq_true (hb37)
           refine go 4 ?_
           obtain ⟨x38, hx38⟩ : ∃ x, a.f4[Int.toNat (v3 - 1)]? = some x := ⟨_, List.getElem?_eq_getElem (by first | omega | (simp; done) | (simp; omega))⟩
           refine CH.alt 62 (sV (.int .i64 (wrap64 (v3 - 1)))) (sV (.int .i64 ((v3 - 1)))) (by kernel_rfl) (by rw [w64 (n := (v3 - 1)) (by omega) (by omega)]) ?_
           refine CH.idx hτ (d188 x38) (rows := (a.f4.map d188)) (n := (v3 - 1)) (sz := 2) (by kernel_rfl) (by kernel_rfl) (by first | omega | (simp; done) | (simp; omega)) (by rw [List.getElem?_map, hx38]; rfl) (by kernel_rfl) ?_
           refine go 7 ?_
           refine ek ⟨[(1, .pt 64 0 0), (3, iV v3), (70, bV (decide ((x38.f1 : Int) ≥ x26.f1)))], [(64, some (.box (cD (d38 a))))], 1168⟩ ?_
           refine if_ (b := decide ((x38.f1 : Int) ≥ x26.f1)) (fun hb39 => ?_) (fun hb39 => ?_)
           ·replace hb39 := of_decide_eq_true (hb39)
            refine sk ⟨[(2, bV false)], [], 1184⟩ ?_
            refine X.ret ?_
            exact ⟨trivial, _, _, ⟨false, (by first | exact (fls (fun h => upto_no (by omega) (by omega) ‹_› (fun hr => by first | exact hr.1 (by omega) | (have := hr.1; omega) | (have := hr.2.1; omega) | (have := hr.2.2 _ (by omega) ‹_›; omega)) h.1)) | exact fls (fun h => tf h.2.1 ‹_›) | exact fls (fun h => by have := h.2.2; omega) | exact tru ⟨upto_all hA (by omega), ‹_›, by omega, by omega, by omega, by omega⟩ | exact (dcd (by simp only [decide_eq_true_eq, List.length_map]; exact ⟨fun h => ⟨upto_all hA (by omega), ‹_›, by omega, by omega, by omega, by omega⟩, fun h => by have := h.2.2; omega⟩))), rfl, rfl⟩, mkr⟩
           ·replace hb39 := of_decide_eq_false (hb39)
            refine X.skip ?_
            refine X.rk ⟨[(1, .pt 64 0 0), (3, iV (wrap64 (v3 + 1)))], [(64, some (.box (cD (d38 a))))], 1216⟩ hτ hmix (by kernel_rfl) (by kernel_rfl) (s2 := ⟨[(1, .pt 64 0 0), (3, iV (v3 + 1))], [(64, some (.box (cD (d38 a))))], 1216⟩) (congrArg (fun z : Int => (⟨[(1, .pt 64 0 0), (3, iV z)], [(64, some (.box (cD (d38 a))))], 1216⟩ : St)) (show wrap64 (v3 + 1) = (v3 + 1) by rw [w64 (n := (v3 + 1)) (by omega) (by omega)])) ?_
            refine ⟨⟨(v3 + 1), ⟨by first | omega | (dsimp only; omega), by first | omega | (dsimp only; omega), upto_nx (by first | omega | (dsimp only; omega)) hA ‹_› (⟨by first | omega | (dsimp only; omega), by first | omega | (dsimp only; omega), (by first | exact fun y h0 hy => absurd h0 (by first | omega | (dsimp only; omega)) | exact prev_fn ‹_› (by first | omega | (dsimp only; omega)))⟩)⟩⟩, by first | exact rfl | omega | (dsimp only; omega) | (simp only [List.length_append, List.length_cons, List.length_nil, List.length_set]; omega) | (simp; done) | (simp; omega), Wk.mk' [(64, 64)] (by kernel_rfl) (by kernel_rfl) (by kernel_rfl)⟩
          ·refine aF 57 hb37 ?_
           refine aF 58 hb37 ?_
           replace hb37 := of_decide_eq_false (hb37)
           refine go 12 ?_
           refine ek ⟨[(1, .pt 64 0 0), (3, iV v3), (70, bV false)], [(64, some (.box (cD (d38 a))))], 1168⟩ ?_
           refine X.ifF (by kernel_rfl) ?_
           refine X.skip ?_
           refine X.rk ⟨[(1, .pt 64 0 0), (3, iV (wrap64 (v3 + 1)))], [(64, some (.box (cD (d38 a))))], 1216⟩ hτ hmix (by kernel_rfl) (by kernel_rfl) (s2 := ⟨[(1, .pt 64 0 0), (3, iV (v3 + 1))], [(64, some (.box (cD (d38 a))))], 1216⟩) (congrArg (fun z : Int => (⟨[(1, .pt 64 0 0), (3, iV z)], [(64, some (.box (cD (d38 a))))], 1216⟩ : St)) (show wrap64 (v3 + 1) = (v3 + 1) by rw [w64 (n := (v3 + 1)) (by omega) (by omega)])) ?_
           refine ⟨⟨(v3 + 1), ⟨by first | omega | (dsimp only; omega), by first | omega | (dsimp only; omega), upto_nx (by first | omega | (dsimp only; omega)) hA ‹_› (⟨by first | omega | (dsimp only; omega), by first | omega | (dsimp only; omega), (by first | exact fun y h0 hy => absurd h0 (by first | omega | (dsimp only; omega)) | exact prev_fn ‹_› (by first | omega | (dsimp only; omega)))⟩)⟩⟩, by first | exact rfl | omega | (dsimp only; omega) | (simp only [List.length_append, List.length_cons, List.length_nil, List.length_set]; omega) | (simp; done) | (simp; omega), Wk.mk' [(64, 64)] (by kernel_rfl) (by kernel_rfl) (by kernel_rfl)⟩
       ·replace hb25 := of_decide_eq_false (hb25)
        refine X.exit ?_
        refine sk ⟨[(2, bV true)], [], 656⟩ ?_
        refine X.ret ?_
        exact ⟨trivial, _, _, ⟨true, (by first | exact (fls (fun h => upto_no (by omega) (by omega) ‹_› (fun hr => by first | exact hr.1 (by omega) | (have := hr.1; omega) | (have := hr.2.1; omega) | (have := hr.2.2 _ (by omega) ‹_›; omega)) h.1)) | exact fls (fun h => tf h.2.1 ‹_›) | exact fls (fun h => by have := h.2.2; omega) | exact tru ⟨upto_all hA (by omega), ‹_›, by omega, by omega, by omega, by omega⟩ | exact (dcd (by simp only [decide_eq_true_eq, List.length_map]; exact ⟨fun h => ⟨upto_all hA (by omega), ‹_›, by omega, by omega, by omega, by omega⟩, fun h => by have := h.2.2; omega⟩))), rfl, rfl⟩, mkr⟩
 obtain ⟨_, _, ⟨r0, h1_, rfl, rfl⟩, hf⟩ := key
 exact ⟨r0, h1_, hf⟩

theorem i_AcctOk (a : S38) (ha : acSm a) : ∃ r0 : Bool, (r0 = acctOk a) ∧ Fn Try.prog 181 [.e (.agg (cD (d38 a)))] (lookH []) (bV r0) (lookH []) := by
 have key : ∃ x' h', ((fun x' h' => ∃ r0 : Bool, (r0 = acctOk a) ∧ x' = bV r0 ∧ h' = [])) x' h' ∧ Fn Try.prog 181 [.e (.agg (cD (d38 a)))] (lookH []) x' (lookH h') := by
  refine Fn.bodyX (N := 64) hτ Try.func181 rfl rfl rfl rfl ?_
  refine sk ⟨[(1, .pt 64 0 0)], [(64, some (.box (cD (d38 a))))], 96⟩ ?_
  refine X.seq ?_
  refine X.seq ?_
  have hm := ha.2
  have hn := ha.1
  have el1 : (a.f4.map d188).length = a.f4.length := List.length_map ..
  refine rk ⟨[(1, .pt 64 0 0), (6, lV (a.f4.map d188)), (7, iV ((a.f4.map d188).length : Int)), (8, iV 0)], [(64, some (.box (cD (d38 a))))], 160⟩ ?_
  refine X.block ?_
  -- 2: v8 : Int
  refine X.loop (σ := { g : Int // (fun (v8 : Int) => 0 ≤ v8 ∧ v8 ≤ a.f4.length ∧ Upto (leafR a.f4) (fun n => a.f4[n]?) v8) g }) (fun g => (fun (v8 : Int) => ⟨[(1, .pt 64 0 0), (6, lV (a.f4.map d188)), (7, iV ((a.f4.map d188).length : Int)), (8, iV v8)], [(64, some (.box (cD (d38 a))))], 160⟩) g.1) (fun g => (fun (v8 : Int) => (a.f4.length - v8).toNat) g.1) ⟨0, ⟨by first | omega | (dsimp only; omega), by first | omega | (dsimp only; omega), upto_zero⟩⟩ (Wk.less (by kernel_rfl)) (fun g => ?_)
  obtain ⟨v8, hg3⟩ := g
  have hg3 : 0 ≤ v8 ∧ v8 ≤ a.f4.length ∧ Upto (leafR a.f4) (fun n => a.f4[n]?) v8 := hg3
  obtain ⟨_, _, hA⟩ := hg3
  refine sk ⟨[(1, .pt 64 0 0), (6, lV (a.f4.map d188)), (7, iV ((a.f4.map d188).length : Int)), (8, iV v8), (9, bV (decide ((v8 : Int) < ((a.f4.map d188).length : Int))))], [(64, some (.box (cD (d38 a))))], 176⟩ ?_
  refine X.seq ?_
  refine if_ (b := decide ((v8 : Int) < ((a.f4.map d188).length : Int))) (fun hb4 => ?_) (fun hb4 => ?_)
  ·replace hb4 := of_decide_eq_true (hb4)
   refine X.skip ?_
   refine X.seq ?_
   refine X.block ?_
   refine X.seq (rs 1 ?_)
   obtain ⟨x5, hx5⟩ : ∃ x, a.f4[Int.toNat v8]? = some x := ⟨_, List.getElem?_eq_getElem (by first | omega | (simp; done) | (simp; omega))⟩
   refine CH.idx hτ (d188 x5) (rows := (a.f4.map d188)) (n := v8) (sz := 2) (by kernel_rfl) (by kernel_rfl) (by first | omega | (simp; done) | (simp; omega)) (by rw [List.getElem?_map, hx5]; rfl) (by kernel_rfl) ?_
   refine go 4 ?_
   refine ek ⟨[(1, .pt 64 0 0), (3, iV v8), (4, .pt 224 0 0), (6, lV (a.f4.map d188)), (7, iV ((a.f4.map d188).length : Int)), (8, iV v8)], [(64, some (.box (cD (d38 a)))), (224, some (.box [.d (.v (.int .i64 x5.f0)), .d (.v (.int .i64 x5.f1))]))], 272⟩ ?_
   refine X.seq (rs 2 ?_)
   obtain ⟨r6, hr8, hf7⟩ := i_inRange x5.f0 1 1000000
   replace hr8 := hr8.symm; subst hr8
   refine ca hf7 Try.func149 ?_
   refine go 2 ?_
   rcases Bool.eq_false_or_eq_true (!(inR x5.f0 1 1000000)) with hb10 | hb10
   ·refine aT 16 hb10 ?_
    refine aT 17 hb10 ?_
    replace hb10 := inR_no (bnot_yes (hb10))
    refine go 21 ?_
    refine ek ⟨[(1, .pt 64 0 0), (6, lV (a.f4.map d188)), (7, iV ((a.f4.map d188).length : Int)), (8, iV v8), (38, bV true)], [(64, some (.box (cD (d38 a))))], 688⟩ ?_
    refine X.ifT (by kernel_rfl) ?_
    refine sk ⟨[(2, bV false)], [], 704⟩ ?_
    refine X.ret ?_
    exact ⟨trivial, _, _, ⟨false, (by first | exact (fls (fun h => upto_no (by omega) (by omega) ‹_› (fun hr => by first | exact hr.1 (by omega) | (have := hr.1; omega) | (have := hr.2.1; omega) | (have := hr.2.2 _ (by omega) ‹_›; omega)) h.1)) | exact fls (fun h => tf h.2.1 ‹_›) | exact fls (fun h => by have := h.2.2; omega) | exact tru ⟨upto_all hA (by omega), ‹_›, by omega, by omega, by omega, by omega⟩ | exact (dcd (by simp only [decide_eq_true_eq, List.length_map]; exact ⟨fun h => ⟨upto_all hA (by omega), ‹_›, by omega, by omega, by omega, by omega⟩, fun h => by have := h.2.2; omega⟩))), rfl, rfl⟩, mkr⟩
   ·refine aF 16 hb10 ?_
    refine aF 17 hb10 ?_
    replace hb10 := inR_yes (bnot_no (hb10))
    refine go 2 ?_
    obtain ⟨r11, hr13, hf12⟩ := i_inRange x5.f1 0 1000
    replace hr13 := hr13.symm; subst hr13
    refine ca hf12 Try.func149 ?_
    refine go 3 ?_
    rcases Bool.eq_false_or_eq_true (!(inR x5.f1 0 1000)) with hb15 | hb15
    ·refine aT 21 hb15 ?_
     refine aT 22 hb15 ?_
     refine aT 23 hb15 ?_
     replace hb15 := inR_no (bnot_yes (hb15))
     refine go 15 ?_
     refine ek ⟨[(1, .pt 64 0 0), (6, lV (a.f4.map d188)), (7, iV ((a.f4.map d188).length : Int)), (8, iV v8), (38, bV true)], [(64, some (.box (cD (d38 a))))], 688⟩ ?_
     refine X.ifT (by kernel_rfl) ?_
     refine sk ⟨[(2, bV false)], [], 704⟩ ?_
     refine X.ret ?_
     exact ⟨trivial, _, _, ⟨false, (by first | exact (fls (fun h => upto_no (by omega) (by omega) ‹_› (fun hr => by first | exact hr.1 (by omega) | (have := hr.1; omega) | (have := hr.2.1; omega) | (have := hr.2.2 _ (by omega) ‹_›; omega)) h.1)) | exact fls (fun h => tf h.2.1 ‹_›) | exact fls (fun h => by have := h.2.2; omega) | exact tru ⟨upto_all hA (by omega), ‹_›, by omega, by omega, by omega, by omega⟩ | exact (dcd (by simp only [decide_eq_true_eq, List.length_map]; exact ⟨fun h => ⟨upto_all hA (by omega), ‹_›, by omega, by omega, by omega, by omega⟩, fun h => by have := h.2.2; omega⟩))), rfl, rfl⟩, mkr⟩
    ·refine aF 21 hb15 ?_
     refine aF 22 hb15 ?_
     refine aF 23 hb15 ?_
     replace hb15 := inR_yes (bnot_no (hb15))
     refine go 3 ?_
     rcases Bool.eq_false_or_eq_true (decide ((v8 : Int) > 0)) with hb16 | hb16
     ·refine aT 25 hb16 ?_
      refine aT 26 hb16 ?_
      replace hb16 := of_decide_eq_true (hb16)
      refine go 6 ?_
      obtain ⟨x17, hx17⟩ : ∃ x, a.f4[Int.toNat (v8 - 1)]? = some x := ⟨_, List.getElem?_eq_getElem (by first | omega | (simp; done) | (simp; omega))⟩
      refine CH.alt 32 (sV (.int .i64 (wrap64 (v8 - 1)))) (sV (.int .i64 ((v8 - 1)))) (by kernel_rfl) (by rw [w64 (n := (v8 - 1)) (by omega) (by omega)]) ?_
      refine CH.idx hτ (d188 x17) (rows := (a.f4.map d188)) (n := (v8 - 1)) (sz := 2) (by kernel_rfl) (by kernel_rfl) (by first | omega | (simp; done) | (simp; omega)) (by rw [List.getElem?_map, hx17]; rfl) (by kernel_rfl) ?_
      refine go 5 ?_
      refine ek ⟨[(1, .pt 64 0 0), (6, lV (a.f4.map d188)), (7, iV ((a.f4.map d188).length : Int)), (8, iV v8), (38, bV (decide ((x5.f1 : Int) ≤ x17.f1)))], [(64, some (.box (cD (d38 a))))], 688⟩ ?_
      refine if_ (b := decide ((x5.f1 : Int) ≤ x17.f1)) (fun hb18 => ?_) (fun hb18 => ?_)
      ·replace hb18 := of_decide_eq_true (hb18)
       refine sk ⟨[(2, bV false)], [], 704⟩ ?_
       refine X.ret ?_
       exact ⟨trivial, _, _, ⟨false, (by first | exact (fls (fun h => upto_no (by omega) (by omega) ‹_› (fun hr => by first | exact hr.1 (by omega) | (have := hr.1; omega) | (have := hr.2.1; omega) | (have := hr.2.2 _ (by omega) ‹_›; omega)) h.1)) | exact fls (fun h => tf h.2.1 ‹_›) | exact fls (fun h => by have := h.2.2; omega) | exact tru ⟨upto_all hA (by omega), ‹_›, by omega, by omega, by omega, by omega⟩ | exact (dcd (by simp only [decide_eq_true_eq, List.length_map]; exact ⟨fun h => ⟨upto_all hA (by omega), ‹_›, by omega, by omega, by omega, by omega⟩, fun h => by have := h.2.2; omega⟩))), rfl, rfl⟩, mkr⟩
      ·replace hb18 := of_decide_eq_false (hb18)
       refine X.skip ?_
       refine X.rk ⟨[(1, .pt 64 0 0), (6, lV (a.f4.map d188)), (7, iV ((a.f4.map d188).length : Int)), (8, iV (wrap64 (v8 + 1)))], [(64, some (.box (cD (d38 a))))], 720⟩ hτ hmix (by kernel_rfl) (by kernel_rfl) (s2 := ⟨[(1, .pt 64 0 0), (6, lV (a.f4.map d188)), (7, iV ((a.f4.map d188).length : Int)), (8, iV (v8 + 1))], [(64, some (.box (cD (d38 a))))], 720⟩) (congrArg (fun z : Int => (⟨[(1, .pt 64 0 0), (6, lV (a.f4.map d188)), (7, iV ((a.f4.map d188).length : Int)), (8, iV z)], [(64, some (.box (cD (d38 a))))], 720⟩ : St)) (show wrap64 (v8 + 1) = (v8 + 1) by rw [w64 (n := (v8 + 1)) (by omega) (by omega)])) ?_
       refine ⟨⟨(v8 + 1), ⟨by first | omega | (dsimp only; omega), by first | omega | (dsimp only; omega), upto_nx (by first | omega | (dsimp only; omega)) hA ‹_› (⟨by first | omega | (dsimp only; omega), by first | omega | (dsimp only; omega), (by first | exact fun y h0 hy => absurd h0 (by first | omega | (dsimp only; omega)) | exact prev_fn ‹_› (by first | omega | (dsimp only; omega)))⟩)⟩⟩, by first | exact rfl | omega | (dsimp only; omega) | (simp only [List.length_append, List.length_cons, List.length_nil, List.length_set]; omega) | (simp; done) | (simp; omega), Wk.mk' [(64, 64)] (by kernel_rfl) (by kernel_rfl) (by kernel_rfl)⟩
     ·refine aF 25 hb16 ?_
      refine aF 26 hb16 ?_
      replace hb16 := of_decide_eq_false (hb16)
      refine go 12 ?_
      refine ek ⟨[(1, .pt 64 0 0), (6, lV (a.f4.map d188)), (7, iV ((a.f4.map d188).length : Int)), (8, iV v8), (38, bV false)], [(64, some (.box (cD (d38 a))))], 688⟩ ?_
      refine X.ifF (by kernel_rfl) ?_
      refine X.skip ?_
      refine X.rk ⟨[(1, .pt 64 0 0), (6, lV (a.f4.map d188)), (7, iV ((a.f4.map d188).length : Int)), (8, iV (wrap64 (v8 + 1)))], [(64, some (.box (cD (d38 a))))], 720⟩ hτ hmix (by kernel_rfl) (by kernel_rfl) (s2 := ⟨[(1, .pt 64 0 0), (6, lV (a.f4.map d188)), (7, iV ((a.f4.map d188).length : Int)), (8, iV (v8 + 1))], [(64, some (.box (cD (d38 a))))], 720⟩) (congrArg (fun z : Int => (⟨[(1, .pt 64 0 0), (6, lV (a.f4.map d188)), (7, iV ((a.f4.map d188).length : Int)), (8, iV z)], [(64, some (.box (cD (d38 a))))], 720⟩ : St)) (show wrap64 (v8 + 1) = (v8 + 1) by rw [w64 (n := (v8 + 1)) (by omega) (by omega)])) ?_
      refine ⟨⟨(v8 + 1), ⟨by first | omega | (dsimp only; omega), by first | omega | (dsimp only; omega), upto_nx (by first | omega | (dsimp only; omega)) hA ‹_› (⟨by first | omega | (dsimp only; omega), by first | omega | (dsimp only; omega), (by first | exact fun y h0 hy => absurd h0 (by first | omega | (dsimp only; omega)) | exact prev_fn ‹_› (by first | omega | (dsimp only; omega)))⟩)⟩⟩, by first | exact rfl | omega | (dsimp only; omega) | (simp only [List.length_append, List.length_cons, List.length_nil, List.length_set]; omega) | (simp; done) | (simp; omega), Wk.mk' [(64, 64)] (by kernel_rfl) (by kernel_rfl) (by kernel_rfl)⟩
  ·replace hb4 := of_decide_eq_false (hb4)
   refine X.exit ?_
   refine X.seq (rs 2 ?_)
   obtain ⟨r19, hr21, hf20⟩ := i_NameOk a.f0 (by assumption)
   replace hr21 := hr21.symm; subst hr21
   refine ca hf20 Try.func90 ?_
   refine go 1 ?_
   rcases Bool.eq_false_or_eq_true ((nameOk a.f0)) with hb23 | hb23
   ·refine aT 42 hb23 ?_
    refine aT 43 hb23 ?_
    refine go 2 ?_
    obtain ⟨r24, hr26, hf25⟩ := i_isAmount a.f1
    replace hr26 := hr26.symm; subst hr26
    refine ca hf25 Try.func199 ?_
    refine go 2 ?_
    rcases Bool.eq_false_or_eq_true ((inR a.f1 0 1000000)) with hb28 | hb28
    ·refine aT 46 hb28 ?_
     refine aT 47 hb28 ?_
     refine aT 48 hb28 ?_
     replace hb28 := inR_yes (hb28)
     refine go 2 ?_
     obtain ⟨r29, hr31, hf30⟩ := i_isAmount a.f3
     replace hr31 := hr31.symm; subst hr31
     refine ca hf30 Try.func199 ?_
     refine go 2 ?_
     rcases Bool.eq_false_or_eq_true ((inR a.f3 0 1000000)) with hb33 | hb33
     ·refine aT 51 hb33 ?_
      refine aT 52 hb33 ?_
      refine aT 53 hb33 ?_
      replace hb33 := inR_yes (hb33)
      refine go 2 ?_
      obtain ⟨r34, hr36, hf35⟩ := i_inRange a.f2 0 10000
      replace hr36 := hr36.symm; subst hr36
      refine ca hf35 Try.func149 ?_
      refine go 2 ?_
      rcases Bool.eq_false_or_eq_true ((inR a.f2 0 10000)) with hb38 | hb38
      ·refine aT 56 hb38 ?_
       refine aT 57 hb38 ?_
       refine aT 58 hb38 ?_
       replace hb38 := inR_yes (hb38)
       refine go 6 ?_
       refine ek ⟨[(2, bV (decide ((((a.f4.map d188).length : Int) : Int) ≤ 4)))], [], 576⟩ ?_
       refine X.ret ?_
       exact ⟨trivial, _, _, ⟨decide ((((a.f4.map d188).length : Int) : Int) ≤ 4), (by first | exact (fls (fun h => upto_no (by omega) (by omega) ‹_› (fun hr => by first | exact hr.1 (by omega) | (have := hr.1; omega) | (have := hr.2.1; omega) | (have := hr.2.2 _ (by omega) ‹_›; omega)) h.1)) | exact fls (fun h => tf h.2.1 ‹_›) | exact fls (fun h => by have := h.2.2; omega) | exact tru ⟨upto_all hA (by omega), ‹_›, by omega, by omega, by omega, by omega⟩ | exact (dcd (by simp only [decide_eq_true_eq, List.length_map]; exact ⟨fun h => ⟨upto_all hA (by omega), ‹_›, by omega, by omega, by omega, by omega⟩, fun h => by have := h.2.2; omega⟩))), rfl, rfl⟩, mkr⟩
      ·refine aF 56 hb38 ?_
       refine aF 57 hb38 ?_
       refine aF 58 hb38 ?_
       replace hb38 := inR_no (hb38)
       refine go 6 ?_
       refine ek ⟨[(2, bV false)], [], 576⟩ ?_
       refine X.ret ?_
       exact ⟨trivial, _, _, ⟨false, (by first | exact (fls (fun h => upto_no (by omega) (by omega) ‹_› (fun hr => by first | exact hr.1 (by omega) | (have := hr.1; omega) | (have := hr.2.1; omega) | (have := hr.2.2 _ (by omega) ‹_›; omega)) h.1)) | exact fls (fun h => tf h.2.1 ‹_›) | exact fls (fun h => by have := h.2.2; omega) | exact tru ⟨upto_all hA (by omega), ‹_›, by omega, by omega, by omega, by omega⟩ | exact (dcd (by simp only [decide_eq_true_eq, List.length_map]; exact ⟨fun h => ⟨upto_all hA (by omega), ‹_›, by omega, by omega, by omega, by omega⟩, fun h => by have := h.2.2; omega⟩))), rfl, rfl⟩, mkr⟩
     ·refine aF 51 hb33 ?_
      refine aF 52 hb33 ?_
      refine aF 53 hb33 ?_
      replace hb33 := inR_no (hb33)
      refine go 11 ?_
      refine ek ⟨[(2, bV false)], [], 576⟩ ?_
      refine X.ret ?_
      exact ⟨trivial, _, _, ⟨false, (by first | exact (fls (fun h => upto_no (by omega) (by omega) ‹_› (fun hr => by first | exact hr.1 (by omega) | (have := hr.1; omega) | (have := hr.2.1; omega) | (have := hr.2.2 _ (by omega) ‹_›; omega)) h.1)) | exact fls (fun h => tf h.2.1 ‹_›) | exact fls (fun h => by have := h.2.2; omega) | exact tru ⟨upto_all hA (by omega), ‹_›, by omega, by omega, by omega, by omega⟩ | exact (dcd (by simp only [decide_eq_true_eq, List.length_map]; exact ⟨fun h => ⟨upto_all hA (by omega), ‹_›, by omega, by omega, by omega, by omega⟩, fun h => by have := h.2.2; omega⟩))), rfl, rfl⟩, mkr⟩
    ·refine aF 46 hb28 ?_
     refine aF 47 hb28 ?_
     refine aF 48 hb28 ?_
     replace hb28 := inR_no (hb28)
     refine go 16 ?_
     refine ek ⟨[(2, bV false)], [], 576⟩ ?_
     refine X.ret ?_
     exact ⟨trivial, _, _, ⟨false, (by first | exact (fls (fun h => upto_no (by omega) (by omega) ‹_› (fun hr => by first | exact hr.1 (by omega) | (have := hr.1; omega) | (have := hr.2.1; omega) | (have := hr.2.2 _ (by omega) ‹_›; omega)) h.1)) | exact fls (fun h => tf h.2.1 ‹_›) | exact fls (fun h => by have := h.2.2; omega) | exact tru ⟨upto_all hA (by omega), ‹_›, by omega, by omega, by omega, by omega⟩ | exact (dcd (by simp only [decide_eq_true_eq, List.length_map]; exact ⟨fun h => ⟨upto_all hA (by omega), ‹_›, by omega, by omega, by omega, by omega⟩, fun h => by have := h.2.2; omega⟩))), rfl, rfl⟩, mkr⟩
   ·refine aF 42 hb23 ?_
    refine aF 43 hb23 ?_
    refine go 21 ?_
    refine ek ⟨[(2, bV false)], [], 576⟩ ?_
    refine X.ret ?_
    exact ⟨trivial, _, _, ⟨false, (by first | exact (fls (fun h => upto_no (by omega) (by omega) ‹_› (fun hr => by first | exact hr.1 (by omega) | (have := hr.1; omega) | (have := hr.2.1; omega) | (have := hr.2.2 _ (by omega) ‹_›; omega)) h.1)) | exact fls (fun h => tf h.2.1 ‹_›) | exact fls (fun h => by have := h.2.2; omega) | exact tru ⟨upto_all hA (by omega), ‹_›, by omega, by omega, by omega, by omega⟩ | exact (dcd (by simp only [decide_eq_true_eq, List.length_map]; exact ⟨fun h => ⟨upto_all hA (by omega), ‹_›, by omega, by omega, by omega, by omega⟩, fun h => by have := h.2.2; omega⟩))), rfl, rfl⟩, mkr⟩
 obtain ⟨_, _, ⟨r0, h1_, rfl, rfl⟩, hf⟩ := key
 exact ⟨r0, h1_, hf⟩

theorem s_l4Of (a : S38) (ha : acSm a) : ∃ r0 : Int, (r0 = wr .i64 (acS a)) ∧ Fn Try.prog 198 [.e (.agg (cD (d38 a)))] (lookH []) (iV r0) (lookH []) := by
 have key : ∃ x' h', ((fun x' h' => ∃ r0 : Int, (r0 = wr .i64 (acS a)) ∧ x' = iV r0 ∧ h' = [])) x' h' ∧ Fn Try.prog 198 [.e (.agg (cD (d38 a)))] (lookH []) x' (lookH h') := by
  refine Fn.bodyX (N := 26) hτ Try.func198 rfl rfl rfl rfl ?_
  refine sk ⟨[(1, .pt 64 0 0)], [(64, some (.box (cD (d38 a))))], 96⟩ ?_
  refine X.seq ?_
  have hm := ha.2
  refine rk ⟨[(1, .pt 64 0 0), (3, iV (wr .i64 (a.f1 + a.f3)))], [(64, some (.box (cD (d38 a))))], 192⟩ ?_
  refine X.seq ?_
  refine sk ⟨[(1, .pt 64 0 0), (3, iV (wr .i64 (a.f1 + a.f3))), (4, iV 0)], [(64, some (.box (cD (d38 a))))], 208⟩ ?_
  refine X.block ?_
  -- 3: v3 : Int, v4 : Int
  refine X.loop (σ := { g : Int × Int // (fun (v3 : Int) (v4 : Int) => 0 ≤ v4 ∧ v4 ≤ a.f4.length ∧ v3 = wr .i64 ((a.f1 + a.f3) + lvS (a.f4.take v4.toNat))) g.1 g.2 }) (fun g => (fun (v3 : Int) (v4 : Int) => ⟨[(1, .pt 64 0 0), (3, iV v3), (4, iV v4)], [(64, some (.box (cD (d38 a))))], 208⟩) g.1.1 g.1.2) (fun g => (fun (v3 : Int) (v4 : Int) => (a.f4.length - v4).toNat) g.1.1 g.1.2) ⟨(wr .i64 (a.f1 + a.f3), 0), ⟨by first | omega | (dsimp only; omega), by first | omega | (dsimp only; omega), (by simp [lvS])⟩⟩ (Wk.less (by kernel_rfl)) (fun g => ?_)
  obtain ⟨⟨v3, v4⟩, hg2⟩ := g
  have hg2 : 0 ≤ v4 ∧ v4 ≤ a.f4.length ∧ v3 = wr .i64 ((a.f1 + a.f3) + lvS (a.f4.take v4.toNat)) := hg2
  obtain ⟨_, _, hS⟩ := hg2
  refine X.seq ?_
  refine X.seq ?_
  have el3 : (a.f4.map d188).length = a.f4.length := List.length_map ..
  refine rk ⟨[(1, .pt 64 0 0), (3, iV v3), (4, iV v4), (14, bV (decide ((v4 : Int) < ((a.f4.map d188).length : Int))))], [(64, some (.box (cD (d38 a))))], 288⟩ ?_
  refine if_ (b := decide ((v4 : Int) < ((a.f4.map d188).length : Int))) (fun hb4 => ?_) (fun hb4 => ?_)
  ·replace hb4 := of_decide_eq_true (hb4)
   refine X.skip ?_
   refine X.seq ?_
   refine X.block ?_
   refine rs 4 ?_
   obtain ⟨x5, hx5⟩ : ∃ x, a.f4[Int.toNat v4]? = some x := ⟨_, List.getElem?_eq_getElem (by first | omega | (simp; done) | (simp; omega))⟩
   refine CH.idx hτ (d188 x5) (rows := (a.f4.map d188)) (n := v4) (sz := 2) (by kernel_rfl) (by kernel_rfl) (by first | omega | (simp; done) | (simp; omega)) (by rw [List.getElem?_map, hx5]; rfl) (by kernel_rfl) ?_
   refine go 4 ?_
   refine ek ⟨[(1, .pt 64 0 0), (3, iV (wr .i64 (v3 + x5.f0))), (4, iV v4)], [(64, some (.box (cD (d38 a))))], 432⟩ ?_
   refine X.rk ⟨[(1, .pt 64 0 0), (3, iV (wr .i64 (v3 + x5.f0))), (4, iV (wrap64 (v4 + 1)))], [(64, some (.box (cD (d38 a))))], 480⟩ hτ hmix (by kernel_rfl) (by kernel_rfl) (s2 := ⟨[(1, .pt 64 0 0), (3, iV (wr .i64 (v3 + x5.f0))), (4, iV (v4 + 1))], [(64, some (.box (cD (d38 a))))], 480⟩) (congrArg (fun z : Int => (⟨[(1, .pt 64 0 0), (3, iV (wr .i64 (v3 + x5.f0))), (4, iV z)], [(64, some (.box (cD (d38 a))))], 480⟩ : St)) (show wrap64 (v4 + 1) = (v4 + 1) by rw [w64 (n := (v4 + 1)) (by omega) (by omega)])) ?_
   refine ⟨⟨(wr .i64 (v3 + x5.f0), (v4 + 1)), ⟨by first | omega | (dsimp only; omega), by first | omega | (dsimp only; omega), lv_next (by first | omega | (dsimp only; omega)) ‹_› hS⟩⟩, by first | exact rfl | omega | (dsimp only; omega) | (simp only [List.length_append, List.length_cons, List.length_nil, List.length_set]; omega) | (simp; done) | (simp; omega), Wk.mk' [(64, 64)] (by kernel_rfl) (by kernel_rfl) (by kernel_rfl)⟩
  ·replace hb4 := of_decide_eq_false (hb4)
   refine X.exit ?_
   refine sk ⟨[(2, iV v3)], [], 320⟩ ?_
   refine X.ret ?_
   exact ⟨trivial, _, _, ⟨v3, (lv_end (by omega) hS), rfl, rfl⟩, mkr⟩
 obtain ⟨_, _, ⟨r0, h1_, rfl, rfl⟩, hf⟩ := key
 exact ⟨r0, h1_, hf⟩

theorem s_Wealth (l : List S38) (hl : acsSm l) : ∃ r0 : Int, (r0 = wealth l) ∧ Fn Try.prog 180 [lV (l.map d38)] (lookH []) (iV r0) (lookH []) := by
 have key : ∃ x' h', ((fun x' h' => ∃ r0 : Int, (r0 = wealth l) ∧ x' = iV r0 ∧ h' = [])) x' h' ∧ Fn Try.prog 180 [lV (l.map d38)] (lookH []) x' (lookH h') := by
  refine Fn.bodyX (N := 19) hτ Try.func180 rfl rfl rfl rfl ?_
  refine sk ⟨[(0, lV (l.map d38))], [], 80⟩ ?_
  refine X.seq ?_
  have hm := hl.1
  refine rk ⟨[(0, lV (l.map d38)), (3, iV 0)], [], 96⟩ ?_
  refine X.seq ?_
  refine sk ⟨[(0, lV (l.map d38)), (3, iV 0), (4, iV 0)], [], 112⟩ ?_
  refine X.block ?_
  -- 3: v3 : Int, v4 : Int
  refine X.loop (σ := { g : Int × Int // (fun (v3 : Int) (v4 : Int) => 0 ≤ v4 ∧ v4 ≤ l.length ∧ v3 = wr .i64 (wS (l.take v4.toNat))) g.1 g.2 }) (fun g => (fun (v3 : Int) (v4 : Int) => ⟨[(0, lV (l.map d38)), (3, iV v3), (4, iV v4)], [], 112⟩) g.1.1 g.1.2) (fun g => (fun (v3 : Int) (v4 : Int) => (l.length - v4).toNat) g.1.1 g.1.2) ⟨(0, 0), ⟨by first | omega | (dsimp only; omega), by first | omega | (dsimp only; omega), (w64 (n := 0) (by decide) (by decide)).symm⟩⟩ (Wk.less (by kernel_rfl)) (fun g => ?_)
  obtain ⟨⟨v3, v4⟩, hg2⟩ := g
  have hg2 : 0 ≤ v4 ∧ v4 ≤ l.length ∧ v3 = wr .i64 (wS (l.take v4.toNat)) := hg2
  obtain ⟨_, _, hS⟩ := hg2
  refine X.seq ?_
  refine X.seq ?_
  have el3 : (l.map d38).length = l.length := List.length_map ..
  refine rk ⟨[(0, lV (l.map d38)), (3, iV v3), (4, iV v4), (8, bV (decide ((v4 : Int) < ((l.map d38).length : Int))))], [], 176⟩ ?_
  refine if_ (b := decide ((v4 : Int) < ((l.map d38).length : Int))) (fun hb4 => ?_) (fun hb4 => ?_)
  ·replace hb4 := of_decide_eq_true (hb4)
   refine X.skip ?_
   refine X.seq ?_
   refine X.block ?_
   refine rs 3 ?_
   obtain ⟨x5, hx5⟩ : ∃ x, l[Int.toNat v4]? = some x := ⟨_, List.getElem?_eq_getElem (by first | omega | (simp; done) | (simp; omega))⟩
   refine CH.idx hτ (d38 x5) (rows := (l.map d38)) (n := v4) (sz := 5) (by kernel_rfl) (by kernel_rfl) (by first | omega | (simp; done) | (simp; omega)) (by rw [List.getElem?_map, hx5]; rfl) (by kernel_rfl) ?_
   refine go 1 ?_
   obtain ⟨r6, hr8, hf7⟩ := s_l4Of x5 (by exact all_at hl.2 ‹_›)
   replace hr8 := hr8.symm; subst hr8
   refine ca hf7 Try.func198 ?_
   refine go 2 ?_
   refine ek ⟨[(0, lV (l.map d38)), (3, iV (wr .i64 (v3 + (wr .i64 (acS x5))))), (4, iV v4)], [], 304⟩ ?_
   refine X.rk ⟨[(0, lV (l.map d38)), (3, iV (wr .i64 (v3 + (wr .i64 (acS x5))))), (4, iV (wrap64 (v4 + 1)))], [], 352⟩ hτ hmix (by kernel_rfl) (by kernel_rfl) (s2 := ⟨[(0, lV (l.map d38)), (3, iV (wr .i64 (v3 + (wr .i64 (acS x5))))), (4, iV (v4 + 1))], [], 352⟩) (congrArg (fun z : Int => (⟨[(0, lV (l.map d38)), (3, iV (wr .i64 (v3 + (wr .i64 (acS x5))))), (4, iV z)], [], 352⟩ : St)) (show wrap64 (v4 + 1) = (v4 + 1) by rw [w64 (n := (v4 + 1)) (by omega) (by omega)])) ?_
   refine ⟨⟨(wr .i64 (v3 + (wr .i64 (acS x5))), (v4 + 1)), ⟨by first | omega | (dsimp only; omega), by first | omega | (dsimp only; omega), by rw [hS, wr_r, wr_l]; exact w_next (by first | omega | (dsimp only; omega)) ‹_›⟩⟩, by first | exact rfl | omega | (dsimp only; omega) | (simp only [List.length_append, List.length_cons, List.length_nil, List.length_set]; omega) | (simp; done) | (simp; omega), Wk.mk' [] (by kernel_rfl) (by kernel_rfl) (by kernel_rfl)⟩
  ·replace hb4 := of_decide_eq_false (hb4)
   refine X.exit ?_
   refine sk ⟨[(2, iV v3)], [], 208⟩ ?_
   refine X.ret ?_
   exact ⟨trivial, _, _, ⟨v3, (by rw [hS, List.take_of_length_le (by omega)]; rfl), rfl, rfl⟩, mkr⟩
 obtain ⟨_, _, ⟨r0, h1_, rfl, rfl⟩, hf⟩ := key
 exact ⟨r0, h1_, hf⟩

theorem i_Wealth (l : List S38) (hl : acsSm l) : ∃ r0 : Int, (r0 = wealth l) ∧ Fn Try.prog 182 [lV (l.map d38)] (lookH []) (iV r0) (lookH []) := by
 have key : ∃ x' h', ((fun x' h' => ∃ r0 : Int, (r0 = wealth l) ∧ x' = iV r0 ∧ h' = [])) x' h' ∧ Fn Try.prog 182 [lV (l.map d38)] (lookH []) x' (lookH h') := by
  refine Fn.bodyX (N := 35) hτ Try.func182 rfl rfl rfl rfl ?_
  refine sk ⟨[(0, lV (l.map d38))], [], 80⟩ ?_
  refine X.seq ?_
  have hm := hl.1
  refine rk ⟨[(0, lV (l.map d38)), (3, iV 0)], [], 96⟩ ?_
  refine X.seq ?_
  refine X.seq ?_
  have el1 : (l.map d38).length = l.length := List.length_map ..
  refine rk ⟨[(3, iV 0), (8, lV (l.map d38)), (9, iV ((l.map d38).length : Int)), (10, iV 0)], [], 144⟩ ?_
  refine X.block ?_
  -- 3: v3 : Int, v10 : Int
  refine X.loop (σ := { g : Int × Int // (fun (v3 : Int) (v10 : Int) => 0 ≤ v10 ∧ v10 ≤ l.length ∧ v3 = wr .i64 (wS (l.take v10.toNat))) g.1 g.2 }) (fun g => (fun (v3 : Int) (v10 : Int) => ⟨[(3, iV v3), (8, lV (l.map d38)), (9, iV ((l.map d38).length : Int)), (10, iV v10)], [], 144⟩) g.1.1 g.1.2) (fun g => (fun (v3 : Int) (v10 : Int) => (l.length - v10).toNat) g.1.1 g.1.2) ⟨(0, 0), ⟨by first | omega | (dsimp only; omega), by first | omega | (dsimp only; omega), (w64 (n := 0) (by decide) (by decide)).symm⟩⟩ (Wk.less (by kernel_rfl)) (fun g => ?_)
  obtain ⟨⟨v3, v10⟩, hg3⟩ := g
  have hg3 : 0 ≤ v10 ∧ v10 ≤ l.length ∧ v3 = wr .i64 (wS (l.take v10.toNat)) := hg3
  obtain ⟨_, _, hS⟩ := hg3
  refine sk ⟨[(3, iV v3), (8, lV (l.map d38)), (9, iV ((l.map d38).length : Int)), (10, iV v10), (11, bV (decide ((v10 : Int) < ((l.map d38).length : Int))))], [], 160⟩ ?_
  refine X.seq ?_
  refine if_ (b := decide ((v10 : Int) < ((l.map d38).length : Int))) (fun hb4 => ?_) (fun hb4 => ?_)
  ·replace hb4 := of_decide_eq_true (hb4)
   refine X.skip ?_
   refine X.seq ?_
   refine X.block ?_
   refine X.seq (rs 0 ?_)
   obtain ⟨x5, hx5⟩ : ∃ x, l[Int.toNat v10]? = some x := ⟨_, List.getElem?_eq_getElem (by first | omega | (simp; done) | (simp; omega))⟩
   have hxl := (all_at hl.2 hx5).2
   refine CH.idx hτ (d38 x5) (rows := (l.map d38)) (n := v10) (sz := 5) (by kernel_rfl) (by kernel_rfl) (by first | omega | (simp; done) | (simp; omega)) (by rw [List.getElem?_map, hx5]; rfl) (by kernel_rfl) ?_
   refine go 3 ?_
   refine ek ⟨[(3, iV v3), (5, .pt 192 0 0), (8, lV (l.map d38)), (9, iV ((l.map d38).length : Int)), (10, iV v10)], [(192, some (.box (cD (d38 x5))))], 224⟩ ?_
   refine sk ⟨[(3, iV (wr .i64 (v3 + (wr .i64 (x5.f1 + x5.f3))))), (5, .pt 192 0 0), (8, lV (l.map d38)), (9, iV ((l.map d38).length : Int)), (10, iV v10)], [(192, some (.box (cD (d38 x5))))], 352⟩ ?_
   refine X.seq ?_
   have el6 : (x5.f4.map d188).length = x5.f4.length := List.length_map ..
   refine rk ⟨[(3, iV (wr .i64 (v3 + (wr .i64 (x5.f1 + x5.f3))))), (8, lV (l.map d38)), (9, iV ((l.map d38).length : Int)), (10, iV v10), (22, lV (x5.f4.map d188)), (23, iV ((x5.f4.map d188).length : Int)), (24, iV 0)], [], 416⟩ ?_
   refine X.block ?_
   -- 7: v3 : Int, v24 : Int
   refine X.loop (σ := { g : Int × Int // (fun (v3 : Int) (v24 : Int) => 0 ≤ v24 ∧ v24 ≤ x5.f4.length ∧ v3 = wr .i64 ((wS (l.take v10.toNat) + (x5.f1 + x5.f3)) + lvS (x5.f4.take v24.toNat))) g.1 g.2 }) (fun g => (fun (v3 : Int) (v24 : Int) => ⟨[(3, iV v3), (8, lV (l.map d38)), (9, iV ((l.map d38).length : Int)), (10, iV v10), (22, lV (x5.f4.map d188)), (23, iV ((x5.f4.map d188).length : Int)), (24, iV v24)], [], 416⟩) g.1.1 g.1.2) (fun g => (fun (v3 : Int) (v24 : Int) => (x5.f4.length - v24).toNat) g.1.1 g.1.2) ⟨(wr .i64 (v3 + (wr .i64 (x5.f1 + x5.f3))), 0), ⟨by first | omega | (dsimp only; omega), by first | omega | (dsimp only; omega), by rw [hS, wr_r, wr_l]; simp [lvS]⟩⟩ (Wk.less (by kernel_rfl)) (fun g => ?_)
   obtain ⟨⟨v3, v24⟩, hg8⟩ := g
   have hg8 : 0 ≤ v24 ∧ v24 ≤ x5.f4.length ∧ v3 = wr .i64 ((wS (l.take v10.toNat) + (x5.f1 + x5.f3)) + lvS (x5.f4.take v24.toNat)) := hg8
   obtain ⟨_, _, hT⟩ := hg8
   refine sk ⟨[(3, iV v3), (8, lV (l.map d38)), (9, iV ((l.map d38).length : Int)), (10, iV v10), (22, lV (x5.f4.map d188)), (23, iV ((x5.f4.map d188).length : Int)), (24, iV v24), (25, bV (decide ((v24 : Int) < ((x5.f4.map d188).length : Int))))], [], 432⟩ ?_
   refine X.seq ?_
   refine if_ (b := decide ((v24 : Int) < ((x5.f4.map d188).length : Int))) (fun hb9 => ?_) (fun hb9 => ?_)
   ·replace hb9 := of_decide_eq_true (hb9)
    refine X.skip ?_
    refine X.seq ?_
    refine X.block ?_
    refine X.seq (rs 0 ?_)
    obtain ⟨x10, hx10⟩ : ∃ x, x5.f4[Int.toNat v24]? = some x := ⟨_, List.getElem?_eq_getElem (by first | omega | (simp; done) | (simp; omega))⟩
    refine CH.idx hτ (d188 x10) (rows := (x5.f4.map d188)) (n := v24) (sz := 2) (by kernel_rfl) (by kernel_rfl) (by first | omega | (simp; done) | (simp; omega)) (by rw [List.getElem?_map, hx10]; rfl) (by kernel_rfl) ?_
    refine go 3 ?_
    refine ek ⟨[(3, iV v3), (7, .pt 464 0 0), (8, lV (l.map d38)), (9, iV ((l.map d38).length : Int)), (10, iV v10), (22, lV (x5.f4.map d188)), (23, iV ((x5.f4.map d188).length : Int)), (24, iV v24)], [(464, some (.box [.d (.v (.int .i64 x10.f0)), .d (.v (.int .i64 x10.f1))]))], 496⟩ ?_
    refine rk ⟨[(3, iV (wr .i64 (v3 + x10.f0))), (8, lV (l.map d38)), (9, iV ((l.map d38).length : Int)), (10, iV v10), (22, lV (x5.f4.map d188)), (23, iV ((x5.f4.map d188).length : Int)), (24, iV v24)], [], 576⟩ ?_
    refine X.rk ⟨[(3, iV (wr .i64 (v3 + x10.f0))), (8, lV (l.map d38)), (9, iV ((l.map d38).length : Int)), (10, iV v10), (22, lV (x5.f4.map d188)), (23, iV ((x5.f4.map d188).length : Int)), (24, iV (wrap64 (v24 + 1)))], [], 608⟩ hτ hmix (by kernel_rfl) (by kernel_rfl) (s2 := ⟨[(3, iV (wr .i64 (v3 + x10.f0))), (8, lV (l.map d38)), (9, iV ((l.map d38).length : Int)), (10, iV v10), (22, lV (x5.f4.map d188)), (23, iV ((x5.f4.map d188).length : Int)), (24, iV (v24 + 1))], [], 608⟩) (congrArg (fun z : Int => (⟨[(3, iV (wr .i64 (v3 + x10.f0))), (8, lV (l.map d38)), (9, iV ((l.map d38).length : Int)), (10, iV v10), (22, lV (x5.f4.map d188)), (23, iV ((x5.f4.map d188).length : Int)), (24, iV z)], [], 608⟩ : St)) (show wrap64 (v24 + 1) = (v24 + 1) by rw [w64 (n := (v24 + 1)) (by omega) (by omega)])) ?_
    refine ⟨⟨(wr .i64 (v3 + x10.f0), (v24 + 1)), ⟨by first | omega | (dsimp only; omega), by first | omega | (dsimp only; omega), lv_next (by first | omega | (dsimp only; omega)) ‹_› hT⟩⟩, by first | exact rfl | omega | (dsimp only; omega) | (simp only [List.length_append, List.length_cons, List.length_nil, List.length_set]; omega) | (simp; done) | (simp; omega), Wk.mk' [] (by kernel_rfl) (by kernel_rfl) (by kernel_rfl)⟩
   ·replace hb9 := of_decide_eq_false (hb9)
    refine X.exit ?_
    refine X.rk ⟨[(3, iV v3), (8, lV (l.map d38)), (9, iV ((l.map d38).length : Int)), (10, iV (wrap64 (v10 + 1)))], [], 464⟩ hτ hmix (by kernel_rfl) (by kernel_rfl) (s2 := ⟨[(3, iV v3), (8, lV (l.map d38)), (9, iV ((l.map d38).length : Int)), (10, iV (v10 + 1))], [], 464⟩) (congrArg (fun z : Int => (⟨[(3, iV v3), (8, lV (l.map d38)), (9, iV ((l.map d38).length : Int)), (10, iV z)], [], 464⟩ : St)) (show wrap64 (v10 + 1) = (v10 + 1) by rw [w64 (n := (v10 + 1)) (by omega) (by omega)])) ?_
    refine ⟨⟨(v3, (v10 + 1)), ⟨by first | omega | (dsimp only; omega), by first | omega | (dsimp only; omega), by have hq := lv_end (by first | omega | (dsimp only; omega)) hT; rw [hq, ← w_next (by first | omega | (dsimp only; omega)) ‹l[_]? = some _›]; simp only [acS]; congr 1; omega⟩⟩, by first | exact rfl | omega | (dsimp only; omega) | (simp only [List.length_append, List.length_cons, List.length_nil, List.length_set]; omega) | (simp; done) | (simp; omega), Wk.mk' [] (by kernel_rfl) (by kernel_rfl) (by kernel_rfl)⟩
  ·replace hb4 := of_decide_eq_false (hb4)
   refine X.exit ?_
   refine sk ⟨[(2, iV v3)], [], 192⟩ ?_
   refine X.ret ?_
   exact ⟨trivial, _, _, ⟨v3, (by rw [hS, List.take_of_length_le (by omega)]; rfl), rfl, rfl⟩, mkr⟩
 obtain ⟨_, _, ⟨r0, h1_, rfl, rfl⟩, hf⟩ := key
 exact ⟨r0, h1_, hf⟩

theorem s_AcctsOk (l : List S38) (hl : acsSm l) : ∃ r0 : Bool, (r0 = acctsOk l) ∧ Fn Try.prog 147 [lV (l.map d38)] (lookH []) (bV r0) (lookH []) := by
 have key : ∃ x' h', ((fun x' h' => ∃ r0 : Bool, (r0 = acctsOk l) ∧ x' = bV r0 ∧ h' = [])) x' h' ∧ Fn Try.prog 147 [lV (l.map d38)] (lookH []) x' (lookH h') := by
  refine Fn.bodyX (N := 42) hτ Try.func147 rfl rfl rfl rfl ?_
  refine sk ⟨[(0, lV (l.map d38))], [], 80⟩ ?_
  refine X.seq ?_
  refine sk ⟨[(0, lV (l.map d38)), (3, iV 0)], [], 96⟩ ?_
  refine X.block ?_
  -- 2: v3 : Int
  refine X.loop (σ := { g : Int // (fun (v3 : Int) => 0 ≤ v3 ∧ v3 ≤ l.length ∧ Upto (acctR l) (fun n => l[n]?) v3) g }) (fun g => (fun (v3 : Int) => ⟨[(0, lV (l.map d38)), (3, iV v3)], [], 96⟩) g.1) (fun g => (fun (v3 : Int) => (l.length - v3).toNat) g.1) ⟨0, ⟨by first | omega | (dsimp only; omega), by first | omega | (dsimp only; omega), upto_zero⟩⟩ (Wk.less (by kernel_rfl)) (fun g => ?_)
  obtain ⟨v3, hg2⟩ := g
  have hg2 : 0 ≤ v3 ∧ v3 ≤ l.length ∧ Upto (acctR l) (fun n => l[n]?) v3 := hg2
  obtain ⟨_, _, hA⟩ := hg2
  refine X.seq ?_
  refine X.seq ?_
  have hm := hl.1
  have el3 : (l.map d38).length = l.length := List.length_map ..
  refine rk ⟨[(0, lV (l.map d38)), (3, iV v3), (7, bV (decide ((v3 : Int) < ((l.map d38).length : Int))))], [], 160⟩ ?_
  refine if_ (b := decide ((v3 : Int) < ((l.map d38).length : Int))) (fun hb4 => ?_) (fun hb4 => ?_)
  ·replace hb4 := of_decide_eq_true (hb4)
   refine X.skip ?_
   refine X.seq ?_
   refine X.block ?_
   refine X.seq (rs 2 ?_)
   obtain ⟨x5, hx5⟩ : ∃ x, l[Int.toNat v3]? = some x := ⟨_, List.getElem?_eq_getElem (by first | omega | (simp; done) | (simp; omega))⟩
   refine CH.idx hτ (d38 x5) (rows := (l.map d38)) (n := v3) (sz := 5) (by kernel_rfl) (by kernel_rfl) (by first | omega | (simp; done) | (simp; omega)) (by rw [List.getElem?_map, hx5]; rfl) (by kernel_rfl) ?_
   refine go 1 ?_
   obtain ⟨r6, hr8, hf7⟩ := s_AcctOk x5 (by exact all_at hl.2 ‹_›)
   replace hr8 := hr8.symm; subst hr8
   refine ca hf7 Try.func179 ?_
   refine go 2 ?_
   rcases Bool.eq_false_or_eq_true (!(acctOk x5)) with hb10 | hb10
   ·refine aT 15 hb10 ?_
    refine aT 16 hb10 ?_
    replace hb10 := bnot_yes (hb10)
    refine go 17 ?_
    refine ek ⟨[(0, lV (l.map d38)), (3, iV v3), (33, bV true)], [], 544⟩ ?_
    refine X.ifT (by kernel_rfl) ?_
    refine sk ⟨[(2, bV false)], [], 560⟩ ?_
    refine X.ret ?_
    exact ⟨trivial, _, _, ⟨false, (by first | exact (fls (fun h => upto_no (by omega) (by omega) ‹_› (fun hr => by first | exact tf hr.1 ‹_› | exact tf (hr.2 _ (by omega) ‹_›) ‹_›) h.1)) | exact (fls (fun h => by have := h.2; omega)) | exact (dcd (by simp only [decide_eq_true_eq, List.length_map]; exact ⟨fun h => ⟨upto_all hA (by omega), by omega, h⟩, fun h => h.2.2⟩))), rfl, rfl⟩, mkr⟩
   ·refine aF 15 hb10 ?_
    refine aF 16 hb10 ?_
    replace hb10 := bnot_no (hb10)
    refine go 3 ?_
    rcases Bool.eq_false_or_eq_true (decide ((v3 : Int) > 0)) with hb11 | hb11
    ·refine aT 18 hb11 ?_
     refine aT 19 hb11 ?_
     replace hb11 := of_decide_eq_true (hb11)
     refine go 3 ?_
     obtain ⟨x12, hx12⟩ : ∃ x, l[Int.toNat (v3 - 1)]? = some x := ⟨_, List.getElem?_eq_getElem (by first | omega | (simp; done) | (simp; omega))⟩
     refine CH.alt 22 (sV (.int .i64 (wrap64 (v3 - 1)))) (sV (.int .i64 ((v3 - 1)))) (by kernel_rfl) (by rw [w64 (n := (v3 - 1)) (by omega) (by omega)]) ?_
     refine CH.idx hτ (d38 x12) (rows := (l.map d38)) (n := (v3 - 1)) (sz := 5) (by kernel_rfl) (by kernel_rfl) (by first | omega | (simp; done) | (simp; omega)) (by rw [List.getElem?_map, hx12]; rfl) (by kernel_rfl) ?_
     refine go 4 ?_
     refine CH.idx hτ (d38 x5) (rows := (l.map d38)) (n := v3) (sz := 5) (by kernel_rfl) (by kernel_rfl) (by first | omega | (simp; done) | (simp; omega)) (by rw [List.getElem?_map, hx5]; rfl) (by kernel_rfl) ?_
     refine go 5 ?_
     refine ek ⟨[(0, lV (l.map d38)), (3, iV v3), (33, bV (!(Op.bytesLess x12.f0.toList x5.f0.toList)))], [], 544⟩ ?_
     refine if_ (b := !(Op.bytesLess x12.f0.toList x5.f0.toList)) (fun hb13 => ?_) (fun hb13 => ?_)
     ·replace hb13 := bnot_yes (hb13)
      refine sk ⟨[(2, bV false)], [], 560⟩ ?_
      refine X.ret ?_
      exact ⟨trivial, _, _, ⟨false, (by first | exact (fls (fun h => upto_no (by omega) (by omega) ‹_› (fun hr => by first | exact tf hr.1 ‹_› | exact tf (hr.2 _ (by omega) ‹_›) ‹_›) h.1)) | exact (fls (fun h => by have := h.2; omega)) | exact (dcd (by simp only [decide_eq_true_eq, List.length_map]; exact ⟨fun h => ⟨upto_all hA (by omega), by omega, h⟩, fun h => h.2.2⟩))), rfl, rfl⟩, mkr⟩
     ·replace hb13 := bnot_no (hb13)
      refine X.skip ?_
      refine X.rk ⟨[(0, lV (l.map d38)), (3, iV (wrap64 (v3 + 1)))], [], 592⟩ hτ hmix (by kernel_rfl) (by kernel_rfl) (s2 := ⟨[(0, lV (l.map d38)), (3, iV (v3 + 1))], [], 592⟩) (congrArg (fun z : Int => (⟨[(0, lV (l.map d38)), (3, iV z)], [], 592⟩ : St)) (show wrap64 (v3 + 1) = (v3 + 1) by rw [w64 (n := (v3 + 1)) (by omega) (by omega)])) ?_
      refine ⟨⟨(v3 + 1), ⟨by first | omega | (dsimp only; omega), by first | omega | (dsimp only; omega), upto_nx (by first | omega | (dsimp only; omega)) hA ‹_› (⟨‹_›, (by first | exact fun y h0 hy => absurd h0 (by first | omega | (dsimp only; omega)) | exact prev_fn ‹_› ‹_›)⟩)⟩⟩, by first | exact rfl | omega | (dsimp only; omega) | (simp only [List.length_append, List.length_cons, List.length_nil, List.length_set]; omega) | (simp; done) | (simp; omega), Wk.mk' [] (by kernel_rfl) (by kernel_rfl) (by kernel_rfl)⟩
    ·refine aF 18 hb11 ?_
     refine aF 19 hb11 ?_
     replace hb11 := of_decide_eq_false (hb11)
     refine go 14 ?_
     refine ek ⟨[(0, lV (l.map d38)), (3, iV v3), (33, bV false)], [], 544⟩ ?_
     refine X.ifF (by kernel_rfl) ?_
     refine X.skip ?_
     refine X.rk ⟨[(0, lV (l.map d38)), (3, iV (wrap64 (v3 + 1)))], [], 592⟩ hτ hmix (by kernel_rfl) (by kernel_rfl) (s2 := ⟨[(0, lV (l.map d38)), (3, iV (v3 + 1))], [], 592⟩) (congrArg (fun z : Int => (⟨[(0, lV (l.map d38)), (3, iV z)], [], 592⟩ : St)) (show wrap64 (v3 + 1) = (v3 + 1) by rw [w64 (n := (v3 + 1)) (by omega) (by omega)])) ?_
     refine ⟨⟨(v3 + 1), ⟨by first | omega | (dsimp only; omega), by first | omega | (dsimp only; omega), upto_nx (by first | omega | (dsimp only; omega)) hA ‹_› (⟨‹_›, (by first | exact fun y h0 hy => absurd h0 (by first | omega | (dsimp only; omega)) | exact prev_fn ‹_› ‹_›)⟩)⟩⟩, by first | exact rfl | omega | (dsimp only; omega) | (simp only [List.length_append, List.length_cons, List.length_nil, List.length_set]; omega) | (simp; done) | (simp; omega), Wk.mk' [] (by kernel_rfl) (by kernel_rfl) (by kernel_rfl)⟩
  ·replace hb4 := of_decide_eq_false (hb4)
   refine X.exit ?_
   refine X.seq (rs 4 ?_)
   rcases Bool.eq_false_or_eq_true (decide ((((l.map d38).length : Int) : Int) ≤ 12)) with hb14 | hb14
   ·refine aT 36 hb14 ?_
    refine aT 37 hb14 ?_
    replace hb14 := of_decide_eq_true (hb14)
    refine go 1 ?_
    obtain ⟨r15, hr17, hf16⟩ := s_Wealth l (by assumption)
    replace hr17 := hr17.symm; subst hr17
    refine ca hf16 Try.func180 ?_
    refine go 3 ?_
    refine ek ⟨[(2, bV (decide (((wealth l) : Int) ≤ 1000000)))], [], 304⟩ ?_
    refine X.ret ?_
    exact ⟨trivial, _, _, ⟨decide (((wealth l) : Int) ≤ 1000000), (by first | exact (fls (fun h => upto_no (by omega) (by omega) ‹_› (fun hr => by first | exact tf hr.1 ‹_› | exact tf (hr.2 _ (by omega) ‹_›) ‹_›) h.1)) | exact (fls (fun h => by have := h.2; omega)) | exact (dcd (by simp only [decide_eq_true_eq, List.length_map]; exact ⟨fun h => ⟨upto_all hA (by omega), by omega, h⟩, fun h => h.2.2⟩))), rfl, rfl⟩, mkr⟩
   ·refine aF 36 hb14 ?_
    refine aF 37 hb14 ?_
    replace hb14 := of_decide_eq_false (hb14)
    refine go 5 ?_
    refine ek ⟨[(2, bV false)], [], 304⟩ ?_
    refine X.ret ?_
    exact ⟨trivial, _, _, ⟨false, (by first | exact (fls (fun h => upto_no (by omega) (by omega) ‹_› (fun hr => by first | exact tf hr.1 ‹_› | exact tf (hr.2 _ (by omega) ‹_›) ‹_›) h.1)) | exact (fls (fun h => by have := h.2; omega)) | exact (dcd (by simp only [decide_eq_true_eq, List.length_map]; exact ⟨fun h => ⟨upto_all hA (by omega), by omega, h⟩, fun h => h.2.2⟩))), rfl, rfl⟩, mkr⟩
 obtain ⟨_, _, ⟨r0, h1_, rfl, rfl⟩, hf⟩ := key
 exact ⟨r0, h1_, hf⟩

theorem i_AcctsOk (l : List S38) (hl : acsSm l) : ∃ r0 : Bool, (r0 = acctsOk l) ∧ Fn Try.prog 150 [lV (l.map d38)] (lookH []) (bV r0) (lookH []) := by
 have key : ∃ x' h', ((fun x' h' => ∃ r0 : Bool, (r0 = acctsOk l) ∧ x' = bV r0 ∧ h' = [])) x' h' ∧ Fn Try.prog 150 [lV (l.map d38)] (lookH []) x' (lookH h') := by
  refine Fn.bodyX (N := 39) hτ Try.func150 rfl rfl rfl rfl ?_
  refine sk ⟨[(0, lV (l.map d38))], [], 80⟩ ?_
  refine X.seq ?_
  refine X.seq ?_
  have el1 : (l.map d38).length = l.length := List.length_map ..
  refine rk ⟨[(0, lV (l.map d38)), (5, lV (l.map d38)), (6, iV ((l.map d38).length : Int)), (7, iV 0)], [], 128⟩ ?_
  refine X.block ?_
  -- 2: v7 : Int
  refine X.loop (σ := { g : Int // (fun (v7 : Int) => 0 ≤ v7 ∧ v7 ≤ l.length ∧ Upto (acctR l) (fun n => l[n]?) v7) g }) (fun g => (fun (v7 : Int) => ⟨[(0, lV (l.map d38)), (5, lV (l.map d38)), (6, iV ((l.map d38).length : Int)), (7, iV v7)], [], 128⟩) g.1) (fun g => (fun (v7 : Int) => (l.length - v7).toNat) g.1) ⟨0, ⟨by first | omega | (dsimp only; omega), by first | omega | (dsimp only; omega), upto_zero⟩⟩ (Wk.less (by kernel_rfl)) (fun g => ?_)
  obtain ⟨v7, hg3⟩ := g
  have hg3 : 0 ≤ v7 ∧ v7 ≤ l.length ∧ Upto (acctR l) (fun n => l[n]?) v7 := hg3
  obtain ⟨_, _, hA⟩ := hg3
  refine X.seq ?_
  have hm := hl.1
  refine rk ⟨[(0, lV (l.map d38)), (5, lV (l.map d38)), (6, iV ((l.map d38).length : Int)), (7, iV v7), (8, bV (decide ((v7 : Int) < ((l.map d38).length : Int))))], [], 144⟩ ?_
  refine X.seq ?_
  refine if_ (b := decide ((v7 : Int) < ((l.map d38).length : Int))) (fun hb4 => ?_) (fun hb4 => ?_)
  ·replace hb4 := of_decide_eq_true (hb4)
   refine X.skip ?_
   refine X.seq ?_
   refine X.block ?_
   refine X.seq (rs 1 ?_)
   obtain ⟨x5, hx5⟩ : ∃ x, l[Int.toNat v7]? = some x := ⟨_, List.getElem?_eq_getElem (by first | omega | (simp; done) | (simp; omega))⟩
   refine CH.idx hτ (d38 x5) (rows := (l.map d38)) (n := v7) (sz := 5) (by kernel_rfl) (by kernel_rfl) (by first | omega | (simp; done) | (simp; omega)) (by rw [List.getElem?_map, hx5]; rfl) (by kernel_rfl) ?_
   refine go 4 ?_
   refine ek ⟨[(0, lV (l.map d38)), (3, iV v7), (4, .pt 192 0 0), (5, lV (l.map d38)), (6, iV ((l.map d38).length : Int)), (7, iV v7)], [(192, some (.box (cD (d38 x5))))], 240⟩ ?_
   refine X.seq (rs 1 ?_)
   obtain ⟨r6, hr8, hf7⟩ := i_AcctOk x5 (by exact all_at hl.2 ‹_›)
   replace hr8 := hr8.symm; subst hr8
   refine ca hf7 Try.func181 ?_
   refine go 2 ?_
   rcases Bool.eq_false_or_eq_true (!(acctOk x5)) with hb10 | hb10
   ·refine aT 14 hb10 ?_
    refine aT 15 hb10 ?_
    replace hb10 := bnot_yes (hb10)
    refine go 14 ?_
    refine ek ⟨[(0, lV (l.map d38)), (5, lV (l.map d38)), (6, iV ((l.map d38).length : Int)), (7, iV v7), (29, bV true)], [], 528⟩ ?_
    refine X.ifT (by kernel_rfl) ?_
    refine sk ⟨[(2, bV false)], [], 544⟩ ?_
    refine X.ret ?_
    exact ⟨trivial, _, _, ⟨false, (by first | exact (fls (fun h => upto_no (by omega) (by omega) ‹_› (fun hr => by first | exact tf hr.1 ‹_› | exact tf (hr.2 _ (by omega) ‹_›) ‹_›) h.1)) | exact (fls (fun h => by have := h.2; omega)) | exact (dcd (by simp only [decide_eq_true_eq, List.length_map]; exact ⟨fun h => ⟨upto_all hA (by omega), by omega, h⟩, fun h => h.2.2⟩))), rfl, rfl⟩, mkr⟩
   ·refine aF 14 hb10 ?_
    refine aF 15 hb10 ?_
    replace hb10 := bnot_no (hb10)
    refine go 3 ?_
    rcases Bool.eq_false_or_eq_true (decide ((v7 : Int) > 0)) with hb11 | hb11
    ·refine aT 17 hb11 ?_
     refine aT 18 hb11 ?_
     replace hb11 := of_decide_eq_true (hb11)
     refine go 5 ?_
     obtain ⟨x12, hx12⟩ : ∃ x, l[Int.toNat (v7 - 1)]? = some x := ⟨_, List.getElem?_eq_getElem (by first | omega | (simp; done) | (simp; omega))⟩
     refine CH.alt 23 (sV (.int .i64 (wrap64 (v7 - 1)))) (sV (.int .i64 ((v7 - 1)))) (by kernel_rfl) (by rw [w64 (n := (v7 - 1)) (by omega) (by omega)]) ?_
     refine CH.idx hτ (d38 x12) (rows := (l.map d38)) (n := (v7 - 1)) (sz := 5) (by kernel_rfl) (by kernel_rfl) (by first | omega | (simp; done) | (simp; omega)) (by rw [List.getElem?_map, hx12]; rfl) (by kernel_rfl) ?_
     refine go 5 ?_
     refine ek ⟨[(0, lV (l.map d38)), (5, lV (l.map d38)), (6, iV ((l.map d38).length : Int)), (7, iV v7), (29, bV (Op.bytesLess x5.f0.toList x12.f0.toList || x5.f0.toList == x12.f0.toList))], [], 528⟩ ?_
     refine if_ (b := (Op.bytesLess x5.f0.toList x12.f0.toList || x5.f0.toList == x12.f0.toList)) (fun hb13 => ?_) (fun hb13 => ?_)
     ·replace hb13 := leq_yes (hb13)
      refine sk ⟨[(2, bV false)], [], 544⟩ ?_
      refine X.ret ?_
      exact ⟨trivial, _, _, ⟨false, (by first | exact (fls (fun h => upto_no (by omega) (by omega) ‹_› (fun hr => by first | exact tf hr.1 ‹_› | exact tf (hr.2 _ (by omega) ‹_›) ‹_›) h.1)) | exact (fls (fun h => by have := h.2; omega)) | exact (dcd (by simp only [decide_eq_true_eq, List.length_map]; exact ⟨fun h => ⟨upto_all hA (by omega), by omega, h⟩, fun h => h.2.2⟩))), rfl, rfl⟩, mkr⟩
     ·replace hb13 := leq_no (hb13)
      refine X.skip ?_
      refine X.rk ⟨[(0, lV (l.map d38)), (5, lV (l.map d38)), (6, iV ((l.map d38).length : Int)), (7, iV (wrap64 (v7 + 1)))], [], 560⟩ hτ hmix (by kernel_rfl) (by kernel_rfl) (s2 := ⟨[(0, lV (l.map d38)), (5, lV (l.map d38)), (6, iV ((l.map d38).length : Int)), (7, iV (v7 + 1))], [], 560⟩) (congrArg (fun z : Int => (⟨[(0, lV (l.map d38)), (5, lV (l.map d38)), (6, iV ((l.map d38).length : Int)), (7, iV z)], [], 560⟩ : St)) (show wrap64 (v7 + 1) = (v7 + 1) by rw [w64 (n := (v7 + 1)) (by omega) (by omega)])) ?_
      refine ⟨⟨(v7 + 1), ⟨by first | omega | (dsimp only; omega), by first | omega | (dsimp only; omega), upto_nx (by first | omega | (dsimp only; omega)) hA ‹_› (⟨‹_›, (by first | exact fun y h0 hy => absurd h0 (by first | omega | (dsimp only; omega)) | exact prev_fn ‹_› ‹_›)⟩)⟩⟩, by first | exact rfl | omega | (dsimp only; omega) | (simp only [List.length_append, List.length_cons, List.length_nil, List.length_set]; omega) | (simp; done) | (simp; omega), Wk.mk' [] (by kernel_rfl) (by kernel_rfl) (by kernel_rfl)⟩
    ·refine aF 17 hb11 ?_
     refine aF 18 hb11 ?_
     replace hb11 := of_decide_eq_false (hb11)
     refine go 11 ?_
     refine ek ⟨[(0, lV (l.map d38)), (5, lV (l.map d38)), (6, iV ((l.map d38).length : Int)), (7, iV v7), (29, bV false)], [], 528⟩ ?_
     refine X.ifF (by kernel_rfl) ?_
     refine X.skip ?_
     refine X.rk ⟨[(0, lV (l.map d38)), (5, lV (l.map d38)), (6, iV ((l.map d38).length : Int)), (7, iV (wrap64 (v7 + 1)))], [], 560⟩ hτ hmix (by kernel_rfl) (by kernel_rfl) (s2 := ⟨[(0, lV (l.map d38)), (5, lV (l.map d38)), (6, iV ((l.map d38).length : Int)), (7, iV (v7 + 1))], [], 560⟩) (congrArg (fun z : Int => (⟨[(0, lV (l.map d38)), (5, lV (l.map d38)), (6, iV ((l.map d38).length : Int)), (7, iV z)], [], 560⟩ : St)) (show wrap64 (v7 + 1) = (v7 + 1) by rw [w64 (n := (v7 + 1)) (by omega) (by omega)])) ?_
     refine ⟨⟨(v7 + 1), ⟨by first | omega | (dsimp only; omega), by first | omega | (dsimp only; omega), upto_nx (by first | omega | (dsimp only; omega)) hA ‹_› (⟨‹_›, (by first | exact fun y h0 hy => absurd h0 (by first | omega | (dsimp only; omega)) | exact prev_fn ‹_› ‹_›)⟩)⟩⟩, by first | exact rfl | omega | (dsimp only; omega) | (simp only [List.length_append, List.length_cons, List.length_nil, List.length_set]; omega) | (simp; done) | (simp; omega), Wk.mk' [] (by kernel_rfl) (by kernel_rfl) (by kernel_rfl)⟩
  ·replace hb4 := of_decide_eq_false (hb4)
   refine X.exit ?_
   refine X.seq (rs 4 ?_)
   rcases Bool.eq_false_or_eq_true (decide ((((l.map d38).length : Int) : Int) ≤ 12)) with hb14 | hb14
   ·refine aT 33 hb14 ?_
    refine aT 34 hb14 ?_
    replace hb14 := of_decide_eq_true (hb14)
    refine go 1 ?_
    obtain ⟨r15, hr17, hf16⟩ := i_Wealth l (by assumption)
    replace hr17 := hr17.symm; subst hr17
    refine ca hf16 Try.func182 ?_
    refine go 3 ?_
    refine ek ⟨[(2, bV (decide (((wealth l) : Int) ≤ 1000000)))], [], 288⟩ ?_
    refine X.ret ?_
    exact ⟨trivial, _, _, ⟨decide (((wealth l) : Int) ≤ 1000000), (by first | exact (fls (fun h => upto_no (by omega) (by omega) ‹_› (fun hr => by first | exact tf hr.1 ‹_› | exact tf (hr.2 _ (by omega) ‹_›) ‹_›) h.1)) | exact (fls (fun h => by have := h.2; omega)) | exact (dcd (by simp only [decide_eq_true_eq, List.length_map]; exact ⟨fun h => ⟨upto_all hA (by omega), by omega, h⟩, fun h => h.2.2⟩))), rfl, rfl⟩, mkr⟩
   ·refine aF 33 hb14 ?_
    refine aF 34 hb14 ?_
    replace hb14 := of_decide_eq_false (hb14)
    refine go 5 ?_
    refine ek ⟨[(2, bV false)], [], 288⟩ ?_
    refine X.ret ?_
    exact ⟨trivial, _, _, ⟨false, (by first | exact (fls (fun h => upto_no (by omega) (by omega) ‹_› (fun hr => by first | exact tf hr.1 ‹_› | exact tf (hr.2 _ (by omega) ‹_›) ‹_›) h.1)) | exact (fls (fun h => by have := h.2; omega)) | exact (dcd (by simp only [decide_eq_true_eq, List.length_map]; exact ⟨fun h => ⟨upto_all hA (by omega), by omega, h⟩, fun h => h.2.2⟩))), rfl, rfl⟩, mkr⟩
 obtain ⟨_, _, ⟨r0, h1_, rfl, rfl⟩, hf⟩ := key
 exact ⟨r0, h1_, hf⟩

theorem s_LedgerOk (g : S27) (hg : acsSm g.f1) : ∃ r0 : Bool, (r0 = ledgerOk g) ∧ Fn Try.prog 87 [.e (.agg [.d (.v (.int .i64 g.f0)), .d (.sl (g.f1.map d38))])] (lookH []) (bV r0) (lookH []) := by
 have key : ∃ x' h', ((fun x' h' => ∃ r0 : Bool, (r0 = ledgerOk g) ∧ x' = bV r0 ∧ h' = [])) x' h' ∧ Fn Try.prog 87 [.e (.agg [.d (.v (.int .i64 g.f0)), .d (.sl (g.f1.map d38))])] (lookH []) x' (lookH h') := by
  refine Fn.bodyX (N := 11) hτ Try.func87 rfl rfl rfl rfl ?_
  refine sk ⟨[(1, .pt 64 0 0)], [(64, some (.box [.d (.v (.int .i64 g.f0)), .d (.sl (g.f1.map d38))]))], 96⟩ ?_
  refine X.seq (rs 2 ?_)
  obtain ⟨r1, hr3, hf2⟩ := s_l1In g.f0 0 900
  replace hr3 := hr3.symm; subst hr3
  refine ca hf2 Try.func146 ?_
  refine go 1 ?_
  rcases Bool.eq_false_or_eq_true ((inR g.f0 0 900)) with hb5 | hb5
  ·refine aT 5 hb5 ?_
   refine aT 6 hb5 ?_
   replace hb5 := inR_yes (hb5)
   refine go 2 ?_
   obtain ⟨r6, hr8, hf7⟩ := s_AcctsOk g.f1 (by assumption)
   replace hr8 := hr8.symm; subst hr8
   refine ca hf7 Try.func147 ?_
   refine go 2 ?_
   refine ek ⟨[(2, bV (acctsOk g.f1))], [], 240⟩ ?_
   refine X.ret ?_
   exact ⟨trivial, _, _, ⟨(acctsOk g.f1), (by rw [Bool.eq_iff_iff]; simp only [ledgerOk, Bool.and_eq_true, Bool.or_eq_true, inR_iff, decide_eq_true_eq, beq_iff_eq, Bool.false_eq_true, false_iff, true_iff, List.length_map]; first | (intro h; omega) | (intro h; simp_all; done) | (simp_all; done) | (simp_all; omega) | (constructor <;> intro h <;> (first | (simp_all; done) | (simp_all; omega) | omega))), rfl, rfl⟩, mkr⟩
  ·refine aF 5 hb5 ?_
   refine aF 6 hb5 ?_
   replace hb5 := inR_no (hb5)
   refine go 5 ?_
   refine ek ⟨[(2, bV false)], [], 240⟩ ?_
   refine X.ret ?_
   exact ⟨trivial, _, _, ⟨false, (by rw [Bool.eq_iff_iff]; simp only [ledgerOk, Bool.and_eq_true, Bool.or_eq_true, inR_iff, decide_eq_true_eq, beq_iff_eq, Bool.false_eq_true, false_iff, true_iff, List.length_map]; first | (intro h; omega) | (intro h; simp_all; done) | (simp_all; done) | (simp_all; omega) | (constructor <;> intro h <;> (first | (simp_all; done) | (simp_all; omega) | omega))), rfl, rfl⟩, mkr⟩
 obtain ⟨_, _, ⟨r0, h1_, rfl, rfl⟩, hf⟩ := key
 exact ⟨r0, h1_, hf⟩

theorem i_LedgerOk (g : S27) (hg : acsSm g.f1) : ∃ r0 : Bool, (r0 = ledgerOk g) ∧ Fn Try.prog 91 [.e (.agg [.d (.v (.int .i64 g.f0)), .d (.sl (g.f1.map d38))])] (lookH []) (bV r0) (lookH []) := by
 have key : ∃ x' h', ((fun x' h' => ∃ r0 : Bool, (r0 = ledgerOk g) ∧ x' = bV r0 ∧ h' = [])) x' h' ∧ Fn Try.prog 91 [.e (.agg [.d (.v (.int .i64 g.f0)), .d (.sl (g.f1.map d38))])] (lookH []) x' (lookH h') := by
  refine Fn.bodyX (N := 11) hτ Try.func91 rfl rfl rfl rfl ?_
  refine sk ⟨[(1, .pt 64 0 0)], [(64, some (.box [.d (.v (.int .i64 g.f0)), .d (.sl (g.f1.map d38))]))], 96⟩ ?_
  refine X.seq (rs 2 ?_)
  obtain ⟨r1, hr3, hf2⟩ := i_inRange g.f0 0 900
  replace hr3 := hr3.symm; subst hr3
  refine ca hf2 Try.func149 ?_
  refine go 1 ?_
  rcases Bool.eq_false_or_eq_true ((inR g.f0 0 900)) with hb5 | hb5
  ·refine aT 5 hb5 ?_
   refine aT 6 hb5 ?_
   replace hb5 := inR_yes (hb5)
   refine go 2 ?_
   obtain ⟨r6, hr8, hf7⟩ := i_AcctsOk g.f1 (by assumption)
   replace hr8 := hr8.symm; subst hr8
   refine ca hf7 Try.func150 ?_
   refine go 2 ?_
   refine ek ⟨[(2, bV (acctsOk g.f1))], [], 240⟩ ?_
   refine X.ret ?_
   exact ⟨trivial, _, _, ⟨(acctsOk g.f1), (by rw [Bool.eq_iff_iff]; simp only [ledgerOk, Bool.and_eq_true, Bool.or_eq_true, inR_iff, decide_eq_true_eq, beq_iff_eq, Bool.false_eq_true, false_iff, true_iff, List.length_map]; first | (intro h; omega) | (intro h; simp_all; done) | (simp_all; done) | (simp_all; omega) | (constructor <;> intro h <;> (first | (simp_all; done) | (simp_all; omega) | omega))), rfl, rfl⟩, mkr⟩
  ·refine aF 5 hb5 ?_
   refine aF 6 hb5 ?_
   replace hb5 := inR_no (hb5)
   refine go 5 ?_
   refine ek ⟨[(2, bV false)], [], 240⟩ ?_
   refine X.ret ?_
   exact ⟨trivial, _, _, ⟨false, (by rw [Bool.eq_iff_iff]; simp only [ledgerOk, Bool.and_eq_true, Bool.or_eq_true, inR_iff, decide_eq_true_eq, beq_iff_eq, Bool.false_eq_true, false_iff, true_iff, List.length_map]; first | (intro h; omega) | (intro h; simp_all; done) | (simp_all; done) | (simp_all; omega) | (constructor <;> intro h <;> (first | (simp_all; done) | (simp_all; omega) | omega))), rfl, rfl⟩, mkr⟩
 obtain ⟨_, _, ⟨r0, h1_, rfl, rfl⟩, hf⟩ := key
 exact ⟨r0, h1_, hf⟩
end Go.Proofs.Ytggmeldoecnkaaa.Av
