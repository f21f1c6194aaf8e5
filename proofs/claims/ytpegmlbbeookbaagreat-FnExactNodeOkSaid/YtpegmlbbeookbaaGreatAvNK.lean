/-
What functions of the program come to, walked one by one.
Conditions: none beside those that each theorem names.
-/
import Derived.Test.YtpegmlbbeookbaaGreatAvNG
set_option linter.unusedVariables false
set_option linter.unusedSimpArgs false
namespace Go.Proofs.YtpegmlbbeookbaaGreat.Av
open Go.RowKit
set_option maxRecDepth 20000
set_option maxHeartbeats 4000000
set_option maxHeartbeats 16000000
theorem nd_ff {n : S53} (h : ¬ nodeP n := by intro h; obtain ⟨h1, h2, h3, h4, h5, h6, h7, h8, h9, h10, h11, h12, h13, h14, h15⟩ := h; first | omega | exact tf h1 ‹_› | exact tf h2 ‹_› | exact tf (h4 (by simp only [List.length_map] at *; omega)) ‹_› | exact tf h5 ‹_› | exact tf h9 ‹_› | exact tf h10 ‹_› | exact tf h14 ‹_› | exact absurd h3 ‹_› | exact absurd (h15 _ ‹_›) ‹_› | (simp only [List.length_map] at *; omega)) : false = nodeOk n := fls h
theorem nd_tt {n : S53} (h : nodeP n := by exact ⟨‹_›, ‹_›, (by first | assumption | omega), (by first | exact fun _ => ‹_› | exact fun h => absurd h (by simp only [List.length_map] at *; omega)), ‹_›, by omega, by omega, by omega, ‹_›, ‹_›, by omega, by omega, (by simp only [List.length_map] at *; omega), ‹_›, (by first | exact head_no (by simp only [List.length_map] at *; omega) | exact at_fn ‹_› (by assumption))⟩) : true = nodeOk n := tru h
theorem nd_d1 {n : S53} {p : Bool} (h1 : p = true → nodeP n := by exact (fun h => ⟨‹_›, ‹_›, (by first | assumption | omega), (by first | exact fun _ => ‹_› | exact fun h => absurd h (by simp only [List.length_map] at *; omega)), ‹_›, by omega, by omega, by omega, ‹_›, ‹_›, by omega, by omega, (by simp only [decide_eq_true_eq, List.length_map] at *; omega), ‹_›, (by first | exact head_no (by simp only [List.length_map] at *; omega) | exact at_fn ‹_› (by assumption))⟩)) (h2 : nodeP n → p = true := by exact (fun h => (by have q := h.2.2.2.2.2.2.2.2.2.2.2.2.1; simp only [decide_eq_true_eq, List.length_map] at *; omega))) : p = nodeOk n := dcd ⟨h1, h2⟩
theorem nd_d2 {n : S53} {p : Bool} (h1 : p = true → nodeP n := by exact (fun h => ⟨‹_›, ‹_›, (by first | assumption | omega), (by first | exact fun _ => ‹_› | exact fun h => absurd h (by simp only [List.length_map] at *; omega)), ‹_›, by omega, by omega, by omega, ‹_›, ‹_›, by omega, by omega, (by simp only [List.length_map] at *; omega), ‹_›, (at_fn ‹_› (by simpa using h))⟩)) (h2 : nodeP n → p = true := by exact (fun h => beq_iff_eq.2 (h.2.2.2.2.2.2.2.2.2.2.2.2.2.2 _ ‹_›))) : p = nodeOk n := dcd ⟨h1, h2⟩
theorem s_NodeOk (n : S53) (hn : Sm53 n) : ∃ r0 : Bool, (r0 = nodeOk n) ∧ Fn Tryz.prog 5 [.e (.agg (cD (d53 n)))] (lookH []) (bV r0) (lookH []) := by
 have key : ∃ x' h', ((fun x' h' => ∃ r0 : Bool, (r0 = nodeOk n) ∧ x' = bV r0 ∧ h' = [])) x' h' ∧ Fn Tryz.prog 5 [.e (.agg (cD (d53 n)))] (lookH []) x' (lookH h') := by
  refine Fn.bodyX (N := 128) hτ Tryz.func5 rfl rfl rfl rfl ?_
  refine sk ⟨[(1, .pt 64 0 0)], [(64, some (.box (cD (d53 n))))], 96⟩ ?_
  refine X.seq ?_
  refine X.seq ?_
  obtain ⟨k0, k2, k3, k4, k7, k8, k10, k11, k12, k13, k14⟩ := hn
  have k3l := k3.1
  have k4l := k4.1
  have k10l := k10.1
  have k11l := k11.1
  have k14l := k14.1
  refine rs 2 ?_
  obtain ⟨r1, hr3, hf2⟩ := s_NameOk n.f0 (by assumption)
  replace hr3 := hr3.symm; subst hr3
  refine ca hf2 Tryz.func19 ?_
  refine go 2 ?_
  rcases Bool.eq_false_or_eq_true (!(nameOk n.f0)) with hb5 | hb5
  ·refine aT 6 hb5 ?_
   refine aT 7 hb5 ?_
   replace hb5 := bnot_yes (hb5)
   refine go 53 ?_
   refine ek ⟨[(1, .pt 64 0 0), (60, bV true)], [(64, some (.box (cD (d53 n))))], 1024⟩ ?_
   refine X.ifT (by kernel_rfl) ?_
   refine sk ⟨[(2, bV false)], [], 1040⟩ ?_
   refine X.ret ?_
   exact ⟨trivial, _, _, ⟨false, (by first | exact nd_ff | exact nd_tt | exact nd_d1 | exact nd_d2), rfl, rfl⟩, mkr⟩
  ·refine aF 6 hb5 ?_
   refine aF 7 hb5 ?_
   replace hb5 := bnot_no (hb5)
   refine go 2 ?_
   obtain ⟨r6, hr8, hf7⟩ := s_LedgerOk n.f2 (by assumption)
   replace hr8 := hr8.symm; subst hr8
   refine ca hf7 Tryz.func20 ?_
   refine go 3 ?_
   rcases Bool.eq_false_or_eq_true (!(ledgerOk n.f2)) with hb10 | hb10
   ·refine aT 11 hb10 ?_
    refine aT 12 hb10 ?_
    refine aT 13 hb10 ?_
    replace hb10 := bnot_yes (hb10)
    refine go 47 ?_
    refine ek ⟨[(1, .pt 64 0 0), (60, bV true)], [(64, some (.box (cD (d53 n))))], 1024⟩ ?_
    refine X.ifT (by kernel_rfl) ?_
    refine sk ⟨[(2, bV false)], [], 1040⟩ ?_
    refine X.ret ?_
    exact ⟨trivial, _, _, ⟨false, (by first | exact nd_ff | exact nd_tt | exact nd_d1 | exact nd_d2), rfl, rfl⟩, mkr⟩
   ·refine aF 11 hb10 ?_
    refine aF 12 hb10 ?_
    refine aF 13 hb10 ?_
    replace hb10 := bnot_no (hb10)
    refine go 8 ?_
    rcases Bool.eq_false_or_eq_true ((n.f2.f0 != n.f1)) with hb11 | hb11
    ·refine aT 19 hb11 ?_
     refine aT 20 hb11 ?_
     refine aT 21 hb11 ?_
     replace hb11 := bne_iff_ne.1 (hb11)
     refine go 39 ?_
     refine ek ⟨[(1, .pt 64 0 0), (60, bV true)], [(64, some (.box (cD (d53 n))))], 1024⟩ ?_
     refine X.ifT (by kernel_rfl) ?_
     refine sk ⟨[(2, bV false)], [], 1040⟩ ?_
     refine X.ret ?_
     exact ⟨trivial, _, _, ⟨false, (by first | exact nd_ff | exact nd_tt | exact nd_d1 | exact nd_d2), rfl, rfl⟩, mkr⟩
    ·refine aF 19 hb11 ?_
     refine aF 20 hb11 ?_
     refine aF 21 hb11 ?_
     replace hb11 := bne_eq_false_iff_eq.1 (hb11)
     refine go 2 ?_
     obtain ⟨r12, hr14, hf13⟩ := s_PoolOk n.f13 (by assumption)
     replace hr14 := hr14.symm; subst hr14
     refine ca hf13 Tryz.func21 ?_
     refine go 3 ?_
     rcases Bool.eq_false_or_eq_true (!(poolOk n.f13)) with hb16 | hb16
     ·refine aT 25 hb16 ?_
      refine aT 26 hb16 ?_
      refine aT 27 hb16 ?_
      replace hb16 := bnot_yes (hb16)
      refine go 33 ?_
      refine ek ⟨[(1, .pt 64 0 0), (60, bV true)], [(64, some (.box (cD (d53 n))))], 1024⟩ ?_
      refine X.ifT (by kernel_rfl) ?_
      refine sk ⟨[(2, bV false)], [], 1040⟩ ?_
      refine X.ret ?_
      exact ⟨trivial, _, _, ⟨false, (by first | exact nd_ff | exact nd_tt | exact nd_d1 | exact nd_d2), rfl, rfl⟩, mkr⟩
     ·refine aF 25 hb16 ?_
      refine aF 26 hb16 ?_
      refine aF 27 hb16 ?_
      replace hb16 := bnot_no (hb16)
      refine go 5 ?_
      have el17 : (n.f3.map d121).length = n.f3.length := List.length_map ..
      rcases Bool.eq_false_or_eq_true (decide ((((n.f3.map d121).length : Int) : Int) > 0)) with hb18 | hb18
      ·refine aT 31 hb18 ?_
       refine aT 32 hb18 ?_
       replace hb18 := of_decide_eq_true (hb18)
       refine go 2 ?_
       obtain ⟨r19, hr21, hf20⟩ := s_SetOk n.f3 (by assumption)
       replace hr21 := hr21.symm; subst hr21
       refine ca hf20 Tryz.func22 ?_
       refine go 4 ?_
       rcases Bool.eq_false_or_eq_true (!(setOk n.f3)) with hb23 | hb23
       ·refine aT 36 hb23 ?_
        refine aT 37 hb23 ?_
        refine aT 38 hb23 ?_
        refine aT 39 hb23 ?_
        replace hb23 := bnot_yes (hb23)
        refine go 21 ?_
        refine ek ⟨[(1, .pt 64 0 0), (60, bV true)], [(64, some (.box (cD (d53 n))))], 1024⟩ ?_
        refine X.ifT (by kernel_rfl) ?_
        refine sk ⟨[(2, bV false)], [], 1040⟩ ?_
        refine X.ret ?_
        exact ⟨trivial, _, _, ⟨false, (by first | exact nd_ff | exact nd_tt | exact nd_d1 | exact nd_d2), rfl, rfl⟩, mkr⟩
       ·refine aF 36 hb23 ?_
        refine aF 37 hb23 ?_
        refine aF 38 hb23 ?_
        refine aF 39 hb23 ?_
        replace hb23 := bnot_no (hb23)
        refine go 2 ?_
        obtain ⟨r24, hr26, hf25⟩ := s_TreeOk n.f4 (by assumption)
        replace hr26 := hr26.symm; subst hr26
        refine ca hf25 Tryz.func23 ?_
        refine go 3 ?_
        rcases Bool.eq_false_or_eq_true (!(treeOk n.f4)) with hb28 | hb28
        ·refine aT 43 hb28 ?_
         refine aT 44 hb28 ?_
         refine aT 45 hb28 ?_
         replace hb28 := bnot_yes (hb28)
         refine go 15 ?_
         refine ek ⟨[(1, .pt 64 0 0), (60, bV true)], [(64, some (.box (cD (d53 n))))], 1024⟩ ?_
         refine X.ifT (by kernel_rfl) ?_
         refine sk ⟨[(2, bV false)], [], 1040⟩ ?_
         refine X.ret ?_
         exact ⟨trivial, _, _, ⟨false, (by first | exact nd_ff | exact nd_tt | exact nd_d1 | exact nd_d2), rfl, rfl⟩, mkr⟩
        ·refine aF 43 hb28 ?_
         refine aF 44 hb28 ?_
         refine aF 45 hb28 ?_
         replace hb28 := bnot_no (hb28)
         refine go 5 ?_
         have el29 : (n.f4.map d73).length = n.f4.length := List.length_map ..
         rcases Bool.eq_false_or_eq_true (decide ((((n.f4.map d73).length : Int) : Int) > 0)) with hb30 | hb30
         ·refine aT 49 hb30 ?_
          refine aT 50 hb30 ?_
          replace hb30 := of_decide_eq_true (hb30)
          refine go 2 ?_
          obtain ⟨x31, hx31⟩ : ∃ x, n.f4[Int.toNat 0]? = some x := ⟨_, List.getElem?_eq_getElem (by first | omega | (simp; done) | (simp; omega))⟩
          refine CH.idx hτ (d73 x31) (rows := (n.f4.map d73)) (n := 0) (sz := 14) (by kernel_rfl) (by kernel_rfl) (by first | omega | (simp; done) | (simp; omega)) (by rw [List.getElem?_map, hx31]; rfl) (by kernel_rfl) ?_
          refine go 7 ?_
          refine ek ⟨[(1, .pt 64 0 0), (60, bV (x31.f1 != n.f1))], [(64, some (.box (cD (d53 n))))], 1024⟩ ?_
          refine if_ (b := (x31.f1 != n.f1)) (fun hb32 => ?_) (fun hb32 => ?_)
          ·replace hb32 := bne_iff_ne.1 (hb32)
           refine sk ⟨[(2, bV false)], [], 1040⟩ ?_
           refine X.ret ?_
           exact ⟨trivial, _, _, ⟨false, (by first | exact nd_ff | exact nd_tt | exact nd_d1 | exact nd_d2), rfl, rfl⟩, mkr⟩
          ·replace hb32 := bne_eq_false_iff_eq.1 (hb32)
           refine X.skip ?_
           refine X.seq (rs 2 ?_)
           obtain ⟨r33, hr35, hf34⟩ := s_l1In n.f5 1 10000
           replace hr35 := hr35.symm; subst hr35
           refine ca hf34 Tryz.func24 ?_
           refine go 1 ?_
           rcases Bool.eq_false_or_eq_true ((inR n.f5 1 10000)) with hb37 | hb37
           ·refine aT 63 hb37 ?_
            refine aT 64 hb37 ?_
            replace hb37 := inR_yes (hb37)
            refine go 8 ?_
            rcases Bool.eq_false_or_eq_true (decide ((n.f7.f0 : Int) < n.f5)) with hb38 | hb38
            ·refine aT 70 hb38 ?_
             refine aT 71 hb38 ?_
             refine aT 72 hb38 ?_
             replace hb38 := of_decide_eq_true (hb38)
             refine go 8 ?_
             rcases Bool.eq_false_or_eq_true (decide ((n.f8.f0 : Int) < n.f5)) with hb39 | hb39
             ·refine aT 78 hb39 ?_
              refine aT 79 hb39 ?_
              refine aT 80 hb39 ?_
              replace hb39 := of_decide_eq_true (hb39)
              refine go 2 ?_
              obtain ⟨r40, hr42, hf41⟩ := s_l1In n.f6 0 10000
              replace hr42 := hr42.symm; subst hr42
              refine ca hf41 Tryz.func24 ?_
              refine go 2 ?_
              rcases Bool.eq_false_or_eq_true ((inR n.f6 0 10000)) with hb44 | hb44
              ·refine aT 83 hb44 ?_
               refine aT 84 hb44 ?_
               refine aT 85 hb44 ?_
               replace hb44 := inR_yes (hb44)
               refine go 2 ?_
               obtain ⟨r45, hr47, hf46⟩ := s_l1In n.f9 0 10000
               replace hr47 := hr47.symm; subst hr47
               refine ca hf46 Tryz.func24 ?_
               refine go 2 ?_
               rcases Bool.eq_false_or_eq_true ((inR n.f9 0 10000)) with hb49 | hb49
               ·refine aT 88 hb49 ?_
                refine aT 89 hb49 ?_
                refine aT 90 hb49 ?_
                replace hb49 := inR_yes (hb49)
                refine go 4 ?_
                obtain ⟨r50, hr52, hf51⟩ := s_QcOk n.f3 n.f7 (by first | assumption | omega) (by assumption)
                replace hr52 := hr52.symm; subst hr52
                refine ca hf51 Tryz.func25 ?_
                refine go 2 ?_
                rcases Bool.eq_false_or_eq_true ((qcOk n.f3 n.f7)) with hb54 | hb54
                ·refine aT 95 hb54 ?_
                 refine aT 96 hb54 ?_
                 refine aT 97 hb54 ?_
                 refine go 4 ?_
                 obtain ⟨r55, hr57, hf56⟩ := s_TcOk n.f3 n.f8 (by first | assumption | omega) (by assumption)
                 replace hr57 := hr57.symm; subst hr57
                 refine ca hf56 Tryz.func26 ?_
                 refine go 2 ?_
                 rcases Bool.eq_false_or_eq_true ((tcOk n.f3 n.f8)) with hb59 | hb59
                 ·refine aT 102 hb59 ?_
                  refine aT 103 hb59 ?_
                  refine aT 104 hb59 ?_
                  refine go 6 ?_
                  have el60 : (n.f10.map d131).length = n.f10.length := List.length_map ..
                  rcases Bool.eq_false_or_eq_true (decide ((((n.f10.map d131).length : Int) : Int) ≤ 1000)) with hb61 | hb61
                  ·refine aT 108 hb61 ?_
                   refine aT 109 hb61 ?_
                   refine aT 110 hb61 ?_
                   replace hb61 := of_decide_eq_true (hb61)
                   refine go 6 ?_
                   have el62 : (n.f11.map d133).length = n.f11.length := List.length_map ..
                   rcases Bool.eq_false_or_eq_true (decide ((((n.f11.map d133).length : Int) : Int) ≤ 1000)) with hb63 | hb63
                   ·refine aT 114 hb63 ?_
                    refine aT 115 hb63 ?_
                    refine aT 116 hb63 ?_
                    replace hb63 := of_decide_eq_true (hb63)
                    refine go 6 ?_
                    have el64 : (n.f12.map dI).length = n.f12.length := List.length_map ..
                    rcases Bool.eq_false_or_eq_true (decide ((((n.f12.map dI).length : Int) : Int) ≤ 200)) with hb65 | hb65
                    ·refine aT 120 hb65 ?_
                     refine aT 121 hb65 ?_
                     refine aT 122 hb65 ?_
                     replace hb65 := of_decide_eq_true (hb65)
                     refine go 6 ?_
                     have el66 : (n.f14.map d137).length = n.f14.length := List.length_map ..
                     refine ek ⟨[(2, bV (decide ((((n.f14.map d137).length : Int) : Int) ≤ 200)))], [], 2112⟩ ?_
                     refine X.ret ?_
                     exact ⟨trivial, _, _, ⟨decide ((((n.f14.map d137).length : Int) : Int) ≤ 200), (by first | exact nd_ff | exact nd_tt | exact nd_d1 | exact nd_d2), rfl, rfl⟩, mkr⟩
                    ·refine aF 120 hb65 ?_
                     refine aF 121 hb65 ?_
                     refine aF 122 hb65 ?_
                     replace hb65 := of_decide_eq_false (hb65)
                     refine go 6 ?_
                     refine ek ⟨[(2, bV false)], [], 2112⟩ ?_
                     refine X.ret ?_
                     exact ⟨trivial, _, _, ⟨false, (by first | exact nd_ff | exact nd_tt | exact nd_d1 | exact nd_d2), rfl, rfl⟩, mkr⟩
                   ·refine aF 114 hb63 ?_
                    refine aF 115 hb63 ?_
                    refine aF 116 hb63 ?_
                    replace hb63 := of_decide_eq_false (hb63)
                    refine go 12 ?_
                    refine ek ⟨[(2, bV false)], [], 2112⟩ ?_
                    refine X.ret ?_
                    exact ⟨trivial, _, _, ⟨false, (by first | exact nd_ff | exact nd_tt | exact nd_d1 | exact nd_d2), rfl, rfl⟩, mkr⟩
                  ·refine aF 108 hb61 ?_
                   refine aF 109 hb61 ?_
                   refine aF 110 hb61 ?_
                   replace hb61 := of_decide_eq_false (hb61)
                   refine go 18 ?_
                   refine ek ⟨[(2, bV false)], [], 2112⟩ ?_
                   refine X.ret ?_
                   exact ⟨trivial, _, _, ⟨false, (by first | exact nd_ff | exact nd_tt | exact nd_d1 | exact nd_d2), rfl, rfl⟩, mkr⟩
                 ·refine aF 102 hb59 ?_
                  refine aF 103 hb59 ?_
                  refine aF 104 hb59 ?_
                  refine go 24 ?_
                  refine ek ⟨[(2, bV false)], [], 2112⟩ ?_
                  refine X.ret ?_
                  exact ⟨trivial, _, _, ⟨false, (by first | exact nd_ff | exact nd_tt | exact nd_d1 | exact nd_d2), rfl, rfl⟩, mkr⟩
                ·refine aF 95 hb54 ?_
                 refine aF 96 hb54 ?_
                 refine aF 97 hb54 ?_
                 refine go 31 ?_
                 refine ek ⟨[(2, bV false)], [], 2112⟩ ?_
                 refine X.ret ?_
                 exact ⟨trivial, _, _, ⟨false, (by first | exact nd_ff | exact nd_tt | exact nd_d1 | exact nd_d2), rfl, rfl⟩, mkr⟩
               ·refine aF 88 hb49 ?_
                refine aF 89 hb49 ?_
                refine aF 90 hb49 ?_
                replace hb49 := inR_no (hb49)
                refine go 38 ?_
                refine ek ⟨[(2, bV false)], [], 2112⟩ ?_
                refine X.ret ?_
                exact ⟨trivial, _, _, ⟨false, (by first | exact nd_ff | exact nd_tt | exact nd_d1 | exact nd_d2), rfl, rfl⟩, mkr⟩
              ·refine aF 83 hb44 ?_
               refine aF 84 hb44 ?_
               refine aF 85 hb44 ?_
               replace hb44 := inR_no (hb44)
               refine go 43 ?_
               refine ek ⟨[(2, bV false)], [], 2112⟩ ?_
               refine X.ret ?_
               exact ⟨trivial, _, _, ⟨false, (by first | exact nd_ff | exact nd_tt | exact nd_d1 | exact nd_d2), rfl, rfl⟩, mkr⟩
             ·refine aF 78 hb39 ?_
              refine aF 79 hb39 ?_
              refine aF 80 hb39 ?_
              replace hb39 := of_decide_eq_false (hb39)
              refine go 48 ?_
              refine ek ⟨[(2, bV false)], [], 2112⟩ ?_
              refine X.ret ?_
              exact ⟨trivial, _, _, ⟨false, (by first | exact nd_ff | exact nd_tt | exact nd_d1 | exact nd_d2), rfl, rfl⟩, mkr⟩
            ·refine aF 70 hb38 ?_
             refine aF 71 hb38 ?_
             refine aF 72 hb38 ?_
             replace hb38 := of_decide_eq_false (hb38)
             refine go 56 ?_
             refine ek ⟨[(2, bV false)], [], 2112⟩ ?_
             refine X.ret ?_
             exact ⟨trivial, _, _, ⟨false, (by first | exact nd_ff | exact nd_tt | exact nd_d1 | exact nd_d2), rfl, rfl⟩, mkr⟩
           ·refine aF 63 hb37 ?_
            refine aF 64 hb37 ?_
            replace hb37 := inR_no (hb37)
            refine go 64 ?_
            refine ek ⟨[(2, bV false)], [], 2112⟩ ?_
            refine X.ret ?_
            exact ⟨trivial, _, _, ⟨false, (by first | exact nd_ff | exact nd_tt | exact nd_d1 | exact nd_d2), rfl, rfl⟩, mkr⟩
         ·refine aF 49 hb30 ?_
          refine aF 50 hb30 ?_
          replace hb30 := of_decide_eq_false (hb30)
          refine go 10 ?_
          refine ek ⟨[(1, .pt 64 0 0), (60, bV false)], [(64, some (.box (cD (d53 n))))], 1024⟩ ?_
          refine X.ifF (by kernel_rfl) ?_
          refine X.skip ?_
          refine X.seq (rs 2 ?_)
          obtain ⟨r67, hr69, hf68⟩ := s_l1In n.f5 1 10000
          replace hr69 := hr69.symm; subst hr69
          refine ca hf68 Tryz.func24 ?_
          refine go 1 ?_
          rcases Bool.eq_false_or_eq_true ((inR n.f5 1 10000)) with hb71 | hb71
          ·refine aT 63 hb71 ?_
           refine aT 64 hb71 ?_
           replace hb71 := inR_yes (hb71)
           refine go 8 ?_
           rcases Bool.eq_false_or_eq_true (decide ((n.f7.f0 : Int) < n.f5)) with hb72 | hb72
           ·refine aT 70 hb72 ?_
            refine aT 71 hb72 ?_
            refine aT 72 hb72 ?_
            replace hb72 := of_decide_eq_true (hb72)
            refine go 8 ?_
            rcases Bool.eq_false_or_eq_true (decide ((n.f8.f0 : Int) < n.f5)) with hb73 | hb73
            ·refine aT 78 hb73 ?_
             refine aT 79 hb73 ?_
             refine aT 80 hb73 ?_
             replace hb73 := of_decide_eq_true (hb73)
             refine go 2 ?_
             obtain ⟨r74, hr76, hf75⟩ := s_l1In n.f6 0 10000
             replace hr76 := hr76.symm; subst hr76
             refine ca hf75 Tryz.func24 ?_
             refine go 2 ?_
             rcases Bool.eq_false_or_eq_true ((inR n.f6 0 10000)) with hb78 | hb78
             ·refine aT 83 hb78 ?_
              refine aT 84 hb78 ?_
              refine aT 85 hb78 ?_
              replace hb78 := inR_yes (hb78)
              refine go 2 ?_
              obtain ⟨r79, hr81, hf80⟩ := s_l1In n.f9 0 10000
              replace hr81 := hr81.symm; subst hr81
              refine ca hf80 Tryz.func24 ?_
              refine go 2 ?_
              rcases Bool.eq_false_or_eq_true ((inR n.f9 0 10000)) with hb83 | hb83
              ·refine aT 88 hb83 ?_
               refine aT 89 hb83 ?_
               refine aT 90 hb83 ?_
               replace hb83 := inR_yes (hb83)
               refine go 4 ?_
               obtain ⟨r84, hr86, hf85⟩ := s_QcOk n.f3 n.f7 (by first | assumption | omega) (by assumption)
               replace hr86 := hr86.symm; subst hr86
               refine ca hf85 Tryz.func25 ?_
               refine go 2 ?_
               rcases Bool.eq_false_or_eq_true ((qcOk n.f3 n.f7)) with hb88 | hb88
               ·refine aT 95 hb88 ?_
                refine aT 96 hb88 ?_
                refine aT 97 hb88 ?_
                refine go 4 ?_
                obtain ⟨r89, hr91, hf90⟩ := s_TcOk n.f3 n.f8 (by first | assumption | omega) (by assumption)
                replace hr91 := hr91.symm; subst hr91
                refine ca hf90 Tryz.func26 ?_
                refine go 2 ?_
                rcases Bool.eq_false_or_eq_true ((tcOk n.f3 n.f8)) with hb93 | hb93
                ·refine aT 102 hb93 ?_
                 refine aT 103 hb93 ?_
                 refine aT 104 hb93 ?_
                 refine go 6 ?_
                 have el94 : (n.f10.map d131).length = n.f10.length := List.length_map ..
                 rcases Bool.eq_false_or_eq_true (decide ((((n.f10.map d131).length : Int) : Int) ≤ 1000)) with hb95 | hb95
                 ·refine aT 108 hb95 ?_
                  refine aT 109 hb95 ?_
                  refine aT 110 hb95 ?_
                  replace hb95 := of_decide_eq_true (hb95)
                  refine go 6 ?_
                  have el96 : (n.f11.map d133).length = n.f11.length := List.length_map ..
                  rcases Bool.eq_false_or_eq_true (decide ((((n.f11.map d133).length : Int) : Int) ≤ 1000)) with hb97 | hb97
                  ·refine aT 114 hb97 ?_
                   refine aT 115 hb97 ?_
                   refine aT 116 hb97 ?_
                   replace hb97 := of_decide_eq_true (hb97)
                   refine go 6 ?_
                   have el98 : (n.f12.map dI).length = n.f12.length := List.length_map ..
                   rcases Bool.eq_false_or_eq_true (decide ((((n.f12.map dI).length : Int) : Int) ≤ 200)) with hb99 | hb99
                   ·refine aT 120 hb99 ?_
                    refine aT 121 hb99 ?_
                    refine aT 122 hb99 ?_
                    replace hb99 := of_decide_eq_true (hb99)
                    refine go 6 ?_
                    have el100 : (n.f14.map d137).length = n.f14.length := List.length_map ..
                    refine ek ⟨[(2, bV (decide ((((n.f14.map d137).length : Int) : Int) ≤ 200)))], [], 2112⟩ ?_
                    refine X.ret ?_
                    exact ⟨trivial, _, _, ⟨decide ((((n.f14.map d137).length : Int) : Int) ≤ 200), (by first | exact nd_ff | exact nd_tt | exact nd_d1 | exact nd_d2), rfl, rfl⟩, mkr⟩
                   ·refine aF 120 hb99 ?_
                    refine aF 121 hb99 ?_
                    refine aF 122 hb99 ?_
                    replace hb99 := of_decide_eq_false (hb99)
                    refine go 6 ?_
                    refine ek ⟨[(2, bV false)], [], 2112⟩ ?_
                    refine X.ret ?_
                    exact ⟨trivial, _, _, ⟨false, (by first | exact nd_ff | exact nd_tt | exact nd_d1 | exact nd_d2), rfl, rfl⟩, mkr⟩
                  ·refine aF 114 hb97 ?_
                   refine aF 115 hb97 ?_
                   refine aF 116 hb97 ?_
                   replace hb97 := of_decide_eq_false (hb97)
                   refine go 12 ?_
                   refine ek ⟨[(2, bV false)], [], 2112⟩ ?_
                   refine X.ret ?_
                   exact ⟨trivial, _, _, ⟨false, (by first | exact nd_ff | exact nd_tt | exact nd_d1 | exact nd_d2), rfl, rfl⟩, mkr⟩
                 ·refine aF 108 hb95 ?_
                  refine aF 109 hb95 ?_
                  refine aF 110 hb95 ?_
                  replace hb95 := of_decide_eq_false (hb95)
                  refine go 18 ?_
                  refine ek ⟨[(2, bV false)], [], 2112⟩ ?_
                  refine X.ret ?_
                  exact ⟨trivial, _, _, ⟨false, (by first | exact nd_ff | exact nd_tt | exact nd_d1 | exact nd_d2), rfl, rfl⟩, mkr⟩
                ·refine aF 102 hb93 ?_
                 refine aF 103 hb93 ?_
                 refine aF 104 hb93 ?_
                 refine go 24 ?_
                 refine ek ⟨[(2, bV false)], [], 2112⟩ ?_
                 refine X.ret ?_
                 exact ⟨trivial, _, _, ⟨false, (by first | exact nd_ff | exact nd_tt | exact nd_d1 | exact nd_d2), rfl, rfl⟩, mkr⟩
               ·refine aF 95 hb88 ?_
                refine aF 96 hb88 ?_
                refine aF 97 hb88 ?_
                refine go 31 ?_
                refine ek ⟨[(2, bV false)], [], 2112⟩ ?_
                refine X.ret ?_
                exact ⟨trivial, _, _, ⟨false, (by first | exact nd_ff | exact nd_tt | exact nd_d1 | exact nd_d2), rfl, rfl⟩, mkr⟩
              ·refine aF 88 hb83 ?_
               refine aF 89 hb83 ?_
               refine aF 90 hb83 ?_
               replace hb83 := inR_no (hb83)
               refine go 38 ?_
               refine ek ⟨[(2, bV false)], [], 2112⟩ ?_
               refine X.ret ?_
               exact ⟨trivial, _, _, ⟨false, (by first | exact nd_ff | exact nd_tt | exact nd_d1 | exact nd_d2), rfl, rfl⟩, mkr⟩
             ·refine aF 83 hb78 ?_
              refine aF 84 hb78 ?_
              refine aF 85 hb78 ?_
              replace hb78 := inR_no (hb78)
              refine go 43 ?_
              refine ek ⟨[(2, bV false)], [], 2112⟩ ?_
              refine X.ret ?_
              exact ⟨trivial, _, _, ⟨false, (by first | exact nd_ff | exact nd_tt | exact nd_d1 | exact nd_d2), rfl, rfl⟩, mkr⟩
            ·refine aF 78 hb73 ?_
             refine aF 79 hb73 ?_
             refine aF 80 hb73 ?_
             replace hb73 := of_decide_eq_false (hb73)
             refine go 48 ?_
             refine ek ⟨[(2, bV false)], [], 2112⟩ ?_
             refine X.ret ?_
             exact ⟨trivial, _, _, ⟨false, (by first | exact nd_ff | exact nd_tt | exact nd_d1 | exact nd_d2), rfl, rfl⟩, mkr⟩
           ·refine aF 70 hb72 ?_
            refine aF 71 hb72 ?_
            refine aF 72 hb72 ?_
            replace hb72 := of_decide_eq_false (hb72)
            refine go 56 ?_
            refine ek ⟨[(2, bV false)], [], 2112⟩ ?_
            refine X.ret ?_
            exact ⟨trivial, _, _, ⟨false, (by first | exact nd_ff | exact nd_tt | exact nd_d1 | exact nd_d2), rfl, rfl⟩, mkr⟩
          ·refine aF 63 hb71 ?_
           refine aF 64 hb71 ?_
           replace hb71 := inR_no (hb71)
           refine go 64 ?_
           refine ek ⟨[(2, bV false)], [], 2112⟩ ?_
           refine X.ret ?_
           exact ⟨trivial, _, _, ⟨false, (by first | exact nd_ff | exact nd_tt | exact nd_d1 | exact nd_d2), rfl, rfl⟩, mkr⟩
      ·refine aF 31 hb18 ?_
       refine aF 32 hb18 ?_
       replace hb18 := of_decide_eq_false (hb18)
       refine go 9 ?_
       obtain ⟨r101, hr103, hf102⟩ := s_TreeOk n.f4 (by assumption)
       replace hr103 := hr103.symm; subst hr103
       refine ca hf102 Tryz.func23 ?_
       refine go 3 ?_
       rcases Bool.eq_false_or_eq_true (!(treeOk n.f4)) with hb105 | hb105
       ·refine aT 43 hb105 ?_
        refine aT 44 hb105 ?_
        refine aT 45 hb105 ?_
        replace hb105 := bnot_yes (hb105)
        refine go 15 ?_
        refine ek ⟨[(1, .pt 64 0 0), (60, bV true)], [(64, some (.box (cD (d53 n))))], 1024⟩ ?_
        refine X.ifT (by kernel_rfl) ?_
        refine sk ⟨[(2, bV false)], [], 1040⟩ ?_
        refine X.ret ?_
        exact ⟨trivial, _, _, ⟨false, (by first | exact nd_ff | exact nd_tt | exact nd_d1 | exact nd_d2), rfl, rfl⟩, mkr⟩
       ·refine aF 43 hb105 ?_
        refine aF 44 hb105 ?_
        refine aF 45 hb105 ?_
        replace hb105 := bnot_no (hb105)
        refine go 5 ?_
        have el106 : (n.f4.map d73).length = n.f4.length := List.length_map ..
        rcases Bool.eq_false_or_eq_true (decide ((((n.f4.map d73).length : Int) : Int) > 0)) with hb107 | hb107
        ·refine aT 49 hb107 ?_
         refine aT 50 hb107 ?_
         replace hb107 := of_decide_eq_true (hb107)
         refine go 2 ?_
         obtain ⟨x108, hx108⟩ : ∃ x, n.f4[Int.toNat 0]? = some x := ⟨_, List.getElem?_eq_getElem (by first | omega | (simp; done) | (simp; omega))⟩
         refine CH.idx hτ (d73 x108) (rows := (n.f4.map d73)) (n := 0) (sz := 14) (by kernel_rfl) (by kernel_rfl) (by first | omega | (simp; done) | (simp; omega)) (by rw [List.getElem?_map, hx108]; rfl) (by kernel_rfl) ?_
         refine go 7 ?_
         refine ek ⟨[(1, .pt 64 0 0), (60, bV (x108.f1 != n.f1))], [(64, some (.box (cD (d53 n))))], 1024⟩ ?_
         refine if_ (b := (x108.f1 != n.f1)) (fun hb109 => ?_) (fun hb109 => ?_)
         ·replace hb109 := bne_iff_ne.1 (hb109)
          refine sk ⟨[(2, bV false)], [], 1040⟩ ?_
          refine X.ret ?_
          exact ⟨trivial, _, _, ⟨false, (by first | exact nd_ff | exact nd_tt | exact nd_d1 | exact nd_d2), rfl, rfl⟩, mkr⟩
         ·replace hb109 := bne_eq_false_iff_eq.1 (hb109)
          refine X.skip ?_
          refine X.seq (rs 2 ?_)
          obtain ⟨r110, hr112, hf111⟩ := s_l1In n.f5 1 10000
          replace hr112 := hr112.symm; subst hr112
          refine ca hf111 Tryz.func24 ?_
          refine go 1 ?_
          rcases Bool.eq_false_or_eq_true ((inR n.f5 1 10000)) with hb114 | hb114
          ·refine aT 63 hb114 ?_
           refine aT 64 hb114 ?_
           replace hb114 := inR_yes (hb114)
           refine go 8 ?_
           rcases Bool.eq_false_or_eq_true (decide ((n.f7.f0 : Int) < n.f5)) with hb115 | hb115
           ·refine aT 70 hb115 ?_
            refine aT 71 hb115 ?_
            refine aT 72 hb115 ?_
            replace hb115 := of_decide_eq_true (hb115)
            refine go 8 ?_
            rcases Bool.eq_false_or_eq_true (decide ((n.f8.f0 : Int) < n.f5)) with hb116 | hb116
            ·refine aT 78 hb116 ?_
             refine aT 79 hb116 ?_
             refine aT 80 hb116 ?_
             replace hb116 := of_decide_eq_true (hb116)
             refine go 2 ?_
             obtain ⟨r117, hr119, hf118⟩ := s_l1In n.f6 0 10000
             replace hr119 := hr119.symm; subst hr119
             refine ca hf118 Tryz.func24 ?_
             refine go 2 ?_
             rcases Bool.eq_false_or_eq_true ((inR n.f6 0 10000)) with hb121 | hb121
             ·refine aT 83 hb121 ?_
              refine aT 84 hb121 ?_
              refine aT 85 hb121 ?_
              replace hb121 := inR_yes (hb121)
              refine go 2 ?_
              obtain ⟨r122, hr124, hf123⟩ := s_l1In n.f9 0 10000
              replace hr124 := hr124.symm; subst hr124
              refine ca hf123 Tryz.func24 ?_
              refine go 2 ?_
              rcases Bool.eq_false_or_eq_true ((inR n.f9 0 10000)) with hb126 | hb126
              ·refine aT 88 hb126 ?_
               refine aT 89 hb126 ?_
               refine aT 90 hb126 ?_
               replace hb126 := inR_yes (hb126)
               refine go 4 ?_
               obtain ⟨r127, hr129, hf128⟩ := s_QcOk n.f3 n.f7 (by first | assumption | omega) (by assumption)
               replace hr129 := hr129.symm; subst hr129
               refine ca hf128 Tryz.func25 ?_
               refine go 2 ?_
               rcases Bool.eq_false_or_eq_true ((qcOk n.f3 n.f7)) with hb131 | hb131
               ·refine aT 95 hb131 ?_
                refine aT 96 hb131 ?_
                refine aT 97 hb131 ?_
                refine go 4 ?_
                obtain ⟨r132, hr134, hf133⟩ := s_TcOk n.f3 n.f8 (by first | assumption | omega) (by assumption)
                replace hr134 := hr134.symm; subst hr134
                refine ca hf133 Tryz.func26 ?_
                refine go 2 ?_
                rcases Bool.eq_false_or_eq_true ((tcOk n.f3 n.f8)) with hb136 | hb136
                ·refine aT 102 hb136 ?_
                 refine aT 103 hb136 ?_
                 refine aT 104 hb136 ?_
                 refine go 6 ?_
                 have el137 : (n.f10.map d131).length = n.f10.length := List.length_map ..
                 rcases Bool.eq_false_or_eq_true (decide ((((n.f10.map d131).length : Int) : Int) ≤ 1000)) with hb138 | hb138
                 ·refine aT 108 hb138 ?_
                  refine aT 109 hb138 ?_
                  refine aT 110 hb138 ?_
                  replace hb138 := of_decide_eq_true (hb138)
                  refine go 6 ?_
                  have el139 : (n.f11.map d133).length = n.f11.length := List.length_map ..
                  rcases Bool.eq_false_or_eq_true (decide ((((n.f11.map d133).length : Int) : Int) ≤ 1000)) with hb140 | hb140
                  ·refine aT 114 hb140 ?_
                   refine aT 115 hb140 ?_
                   refine aT 116 hb140 ?_
                   replace hb140 := of_decide_eq_true (hb140)
                   refine go 6 ?_
                   have el141 : (n.f12.map dI).length = n.f12.length := List.length_map ..
                   rcases Bool.eq_false_or_eq_true (decide ((((n.f12.map dI).length : Int) : Int) ≤ 200)) with hb142 | hb142
                   ·refine aT 120 hb142 ?_
                    refine aT 121 hb142 ?_
                    refine aT 122 hb142 ?_
                    replace hb142 := of_decide_eq_true (hb142)
                    refine go 6 ?_
                    have el143 : (n.f14.map d137).length = n.f14.length := List.length_map ..
                    refine ek ⟨[(2, bV (decide ((((n.f14.map d137).length : Int) : Int) ≤ 200)))], [], 2112⟩ ?_
                    refine X.ret ?_
                    exact ⟨trivial, _, _, ⟨decide ((((n.f14.map d137).length : Int) : Int) ≤ 200), (by first | exact nd_ff | exact nd_tt | exact nd_d1 | exact nd_d2), rfl, rfl⟩, mkr⟩
                   ·refine aF 120 hb142 ?_
                    refine aF 121 hb142 ?_
                    refine aF 122 hb142 ?_
                    replace hb142 := of_decide_eq_false (hb142)
                    refine go 6 ?_
                    refine ek ⟨[(2, bV false)], [], 2112⟩ ?_
                    refine X.ret ?_
                    exact ⟨trivial, _, _, ⟨false, (by first | exact nd_ff | exact nd_tt | exact nd_d1 | exact nd_d2), rfl, rfl⟩, mkr⟩
                  ·refine aF 114 hb140 ?_
                   refine aF 115 hb140 ?_
                   refine aF 116 hb140 ?_
                   replace hb140 := of_decide_eq_false (hb140)
                   refine go 12 ?_
                   refine ek ⟨[(2, bV false)], [], 2112⟩ ?_
                   refine X.ret ?_
                   exact ⟨trivial, _, _, ⟨false, (by first | exact nd_ff | exact nd_tt | exact nd_d1 | exact nd_d2), rfl, rfl⟩, mkr⟩
                 ·refine aF 108 hb138 ?_
                  refine aF 109 hb138 ?_
                  refine aF 110 hb138 ?_
                  replace hb138 := of_decide_eq_false (hb138)
                  refine go 18 ?_
                  refine ek ⟨[(2, bV false)], [], 2112⟩ ?_
                  refine X.ret ?_
                  exact ⟨trivial, _, _, ⟨false, (by first | exact nd_ff | exact nd_tt | exact nd_d1 | exact nd_d2), rfl, rfl⟩, mkr⟩
                ·refine aF 102 hb136 ?_
                 refine aF 103 hb136 ?_
                 refine aF 104 hb136 ?_
                 refine go 24 ?_
                 refine ek ⟨[(2, bV false)], [], 2112⟩ ?_
                 refine X.ret ?_
                 exact ⟨trivial, _, _, ⟨false, (by first | exact nd_ff | exact nd_tt | exact nd_d1 | exact nd_d2), rfl, rfl⟩, mkr⟩
               ·refine aF 95 hb131 ?_
                refine aF 96 hb131 ?_
                refine aF 97 hb131 ?_
                refine go 31 ?_
                refine ek ⟨[(2, bV false)], [], 2112⟩ ?_
                refine X.ret ?_
                exact ⟨trivial, _, _, ⟨false, (by first | exact nd_ff | exact nd_tt | exact nd_d1 | exact nd_d2), rfl, rfl⟩, mkr⟩
              ·refine aF 88 hb126 ?_
               refine aF 89 hb126 ?_
               refine aF 90 hb126 ?_
               replace hb126 := inR_no (hb126)
               refine go 38 ?_
               refine ek ⟨[(2, bV false)], [], 2112⟩ ?_
               refine X.ret ?_
               exact ⟨trivial, _, _, ⟨false, (by first | exact nd_ff | exact nd_tt | exact nd_d1 | exact nd_d2), rfl, rfl⟩, mkr⟩
             ·refine aF 83 hb121 ?_
              refine aF 84 hb121 ?_
              refine aF 85 hb121 ?_
              replace hb121 := inR_no (hb121)
              refine go 43 ?_
              refine ek ⟨[(2, bV false)], [], 2112⟩ ?_
              refine X.ret ?_
              exact ⟨trivial, _, _, ⟨false, (by first | exact nd_ff | exact nd_tt | exact nd_d1 | exact nd_d2), rfl, rfl⟩, mkr⟩
            ·refine aF 78 hb116 ?_
             refine aF 79 hb116 ?_
             refine aF 80 hb116 ?_
             replace hb116 := of_decide_eq_false (hb116)
             refine go 48 ?_
             refine ek ⟨[(2, bV false)], [], 2112⟩ ?_
             refine X.ret ?_
             exact ⟨trivial, _, _, ⟨false, (by first | exact nd_ff | exact nd_tt | exact nd_d1 | exact nd_d2), rfl, rfl⟩, mkr⟩
           ·refine aF 70 hb115 ?_
            refine aF 71 hb115 ?_
            refine aF 72 hb115 ?_
            replace hb115 := of_decide_eq_false (hb115)
            refine go 56 ?_
            refine ek ⟨[(2, bV false)], [], 2112⟩ ?_
            refine X.ret ?_
            exact ⟨trivial, _, _, ⟨false, (by first | exact nd_ff | exact nd_tt | exact nd_d1 | exact nd_d2), rfl, rfl⟩, mkr⟩
          ·refine aF 63 hb114 ?_
           refine aF 64 hb114 ?_
           replace hb114 := inR_no (hb114)
           refine go 64 ?_
           refine ek ⟨[(2, bV false)], [], 2112⟩ ?_
           refine X.ret ?_
           exact ⟨trivial, _, _, ⟨false, (by first | exact nd_ff | exact nd_tt | exact nd_d1 | exact nd_d2), rfl, rfl⟩, mkr⟩
        ·refine aF 49 hb107 ?_
         refine aF 50 hb107 ?_
         replace hb107 := of_decide_eq_false (hb107)
         refine go 10 ?_
         refine ek ⟨[(1, .pt 64 0 0), (60, bV false)], [(64, some (.box (cD (d53 n))))], 1024⟩ ?_
         refine X.ifF (by kernel_rfl) ?_
         refine X.skip ?_
         refine X.seq (rs 2 ?_)
         obtain ⟨r144, hr146, hf145⟩ := s_l1In n.f5 1 10000
         replace hr146 := hr146.symm; subst hr146
         refine ca hf145 Tryz.func24 ?_
         refine go 1 ?_
         rcases Bool.eq_false_or_eq_true ((inR n.f5 1 10000)) with hb148 | hb148
         ·refine aT 63 hb148 ?_
          refine aT 64 hb148 ?_
          replace hb148 := inR_yes (hb148)
          refine go 8 ?_
          rcases Bool.eq_false_or_eq_true (decide ((n.f7.f0 : Int) < n.f5)) with hb149 | hb149
          ·refine aT 70 hb149 ?_
           refine aT 71 hb149 ?_
           refine aT 72 hb149 ?_
           replace hb149 := of_decide_eq_true (hb149)
           refine go 8 ?_
           rcases Bool.eq_false_or_eq_true (decide ((n.f8.f0 : Int) < n.f5)) with hb150 | hb150
           ·refine aT 78 hb150 ?_
            refine aT 79 hb150 ?_
            refine aT 80 hb150 ?_
            replace hb150 := of_decide_eq_true (hb150)
            refine go 2 ?_
            obtain ⟨r151, hr153, hf152⟩ := s_l1In n.f6 0 10000
            replace hr153 := hr153.symm; subst hr153
            refine ca hf152 Tryz.func24 ?_
            refine go 2 ?_
            rcases Bool.eq_false_or_eq_true ((inR n.f6 0 10000)) with hb155 | hb155
            ·refine aT 83 hb155 ?_
             refine aT 84 hb155 ?_
             refine aT 85 hb155 ?_
             replace hb155 := inR_yes (hb155)
             refine go 2 ?_
             obtain ⟨r156, hr158, hf157⟩ := s_l1In n.f9 0 10000
             replace hr158 := hr158.symm; subst hr158
             refine ca hf157 Tryz.func24 ?_
             refine go 2 ?_
             rcases Bool.eq_false_or_eq_true ((inR n.f9 0 10000)) with hb160 | hb160
             ·refine aT 88 hb160 ?_
              refine aT 89 hb160 ?_
              refine aT 90 hb160 ?_
              replace hb160 := inR_yes (hb160)
              refine go 4 ?_
              obtain ⟨r161, hr163, hf162⟩ := s_QcOk n.f3 n.f7 (by first | assumption | omega) (by assumption)
              replace hr163 := hr163.symm; subst hr163
              refine ca hf162 Tryz.func25 ?_
              refine go 2 ?_
              rcases Bool.eq_false_or_eq_true ((qcOk n.f3 n.f7)) with hb165 | hb165
              ·refine aT 95 hb165 ?_
               refine aT 96 hb165 ?_
               refine aT 97 hb165 ?_
               refine go 4 ?_
               obtain ⟨r166, hr168, hf167⟩ := s_TcOk n.f3 n.f8 (by first | assumption | omega) (by assumption)
               replace hr168 := hr168.symm; subst hr168
               refine ca hf167 Tryz.func26 ?_
               refine go 2 ?_
               rcases Bool.eq_false_or_eq_true ((tcOk n.f3 n.f8)) with hb170 | hb170
               ·refine aT 102 hb170 ?_
                refine aT 103 hb170 ?_
                refine aT 104 hb170 ?_
                refine go 6 ?_
                have el171 : (n.f10.map d131).length = n.f10.length := List.length_map ..
                rcases Bool.eq_false_or_eq_true (decide ((((n.f10.map d131).length : Int) : Int) ≤ 1000)) with hb172 | hb172
                ·refine aT 108 hb172 ?_
                 refine aT 109 hb172 ?_
                 refine aT 110 hb172 ?_
                 replace hb172 := of_decide_eq_true (hb172)
                 refine go 6 ?_
                 have el173 : (n.f11.map d133).length = n.f11.length := List.length_map ..
                 rcases Bool.eq_false_or_eq_true (decide ((((n.f11.map d133).length : Int) : Int) ≤ 1000)) with hb174 | hb174
                 ·refine aT 114 hb174 ?_
                  refine aT 115 hb174 ?_
                  refine aT 116 hb174 ?_
                  replace hb174 := of_decide_eq_true (hb174)
                  refine go 6 ?_
                  have el175 : (n.f12.map dI).length = n.f12.length := List.length_map ..
                  rcases Bool.eq_false_or_eq_true (decide ((((n.f12.map dI).length : Int) : Int) ≤ 200)) with hb176 | hb176
                  ·refine aT 120 hb176 ?_
                   refine aT 121 hb176 ?_
                   refine aT 122 hb176 ?_
                   replace hb176 := of_decide_eq_true (hb176)
                   refine go 6 ?_
                   have el177 : (n.f14.map d137).length = n.f14.length := List.length_map ..
                   refine ek ⟨[(2, bV (decide ((((n.f14.map d137).length : Int) : Int) ≤ 200)))], [], 2112⟩ ?_
                   refine X.ret ?_
                   exact ⟨trivial, _, _, ⟨decide ((((n.f14.map d137).length : Int) : Int) ≤ 200), (by first | exact nd_ff | exact nd_tt | exact nd_d1 | exact nd_d2), rfl, rfl⟩, mkr⟩
                  ·refine aF 120 hb176 ?_
                   refine aF 121 hb176 ?_
                   refine aF 122 hb176 ?_
                   replace hb176 := of_decide_eq_false (hb176)
                   refine go 6 ?_
                   refine ek ⟨[(2, bV false)], [], 2112⟩ ?_
                   refine X.ret ?_
                   exact ⟨trivial, _, _, ⟨false, (by first | exact nd_ff | exact nd_tt | exact nd_d1 | exact nd_d2), rfl, rfl⟩, mkr⟩
                 ·refine aF 114 hb174 ?_
                  refine aF 115 hb174 ?_
                  refine aF 116 hb174 ?_
                  replace hb174 := of_decide_eq_false (hb174)
                  refine go 12 ?_
                  refine ek ⟨[(2, bV false)], [], 2112⟩ ?_
                  refine X.ret ?_
                  exact ⟨trivial, _, _, ⟨false, (by first | exact nd_ff | exact nd_tt | exact nd_d1 | exact nd_d2), rfl, rfl⟩, mkr⟩
                ·refine aF 108 hb172 ?_
                 refine aF 109 hb172 ?_
                 refine aF 110 hb172 ?_
                 replace hb172 := of_decide_eq_false (hb172)
                 refine go 18 ?_
                 refine ek ⟨[(2, bV false)], [], 2112⟩ ?_
                 refine X.ret ?_
                 exact ⟨trivial, _, _, ⟨false, (by first | exact nd_ff | exact nd_tt | exact nd_d1 | exact nd_d2), rfl, rfl⟩, mkr⟩
               ·refine aF 102 hb170 ?_
                refine aF 103 hb170 ?_
                refine aF 104 hb170 ?_
                refine go 24 ?_
                refine ek ⟨[(2, bV false)], [], 2112⟩ ?_
                refine X.ret ?_
                exact ⟨trivial, _, _, ⟨false, (by first | exact nd_ff | exact nd_tt | exact nd_d1 | exact nd_d2), rfl, rfl⟩, mkr⟩
              ·refine aF 95 hb165 ?_
               refine aF 96 hb165 ?_
               refine aF 97 hb165 ?_
               refine go 31 ?_
               refine ek ⟨[(2, bV false)], [], 2112⟩ ?_
               refine X.ret ?_
               exact ⟨trivial, _, _, ⟨false, (by first | exact nd_ff | exact nd_tt | exact nd_d1 | exact nd_d2), rfl, rfl⟩, mkr⟩
             ·refine aF 88 hb160 ?_
              refine aF 89 hb160 ?_
              refine aF 90 hb160 ?_
              replace hb160 := inR_no (hb160)
              refine go 38 ?_
              refine ek ⟨[(2, bV false)], [], 2112⟩ ?_
              refine X.ret ?_
              exact ⟨trivial, _, _, ⟨false, (by first | exact nd_ff | exact nd_tt | exact nd_d1 | exact nd_d2), rfl, rfl⟩, mkr⟩
            ·refine aF 83 hb155 ?_
             refine aF 84 hb155 ?_
             refine aF 85 hb155 ?_
             replace hb155 := inR_no (hb155)
             refine go 43 ?_
             refine ek ⟨[(2, bV false)], [], 2112⟩ ?_
             refine X.ret ?_
             exact ⟨trivial, _, _, ⟨false, (by first | exact nd_ff | exact nd_tt | exact nd_d1 | exact nd_d2), rfl, rfl⟩, mkr⟩
           ·refine aF 78 hb150 ?_
            refine aF 79 hb150 ?_
            refine aF 80 hb150 ?_
            replace hb150 := of_decide_eq_false (hb150)
            refine go 48 ?_
            refine ek ⟨[(2, bV false)], [], 2112⟩ ?_
            refine X.ret ?_
            exact ⟨trivial, _, _, ⟨false, (by first | exact nd_ff | exact nd_tt | exact nd_d1 | exact nd_d2), rfl, rfl⟩, mkr⟩
          ·refine aF 70 hb149 ?_
           refine aF 71 hb149 ?_
           refine aF 72 hb149 ?_
           replace hb149 := of_decide_eq_false (hb149)
           refine go 56 ?_
           refine ek ⟨[(2, bV false)], [], 2112⟩ ?_
           refine X.ret ?_
           exact ⟨trivial, _, _, ⟨false, (by first | exact nd_ff | exact nd_tt | exact nd_d1 | exact nd_d2), rfl, rfl⟩, mkr⟩
         ·refine aF 63 hb148 ?_
          refine aF 64 hb148 ?_
          replace hb148 := inR_no (hb148)
          refine go 64 ?_
          refine ek ⟨[(2, bV false)], [], 2112⟩ ?_
          refine X.ret ?_
          exact ⟨trivial, _, _, ⟨false, (by first | exact nd_ff | exact nd_tt | exact nd_d1 | exact nd_d2), rfl, rfl⟩, mkr⟩
 obtain ⟨_, _, ⟨r0, h1_, rfl, rfl⟩, hf⟩ := key
 exact ⟨r0, h1_, hf⟩

theorem i_NodeOk (n : S53) (hn : Sm53 n) : ∃ r0 : Bool, (r0 = nodeOk n) ∧ Fn Tryz.prog 7 [.e (.agg (cD (d53 n)))] (lookH []) (bV r0) (lookH []) := by
 have key : ∃ x' h', ((fun x' h' => ∃ r0 : Bool, (r0 = nodeOk n) ∧ x' = bV r0 ∧ h' = [])) x' h' ∧ Fn Tryz.prog 7 [.e (.agg (cD (d53 n)))] (lookH []) x' (lookH h') := by
  refine Fn.bodyX (N := 126) hτ Tryz.func7 rfl rfl rfl rfl ?_
  refine sk ⟨[(1, .pt 64 0 0)], [(64, some (.box (cD (d53 n))))], 96⟩ ?_
  refine X.seq ?_
  refine X.seq ?_
  obtain ⟨k0, k2, k3, k4, k7, k8, k10, k11, k12, k13, k14⟩ := hn
  have k3l := k3.1
  have k4l := k4.1
  have k10l := k10.1
  have k11l := k11.1
  have k14l := k14.1
  refine rs 2 ?_
  obtain ⟨r1, hr3, hf2⟩ := i_NameOk n.f0 (by assumption)
  replace hr3 := hr3.symm; subst hr3
  refine ca hf2 Tryz.func37 ?_
  refine go 2 ?_
  rcases Bool.eq_false_or_eq_true (!(nameOk n.f0)) with hb5 | hb5
  ·refine aT 6 hb5 ?_
   refine aT 7 hb5 ?_
   replace hb5 := bnot_yes (hb5)
   refine go 31 ?_
   refine ek ⟨[(1, .pt 64 0 0), (38, bV true)], [(64, some (.box (cD (d53 n))))], 672⟩ ?_
   refine X.ifT (by kernel_rfl) ?_
   refine sk ⟨[(2, bV false)], [], 688⟩ ?_
   refine X.ret ?_
   exact ⟨trivial, _, _, ⟨false, (by first | exact nd_ff | exact nd_tt | exact nd_d1 | exact nd_d2), rfl, rfl⟩, mkr⟩
  ·refine aF 6 hb5 ?_
   refine aF 7 hb5 ?_
   replace hb5 := bnot_no (hb5)
   refine go 2 ?_
   obtain ⟨r6, hr8, hf7⟩ := i_LedgerOk n.f2 (by assumption)
   replace hr8 := hr8.symm; subst hr8
   refine ca hf7 Tryz.func38 ?_
   refine go 3 ?_
   rcases Bool.eq_false_or_eq_true (!(ledgerOk n.f2)) with hb10 | hb10
   ·refine aT 11 hb10 ?_
    refine aT 12 hb10 ?_
    refine aT 13 hb10 ?_
    replace hb10 := bnot_yes (hb10)
    refine go 25 ?_
    refine ek ⟨[(1, .pt 64 0 0), (38, bV true)], [(64, some (.box (cD (d53 n))))], 672⟩ ?_
    refine X.ifT (by kernel_rfl) ?_
    refine sk ⟨[(2, bV false)], [], 688⟩ ?_
    refine X.ret ?_
    exact ⟨trivial, _, _, ⟨false, (by first | exact nd_ff | exact nd_tt | exact nd_d1 | exact nd_d2), rfl, rfl⟩, mkr⟩
   ·refine aF 11 hb10 ?_
    refine aF 12 hb10 ?_
    refine aF 13 hb10 ?_
    replace hb10 := bnot_no (hb10)
    refine go 8 ?_
    rcases Bool.eq_false_or_eq_true ((n.f2.f0 != n.f1)) with hb11 | hb11
    ·refine aT 19 hb11 ?_
     refine aT 20 hb11 ?_
     refine aT 21 hb11 ?_
     replace hb11 := bne_iff_ne.1 (hb11)
     refine go 17 ?_
     refine ek ⟨[(1, .pt 64 0 0), (38, bV true)], [(64, some (.box (cD (d53 n))))], 672⟩ ?_
     refine X.ifT (by kernel_rfl) ?_
     refine sk ⟨[(2, bV false)], [], 688⟩ ?_
     refine X.ret ?_
     exact ⟨trivial, _, _, ⟨false, (by first | exact nd_ff | exact nd_tt | exact nd_d1 | exact nd_d2), rfl, rfl⟩, mkr⟩
    ·refine aF 19 hb11 ?_
     refine aF 20 hb11 ?_
     refine aF 21 hb11 ?_
     replace hb11 := bne_eq_false_iff_eq.1 (hb11)
     refine go 5 ?_
     have el12 : (n.f3.map d121).length = n.f3.length := List.length_map ..
     rcases Bool.eq_false_or_eq_true (decide ((((n.f3.map d121).length : Int) : Int) > 0)) with hb13 | hb13
     ·refine aT 25 hb13 ?_
      refine aT 26 hb13 ?_
      replace hb13 := of_decide_eq_true (hb13)
      refine go 2 ?_
      obtain ⟨r14, hr16, hf15⟩ := i_SetOk n.f3 (by assumption)
      replace hr16 := hr16.symm; subst hr16
      refine ca hf15 Tryz.func39 ?_
      refine go 4 ?_
      rcases Bool.eq_false_or_eq_true (!(setOk n.f3)) with hb18 | hb18
      ·refine aT 30 hb18 ?_
       refine aT 31 hb18 ?_
       refine aT 32 hb18 ?_
       refine aT 33 hb18 ?_
       replace hb18 := bnot_yes (hb18)
       refine go 5 ?_
       refine ek ⟨[(1, .pt 64 0 0), (38, bV true)], [(64, some (.box (cD (d53 n))))], 672⟩ ?_
       refine X.ifT (by kernel_rfl) ?_
       refine sk ⟨[(2, bV false)], [], 688⟩ ?_
       refine X.ret ?_
       exact ⟨trivial, _, _, ⟨false, (by first | exact nd_ff | exact nd_tt | exact nd_d1 | exact nd_d2), rfl, rfl⟩, mkr⟩
      ·refine aF 30 hb18 ?_
       refine aF 31 hb18 ?_
       refine aF 32 hb18 ?_
       refine aF 33 hb18 ?_
       replace hb18 := bnot_no (hb18)
       refine go 2 ?_
       obtain ⟨r19, hr21, hf20⟩ := i_PoolOk n.f13 (by assumption)
       replace hr21 := hr21.symm; subst hr21
       refine ca hf20 Tryz.func40 ?_
       refine go 2 ?_
       refine ek ⟨[(1, .pt 64 0 0), (38, bV (!(poolOk n.f13)))], [(64, some (.box (cD (d53 n))))], 672⟩ ?_
       refine if_ (b := !(poolOk n.f13)) (fun hb23 => ?_) (fun hb23 => ?_)
       ·replace hb23 := bnot_yes (hb23)
        refine sk ⟨[(2, bV false)], [], 688⟩ ?_
        refine X.ret ?_
        exact ⟨trivial, _, _, ⟨false, (by first | exact nd_ff | exact nd_tt | exact nd_d1 | exact nd_d2), rfl, rfl⟩, mkr⟩
       ·replace hb23 := bnot_no (hb23)
        refine X.skip ?_
        refine X.seq ?_
        refine X.seq (rs 2 ?_)
        obtain ⟨r24, hr26, hf25⟩ := i_inRange n.f5 1 10000
        replace hr26 := hr26.symm; subst hr26
        refine ca hf25 Tryz.func41 ?_
        refine go 2 ?_
        rcases Bool.eq_false_or_eq_true (!(inR n.f5 1 10000)) with hb28 | hb28
        ·refine aT 42 hb28 ?_
         refine aT 43 hb28 ?_
         replace hb28 := inR_no (bnot_yes (hb28))
         refine go 11 ?_
         refine ek ⟨[(1, .pt 64 0 0), (54, bV true)], [(64, some (.box (cD (d53 n))))], 928⟩ ?_
         refine X.ifT (by kernel_rfl) ?_
         refine sk ⟨[(2, bV false)], [], 944⟩ ?_
         refine X.ret ?_
         exact ⟨trivial, _, _, ⟨false, (by first | exact nd_ff | exact nd_tt | exact nd_d1 | exact nd_d2), rfl, rfl⟩, mkr⟩
        ·refine aF 42 hb28 ?_
         refine aF 43 hb28 ?_
         replace hb28 := inR_yes (bnot_no (hb28))
         refine go 2 ?_
         obtain ⟨r29, hr31, hf30⟩ := i_inRange n.f6 0 10000
         replace hr31 := hr31.symm; subst hr31
         refine ca hf30 Tryz.func41 ?_
         refine go 3 ?_
         rcases Bool.eq_false_or_eq_true (!(inR n.f6 0 10000)) with hb33 | hb33
         ·refine aT 47 hb33 ?_
          refine aT 48 hb33 ?_
          refine aT 49 hb33 ?_
          replace hb33 := inR_no (bnot_yes (hb33))
          refine go 5 ?_
          refine ek ⟨[(1, .pt 64 0 0), (54, bV true)], [(64, some (.box (cD (d53 n))))], 928⟩ ?_
          refine X.ifT (by kernel_rfl) ?_
          refine sk ⟨[(2, bV false)], [], 944⟩ ?_
          refine X.ret ?_
          exact ⟨trivial, _, _, ⟨false, (by first | exact nd_ff | exact nd_tt | exact nd_d1 | exact nd_d2), rfl, rfl⟩, mkr⟩
         ·refine aF 47 hb33 ?_
          refine aF 48 hb33 ?_
          refine aF 49 hb33 ?_
          replace hb33 := inR_yes (bnot_no (hb33))
          refine go 2 ?_
          obtain ⟨r34, hr36, hf35⟩ := i_inRange n.f9 0 10000
          replace hr36 := hr36.symm; subst hr36
          refine ca hf35 Tryz.func41 ?_
          refine go 2 ?_
          refine ek ⟨[(1, .pt 64 0 0), (54, bV (!(inR n.f9 0 10000)))], [(64, some (.box (cD (d53 n))))], 928⟩ ?_
          refine if_ (b := !(inR n.f9 0 10000)) (fun hb38 => ?_) (fun hb38 => ?_)
          ·replace hb38 := inR_no (bnot_yes (hb38))
           refine sk ⟨[(2, bV false)], [], 944⟩ ?_
           refine X.ret ?_
           exact ⟨trivial, _, _, ⟨false, (by first | exact nd_ff | exact nd_tt | exact nd_d1 | exact nd_d2), rfl, rfl⟩, mkr⟩
          ·replace hb38 := inR_yes (bnot_no (hb38))
           refine X.skip ?_
           refine X.seq ?_
           refine X.seq (rs 4 ?_)
           obtain ⟨r39, hr41, hf40⟩ := i_QcOk n.f3 n.f7 (by first | assumption | omega) (by assumption)
           replace hr41 := hr41.symm; subst hr41
           refine ca hf40 Tryz.func42 ?_
           refine go 2 ?_
           rcases Bool.eq_false_or_eq_true (!(qcOk n.f3 n.f7)) with hb43 | hb43
           ·refine aT 60 hb43 ?_
            refine aT 61 hb43 ?_
            replace hb43 := bnot_yes (hb43)
            refine go 23 ?_
            refine ek ⟨[(1, .pt 64 0 0), (84, bV true)], [(64, some (.box (cD (d53 n))))], 1408⟩ ?_
            refine X.ifT (by kernel_rfl) ?_
            refine sk ⟨[(2, bV false)], [], 1424⟩ ?_
            refine X.ret ?_
            exact ⟨trivial, _, _, ⟨false, (by first | exact nd_ff | exact nd_tt | exact nd_d1 | exact nd_d2), rfl, rfl⟩, mkr⟩
           ·refine aF 60 hb43 ?_
            refine aF 61 hb43 ?_
            replace hb43 := bnot_no (hb43)
            refine go 4 ?_
            obtain ⟨r44, hr46, hf45⟩ := i_TcOk n.f3 n.f8 (by first | assumption | omega) (by assumption)
            replace hr46 := hr46.symm; subst hr46
            refine ca hf45 Tryz.func43 ?_
            refine go 3 ?_
            rcases Bool.eq_false_or_eq_true (!(tcOk n.f3 n.f8)) with hb48 | hb48
            ·refine aT 67 hb48 ?_
             refine aT 68 hb48 ?_
             refine aT 69 hb48 ?_
             replace hb48 := bnot_yes (hb48)
             refine go 15 ?_
             refine ek ⟨[(1, .pt 64 0 0), (84, bV true)], [(64, some (.box (cD (d53 n))))], 1408⟩ ?_
             refine X.ifT (by kernel_rfl) ?_
             refine sk ⟨[(2, bV false)], [], 1424⟩ ?_
             refine X.ret ?_
             exact ⟨trivial, _, _, ⟨false, (by first | exact nd_ff | exact nd_tt | exact nd_d1 | exact nd_d2), rfl, rfl⟩, mkr⟩
            ·refine aF 67 hb48 ?_
             refine aF 68 hb48 ?_
             refine aF 69 hb48 ?_
             replace hb48 := bnot_no (hb48)
             refine go 8 ?_
             rcases Bool.eq_false_or_eq_true (decide ((n.f7.f0 : Int) ≥ n.f5)) with hb49 | hb49
             ·refine aT 75 hb49 ?_
              refine aT 76 hb49 ?_
              refine aT 77 hb49 ?_
              replace hb49 := of_decide_eq_true (hb49)
              refine go 7 ?_
              refine ek ⟨[(1, .pt 64 0 0), (84, bV true)], [(64, some (.box (cD (d53 n))))], 1408⟩ ?_
              refine X.ifT (by kernel_rfl) ?_
              refine sk ⟨[(2, bV false)], [], 1424⟩ ?_
              refine X.ret ?_
              exact ⟨trivial, _, _, ⟨false, (by first | exact nd_ff | exact nd_tt | exact nd_d1 | exact nd_d2), rfl, rfl⟩, mkr⟩
             ·refine aF 75 hb49 ?_
              refine aF 76 hb49 ?_
              refine aF 77 hb49 ?_
              replace hb49 := of_decide_eq_false (hb49)
              refine go 7 ?_
              refine ek ⟨[(1, .pt 64 0 0), (84, bV (decide ((n.f8.f0 : Int) ≥ n.f5)))], [(64, some (.box (cD (d53 n))))], 1408⟩ ?_
              refine if_ (b := decide ((n.f8.f0 : Int) ≥ n.f5)) (fun hb50 => ?_) (fun hb50 => ?_)
              ·replace hb50 := of_decide_eq_true (hb50)
               refine sk ⟨[(2, bV false)], [], 1424⟩ ?_
               refine X.ret ?_
               exact ⟨trivial, _, _, ⟨false, (by first | exact nd_ff | exact nd_tt | exact nd_d1 | exact nd_d2), rfl, rfl⟩, mkr⟩
              ·replace hb50 := of_decide_eq_false (hb50)
               refine X.skip ?_
               refine X.seq ?_
               refine X.seq ?_
               have el51 : (n.f10.map d131).length = n.f10.length := List.length_map ..
               refine rs 5 ?_
               rcases Bool.eq_false_or_eq_true (decide ((((n.f10.map d131).length : Int) : Int) > 1000)) with hb52 | hb52
               ·refine aT 88 hb52 ?_
                refine aT 89 hb52 ?_
                replace hb52 := of_decide_eq_true (hb52)
                refine go 17 ?_
                refine ek ⟨[(1, .pt 64 0 0), (106, bV true)], [(64, some (.box (cD (d53 n))))], 1760⟩ ?_
                refine X.ifT (by kernel_rfl) ?_
                refine sk ⟨[(2, bV false)], [], 1776⟩ ?_
                refine X.ret ?_
                exact ⟨trivial, _, _, ⟨false, (by first | exact nd_ff | exact nd_tt | exact nd_d1 | exact nd_d2), rfl, rfl⟩, mkr⟩
               ·refine aF 88 hb52 ?_
                refine aF 89 hb52 ?_
                replace hb52 := of_decide_eq_false (hb52)
                refine go 6 ?_
                have el53 : (n.f11.map d133).length = n.f11.length := List.length_map ..
                rcases Bool.eq_false_or_eq_true (decide ((((n.f11.map d133).length : Int) : Int) > 1000)) with hb54 | hb54
                ·refine aT 93 hb54 ?_
                 refine aT 94 hb54 ?_
                 refine aT 95 hb54 ?_
                 replace hb54 := of_decide_eq_true (hb54)
                 refine go 11 ?_
                 refine ek ⟨[(1, .pt 64 0 0), (106, bV true)], [(64, some (.box (cD (d53 n))))], 1760⟩ ?_
                 refine X.ifT (by kernel_rfl) ?_
                 refine sk ⟨[(2, bV false)], [], 1776⟩ ?_
                 refine X.ret ?_
                 exact ⟨trivial, _, _, ⟨false, (by first | exact nd_ff | exact nd_tt | exact nd_d1 | exact nd_d2), rfl, rfl⟩, mkr⟩
                ·refine aF 93 hb54 ?_
                 refine aF 94 hb54 ?_
                 refine aF 95 hb54 ?_
                 replace hb54 := of_decide_eq_false (hb54)
                 refine go 6 ?_
                 have el55 : (n.f12.map dI).length = n.f12.length := List.length_map ..
                 rcases Bool.eq_false_or_eq_true (decide ((((n.f12.map dI).length : Int) : Int) > 200)) with hb56 | hb56
                 ·refine aT 99 hb56 ?_
                  refine aT 100 hb56 ?_
                  refine aT 101 hb56 ?_
                  replace hb56 := of_decide_eq_true (hb56)
                  refine go 5 ?_
                  refine ek ⟨[(1, .pt 64 0 0), (106, bV true)], [(64, some (.box (cD (d53 n))))], 1760⟩ ?_
                  refine X.ifT (by kernel_rfl) ?_
                  refine sk ⟨[(2, bV false)], [], 1776⟩ ?_
                  refine X.ret ?_
                  exact ⟨trivial, _, _, ⟨false, (by first | exact nd_ff | exact nd_tt | exact nd_d1 | exact nd_d2), rfl, rfl⟩, mkr⟩
                 ·refine aF 99 hb56 ?_
                  refine aF 100 hb56 ?_
                  refine aF 101 hb56 ?_
                  replace hb56 := of_decide_eq_false (hb56)
                  refine go 5 ?_
                  have el57 : (n.f14.map d137).length = n.f14.length := List.length_map ..
                  refine ek ⟨[(1, .pt 64 0 0), (106, bV (decide ((((n.f14.map d137).length : Int) : Int) > 200)))], [(64, some (.box (cD (d53 n))))], 1760⟩ ?_
                  refine if_ (b := decide ((((n.f14.map d137).length : Int) : Int) > 200)) (fun hb58 => ?_) (fun hb58 => ?_)
                  ·replace hb58 := of_decide_eq_true (hb58)
                   refine sk ⟨[(2, bV false)], [], 1776⟩ ?_
                   refine X.ret ?_
                   exact ⟨trivial, _, _, ⟨false, (by first | exact nd_ff | exact nd_tt | exact nd_d1 | exact nd_d2), rfl, rfl⟩, mkr⟩
                  ·replace hb58 := of_decide_eq_false (hb58)
                   refine X.skip ?_
                   refine X.seq (rs 2 ?_)
                   obtain ⟨r59, hr61, hf60⟩ := i_TreeOk n.f4 (by assumption)
                   replace hr61 := hr61.symm; subst hr61
                   refine ca hf60 Tryz.func44 ?_
                   refine go 1 ?_
                   rcases Bool.eq_false_or_eq_true ((treeOk n.f4)) with hb63 | hb63
                   ·refine aT 109 hb63 ?_
                    refine aT 110 hb63 ?_
                    refine go 5 ?_
                    have el64 : (n.f4.map d73).length = n.f4.length := List.length_map ..
                    rcases Bool.eq_false_or_eq_true ((((n.f4.map d73).length : Int) == 0)) with hb65 | hb65
                    ·refine aT 114 hb65 ?_
                     refine aT 115 hb65 ?_
                     replace hb65 := eq_of_beq (hb65)
                     refine go 11 ?_
                     refine ek ⟨[(2, bV true)], [], 2080⟩ ?_
                     refine X.ret ?_
                     exact ⟨trivial, _, _, ⟨true, (by first | exact nd_ff | exact nd_tt | exact nd_d1 | exact nd_d2), rfl, rfl⟩, mkr⟩
                    ·refine aF 114 hb65 ?_
                     refine aF 115 hb65 ?_
                     replace hb65 := beq_eq_false_iff_ne.1 (hb65)
                     refine go 2 ?_
                     obtain ⟨x66, hx66⟩ : ∃ x, n.f4[Int.toNat 0]? = some x := ⟨_, List.getElem?_eq_getElem (by first | omega | (simp; done) | (simp; omega))⟩
                     refine CH.idx hτ (d73 x66) (rows := (n.f4.map d73)) (n := 0) (sz := 14) (by kernel_rfl) (by kernel_rfl) (by first | omega | (simp; done) | (simp; omega)) (by rw [List.getElem?_map, hx66]; rfl) (by kernel_rfl) ?_
                     refine go 8 ?_
                     refine ek ⟨[(2, bV (x66.f1 == n.f1))], [], 2080⟩ ?_
                     refine X.ret ?_
                     exact ⟨trivial, _, _, ⟨(x66.f1 == n.f1), (by first | exact nd_ff | exact nd_tt | exact nd_d1 | exact nd_d2), rfl, rfl⟩, mkr⟩
                   ·refine aF 109 hb63 ?_
                    refine aF 110 hb63 ?_
                    refine go 16 ?_
                    refine ek ⟨[(2, bV false)], [], 2080⟩ ?_
                    refine X.ret ?_
                    exact ⟨trivial, _, _, ⟨false, (by first | exact nd_ff | exact nd_tt | exact nd_d1 | exact nd_d2), rfl, rfl⟩, mkr⟩
     ·refine aF 25 hb13 ?_
      refine aF 26 hb13 ?_
      replace hb13 := of_decide_eq_false (hb13)
      refine go 9 ?_
      obtain ⟨r67, hr69, hf68⟩ := i_PoolOk n.f13 (by assumption)
      replace hr69 := hr69.symm; subst hr69
      refine ca hf68 Tryz.func40 ?_
      refine go 2 ?_
      refine ek ⟨[(1, .pt 64 0 0), (38, bV (!(poolOk n.f13)))], [(64, some (.box (cD (d53 n))))], 672⟩ ?_
      refine if_ (b := !(poolOk n.f13)) (fun hb71 => ?_) (fun hb71 => ?_)
      ·replace hb71 := bnot_yes (hb71)
       refine sk ⟨[(2, bV false)], [], 688⟩ ?_
       refine X.ret ?_
       exact ⟨trivial, _, _, ⟨false, (by first | exact nd_ff | exact nd_tt | exact nd_d1 | exact nd_d2), rfl, rfl⟩, mkr⟩
      ·replace hb71 := bnot_no (hb71)
       refine X.skip ?_
       refine X.seq ?_
       refine X.seq (rs 2 ?_)
       obtain ⟨r72, hr74, hf73⟩ := i_inRange n.f5 1 10000
       replace hr74 := hr74.symm; subst hr74
       refine ca hf73 Tryz.func41 ?_
       refine go 2 ?_
       rcases Bool.eq_false_or_eq_true (!(inR n.f5 1 10000)) with hb76 | hb76
       ·refine aT 42 hb76 ?_
        refine aT 43 hb76 ?_
        replace hb76 := inR_no (bnot_yes (hb76))
        refine go 11 ?_
        refine ek ⟨[(1, .pt 64 0 0), (54, bV true)], [(64, some (.box (cD (d53 n))))], 928⟩ ?_
        refine X.ifT (by kernel_rfl) ?_
        refine sk ⟨[(2, bV false)], [], 944⟩ ?_
        refine X.ret ?_
        exact ⟨trivial, _, _, ⟨false, (by first | exact nd_ff | exact nd_tt | exact nd_d1 | exact nd_d2), rfl, rfl⟩, mkr⟩
       ·refine aF 42 hb76 ?_
        refine aF 43 hb76 ?_
        replace hb76 := inR_yes (bnot_no (hb76))
        refine go 2 ?_
        obtain ⟨r77, hr79, hf78⟩ := i_inRange n.f6 0 10000
        replace hr79 := hr79.symm; subst hr79
        refine ca hf78 Tryz.func41 ?_
        refine go 3 ?_
        rcases Bool.eq_false_or_eq_true (!(inR n.f6 0 10000)) with hb81 | hb81
        ·refine aT 47 hb81 ?_
         refine aT 48 hb81 ?_
         refine aT 49 hb81 ?_
         replace hb81 := inR_no (bnot_yes (hb81))
         refine go 5 ?_
         refine ek ⟨[(1, .pt 64 0 0), (54, bV true)], [(64, some (.box (cD (d53 n))))], 928⟩ ?_
         refine X.ifT (by kernel_rfl) ?_
         refine sk ⟨[(2, bV false)], [], 944⟩ ?_
         refine X.ret ?_
         exact ⟨trivial, _, _, ⟨false, (by first | exact nd_ff | exact nd_tt | exact nd_d1 | exact nd_d2), rfl, rfl⟩, mkr⟩
        ·refine aF 47 hb81 ?_
         refine aF 48 hb81 ?_
         refine aF 49 hb81 ?_
         replace hb81 := inR_yes (bnot_no (hb81))
         refine go 2 ?_
         obtain ⟨r82, hr84, hf83⟩ := i_inRange n.f9 0 10000
         replace hr84 := hr84.symm; subst hr84
         refine ca hf83 Tryz.func41 ?_
         refine go 2 ?_
         refine ek ⟨[(1, .pt 64 0 0), (54, bV (!(inR n.f9 0 10000)))], [(64, some (.box (cD (d53 n))))], 928⟩ ?_
         refine if_ (b := !(inR n.f9 0 10000)) (fun hb86 => ?_) (fun hb86 => ?_)
         ·replace hb86 := inR_no (bnot_yes (hb86))
          refine sk ⟨[(2, bV false)], [], 944⟩ ?_
          refine X.ret ?_
          exact ⟨trivial, _, _, ⟨false, (by first | exact nd_ff | exact nd_tt | exact nd_d1 | exact nd_d2), rfl, rfl⟩, mkr⟩
         ·replace hb86 := inR_yes (bnot_no (hb86))
          refine X.skip ?_
          refine X.seq ?_
          refine X.seq (rs 4 ?_)
          obtain ⟨r87, hr89, hf88⟩ := i_QcOk n.f3 n.f7 (by first | assumption | omega) (by assumption)
          replace hr89 := hr89.symm; subst hr89
          refine ca hf88 Tryz.func42 ?_
          refine go 2 ?_
          rcases Bool.eq_false_or_eq_true (!(qcOk n.f3 n.f7)) with hb91 | hb91
          ·refine aT 60 hb91 ?_
           refine aT 61 hb91 ?_
           replace hb91 := bnot_yes (hb91)
           refine go 23 ?_
           refine ek ⟨[(1, .pt 64 0 0), (84, bV true)], [(64, some (.box (cD (d53 n))))], 1408⟩ ?_
           refine X.ifT (by kernel_rfl) ?_
           refine sk ⟨[(2, bV false)], [], 1424⟩ ?_
           refine X.ret ?_
           exact ⟨trivial, _, _, ⟨false, (by first | exact nd_ff | exact nd_tt | exact nd_d1 | exact nd_d2), rfl, rfl⟩, mkr⟩
          ·refine aF 60 hb91 ?_
           refine aF 61 hb91 ?_
           replace hb91 := bnot_no (hb91)
           refine go 4 ?_
           obtain ⟨r92, hr94, hf93⟩ := i_TcOk n.f3 n.f8 (by first | assumption | omega) (by assumption)
           replace hr94 := hr94.symm; subst hr94
           refine ca hf93 Tryz.func43 ?_
           refine go 3 ?_
           rcases Bool.eq_false_or_eq_true (!(tcOk n.f3 n.f8)) with hb96 | hb96
           ·refine aT 67 hb96 ?_
            refine aT 68 hb96 ?_
            refine aT 69 hb96 ?_
            replace hb96 := bnot_yes (hb96)
            refine go 15 ?_
            refine ek ⟨[(1, .pt 64 0 0), (84, bV true)], [(64, some (.box (cD (d53 n))))], 1408⟩ ?_
            refine X.ifT (by kernel_rfl) ?_
            refine sk ⟨[(2, bV false)], [], 1424⟩ ?_
            refine X.ret ?_
            exact ⟨trivial, _, _, ⟨false, (by first | exact nd_ff | exact nd_tt | exact nd_d1 | exact nd_d2), rfl, rfl⟩, mkr⟩
           ·refine aF 67 hb96 ?_
            refine aF 68 hb96 ?_
            refine aF 69 hb96 ?_
            replace hb96 := bnot_no (hb96)
            refine go 8 ?_
            rcases Bool.eq_false_or_eq_true (decide ((n.f7.f0 : Int) ≥ n.f5)) with hb97 | hb97
            ·refine aT 75 hb97 ?_
             refine aT 76 hb97 ?_
             refine aT 77 hb97 ?_
             replace hb97 := of_decide_eq_true (hb97)
             refine go 7 ?_
             refine ek ⟨[(1, .pt 64 0 0), (84, bV true)], [(64, some (.box (cD (d53 n))))], 1408⟩ ?_
             refine X.ifT (by kernel_rfl) ?_
             refine sk ⟨[(2, bV false)], [], 1424⟩ ?_
             refine X.ret ?_
             exact ⟨trivial, _, _, ⟨false, (by first | exact nd_ff | exact nd_tt | exact nd_d1 | exact nd_d2), rfl, rfl⟩, mkr⟩
            ·refine aF 75 hb97 ?_
             refine aF 76 hb97 ?_
             refine aF 77 hb97 ?_
             replace hb97 := of_decide_eq_false (hb97)
             refine go 7 ?_
             refine ek ⟨[(1, .pt 64 0 0), (84, bV (decide ((n.f8.f0 : Int) ≥ n.f5)))], [(64, some (.box (cD (d53 n))))], 1408⟩ ?_
             refine if_ (b := decide ((n.f8.f0 : Int) ≥ n.f5)) (fun hb98 => ?_) (fun hb98 => ?_)
             ·replace hb98 := of_decide_eq_true (hb98)
              refine sk ⟨[(2, bV false)], [], 1424⟩ ?_
              refine X.ret ?_
              exact ⟨trivial, _, _, ⟨false, (by first | exact nd_ff | exact nd_tt | exact nd_d1 | exact nd_d2), rfl, rfl⟩, mkr⟩
             ·replace hb98 := of_decide_eq_false (hb98)
              refine X.skip ?_
              refine X.seq ?_
              refine X.seq ?_
              have el99 : (n.f10.map d131).length = n.f10.length := List.length_map ..
              refine rs 5 ?_
              rcases Bool.eq_false_or_eq_true (decide ((((n.f10.map d131).length : Int) : Int) > 1000)) with hb100 | hb100
              ·refine aT 88 hb100 ?_
               refine aT 89 hb100 ?_
               replace hb100 := of_decide_eq_true (hb100)
               refine go 17 ?_
               refine ek ⟨[(1, .pt 64 0 0), (106, bV true)], [(64, some (.box (cD (d53 n))))], 1760⟩ ?_
               refine X.ifT (by kernel_rfl) ?_
               refine sk ⟨[(2, bV false)], [], 1776⟩ ?_
               refine X.ret ?_
               exact ⟨trivial, _, _, ⟨false, (by first | exact nd_ff | exact nd_tt | exact nd_d1 | exact nd_d2), rfl, rfl⟩, mkr⟩
              ·refine aF 88 hb100 ?_
               refine aF 89 hb100 ?_
               replace hb100 := of_decide_eq_false (hb100)
               refine go 6 ?_
               have el101 : (n.f11.map d133).length = n.f11.length := List.length_map ..
               rcases Bool.eq_false_or_eq_true (decide ((((n.f11.map d133).length : Int) : Int) > 1000)) with hb102 | hb102
               ·refine aT 93 hb102 ?_
                refine aT 94 hb102 ?_
                refine aT 95 hb102 ?_
                replace hb102 := of_decide_eq_true (hb102)
                refine go 11 ?_
                refine ek ⟨[(1, .pt 64 0 0), (106, bV true)], [(64, some (.box (cD (d53 n))))], 1760⟩ ?_
                refine X.ifT (by kernel_rfl) ?_
                refine sk ⟨[(2, bV false)], [], 1776⟩ ?_
                refine X.ret ?_
                exact ⟨trivial, _, _, ⟨false, (by first | exact nd_ff | exact nd_tt | exact nd_d1 | exact nd_d2), rfl, rfl⟩, mkr⟩
               ·refine aF 93 hb102 ?_
                refine aF 94 hb102 ?_
                refine aF 95 hb102 ?_
                replace hb102 := of_decide_eq_false (hb102)
                refine go 6 ?_
                have el103 : (n.f12.map dI).length = n.f12.length := List.length_map ..
                rcases Bool.eq_false_or_eq_true (decide ((((n.f12.map dI).length : Int) : Int) > 200)) with hb104 | hb104
                ·refine aT 99 hb104 ?_
                 refine aT 100 hb104 ?_
                 refine aT 101 hb104 ?_
                 replace hb104 := of_decide_eq_true (hb104)
                 refine go 5 ?_
                 refine ek ⟨[(1, .pt 64 0 0), (106, bV true)], [(64, some (.box (cD (d53 n))))], 1760⟩ ?_
                 refine X.ifT (by kernel_rfl) ?_
                 refine sk ⟨[(2, bV false)], [], 1776⟩ ?_
                 refine X.ret ?_
                 exact ⟨trivial, _, _, ⟨false, (by first | exact nd_ff | exact nd_tt | exact nd_d1 | exact nd_d2), rfl, rfl⟩, mkr⟩
                ·refine aF 99 hb104 ?_
                 refine aF 100 hb104 ?_
                 refine aF 101 hb104 ?_
                 replace hb104 := of_decide_eq_false (hb104)
                 refine go 5 ?_
                 have el105 : (n.f14.map d137).length = n.f14.length := List.length_map ..
                 refine ek ⟨[(1, .pt 64 0 0), (106, bV (decide ((((n.f14.map d137).length : Int) : Int) > 200)))], [(64, some (.box (cD (d53 n))))], 1760⟩ ?_
                 refine if_ (b := decide ((((n.f14.map d137).length : Int) : Int) > 200)) (fun hb106 => ?_) (fun hb106 => ?_)
                 ·replace hb106 := of_decide_eq_true (hb106)
                  refine sk ⟨[(2, bV false)], [], 1776⟩ ?_
                  refine X.ret ?_
                  exact ⟨trivial, _, _, ⟨false, (by first | exact nd_ff | exact nd_tt | exact nd_d1 | exact nd_d2), rfl, rfl⟩, mkr⟩
                 ·replace hb106 := of_decide_eq_false (hb106)
                  refine X.skip ?_
                  refine X.seq (rs 2 ?_)
                  obtain ⟨r107, hr109, hf108⟩ := i_TreeOk n.f4 (by assumption)
                  replace hr109 := hr109.symm; subst hr109
                  refine ca hf108 Tryz.func44 ?_
                  refine go 1 ?_
                  rcases Bool.eq_false_or_eq_true ((treeOk n.f4)) with hb111 | hb111
                  ·refine aT 109 hb111 ?_
                   refine aT 110 hb111 ?_
                   refine go 5 ?_
                   have el112 : (n.f4.map d73).length = n.f4.length := List.length_map ..
                   rcases Bool.eq_false_or_eq_true ((((n.f4.map d73).length : Int) == 0)) with hb113 | hb113
                   ·refine aT 114 hb113 ?_
                    refine aT 115 hb113 ?_
                    replace hb113 := eq_of_beq (hb113)
                    refine go 11 ?_
                    refine ek ⟨[(2, bV true)], [], 2080⟩ ?_
                    refine X.ret ?_
                    exact ⟨trivial, _, _, ⟨true, (by first | exact nd_ff | exact nd_tt | exact nd_d1 | exact nd_d2), rfl, rfl⟩, mkr⟩
                   ·refine aF 114 hb113 ?_
                    refine aF 115 hb113 ?_
                    replace hb113 := beq_eq_false_iff_ne.1 (hb113)
                    refine go 2 ?_
                    obtain ⟨x114, hx114⟩ : ∃ x, n.f4[Int.toNat 0]? = some x := ⟨_, List.getElem?_eq_getElem (by first | omega | (simp; done) | (simp; omega))⟩
                    refine CH.idx hτ (d73 x114) (rows := (n.f4.map d73)) (n := 0) (sz := 14) (by kernel_rfl) (by kernel_rfl) (by first | omega | (simp; done) | (simp; omega)) (by rw [List.getElem?_map, hx114]; rfl) (by kernel_rfl) ?_
                    refine go 8 ?_
                    refine ek ⟨[(2, bV (x114.f1 == n.f1))], [], 2080⟩ ?_
                    refine X.ret ?_
                    exact ⟨trivial, _, _, ⟨(x114.f1 == n.f1), (by first | exact nd_ff | exact nd_tt | exact nd_d1 | exact nd_d2), rfl, rfl⟩, mkr⟩
                  ·refine aF 109 hb111 ?_
                   refine aF 110 hb111 ?_
                   refine go 16 ?_
                   refine ek ⟨[(2, bV false)], [], 2080⟩ ?_
                   refine X.ret ?_
                   exact ⟨trivial, _, _, ⟨false, (by first | exact nd_ff | exact nd_tt | exact nd_d1 | exact nd_d2), rfl, rfl⟩, mkr⟩
 obtain ⟨_, _, ⟨r0, h1_, rfl, rfl⟩, hf⟩ := key
 exact ⟨r0, h1_, hf⟩

theorem l_FnExactNodeOk (n : S38) (hwn : w38 n) : ∃ r0 : Bool, (r0 = true) ∧ Fn Tryz.prog 3 [.e (.agg (cD (d38 n)))] (lookH []) (bV r0) (lookH []) := by
 have key : ∃ x' h', ((fun x' h' => ∃ r0 : Bool, (r0 = true) ∧ x' = bV r0 ∧ h' = [])) x' h' ∧ Fn Tryz.prog 3 [.e (.agg (cD (d38 n)))] (lookH []) x' (lookH h') := by
  refine Fn.bodyX (N := 27) hτ Tryz.func3 rfl rfl rfl rfl ?_
  refine sk ⟨[(1, .pt 64 0 0)], [(64, some (.box (cD (d38 n))))], 96⟩ ?_
  refine sk ⟨[(1, .pt 64 0 0), (3, iV 1048576)], [(64, some (.box (cD (d38 n))))], 112⟩ ?_
  refine X.seq (rs 2 ?_)
  obtain ⟨r1, hr3, hf2⟩ := l_szNode n 1048576 (by assumption) (by first | omega | assumption)
  obtain ⟨hz1, hz0, hz2⟩ := hr3
  refine ca hf2 Tryz.func4 ?_
  refine go 1 ?_
  refine ek ⟨[(1, .pt 64 0 0), (3, iV r1)], [(64, some (.box (cD (d38 n))))], 176⟩ ?_
  refine X.seq ?_
  refine sk ⟨[(1, .pt 64 0 0), (11, bV (decide ((r1 : Int) < 0)))], [(64, some (.box (cD (d38 n))))], 208⟩ ?_
  refine if_ (b := decide ((r1 : Int) < 0)) (fun hb4 => ?_) (fun hb4 => ?_)
  ·replace hb4 := of_decide_eq_true (hb4)
   refine sk ⟨[(2, bV true)], [], 224⟩ ?_
   refine X.ret ?_
   exact ⟨trivial, _, _, ⟨true, (by first | exact rfl | exact (by exfalso; omega) | exact (absurd rfl ‹_›) | exact (tf (eqV_self _) ‹_›)), rfl, rfl⟩, mkr⟩
  ·replace hb4 := of_decide_eq_false (hb4)
   refine X.skip ?_
   refine X.seq ?_
   have hS := hz2 (by omega)
   refine rs 1 ?_
   obtain ⟨r5, hr7, hf6⟩ := l_toNode n (by assumption)
   replace hr7 := hr7.symm; subst hr7
   refine ca hf6 Tryz.func6 ?_
   obtain ⟨r9, hr11, hf10⟩ := s_NodeOk ((toNode n)) (by assumption)
   replace hr11 := hr11.symm; subst hr11
   refine ca hf10 Tryz.func5 ?_
   refine go 1 ?_
   refine ek ⟨[(1, .pt 64 0 0), (4, bV (nodeOk ((toNode n))))], [(64, some (.box (cD (d38 n))))], 272⟩ ?_
   refine X.seq (rs 1 ?_)
   obtain ⟨r13, hr15, hf14⟩ := l_toNode n (by assumption)
   replace hr15 := hr15.symm; subst hr15
   refine ca hf14 Tryz.func6 ?_
   refine go 2 ?_
   refine ek ⟨[(1, .pt 64 0 0), (4, bV (nodeOk ((toNode n)))), (5, .pt 304 0 0)], [(64, some (.box (cD (d38 n)))), (304, some (.box [.d (.v (.string (((toNode n)).f0))), .d (.v (.int .i64 (((toNode n)).f1))), .d (.v (.int .i64 ((((toNode n)).f2).f0))), .f (.sl (((((toNode n)).f2).f1).map d155)), .f (.sl ((((toNode n)).f3).map d121)), .f (.sl ((((toNode n)).f4).map d73)), .d (.v (.int .i64 (((toNode n)).f5))), .d (.v (.int .i64 (((toNode n)).f6))), .d (.v (.int .i64 ((((toNode n)).f7).f0))), .d (.v (.int .i64 ((((toNode n)).f7).f1))), .f (.sl (((((toNode n)).f7).f2).map dS)), .d (.v (.int .i64 ((((toNode n)).f8).f0))), .f (.sl (((((toNode n)).f8).f1).map dS)), .f (.sl (((((toNode n)).f8).f2).map dI)), .d (.v (.int .i64 (((toNode n)).f9))), .f (.sl ((((toNode n)).f10).map d131)), .f (.sl ((((toNode n)).f11).map d133)), .f (.sl ((((toNode n)).f12).map dI)), .f (.sl ((((toNode n)).f13).map d119)), .f (.sl ((((toNode n)).f14).map d137))]))], 336⟩ ?_
   refine X.seq (rs 1 ?_)
   obtain ⟨r17, hr19, hf18⟩ := i_NodeOk ((toNode n)) (by assumption)
   replace hr19 := hr19.symm; subst hr19
   refine ca hf18 Tryz.func7 ?_
   refine go 1 ?_
   refine ek ⟨[(1, .pt 64 0 0), (4, bV (nodeOk ((toNode n)))), (5, .pt 304 0 0), (6, bV (nodeOk ((toNode n))))], [(64, some (.box (cD (d38 n)))), (304, some (.box [.d (.v (.string (((toNode n)).f0))), .d (.v (.int .i64 (((toNode n)).f1))), .d (.v (.int .i64 ((((toNode n)).f2).f0))), .f (.sl (((((toNode n)).f2).f1).map d155)), .f (.sl ((((toNode n)).f3).map d121)), .f (.sl ((((toNode n)).f4).map d73)), .d (.v (.int .i64 (((toNode n)).f5))), .d (.v (.int .i64 (((toNode n)).f6))), .d (.v (.int .i64 ((((toNode n)).f7).f0))), .d (.v (.int .i64 ((((toNode n)).f7).f1))), .f (.sl (((((toNode n)).f7).f2).map dS)), .d (.v (.int .i64 ((((toNode n)).f8).f0))), .f (.sl (((((toNode n)).f8).f1).map dS)), .f (.sl (((((toNode n)).f8).f2).map dI)), .d (.v (.int .i64 (((toNode n)).f9))), .f (.sl ((((toNode n)).f10).map d131)), .f (.sl ((((toNode n)).f11).map d133)), .f (.sl ((((toNode n)).f12).map dI)), .f (.sl ((((toNode n)).f13).map d119)), .f (.sl ((((toNode n)).f14).map d137))]))], 384⟩ ?_
   refine X.seq ?_
   refine X.seq (rs 2 ?_)
   refine CH.eqB (t := 4) (ng := true) (a := (nodeOk ((toNode n)))) (b := (nodeOk ((toNode n)))) (by kernel_rfl) (by kernel_rfl) Tryz.underlying4 ?_
   refine ek ⟨[(1, .pt 64 0 0), (5, .pt 304 0 0), (21, bV (!((nodeOk ((toNode n))) == (nodeOk ((toNode n))))))], [(64, some (.box (cD (d38 n)))), (304, some (.box [.d (.v (.string (((toNode n)).f0))), .d (.v (.int .i64 (((toNode n)).f1))), .d (.v (.int .i64 ((((toNode n)).f2).f0))), .f (.sl (((((toNode n)).f2).f1).map d155)), .f (.sl ((((toNode n)).f3).map d121)), .f (.sl ((((toNode n)).f4).map d73)), .d (.v (.int .i64 (((toNode n)).f5))), .d (.v (.int .i64 (((toNode n)).f6))), .d (.v (.int .i64 ((((toNode n)).f7).f0))), .d (.v (.int .i64 ((((toNode n)).f7).f1))), .f (.sl (((((toNode n)).f7).f2).map dS)), .d (.v (.int .i64 ((((toNode n)).f8).f0))), .f (.sl (((((toNode n)).f8).f1).map dS)), .f (.sl (((((toNode n)).f8).f2).map dI)), .d (.v (.int .i64 (((toNode n)).f9))), .f (.sl ((((toNode n)).f10).map d131)), .f (.sl ((((toNode n)).f11).map d133)), .f (.sl ((((toNode n)).f12).map dI)), .f (.sl ((((toNode n)).f13).map d119)), .f (.sl ((((toNode n)).f14).map d137))]))], 432⟩ ?_
   refine if_ (b := !((nodeOk ((toNode n))) == (nodeOk ((toNode n))))) (fun hb21 => ?_) (fun hb21 => ?_)
   ·replace hb21 := beq_eq_false_iff_ne.1 (bnot_yes (hb21))
    refine sk ⟨[(2, bV false)], [], 448⟩ ?_
    refine X.ret ?_
    exact ⟨trivial, _, _, ⟨false, (by first | exact rfl | exact (by exfalso; omega) | exact (absurd rfl ‹_›) | exact (tf (eqV_self _) ‹_›)), rfl, rfl⟩, mkr⟩
   ·replace hb21 := eq_of_beq (bnot_no (hb21))
    refine X.skip ?_
    refine X.seq ?_
    refine X.seq (rs 2 ?_)
    obtain ⟨r22, hr24, hf23⟩ := l_toNode n (by assumption)
    replace hr24 := hr24.symm; subst hr24
    refine ca hf23 Tryz.func6 ?_
    obtain ⟨r26, hr28, hf27⟩ := l_eqNode ((toNode n)) ((toNode n)) (by assumption) (by assumption)
    replace hr28 := hr28.symm; subst hr28
    refine ca hf27 Tryz.func8 ?_
    refine go 1 ?_
    refine ek ⟨[(26, bV (!(eqV ((toNode n)) ((toNode n)))))], [], 512⟩ ?_
    refine if_ (b := !(eqV ((toNode n)) ((toNode n)))) (fun hb30 => ?_) (fun hb30 => ?_)
    ·replace hb30 := bnot_yes (hb30)
     refine sk ⟨[(2, bV false)], [], 528⟩ ?_
     refine X.ret ?_
     exact ⟨trivial, _, _, ⟨false, (by first | exact rfl | exact (by exfalso; omega) | exact (absurd rfl ‹_›) | exact (tf (eqV_self _) ‹_›)), rfl, rfl⟩, mkr⟩
    ·replace hb30 := bnot_no (hb30)
     refine X.skip ?_
     refine sk ⟨[(2, bV true)], [], 528⟩ ?_
     refine X.ret ?_
     exact ⟨trivial, _, _, ⟨true, (by first | exact rfl | exact (by exfalso; omega) | exact (absurd rfl ‹_›) | exact (tf (eqV_self _) ‹_›)), rfl, rfl⟩, mkr⟩
 obtain ⟨_, _, ⟨r0, h1_, rfl, rfl⟩, hf⟩ := key
 exact ⟨r0, h1_, hf⟩
end Go.Proofs.YtpegmlbbeookbaaGreat.Av
