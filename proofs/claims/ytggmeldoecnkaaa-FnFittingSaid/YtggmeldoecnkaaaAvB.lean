/-
What functions of the program come to, walked one by one.
Conditions: none beside those that each theorem names.
-/
import Derived.Test.YtggmeldoecnkaaaAvL
set_option linter.unusedVariables false
set_option linter.unusedSimpArgs false
namespace Go.Proofs.Ytggmeldoecnkaaa.Av
open Go.RowKit
set_option maxRecDepth 20000
set_option maxHeartbeats 4000000
theorem s_l5Any (bs : List Int) (i0 : Int) (h0 : Int) (hl : bs.length ≤ 4611686018427387904) (hi : 0 ≤ i0 ∧ i0 ≤ bs.length)  : ∃ r0 : S35, ∃ i1 : Int, ∃ h1 : Int, (Sm35 r0) ∧ (0 ≤ i1 ∧ i1 ≤ bs.length) ∧ Fn Try.prog 112 [.pt 0 0 0] (lookH [(0, some (.box [.k 0 (.sl (bs.map dB)), .k 1 (.v (.int .i64 i0)), .k 2 (.v (.int .i64 h0))]))]) (.e (.agg [.d (.v (.int .i64 r0.f0)), .d (.v (.string r0.f1)), .d (.v (.string r0.f2)), .d (.v (.int .i64 r0.f3)), .d (.v (.int .i64 r0.f4))])) (lookH [(0, some (.box [.k 0 (.sl (bs.map dB)), .d (.v (.int .i64 i1)), .d (.v (.int .i64 h1))]))]) := by
 have key : ∃ x' h', ((fun x' h' => ∃ r0 : S35, ∃ i1 : Int, ∃ h1 : Int, (Sm35 r0) ∧ (0 ≤ i1 ∧ i1 ≤ bs.length) ∧ x' = .e (.agg [.d (.v (.int .i64 r0.f0)), .d (.v (.string r0.f1)), .d (.v (.string r0.f2)), .d (.v (.int .i64 r0.f3)), .d (.v (.int .i64 r0.f4))]) ∧ h' = [(0, some (.box [.k 0 (.sl (bs.map dB)), .d (.v (.int .i64 i1)), .d (.v (.int .i64 h1))]))])) x' h' ∧ Fn Try.prog 112 [.pt 0 0 0] (lookH [(0, some (.box [.k 0 (.sl (bs.map dB)), .k 1 (.v (.int .i64 i0)), .k 2 (.v (.int .i64 h0))]))]) x' (lookH h') := by
  refine Fn.bodyX (N := 31) hτ Try.func112 rfl rfl rfl rfl ?_
  refine sk ⟨[(0, .pt 0 0 0), (2, .pt 64 0 0)], [(0, some (.box [.k 0 (.sl (bs.map dB)), .d (.v (.int .i64 i0)), .d (.v (.int .i64 h0))])), (64, some (.box [.d (.v (.int .i64 0)), .d (.v (.string (⟨#[]⟩ : ByteArray))), .d (.v (.string (⟨#[]⟩ : ByteArray))), .d (.v (.int .i64 0)), .d (.v (.int .i64 0))]))], 80⟩ ?_
  refine X.seq (rs 1 ?_)
  obtain ⟨r1, i4, h5, hr3, hi6, hf2⟩ := s_l5Tx bs i0 h0 (by first | assumption | omega) (by omega)
  have ht := hr3
  refine CH.call hf2 Try.func160 ⟨rfl, rfl⟩ [(0, 0)] (by kernel_rfl) (by kernel_rfl) (by kernel_rfl) (by kernel_rfl) ?_
  refine go 2 ?_
  refine ek ⟨[(0, .pt 0 0 0), (2, .pt 64 0 0), (3, .pt 112 0 0)], [(0, some (.box [.k 0 (.sl (bs.map dB)), .d (.v (.int .i64 i4)), .d (.v (.int .i64 h5))])), (64, some (.box [.d (.v (.int .i64 0)), .d (.v (.string (⟨#[]⟩ : ByteArray))), .d (.v (.string (⟨#[]⟩ : ByteArray))), .d (.v (.int .i64 0)), .d (.v (.int .i64 0))])), (112, some (.box (cD (d35 r1))))], 144⟩ ?_
  -- join: c0_1 : Int, c0_2 : Int, c112_0 : Int, c112_2 : ByteArray, c112_3 : Int, c112_4 : Int
  refine X.seqJ (σ := { g : Int × Int × Int × ByteArray × Int × Int // (fun (c0_1 : Int) (c0_2 : Int) (c112_0 : Int) (c112_2 : ByteArray) (c112_3 : Int) (c112_4 : Int) => (0 ≤ c0_1 ∧ c0_1 ≤ bs.length) ∧ (SmS r1.f1 ∧ SmS c112_2)) g.1 g.2.1 g.2.2.1 g.2.2.2.1 g.2.2.2.2.1 g.2.2.2.2.2 }) (fun g => (fun (c0_1 : Int) (c0_2 : Int) (c112_0 : Int) (c112_2 : ByteArray) (c112_3 : Int) (c112_4 : Int) => ⟨[(2, .pt 64 0 0), (3, .pt 112 0 0)], [(0, some (.box [.k 0 (.sl (bs.map dB)), .d (.v (.int .i64 c0_1)), .d (.v (.int .i64 c0_2))])), (64, some (.box [.d (.v (.int .i64 0)), .d (.v (.string (⟨#[]⟩ : ByteArray))), .d (.v (.string (⟨#[]⟩ : ByteArray))), .d (.v (.int .i64 0)), .d (.v (.int .i64 0))])), (112, some (.box [.d (.v (.int .i64 c112_0)), .d (.v (.string r1.f1)), .d (.v (.string c112_2)), .d (.v (.int .i64 c112_3)), .d (.v (.int .i64 c112_4))]))], 272⟩) g.1.1 g.1.2.1 g.1.2.2.1 g.1.2.2.2.1 g.1.2.2.2.2.1 g.1.2.2.2.2.2) ?_ (fun g => ?_)
  ·refine X.seq (rs 1 ?_)
   obtain ⟨r8, i11, h12, hr10, hi13, hf9⟩ := s_l1Below bs i4 h5 (by first | assumption | omega) (by omega) 12
   obtain ⟨_, _⟩ := hr10
   refine CH.call hf9 Try.func108 ⟨rfl, rfl⟩ [(0, 0)] (by kernel_rfl) (by kernel_rfl) (by kernel_rfl) (by kernel_rfl) ?_
   refine ek ⟨[(0, .pt 0 0 0), (2, .pt 64 0 0), (3, .pt 112 0 0), (7, iV r8)], [(0, some (.box [.k 0 (.sl (bs.map dB)), .d (.v (.int .i64 i11)), .d (.v (.int .i64 h12))])), (64, some (.box [.d (.v (.int .i64 0)), .d (.v (.string (⟨#[]⟩ : ByteArray))), .d (.v (.string (⟨#[]⟩ : ByteArray))), .d (.v (.int .i64 0)), .d (.v (.int .i64 0))])), (112, some (.box (cD (d35 r1))))], 176⟩ ?_
   refine X.block ?_
   refine sk ⟨[(0, .pt 0 0 0), (2, .pt 64 0 0), (3, .pt 112 0 0), (7, iV r8), (8, bV (r8 == 0))], [(0, some (.box [.k 0 (.sl (bs.map dB)), .d (.v (.int .i64 i11)), .d (.v (.int .i64 h12))])), (64, some (.box [.d (.v (.int .i64 0)), .d (.v (.string (⟨#[]⟩ : ByteArray))), .d (.v (.string (⟨#[]⟩ : ByteArray))), .d (.v (.int .i64 0)), .d (.v (.int .i64 0))])), (112, some (.box (cD (d35 r1))))], 208⟩ ?_
   refine if_ (b := (r8 == 0)) (fun hb14 => ?_) (fun hb14 => ?_)
   ·replace hb14 := eq_of_beq (hb14)
    refine rs 1 ?_
    obtain ⟨r15, i18, h19, hr17, hi20, hf16⟩ := s_l1Below bs i11 h12 (by first | assumption | omega) (by omega) 5
    obtain ⟨_, _⟩ := hr17
    refine CH.call hf16 Try.func108 ⟨rfl, rfl⟩ [(0, 0)] (by kernel_rfl) (by kernel_rfl) (by kernel_rfl) (by kernel_rfl) ?_
    refine go 2 ?_
    refine ek ⟨[(2, .pt 64 0 0), (3, .pt 112 0 0)], [(0, some (.box [.k 0 (.sl (bs.map dB)), .d (.v (.int .i64 i18)), .d (.v (.int .i64 h19))])), (64, some (.box [.d (.v (.int .i64 0)), .d (.v (.string (⟨#[]⟩ : ByteArray))), .d (.v (.string (⟨#[]⟩ : ByteArray))), .d (.v (.int .i64 0)), .d (.v (.int .i64 0))])), (112, some (.box [.d (.v (.int .i64 r15)), .d (.v (.string r1.f1)), .d (.v (.string r1.f2)), .d (.v (.int .i64 r1.f3)), .d (.v (.int .i64 r1.f4))]))], 272⟩ ?_
    refine ⟨⟨(i18, h19, r15, r1.f2, r1.f3, r1.f4), ⟨by first | omega | (dsimp only; omega), ⟨ht.1, by first | exact ht.2 | assumption⟩⟩⟩, Wk.mk' [(64, 64), (112, 112)] (by kernel_rfl) (by kernel_rfl) (by kernel_rfl)⟩
   ·replace hb14 := beq_eq_false_iff_ne.1 (hb14)
    refine sk ⟨[(0, .pt 0 0 0), (2, .pt 64 0 0), (3, .pt 112 0 0), (7, iV r8), (13, bV (r8 == 1))], [(0, some (.box [.k 0 (.sl (bs.map dB)), .d (.v (.int .i64 i11)), .d (.v (.int .i64 h12))])), (64, some (.box [.d (.v (.int .i64 0)), .d (.v (.string (⟨#[]⟩ : ByteArray))), .d (.v (.string (⟨#[]⟩ : ByteArray))), .d (.v (.int .i64 0)), .d (.v (.int .i64 0))])), (112, some (.box (cD (d35 r1))))], 240⟩ ?_
    refine if_ (b := (r8 == 1)) (fun hb21 => ?_) (fun hb21 => ?_)
    ·replace hb21 := eq_of_beq (hb21)
     refine rs 2 ?_
     obtain ⟨r22, i25, h26, hr24, hi27, hf23⟩ := s_l1Int bs i11 h12 (by first | assumption | omega) (by omega) ([0, (-1), 1000000, 1000001] : List Int) (by first | omega | (simp; done) | (simp; omega))
     have hmi := hr24
     refine CH.call hf23 Try.func109 ⟨rfl, rfl⟩ [(0, 0)] (by kernel_rfl) (by kernel_rfl) (by kernel_rfl) (by kernel_rfl) ?_
     refine go 2 ?_
     refine ek ⟨[(2, .pt 64 0 0), (3, .pt 112 0 0)], [(0, some (.box [.k 0 (.sl (bs.map dB)), .d (.v (.int .i64 i25)), .d (.v (.int .i64 h26))])), (64, some (.box [.d (.v (.int .i64 0)), .d (.v (.string (⟨#[]⟩ : ByteArray))), .d (.v (.string (⟨#[]⟩ : ByteArray))), .d (.v (.int .i64 0)), .d (.v (.int .i64 0))])), (112, some (.box [.d (.v (.int .i64 r1.f0)), .d (.v (.string r1.f1)), .d (.v (.string r1.f2)), .d (.v (.int .i64 r22)), .d (.v (.int .i64 r1.f4))]))], 320⟩ ?_
     refine ⟨⟨(i25, h26, r1.f0, r1.f2, r22, r1.f4), ⟨by first | omega | (dsimp only; omega), ⟨ht.1, by first | exact ht.2 | assumption⟩⟩⟩, Wk.mk' [(64, 64), (112, 112)] (by kernel_rfl) (by kernel_rfl) (by kernel_rfl)⟩
    ·replace hb21 := beq_eq_false_iff_ne.1 (hb21)
     refine sk ⟨[(0, .pt 0 0 0), (2, .pt 64 0 0), (3, .pt 112 0 0), (7, iV r8), (19, bV (r8 == 2))], [(0, some (.box [.k 0 (.sl (bs.map dB)), .d (.v (.int .i64 i11)), .d (.v (.int .i64 h12))])), (64, some (.box [.d (.v (.int .i64 0)), .d (.v (.string (⟨#[]⟩ : ByteArray))), .d (.v (.string (⟨#[]⟩ : ByteArray))), .d (.v (.int .i64 0)), .d (.v (.int .i64 0))])), (112, some (.box (cD (d35 r1))))], 272⟩ ?_
     refine if_ (b := (r8 == 2)) (fun hb28 => ?_) (fun hb28 => ?_)
     ·replace hb28 := eq_of_beq (hb28)
      refine rs 1 ?_
      obtain ⟨r29, i32, h33, hr31, hi34, hf30⟩ := s_l1NameAny bs i11 h12 (by first | assumption | omega) (by omega)
      have hs := hr31
      refine CH.call hf30 Try.func158 ⟨rfl, rfl⟩ [(0, 0)] (by kernel_rfl) (by kernel_rfl) (by kernel_rfl) (by kernel_rfl) ?_
      refine go 2 ?_
      refine ek ⟨[(2, .pt 64 0 0), (3, .pt 112 0 0)], [(0, some (.box [.k 0 (.sl (bs.map dB)), .d (.v (.int .i64 i32)), .d (.v (.int .i64 h33))])), (64, some (.box [.d (.v (.int .i64 0)), .d (.v (.string (⟨#[]⟩ : ByteArray))), .d (.v (.string (⟨#[]⟩ : ByteArray))), .d (.v (.int .i64 0)), .d (.v (.int .i64 0))])), (112, some (.box [.d (.v (.int .i64 r1.f0)), .d (.v (.string r1.f1)), .d (.v (.string r29)), .d (.v (.int .i64 r1.f3)), .d (.v (.int .i64 r1.f4))]))], 336⟩ ?_
      refine ⟨⟨(i32, h33, r1.f0, r29, r1.f3, r1.f4), ⟨by first | omega | (dsimp only; omega), ⟨ht.1, by first | exact ht.2 | assumption⟩⟩⟩, Wk.mk' [(64, 64), (112, 112)] (by kernel_rfl) (by kernel_rfl) (by kernel_rfl)⟩
     ·replace hb28 := beq_eq_false_iff_ne.1 (hb28)
      refine sk ⟨[(0, .pt 0 0 0), (2, .pt 64 0 0), (3, .pt 112 0 0), (24, bV (r8 == 3))], [(0, some (.box [.k 0 (.sl (bs.map dB)), .d (.v (.int .i64 i11)), .d (.v (.int .i64 h12))])), (64, some (.box [.d (.v (.int .i64 0)), .d (.v (.string (⟨#[]⟩ : ByteArray))), .d (.v (.string (⟨#[]⟩ : ByteArray))), .d (.v (.int .i64 0)), .d (.v (.int .i64 0))])), (112, some (.box (cD (d35 r1))))], 304⟩ ?_
      refine if_ (b := (r8 == 3)) (fun hb35 => ?_) (fun hb35 => ?_)
      ·replace hb35 := eq_of_beq (hb35)
       refine rs 2 ?_
       obtain ⟨r36, i39, h40, hr38, hi41, hf37⟩ := s_l1Int bs i11 h12 (by first | assumption | omega) (by omega) ([(-1), 10000, 10001] : List Int) (by first | omega | (simp; done) | (simp; omega))
       have hmi := hr38
       refine CH.call hf37 Try.func109 ⟨rfl, rfl⟩ [(0, 0)] (by kernel_rfl) (by kernel_rfl) (by kernel_rfl) (by kernel_rfl) ?_
       refine go 2 ?_
       refine ek ⟨[(2, .pt 64 0 0), (3, .pt 112 0 0)], [(0, some (.box [.k 0 (.sl (bs.map dB)), .d (.v (.int .i64 i39)), .d (.v (.int .i64 h40))])), (64, some (.box [.d (.v (.int .i64 0)), .d (.v (.string (⟨#[]⟩ : ByteArray))), .d (.v (.string (⟨#[]⟩ : ByteArray))), .d (.v (.int .i64 0)), .d (.v (.int .i64 0))])), (112, some (.box [.d (.v (.int .i64 r1.f0)), .d (.v (.string r1.f1)), .d (.v (.string r1.f2)), .d (.v (.int .i64 r1.f3)), .d (.v (.int .i64 r36))]))], 384⟩ ?_
       refine ⟨⟨(i39, h40, r1.f0, r1.f2, r1.f3, r36), ⟨by first | omega | (dsimp only; omega), ⟨ht.1, by first | exact ht.2 | assumption⟩⟩⟩, Wk.mk' [(64, 64), (112, 112)] (by kernel_rfl) (by kernel_rfl) (by kernel_rfl)⟩
      ·replace hb35 := beq_eq_false_iff_ne.1 (hb35)
       refine X.skip ?_
       refine ⟨⟨(i11, h12, r1.f0, r1.f2, r1.f3, r1.f4), ⟨by first | omega | (dsimp only; omega), ⟨ht.1, by first | exact ht.2 | assumption⟩⟩⟩, Wk.mk' [(64, 64), (112, 112)] (by kernel_rfl) (by kernel_rfl) (by kernel_rfl)⟩
  ·obtain ⟨⟨c0_1, c0_2, c112_0, c112_2, c112_3, c112_4⟩, hg7⟩ := g
   have hg7 : (0 ≤ c0_1 ∧ c0_1 ≤ bs.length) ∧ (SmS r1.f1 ∧ SmS c112_2) := hg7
   obtain ⟨⟨_, _⟩, hJ⟩ := hg7
   refine sk ⟨[(2, .pt 64 0 0)], [(0, some (.box [.k 0 (.sl (bs.map dB)), .d (.v (.int .i64 c0_1)), .d (.v (.int .i64 c0_2))])), (64, some (.box [.d (.v (.int .i64 c112_0)), .d (.v (.string r1.f1)), .d (.v (.string c112_2)), .d (.v (.int .i64 c112_3)), .d (.v (.int .i64 c112_4))]))], 304⟩ ?_
   refine X.ret ?_
   exact ⟨trivial, _, _, ⟨(⟨c112_0, r1.f1, c112_2, c112_3, c112_4⟩ : S35), c0_1, c0_2, hJ, (by omega), rfl, rfl⟩, mkr⟩
 obtain ⟨_, _, ⟨r0, i1, h1, h1_, h2_, rfl, rfl⟩, hf⟩ := key
 exact ⟨r0, i1, h1, h1_, h2_, hf⟩

theorem s_l1Size (code : List Int) (most : Int) (hl : code.length ≤ 4611686018427387904) : ∃ r0 : Int, (r0 ≤ most) ∧ Fn Try.prog 43 [lV (code.map dB), iV most] (lookH []) (iV r0) (lookH []) := by
 have key : ∃ x' h', ((fun x' h' => ∃ r0 : Int, (r0 ≤ most) ∧ x' = iV r0 ∧ h' = [])) x' h' ∧ Fn Try.prog 43 [lV (code.map dB), iV most] (lookH []) x' (lookH h') := by
  refine Fn.bodyX (N := 15) hτ Try.func43 rfl rfl rfl rfl ?_
  refine sk ⟨[(0, lV (code.map dB)), (1, iV most)], [], 80⟩ ?_
  refine X.seq ?_
  have el1 : (code.map dB).length = code.length := List.length_map ..
  have ft2 := tdiv_le ((code.map dB).length : Int) 12 (by first | omega | (simp; done) | (simp; omega)) (by omega)
  refine X.rk ⟨[(1, iV most), (5, iV (wrap64 (3 + (wrap64 (Int.tdiv ((code.map dB).length : Int) 12)))))], [], 160⟩ hτ hmix (by kernel_rfl) (by kernel_rfl) (s2 := ⟨[(1, iV most), (5, iV (3 + ((Int.tdiv ((code.map dB).length : Int) 12))))], [], 160⟩) (congrArg (fun z : Int => (⟨[(1, iV most), (5, iV z)], [], 160⟩ : St)) (show wrap64 (3 + (wrap64 (Int.tdiv ((code.map dB).length : Int) 12))) = (3 + ((Int.tdiv ((code.map dB).length : Int) 12))) by rw [w64 (n := (Int.tdiv ((code.map dB).length : Int) 12)) (by omega) (by omega), w64 (n := (3 + ((Int.tdiv ((code.map dB).length : Int) 12)))) (by omega) (by omega)])) ?_
  refine X.seq ?_
  refine sk ⟨[(1, iV most), (5, iV (3 + ((Int.tdiv ((code.map dB).length : Int) 12)))), (12, bV (decide (((3 + ((Int.tdiv ((code.map dB).length : Int) 12))) : Int) > most)))], [], 208⟩ ?_
  refine if_ (b := decide (((3 + ((Int.tdiv ((code.map dB).length : Int) 12))) : Int) > most)) (fun hb3 => ?_) (fun hb3 => ?_)
  ·replace hb3 := of_decide_eq_true (hb3)
   refine sk ⟨[(4, iV most)], [], 240⟩ ?_
   refine X.ret ?_
   exact ⟨trivial, _, _, ⟨most, by first | exact rfl | omega | (dsimp only; omega) | (simp only [List.length_append, List.length_cons, List.length_nil, List.length_set]; omega) | (simp; done) | (simp; omega), rfl, rfl⟩, mkr⟩
  ·replace hb3 := of_decide_eq_false (hb3)
   refine X.skip ?_
   refine sk ⟨[(4, iV (3 + ((Int.tdiv ((code.map dB).length : Int) 12))))], [], 240⟩ ?_
   refine X.ret ?_
   exact ⟨trivial, _, _, ⟨(3 + ((Int.tdiv ((code.map dB).length : Int) 12))), by first | exact rfl | omega | (dsimp only; omega) | (simp only [List.length_append, List.length_cons, List.length_nil, List.length_set]; omega) | (simp; done) | (simp; omega), rfl, rfl⟩, mkr⟩
 obtain ⟨_, _, ⟨r0, h1_, rfl, rfl⟩, hf⟩ := key
 exact ⟨r0, h1_, hf⟩

theorem l_big (c : List Int) (hl : c.length ≤ 4611686018427387904) : ∃ r0 : Bool, (True) ∧ Fn Try.prog 7 [lV (c.map dB)] (lookH []) (bV r0) (lookH []) := by
 have key : ∃ x' h', ((fun x' h' => ∃ r0 : Bool, (True) ∧ x' = bV r0 ∧ h' = [])) x' h' ∧ Fn Try.prog 7 [lV (c.map dB)] (lookH []) x' (lookH h') := by
  refine Fn.bodyX (N := 6) hτ Try.func7 rfl rfl rfl rfl ?_
  refine sk ⟨[(0, lV (c.map dB))], [], 80⟩ ?_
  refine X.seq ?_
  have el1 : (c.map dB).length = c.length := List.length_map ..
  refine rk ⟨[(2, bV (decide ((((c.map dB).length : Int) : Int) > 1048576)))], [], 144⟩ ?_
  refine X.ret ?_
  exact ⟨trivial, _, _, ⟨decide ((((c.map dB).length : Int) : Int) > 1048576), trivial, rfl, rfl⟩, mkr⟩
 obtain ⟨_, _, ⟨r0, h1_, rfl, rfl⟩, hf⟩ := key
 exact ⟨r0, h1_, hf⟩
end Go.Proofs.Ytggmeldoecnkaaa.Av
