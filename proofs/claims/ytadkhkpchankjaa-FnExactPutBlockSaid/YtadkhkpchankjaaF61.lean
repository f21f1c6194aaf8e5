/-
Functions of the program, what they come to, and that Go comes to just that: laws_eqBlock.
Conditions: those that each theorem names.
-/
import Derived.Test.YtadkhkpchankjaaFAbs
import Derived.Test.YtadkhkpchankjaaF39
import Derived.Test.YtadkhkpchankjaaF48
import Derived.Test.YtadkhkpchankjaaF54
import Derived.Test.YtadkhkpchankjaaF60
import Derived.Test.YtadkhkpchankjaaFam
set_option linter.unusedVariables false
set_option linter.unusedSimpArgs false
namespace Go.Proofs.Ytadkhkpchankjaa.F
open Go.RowKit Go.Proofs.YtadkhkpchankjaaW.PrintWords Go.Proofs.YtadkhkpchankjaaW.PrintLast Go.Proofs.Ytadkhkpchankjaa.Base Go.Proofs.Ytadkhkpchankjaa.BW
open Go.Proofs.Ytadkhkpchankjaa.FamW

/-! ### laws_eqBlock: printed by compact.py -/
def l113 (x : S113) : Prop := l49 x.f4 ∧ l60 x.f5 ∧ (fun l : List S186 => l.length ≤ 9223372036854775807) x.f6 ∧ (fun l : List S138 => l.length ≤ 9223372036854775807) x.f8
set_option maxHeartbeats 2000000 in
set_option maxRecDepth 100000 in
theorem laws_eqBlock.same {x : S113} (hl : l113 x) {cs ds : List Value} {w : World} (hK : k113.K w x cs) (hL : k113.K w x ds) :
    Calls Try.prog 72 #[.agg cs.toArray, .agg ds.toArray] w fun e w' => e = .returned (.bool true) ∧ Below w.heap.size w w' := by
  obtain ⟨A6, a6, A8, a8, A9, a9, A10, a10, A12, a12, rfl, l6, g6, l8, g8, l9, g9, l10, g10, l12, g12⟩ := k113_open hK
  obtain ⟨D6, d6, D8, d8, D9, d9, D10, d10, D12, d12, rfl, m6, n6, m8, n8, m9, n9, m10, n10, m12, n12⟩ := k113_open hL
  have E4 := Aside0.mk (fun (W : World) (hb : Below w.heap.size w W) => laws_eqQc.same (w := W) (hl.1) (k49_mk W x.f4 l6 (Kd.C_below g6 hb)) (k49_mk W x.f4 m6 (Kd.C_below n6 hb)))
  have E5 := Aside0.mk (fun (W : World) (hb : Below w.heap.size w W) => laws_eqTc.same (w := W) (hl.2.1) (k60_mk W x.f5 l8 (Kd.C_below g8 hb) l9 (Kd.C_below g9 hb)) (k60_mk W x.f5 m8 (Kd.C_below n8 hb) m9 (Kd.C_below n9 hb)))
  have E6 := Aside0.mk (fun (W : World) (hb : Below w.heap.size w W) => laws_eqTxS.same (w := W) (hl.2.2.1) (Kd.C_below g10 hb) l10 (Kd.C_below n10 hb) m10)
  have E8 := Aside0.mk (fun (W : World) (hb : Below w.heap.size w W) => laws_eqValS.same (w := W) (hl.2.2.2) (Kd.C_below g12 hb) l12 (Kd.C_below n12 hb) m12)
  clear hl hK hL l6 g6 m6 n6 l8 g8 m8 n8 l9 g9 m9 n9 l10 g10 m10 n10 l12 g12 m12 n12
  go_enter Try.func72, Try.ntmps72
  go_wp2_with fail
  refine (E4.out _ (atop (atop (Below.refl _ _)))).mono ?_
  rintro _ W1 ⟨rfl, hb⟩
  have BX := Aside0.mk (boxA hb)
  have BY := Aside0.mk (boxB hb)
  have HB := Aside0.mk (off1 (off1 hb))
  clear hb E4
  obtain ⟨b0, b1, b2, b3, b4, b5, b6, b7, b8, b9, b10, b11, b12, b13⟩ := cells14 BX.out
  obtain ⟨y0, y1, y2, y3, y4, y5, y6, y7, y8, y9, y10, y11, y12, y13⟩ := cells14 BY.out
  go_wp2_with fail
  refine (E5.out _ HB.out).mono ?_
  rintro _ W1 ⟨rfl, hb⟩
  clear b0 y0 b1 y1 b2 y2 b3 y3 b4 y4 b5 y5 b6 y6 b7 y7 b8 y8 b9 y9 b10 y10 b11 y11 b12 y12 b13 y13
  replace BX := Aside0.mk (blk_below BX.out hb)
  replace BY := Aside0.mk (blk_below BY.out hb)
  replace HB := Aside0.mk (then_ HB.out hb)
  clear hb E5
  obtain ⟨b0, b1, b2, b3, b4, b5, b6, b7, b8, b9, b10, b11, b12, b13⟩ := cells14 BX.out
  obtain ⟨y0, y1, y2, y3, y4, y5, y6, y7, y8, y9, y10, y11, y12, y13⟩ := cells14 BY.out
  go_wp2_with fail
  refine (E6.out _ HB.out).mono ?_
  rintro _ W1 ⟨rfl, hb⟩
  clear b0 y0 b1 y1 b2 y2 b3 y3 b4 y4 b5 y5 b6 y6 b7 y7 b8 y8 b9 y9 b10 y10 b11 y11 b12 y12 b13 y13
  replace BX := Aside0.mk (blk_below BX.out hb)
  replace BY := Aside0.mk (blk_below BY.out hb)
  replace HB := Aside0.mk (then_ HB.out hb)
  clear hb E6
  obtain ⟨b0, b1, b2, b3, b4, b5, b6, b7, b8, b9, b10, b11, b12, b13⟩ := cells14 BX.out
  obtain ⟨y0, y1, y2, y3, y4, y5, y6, y7, y8, y9, y10, y11, y12, y13⟩ := cells14 BY.out
  go_wp2_with fail
  refine (E8.out _ HB.out).mono ?_
  rintro _ W1 ⟨rfl, hb⟩
  clear b0 y0 b1 y1 b2 y2 b3 y3 b4 y4 b5 y5 b6 y6 b7 y7 b8 y8 b9 y9 b10 y10 b11 y11 b12 y12 b13 y13
  replace BX := Aside0.mk (blk_below BX.out hb)
  replace BY := Aside0.mk (blk_below BY.out hb)
  replace HB := Aside0.mk (then_ HB.out hb)
  clear hb E8
  obtain ⟨b0, b1, b2, b3, b4, b5, b6, b7, b8, b9, b10, b11, b12, b13⟩ := cells14 BX.out
  obtain ⟨y0, y1, y2, y3, y4, y5, y6, y7, y8, y9, y10, y11, y12, y13⟩ := cells14 BY.out
  go_wp2
  go_ret
  exact ⟨rfl, HB.out⟩

end Go.Proofs.Ytadkhkpchankjaa.F
