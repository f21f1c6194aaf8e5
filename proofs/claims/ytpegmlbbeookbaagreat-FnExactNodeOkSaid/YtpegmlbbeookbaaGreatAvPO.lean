/-
What functions of the program come to, walked one by one.
Conditions: none beside those that each theorem names.
-/
import Derived.Test.YtpegmlbbeookbaaGreatAvB
set_option linter.unusedVariables false
set_option linter.unusedSimpArgs false
namespace Go.Proofs.YtpegmlbbeookbaaGreat.Av
open Go.RowKit
set_option maxRecDepth 20000
set_option maxHeartbeats 4000000

/-! the order of orders -/
theorem bl_trans : ∀ a b c : List UInt8, Op.bytesLess a b = true → Op.bytesLess b c = true → Op.bytesLess a c = true
  | [], [], _, h, _ => by simp [Op.bytesLess] at h
  | _ :: _, [], _, h, _ => by simp [Op.bytesLess] at h
  | _, _ :: _, [], _, h => by simp [Op.bytesLess] at h
  | [], _ :: _, _ :: _, _, _ => rfl
  | x :: xs, y :: ys, z :: zs, h, h' => by
    have ih := bl_trans xs ys zs
    simp only [Op.bytesLess, Bool.or_eq_true, decide_eq_true_eq, Bool.and_eq_true, beq_iff_eq] at h h' ⊢
    have e1 : (x < y) = (x.toNat < y.toNat) := rfl
    have e2 : (y < z) = (y.toNat < z.toNat) := rfl
    have e3 : (x < z) = (x.toNat < z.toNat) := rfl
    rw [e1] at h
    rw [e2] at h'
    rw [e3]
    rcases h with h | ⟨rfl, h⟩ <;> rcases h' with h' | ⟨rfl, h'⟩
    · exact .inl (by omega)
    · exact .inl h
    · exact .inl h'
    · exact .inr ⟨rfl, ih h h'⟩
def cS (a b : ByteArray) : Int := if Op.bytesLess a.toList b.toList = true then -1 else if a.toList = b.toList then 0 else 1
def cI (a b : Int) : Int := if a < b then -1 else if a = b then 0 else 1
def or0 (x y : Int) : Int := if x = 0 then y else x
structure IsC {α : Type} (c : α → α → Int) : Prop where
  sw : ∀ a b, c a b < 0 ↔ 0 < c b a
  tr : ∀ a b d, c a b < 0 → c b d < 0 → c a d < 0
  cg : ∀ a b, c a b = 0 → ∀ d, c a d = c b d
  rf : ∀ a, c a a = 0
theorem cS_lt {a b : ByteArray} : cS a b < 0 ↔ Op.bytesLess a.toList b.toList = true := by
  unfold cS; split
  · simp [*]
  · split <;> simp [*, less_irrefl]
theorem cS_gt {a b : ByteArray} : 0 < cS a b ↔ Op.bytesLess b.toList a.toList = true := by
  have h := less_total a.toList b.toList
  have hi := less_irrefl a.toList
  unfold cS; split
  · rename_i h1
    rw [h1, Bool.true_or] at h
    have := bnot_yes h.symm
    simp [this]
  · rename_i h1
    split
    · rename_i h2
      rw [h2]
      rw [h2] at hi
      simp [hi]
    · rename_i h2
      have h1 : Op.bytesLess a.toList b.toList = false := by simpa using h1
      rw [h1, beq_false_of_ne h2] at h
      have := bnot_no h.symm
      simp [this]
theorem cS_eq {a b : ByteArray} (h : cS a b = 0) : a = b := by
  unfold cS at h; split at h
  · omega
  · split at h
    · exact tl_inj.1 (by assumption)
    · omega
theorem cS_is : IsC cS where
  sw a b := by rw [cS_lt, cS_gt]
  tr a b d h h' := by rw [cS_lt] at *; exact bl_trans _ _ _ h h'
  cg a b h d := by rw [cS_eq h]
  rf a := by unfold cS; rw [less_irrefl]; simp
theorem cI_is : IsC cI where
  sw a b := by unfold cI; grind
  tr a b d := by unfold cI; grind
  cg a b h d := by unfold cI at *; grind
  rf a := by unfold cI; grind
theorem cI_eq {a b : Int} (h : cI a b = 0) : a = b := by unfold cI at h; grind
theorem IsC.on {α β : Type} {c : β → β → Int} (h : IsC c) (f : α → β) : IsC fun a b => c (f a) (f b) where
  sw _ _ := h.sw _ _
  tr _ _ _ := h.tr _ _ _
  cg _ _ e _ := h.cg _ _ e _
  rf _ := h.rf _
theorem IsC.z {α : Type} {c : α → α → Int} (h : IsC c) {a b : α} (e : c a b = 0) : c b a = 0 := by
  have h1 := h.sw a b
  have h2 := h.sw b a
  omega
def cmpTx (a b : S119) : Int := or0 (cS a.f1 b.f1) (or0 (cI a.f4 b.f4) (or0 (cI a.f0 b.f0) (or0 (cS a.f2 b.f2) (cI a.f3 b.f3))))
def txLess (a b : S119) : Bool := decide (cmpTx a b < 0)
theorem txl_iff {a b : S119} : txLess a b = true ↔ cmpTx a b < 0 := by simp [txLess]
def poolR (l : List S119) (i : Int) (x : S119) : Prop := txOk x = true ∧ ∀ y, 0 < i → l[(i - 1).toNat]? = some y → txLess y x = true
def poolP (l : List S119) : Prop := Upto (poolR l) (fun n => l[n]?) l.length ∧ (l.length : Int) ≤ 20
noncomputable def poolOk (l : List S119) : Bool := @decide (poolP l) (Classical.propDecidable _)
section
variable {l L : List S119} {t : S119}
end
theorem or0_n {x y : Int} (h : x ≠ 0) : or0 x y = x := if_neg h
theorem or0_o {x y : Int} (h : x = 0) : or0 x y = y := if_pos h
theorem cS_n {a b : ByteArray} (h : a.toList ≠ b.toList) : cS a b ≠ 0 := fun e => h (by rw [cS_eq e])
theorem cS_o {a b : ByteArray} (h : a.toList = b.toList) : cS a b = 0 := by rw [tl_inj.1 h]; exact cS_is.rf b
theorem cI_n {a b : Int} (h : a ≠ b) : cI a b ≠ 0 := fun e => h (cI_eq e)
theorem cI_o {a b : Int} (h : a = b) : cI a b = 0 := by rw [h]; exact cI_is.rf b
theorem cI_lt {a b : Int} : cI a b < 0 ↔ a < b := by unfold cI; grind
section
variable {a b : S119}
theorem txl1 (h : a.f1.toList ≠ b.f1.toList) : Op.bytesLess a.f1.toList b.f1.toList = txLess a b := by
  rw [Bool.eq_iff_iff, txl_iff, cmpTx, or0_n (cS_n h), cS_lt]
theorem txl2 (h1 : a.f1.toList = b.f1.toList) (h : a.f4 ≠ b.f4) : decide (a.f4 < b.f4) = txLess a b := by
  rw [Bool.eq_iff_iff, txl_iff, cmpTx, or0_o (cS_o h1), or0_n (cI_n h), cI_lt, decide_eq_true_eq]
theorem txl3 (h1 : a.f1.toList = b.f1.toList) (h2 : a.f4 = b.f4) (h : a.f0 ≠ b.f0) : decide (a.f0 < b.f0) = txLess a b := by
  rw [Bool.eq_iff_iff, txl_iff, cmpTx, or0_o (cS_o h1), or0_o (cI_o h2), or0_n (cI_n h), cI_lt, decide_eq_true_eq]
theorem txl4 (h1 : a.f1.toList = b.f1.toList) (h2 : a.f4 = b.f4) (h3 : a.f0 = b.f0) (h : a.f2.toList ≠ b.f2.toList) : Op.bytesLess a.f2.toList b.f2.toList = txLess a b := by
  rw [Bool.eq_iff_iff, txl_iff, cmpTx, or0_o (cS_o h1), or0_o (cI_o h2), or0_o (cI_o h3), or0_n (cS_n h), cS_lt]
theorem txl5 (h1 : a.f1.toList = b.f1.toList) (h2 : a.f4 = b.f4) (h3 : a.f0 = b.f0) (h : a.f2.toList = b.f2.toList) : decide (a.f3 < b.f3) = txLess a b := by
  rw [Bool.eq_iff_iff, txl_iff, cmpTx, or0_o (cS_o h1), or0_o (cI_o h2), or0_o (cI_o h3), or0_o (cS_o h), cI_lt, decide_eq_true_eq]
end
theorem cS_a {x y : ByteArray} (h : Op.bytesLess x.toList y.toList = true) : -1 = cS x y := (if_pos h).symm
theorem cS_b {x y : ByteArray} (h : Op.bytesLess x.toList y.toList = false) (h' : Op.bytesLess y.toList x.toList = true) : 1 = cS x y := by
  have := cS_gt.2 h'
  unfold cS at *
  rw [if_neg (by simp [h])] at *
  split at this <;> simp_all
theorem cS_c {x y : ByteArray} (h : Op.bytesLess x.toList y.toList = false) (h' : Op.bytesLess y.toList x.toList = false) : 0 = cS x y := by
  have h1 : ¬ cS x y < 0 := fun q => by rw [cS_lt.1 q] at h; cases h
  have h2 : ¬ 0 < cS x y := fun q => by rw [cS_gt.1 q] at h'; cases h'
  omega
def orL : List Int → Int
  | [] => 0
  | x :: l => or0 x (orL l)
theorem orL_five (a b c d e : Int) : orL [a, b, c, d, e] = or0 a (or0 b (or0 c (or0 d e))) := by
  have : or0 e 0 = e := by unfold or0; split <;> omega
  show or0 a (or0 b (or0 c (or0 d (or0 e 0)))) = _
  rw [this]
theorem orL_z : ∀ {l : List Int} {n : Nat}, (∀ (j : Nat) (x : Int), j < n → l[j]? = some x → x = 0) → orL l = orL (l.drop n)
  | l, 0, _ => by simp
  | [], n + 1, _ => by simp
  | x :: l, n + 1, h => by
    have h0 := h 0 x (by omega) rfl
    rw [List.drop_succ_cons, ← orL_z (l := l) (n := n) fun j y hj hy => h (j + 1) y (by omega) (by simpa using hy)]
    exact or0_o h0
theorem orL_at {l : List Int} {i : Int} {x : Int} (hA : Upto (fun _ x => x = 0) (fun n => l[n]?) i) (h0 : 0 ≤ i) (hx : l[i.toNat]? = some x) (h : x ≠ 0) : x = orL l := by
  rw [orL_z (n := i.toNat) fun j y hj hy => hA j y (by omega) (by omega) (by simpa using hy)]
  obtain ⟨hl, e⟩ := List.getElem?_eq_some_iff.1 hx
  rw [List.drop_eq_getElem_cons hl, e]
  exact (or0_n h).symm
theorem orL_all {l : List Int} {i : Int} (hA : Upto (fun _ x => x = 0) (fun n => l[n]?) i) (h : (l.length : Int) ≤ i) : 0 = orL l := by
  rw [orL_z (n := l.length) fun j y hj hy => hA j y (by omega) (by omega) (by simpa using hy)]
  simp [orL]
section
variable {l : List S119} {t : S119} {at_ : Int} {has : Bool}
end
theorem s_TxLess (a : S119) (b : S119) : ∃ r0 : Bool, (r0 = txLess a b) ∧ Fn Tryz.prog 65 [.e (.agg (cD (d119 a))), .e (.agg (cD (d119 b)))] (lookH []) (bV r0) (lookH []) := by
 have key : ∃ x' h', ((fun x' h' => ∃ r0 : Bool, (r0 = txLess a b) ∧ x' = bV r0 ∧ h' = [])) x' h' ∧ Fn Tryz.prog 65 [.e (.agg (cD (d119 a))), .e (.agg (cD (d119 b)))] (lookH []) x' (lookH h') := by
  refine Fn.bodyX (N := 54) hτ Tryz.func65 rfl rfl rfl rfl ?_
  refine sk ⟨[(2, .pt 64 0 0), (3, .pt 80 0 0)], [(64, some (.box (cD (d119 a)))), (80, some (.box (cD (d119 b))))], 112⟩ ?_
  refine X.seq ?_
  refine X.block ?_
  refine sk ⟨[(2, .pt 64 0 0), (3, .pt 80 0 0), (5, bV (!(a.f1.toList == b.f1.toList)))], [(64, some (.box (cD (d119 a)))), (80, some (.box (cD (d119 b))))], 208⟩ ?_
  refine if_ (b := !(a.f1.toList == b.f1.toList)) (fun hb1 => ?_) (fun hb1 => ?_)
  ·replace hb1 := beq_no (bnot_yes (hb1))
   refine sk ⟨[(4, bV (Op.bytesLess a.f1.toList b.f1.toList))], [], 304⟩ ?_
   refine X.ret ?_
   exact ⟨trivial, _, _, ⟨(Op.bytesLess a.f1.toList b.f1.toList), (by first | exact txl1 ‹_› | exact txl2 ‹_› ‹_› | exact txl3 ‹_› ‹_› ‹_› | exact txl4 ‹_› ‹_› ‹_› ‹_› | exact txl5 ‹_› ‹_› ‹_› ‹_›), rfl, rfl⟩, mkr⟩
  ·replace hb1 := beq_yes (bnot_no (hb1))
   refine sk ⟨[(2, .pt 64 0 0), (3, .pt 80 0 0), (16, bV (a.f4 != b.f4))], [(64, some (.box (cD (d119 a)))), (80, some (.box (cD (d119 b))))], 304⟩ ?_
   refine if_ (b := (a.f4 != b.f4)) (fun hb2 => ?_) (fun hb2 => ?_)
   ·replace hb2 := bne_iff_ne.1 (hb2)
    refine sk ⟨[(4, bV (decide ((a.f4 : Int) < b.f4)))], [], 400⟩ ?_
    refine X.ret ?_
    exact ⟨trivial, _, _, ⟨decide ((a.f4 : Int) < b.f4), (by first | exact txl1 ‹_› | exact txl2 ‹_› ‹_› | exact txl3 ‹_› ‹_› ‹_› | exact txl4 ‹_› ‹_› ‹_› ‹_› | exact txl5 ‹_› ‹_› ‹_› ‹_›), rfl, rfl⟩, mkr⟩
   ·replace hb2 := bne_eq_false_iff_eq.1 (hb2)
    refine sk ⟨[(2, .pt 64 0 0), (3, .pt 80 0 0), (27, bV (a.f0 != b.f0))], [(64, some (.box (cD (d119 a)))), (80, some (.box (cD (d119 b))))], 400⟩ ?_
    refine if_ (b := (a.f0 != b.f0)) (fun hb3 => ?_) (fun hb3 => ?_)
    ·replace hb3 := bne_iff_ne.1 (hb3)
     refine sk ⟨[(4, bV (decide ((a.f0 : Int) < b.f0)))], [], 496⟩ ?_
     refine X.ret ?_
     exact ⟨trivial, _, _, ⟨decide ((a.f0 : Int) < b.f0), (by first | exact txl1 ‹_› | exact txl2 ‹_› ‹_› | exact txl3 ‹_› ‹_› ‹_› | exact txl4 ‹_› ‹_› ‹_› ‹_› | exact txl5 ‹_› ‹_› ‹_› ‹_›), rfl, rfl⟩, mkr⟩
    ·replace hb3 := bne_eq_false_iff_eq.1 (hb3)
     refine sk ⟨[(2, .pt 64 0 0), (3, .pt 80 0 0), (38, bV (!(a.f2.toList == b.f2.toList)))], [(64, some (.box (cD (d119 a)))), (80, some (.box (cD (d119 b))))], 496⟩ ?_
     refine if_ (b := !(a.f2.toList == b.f2.toList)) (fun hb4 => ?_) (fun hb4 => ?_)
     ·replace hb4 := beq_no (bnot_yes (hb4))
      refine sk ⟨[(4, bV (Op.bytesLess a.f2.toList b.f2.toList))], [], 592⟩ ?_
      refine X.ret ?_
      exact ⟨trivial, _, _, ⟨(Op.bytesLess a.f2.toList b.f2.toList), (by first | exact txl1 ‹_› | exact txl2 ‹_› ‹_› | exact txl3 ‹_› ‹_› ‹_› | exact txl4 ‹_› ‹_› ‹_› ‹_› | exact txl5 ‹_› ‹_› ‹_› ‹_›), rfl, rfl⟩, mkr⟩
     ·replace hb4 := beq_yes (bnot_no (hb4))
      refine X.skip ?_
      refine sk ⟨[(4, bV (decide ((a.f3 : Int) < b.f3)))], [], 592⟩ ?_
      refine X.ret ?_
      exact ⟨trivial, _, _, ⟨decide ((a.f3 : Int) < b.f3), (by first | exact txl1 ‹_› | exact txl2 ‹_› ‹_› | exact txl3 ‹_› ‹_› ‹_› | exact txl4 ‹_› ‹_› ‹_› ‹_› | exact txl5 ‹_› ‹_› ‹_› ‹_›), rfl, rfl⟩, mkr⟩
 obtain ⟨_, _, ⟨r0, h1_, rfl, rfl⟩, hf⟩ := key
 exact ⟨r0, h1_, hf⟩

theorem c_nanS (x : ByteArray) : ∃ r0 : Bool, (r0 = false) ∧ Fn Tryz.prog 133 [.e (.c (.d (.v (.string x))))] (lookH []) (bV r0) (lookH []) := by
 have key : ∃ x' h', ((fun x' h' => ∃ r0 : Bool, (r0 = false) ∧ x' = bV r0 ∧ h' = [])) x' h' ∧ Fn Tryz.prog 133 [.e (.c (.d (.v (.string x))))] (lookH []) x' (lookH h') := by
  refine Fn.bodyX (N := 6) hτ Tryz.func133 rfl rfl rfl rfl ?_
  refine sk ⟨[(0, .e (.c (.d (.v (.string x)))))], [], 80⟩ ?_
  refine sk ⟨[(2, bV (!(x.toList == x.toList)))], [], 144⟩ ?_
  refine X.ret ?_
  exact ⟨trivial, _, _, ⟨!(x.toList == x.toList), (by simp), rfl, rfl⟩, mkr⟩
 obtain ⟨_, _, ⟨r0, h1_, rfl, rfl⟩, hf⟩ := key
 exact ⟨r0, h1_, hf⟩

theorem c_nanI (x : Int) : ∃ r0 : Bool, (r0 = false) ∧ Fn Tryz.prog 134 [iV x] (lookH []) (bV r0) (lookH []) := by
 have key : ∃ x' h', ((fun x' h' => ∃ r0 : Bool, (r0 = false) ∧ x' = bV r0 ∧ h' = [])) x' h' ∧ Fn Tryz.prog 134 [iV x] (lookH []) x' (lookH h') := by
  refine Fn.bodyX (N := 6) hτ Tryz.func134 rfl rfl rfl rfl ?_
  refine sk ⟨[(0, iV x)], [], 80⟩ ?_
  refine sk ⟨[(2, bV (x != x))], [], 144⟩ ?_
  refine X.ret ?_
  exact ⟨trivial, _, _, ⟨(x != x), (by simp), rfl, rfl⟩, mkr⟩
 obtain ⟨_, _, ⟨r0, h1_, rfl, rfl⟩, hf⟩ := key
 exact ⟨r0, h1_, hf⟩

theorem c_cmpS (x : ByteArray) (y : ByteArray) : ∃ r0 : Int, (r0 = cS x y) ∧ Fn Tryz.prog 126 [.e (.c (.d (.v (.string x)))), .e (.c (.d (.v (.string y))))] (lookH []) (iV r0) (lookH []) := by
 have key : ∃ x' h', ((fun x' h' => ∃ r0 : Int, (r0 = cS x y) ∧ x' = iV r0 ∧ h' = [])) x' h' ∧ Fn Tryz.prog 126 [.e (.c (.d (.v (.string x)))), .e (.c (.d (.v (.string y))))] (lookH []) x' (lookH h') := by
  refine Fn.bodyX (N := 20) hτ Tryz.func126 rfl rfl rfl rfl ?_
  refine sk ⟨[(0, .e (.c (.d (.v (.string x))))), (1, .e (.c (.d (.v (.string y)))))], [], 80⟩ ?_
  refine X.seq (rs 1 ?_)
  obtain ⟨r1, hr3, hf2⟩ := c_nanS x
  replace hr3 := hr3.symm; subst hr3
  refine ca hf2 Tryz.func133 ?_
  refine go 1 ?_
  refine ek ⟨[(0, .e (.c (.d (.v (.string x))))), (1, .e (.c (.d (.v (.string y))))), (5, bV false)], [], 128⟩ ?_
  refine X.seq (rs 1 ?_)
  obtain ⟨r5, hr7, hf6⟩ := c_nanS y
  replace hr7 := hr7.symm; subst hr7
  refine ca hf6 Tryz.func133 ?_
  refine go 1 ?_
  refine ek ⟨[(0, .e (.c (.d (.v (.string x))))), (1, .e (.c (.d (.v (.string y))))), (5, bV false), (6, bV false)], [], 176⟩ ?_
  refine X.seq ?_
  refine sk ⟨[(0, .e (.c (.d (.v (.string x))))), (1, .e (.c (.d (.v (.string y))))), (6, bV false), (11, bV false)], [], 192⟩ ?_
  refine X.ifF (by kernel_rfl) ?_
  refine X.skip ?_
  refine X.seq ?_
  refine sk ⟨[(0, .e (.c (.d (.v (.string x))))), (1, .e (.c (.d (.v (.string y))))), (13, bV false)], [], 208⟩ ?_
  refine X.ifF (by kernel_rfl) ?_
  refine X.skip ?_
  refine X.seq ?_
  refine sk ⟨[(0, .e (.c (.d (.v (.string x))))), (1, .e (.c (.d (.v (.string y))))), (16, bV (Op.bytesLess x.toList y.toList))], [], 256⟩ ?_
  refine if_ (b := (Op.bytesLess x.toList y.toList)) (fun hb9 => ?_) (fun hb9 => ?_)
  ·refine sk ⟨[(4, iV (-1))], [], 272⟩ ?_
   refine X.ret ?_
   exact ⟨trivial, _, _, ⟨(-1), (by first | exact cS_a ‹_› | exact cS_b ‹_› ‹_› | exact cS_c ‹_› ‹_›), rfl, rfl⟩, mkr⟩
  ·refine X.skip ?_
   refine X.seq ?_
   refine sk ⟨[(19, bV (!(Op.bytesLess x.toList y.toList || x.toList == y.toList)))], [], 304⟩ ?_
   refine if_ (b := !(Op.bytesLess x.toList y.toList || x.toList == y.toList)) (fun hb10 => ?_) (fun hb10 => ?_)
   ·replace hb10 := leq_no (bnot_yes (hb10))
    refine sk ⟨[(4, iV 1)], [], 320⟩ ?_
    refine X.ret ?_
    exact ⟨trivial, _, _, ⟨1, (by first | exact cS_a ‹_› | exact cS_b ‹_› ‹_› | exact cS_c ‹_› ‹_›), rfl, rfl⟩, mkr⟩
   ·replace hb10 := leq_yes (bnot_no (hb10))
    refine X.skip ?_
    refine sk ⟨[(4, iV 0)], [], 320⟩ ?_
    refine X.ret ?_
    exact ⟨trivial, _, _, ⟨0, (by first | exact cS_a ‹_› | exact cS_b ‹_› ‹_› | exact cS_c ‹_› ‹_›), rfl, rfl⟩, mkr⟩
 obtain ⟨_, _, ⟨r0, h1_, rfl, rfl⟩, hf⟩ := key
 exact ⟨r0, h1_, hf⟩

theorem c_cmpI (x : Int) (y : Int) : ∃ r0 : Int, (r0 = cI x y) ∧ Fn Tryz.prog 127 [iV x, iV y] (lookH []) (iV r0) (lookH []) := by
 have key : ∃ x' h', ((fun x' h' => ∃ r0 : Int, (r0 = cI x y) ∧ x' = iV r0 ∧ h' = [])) x' h' ∧ Fn Tryz.prog 127 [iV x, iV y] (lookH []) x' (lookH h') := by
  refine Fn.bodyX (N := 20) hτ Tryz.func127 rfl rfl rfl rfl ?_
  refine sk ⟨[(0, iV x), (1, iV y)], [], 80⟩ ?_
  refine X.seq (rs 1 ?_)
  obtain ⟨r1, hr3, hf2⟩ := c_nanI x
  replace hr3 := hr3.symm; subst hr3
  refine ca hf2 Tryz.func134 ?_
  refine go 1 ?_
  refine ek ⟨[(0, iV x), (1, iV y), (5, bV false)], [], 128⟩ ?_
  refine X.seq (rs 1 ?_)
  obtain ⟨r5, hr7, hf6⟩ := c_nanI y
  replace hr7 := hr7.symm; subst hr7
  refine ca hf6 Tryz.func134 ?_
  refine go 1 ?_
  refine ek ⟨[(0, iV x), (1, iV y), (5, bV false), (6, bV false)], [], 176⟩ ?_
  refine X.seq ?_
  refine sk ⟨[(0, iV x), (1, iV y), (6, bV false), (11, bV false)], [], 192⟩ ?_
  refine X.ifF (by kernel_rfl) ?_
  refine X.skip ?_
  refine X.seq ?_
  refine sk ⟨[(0, iV x), (1, iV y), (13, bV false)], [], 208⟩ ?_
  refine X.ifF (by kernel_rfl) ?_
  refine X.skip ?_
  refine X.seq ?_
  refine sk ⟨[(0, iV x), (1, iV y), (16, bV (decide ((x : Int) < y)))], [], 256⟩ ?_
  refine if_ (b := decide ((x : Int) < y)) (fun hb9 => ?_) (fun hb9 => ?_)
  ·replace hb9 := of_decide_eq_true (hb9)
   refine sk ⟨[(4, iV (-1))], [], 272⟩ ?_
   refine X.ret ?_
   exact ⟨trivial, _, _, ⟨(-1), (by unfold cI; split <;> (try split) <;> omega), rfl, rfl⟩, mkr⟩
  ·replace hb9 := of_decide_eq_false (hb9)
   refine X.skip ?_
   refine X.seq ?_
   refine sk ⟨[(19, bV (decide ((x : Int) > y)))], [], 304⟩ ?_
   refine if_ (b := decide ((x : Int) > y)) (fun hb10 => ?_) (fun hb10 => ?_)
   ·replace hb10 := of_decide_eq_true (hb10)
    refine sk ⟨[(4, iV 1)], [], 320⟩ ?_
    refine X.ret ?_
    exact ⟨trivial, _, _, ⟨1, (by unfold cI; split <;> (try split) <;> omega), rfl, rfl⟩, mkr⟩
   ·replace hb10 := of_decide_eq_false (hb10)
    refine X.skip ?_
    refine sk ⟨[(4, iV 0)], [], 320⟩ ?_
    refine X.ret ?_
    exact ⟨trivial, _, _, ⟨0, (by unfold cI; split <;> (try split) <;> omega), rfl, rfl⟩, mkr⟩
 obtain ⟨_, _, ⟨r0, h1_, rfl, rfl⟩, hf⟩ := key
 exact ⟨r0, h1_, hf⟩

theorem c_orI (l : List Int) (hl : l.length ≤ 100) : ∃ r0 : Int, (r0 = orL l) ∧ Fn Tryz.prog 125 [lV (l.map dI)] (lookH []) (iV r0) (lookH []) := by
 have key : ∃ x' h', ((fun x' h' => ∃ r0 : Int, (r0 = orL l) ∧ x' = iV r0 ∧ h' = [])) x' h' ∧ Fn Tryz.prog 125 [lV (l.map dI)] (lookH []) x' (lookH h') := by
  refine Fn.bodyX (N := 18) hτ Tryz.func125 rfl rfl rfl rfl ?_
  refine sk ⟨[(0, lV (l.map dI))], [], 80⟩ ?_
  refine sk ⟨[(0, lV (l.map dI)), (3, iV 0)], [], 96⟩ ?_
  refine X.seq ?_
  refine X.seq ?_
  have el1 : (l.map dI).length = l.length := List.length_map ..
  refine rk ⟨[(3, iV 0), (6, lV (l.map dI)), (7, iV ((l.map dI).length : Int)), (8, iV 0)], [], 144⟩ ?_
  refine X.block ?_
  -- 3: v8 : Int
  refine X.loop (σ := { g : Int // (fun (v8 : Int) => 0 ≤ v8 ∧ v8 ≤ l.length ∧ Upto (fun _ x => x = 0) (fun n => l[n]?) v8) g }) (fun g => (fun (v8 : Int) => ⟨[(3, iV 0), (6, lV (l.map dI)), (7, iV ((l.map dI).length : Int)), (8, iV v8)], [], 144⟩) g.1) (fun g => (fun (v8 : Int) => (l.length - v8).toNat) g.1) ⟨0, ⟨by first | omega | (dsimp only; omega), by first | omega | (dsimp only; omega), upto_zero⟩⟩ (Wk.less (by kernel_rfl)) (fun g => ?_)
  obtain ⟨v8, hg3⟩ := g
  have hg3 : 0 ≤ v8 ∧ v8 ≤ l.length ∧ Upto (fun _ x => x = 0) (fun n => l[n]?) v8 := hg3
  obtain ⟨_, _, hA⟩ := hg3
  refine sk ⟨[(3, iV 0), (6, lV (l.map dI)), (7, iV ((l.map dI).length : Int)), (8, iV v8), (9, bV (decide ((v8 : Int) < ((l.map dI).length : Int))))], [], 160⟩ ?_
  refine X.seq ?_
  refine if_ (b := decide ((v8 : Int) < ((l.map dI).length : Int))) (fun hb4 => ?_) (fun hb4 => ?_)
  ·replace hb4 := of_decide_eq_true (hb4)
   refine X.skip ?_
   refine X.seq ?_
   refine X.block ?_
   refine X.seq (rs 0 ?_)
   obtain ⟨x5, hx5⟩ : ∃ x, l[Int.toNat v8]? = some x := ⟨_, List.getElem?_eq_getElem (by first | omega | (simp; done) | (simp; omega))⟩
   refine CH.idx hτ (dI x5) (rows := (l.map dI)) (n := v8) (sz := 1) (by kernel_rfl) (by kernel_rfl) (by first | omega | (simp; done) | (simp; omega)) (by rw [List.getElem?_map, hx5]; rfl) (by kernel_rfl) ?_
   refine go 2 ?_
   refine ek ⟨[(3, iV 0), (5, iV x5), (6, lV (l.map dI)), (7, iV ((l.map dI).length : Int)), (8, iV v8)], [], 208⟩ ?_
   refine sk ⟨[(3, iV 0), (5, iV x5), (6, lV (l.map dI)), (7, iV ((l.map dI).length : Int)), (8, iV v8), (14, bV (x5 != 0))], [], 256⟩ ?_
   refine if_ (b := (x5 != 0)) (fun hb6 => ?_) (fun hb6 => ?_)
   ·replace hb6 := bne_iff_ne.1 (hb6)
    refine sk ⟨[(2, iV x5)], [], 288⟩ ?_
    refine X.ret ?_
    exact ⟨trivial, _, _, ⟨x5, (by first | exact orL_at hA (by omega) ‹_› ‹_› | exact orL_all hA (by omega)), rfl, rfl⟩, mkr⟩
   ·replace hb6 := bne_eq_false_iff_eq.1 (hb6)
    refine X.skip ?_
    refine X.rk ⟨[(3, iV 0), (6, lV (l.map dI)), (7, iV ((l.map dI).length : Int)), (8, iV (wrap64 (v8 + 1)))], [], 288⟩ hτ hmix (by kernel_rfl) (by kernel_rfl) (s2 := ⟨[(3, iV 0), (6, lV (l.map dI)), (7, iV ((l.map dI).length : Int)), (8, iV (v8 + 1))], [], 288⟩) (congrArg (fun z : Int => (⟨[(3, iV 0), (6, lV (l.map dI)), (7, iV ((l.map dI).length : Int)), (8, iV z)], [], 288⟩ : St)) (show wrap64 (v8 + 1) = (v8 + 1) by rw [w64 (n := (v8 + 1)) (by omega) (by omega)])) ?_
    refine ⟨⟨(v8 + 1), ⟨by first | omega | (dsimp only; omega), by first | omega | (dsimp only; omega), upto_nx (by first | omega | (dsimp only; omega)) hA ‹_› (‹_›)⟩⟩, by first | exact rfl | omega | (dsimp only; omega) | (simp only [List.length_append, List.length_cons, List.length_nil, List.length_set]; omega) | (simp; done) | (simp; omega), Wk.mk' [] (by kernel_rfl) (by kernel_rfl) (by kernel_rfl)⟩
  ·replace hb4 := of_decide_eq_false (hb4)
   refine X.exit ?_
   refine sk ⟨[(2, iV 0)], [], 192⟩ ?_
   refine X.ret ?_
   exact ⟨trivial, _, _, ⟨0, (by first | exact orL_at hA (by omega) ‹_› ‹_› | exact orL_all hA (by omega)), rfl, rfl⟩, mkr⟩
 obtain ⟨_, _, ⟨r0, h1_, rfl, rfl⟩, hf⟩ := key
 exact ⟨r0, h1_, hf⟩

theorem i_compareTx (a : S119) (b : S119) : ∃ r0 : Int, (r0 = cmpTx a b) ∧ Fn Tryz.prog 111 [.e (.agg (cD (d119 a))), .e (.agg (cD (d119 b)))] (lookH []) (iV r0) (lookH []) := by
 have key : ∃ x' h', ((fun x' h' => ∃ r0 : Int, (r0 = cmpTx a b) ∧ x' = iV r0 ∧ h' = [])) x' h' ∧ Fn Tryz.prog 111 [.e (.agg (cD (d119 a))), .e (.agg (cD (d119 b)))] (lookH []) x' (lookH h') := by
  refine Fn.bodyX (N := 32) hτ Tryz.func111 rfl rfl rfl rfl ?_
  refine sk ⟨[(2, .pt 64 0 0), (3, .pt 80 0 0)], [(64, some (.box (cD (d119 a)))), (80, some (.box (cD (d119 b))))], 112⟩ ?_
  refine X.seq (rs 4 ?_)
  obtain ⟨r1, hr3, hf2⟩ := c_cmpS a.f1 b.f1
  replace hr3 := hr3.symm; subst hr3
  refine ca hf2 Tryz.func126 ?_
  refine go 4 ?_
  obtain ⟨r5, hr7, hf6⟩ := c_cmpI a.f4 b.f4
  replace hr7 := hr7.symm; subst hr7
  refine ca hf6 Tryz.func127 ?_
  refine go 4 ?_
  obtain ⟨r9, hr11, hf10⟩ := c_cmpI a.f0 b.f0
  replace hr11 := hr11.symm; subst hr11
  refine ca hf10 Tryz.func127 ?_
  refine go 4 ?_
  obtain ⟨r13, hr15, hf14⟩ := c_cmpS a.f2 b.f2
  replace hr15 := hr15.symm; subst hr15
  refine ca hf14 Tryz.func126 ?_
  refine go 4 ?_
  obtain ⟨r17, hr19, hf18⟩ := c_cmpI a.f3 b.f3
  replace hr19 := hr19.symm; subst hr19
  refine ca hf18 Tryz.func127 ?_
  refine go 1 ?_
  obtain ⟨r21, hr23, hf22⟩ := c_orI ([(cS a.f1 b.f1), (cI a.f4 b.f4), (cI a.f0 b.f0), (cS a.f2 b.f2), (cI a.f3 b.f3)] : List Int) (by simp)
  replace hr23 := hr23.symm; subst hr23
  refine ca hf22 Tryz.func125 ?_
  refine go 1 ?_
  refine ek ⟨[(4, iV (orL ([(cS a.f1 b.f1), (cI a.f4 b.f4), (cI a.f0 b.f0), (cS a.f2 b.f2), (cI a.f3 b.f3)] : List Int)))], [], 560⟩ ?_
  refine X.ret ?_
  exact ⟨trivial, _, _, ⟨(orL ([(cS a.f1 b.f1), (cI a.f4 b.f4), (cI a.f0 b.f0), (cS a.f2 b.f2), (cI a.f3 b.f3)] : List Int)), (orL_five _ _ _ _ _), rfl, rfl⟩, mkr⟩
 obtain ⟨_, _, ⟨r0, h1_, rfl, rfl⟩, hf⟩ := key
 exact ⟨r0, h1_, hf⟩

theorem i_TxLess (a : S119) (b : S119) : ∃ r0 : Bool, (r0 = txLess a b) ∧ Fn Tryz.prog 82 [.e (.agg (cD (d119 a))), .e (.agg (cD (d119 b)))] (lookH []) (bV r0) (lookH []) := by
 have key : ∃ x' h', ((fun x' h' => ∃ r0 : Bool, (r0 = txLess a b) ∧ x' = bV r0 ∧ h' = [])) x' h' ∧ Fn Tryz.prog 82 [.e (.agg (cD (d119 a))), .e (.agg (cD (d119 b)))] (lookH []) x' (lookH h') := by
  refine Fn.bodyX (N := 9) hτ Tryz.func82 rfl rfl rfl rfl ?_
  refine sk ⟨[(2, .pt 64 0 0), (3, .pt 80 0 0)], [(64, some (.box (cD (d119 a)))), (80, some (.box (cD (d119 b))))], 112⟩ ?_
  refine X.seq (rs 2 ?_)
  obtain ⟨r1, hr3, hf2⟩ := i_compareTx a b
  replace hr3 := hr3.symm; subst hr3
  refine ca hf2 Tryz.func111 ?_
  refine go 2 ?_
  refine ek ⟨[(4, bV (decide (((cmpTx a b) : Int) < 0)))], [], 192⟩ ?_
  refine X.ret ?_
  exact ⟨trivial, _, _, ⟨decide (((cmpTx a b) : Int) < 0), rfl, rfl, rfl⟩, mkr⟩
 obtain ⟨_, _, ⟨r0, h1_, rfl, rfl⟩, hf⟩ := key
 exact ⟨r0, h1_, hf⟩

theorem s_PoolOk (l : List S119) (hl : SmT l) : ∃ r0 : Bool, (r0 = poolOk l) ∧ Fn Tryz.prog 21 [lV (l.map d119)] (lookH []) (bV r0) (lookH []) := by
 have key : ∃ x' h', ((fun x' h' => ∃ r0 : Bool, (r0 = poolOk l) ∧ x' = bV r0 ∧ h' = [])) x' h' ∧ Fn Tryz.prog 21 [lV (l.map d119)] (lookH []) x' (lookH h') := by
  refine Fn.bodyX (N := 36) hτ Tryz.func21 rfl rfl rfl rfl ?_
  refine sk ⟨[(0, lV (l.map d119))], [], 80⟩ ?_
  refine X.seq ?_
  refine sk ⟨[(0, lV (l.map d119)), (3, iV 0)], [], 96⟩ ?_
  refine X.block ?_
  -- 2: v3 : Int
  refine X.loop (σ := { g : Int // (fun (v3 : Int) => 0 ≤ v3 ∧ v3 ≤ l.length ∧ Upto (poolR l) (fun n => l[n]?) v3) g }) (fun g => (fun (v3 : Int) => ⟨[(0, lV (l.map d119)), (3, iV v3)], [], 96⟩) g.1) (fun g => (fun (v3 : Int) => (l.length - v3).toNat) g.1) ⟨0, ⟨by first | omega | (dsimp only; omega), by first | omega | (dsimp only; omega), upto_zero⟩⟩ (Wk.less (by kernel_rfl)) (fun g => ?_)
  obtain ⟨v3, hg2⟩ := g
  have hg2 : 0 ≤ v3 ∧ v3 ≤ l.length ∧ Upto (poolR l) (fun n => l[n]?) v3 := hg2
  obtain ⟨_, _, hA⟩ := hg2
  refine X.seq ?_
  refine X.seq ?_
  have hm := hl.1
  have el3 : (l.map d119).length = l.length := List.length_map ..
  refine rk ⟨[(0, lV (l.map d119)), (3, iV v3), (7, bV (decide ((v3 : Int) < ((l.map d119).length : Int))))], [], 160⟩ ?_
  refine if_ (b := decide ((v3 : Int) < ((l.map d119).length : Int))) (fun hb4 => ?_) (fun hb4 => ?_)
  ·replace hb4 := of_decide_eq_true (hb4)
   refine X.skip ?_
   refine X.seq ?_
   refine X.block ?_
   refine X.seq (rs 2 ?_)
   obtain ⟨x5, hx5⟩ : ∃ x, l[Int.toNat v3]? = some x := ⟨_, List.getElem?_eq_getElem (by first | omega | (simp; done) | (simp; omega))⟩
   refine CH.idx hτ (d119 x5) (rows := (l.map d119)) (n := v3) (sz := 5) (by kernel_rfl) (by kernel_rfl) (by first | omega | (simp; done) | (simp; omega)) (by rw [List.getElem?_map, hx5]; rfl) (by kernel_rfl) ?_
   refine go 1 ?_
   obtain ⟨r6, hr8, hf7⟩ := s_TxOk x5 (by exact all_at hl.2 ‹_›)
   replace hr8 := hr8.symm; subst hr8
   refine ca hf7 Tryz.func64 ?_
   refine go 2 ?_
   rcases Bool.eq_false_or_eq_true (!(txOk x5)) with hb10 | hb10
   ·refine aT 15 hb10 ?_
    refine aT 16 hb10 ?_
    replace hb10 := bnot_yes (hb10)
    refine go 16 ?_
    refine ek ⟨[(0, lV (l.map d119)), (3, iV v3), (32, bV true)], [], 528⟩ ?_
    refine X.ifT (by kernel_rfl) ?_
    refine sk ⟨[(2, bV false)], [], 544⟩ ?_
    refine X.ret ?_
    exact ⟨trivial, _, _, ⟨false, (by first | exact (fls (fun h => upto_no (by omega) (by omega) ‹_› (fun hr => by first | exact tf hr.1 ‹_› | exact tf (hr.2 _ (by omega) ‹_›) ‹_›) h.1)) | exact (dcd (by simp only [decide_eq_true_eq, List.length_map]; exact ⟨fun h => ⟨upto_all hA (by omega), by omega⟩, fun h => by have := h.2; omega⟩))), rfl, rfl⟩, mkr⟩
   ·refine aF 15 hb10 ?_
    refine aF 16 hb10 ?_
    replace hb10 := bnot_no (hb10)
    refine go 3 ?_
    rcases Bool.eq_false_or_eq_true (decide ((v3 : Int) > 0)) with hb11 | hb11
    ·refine aT 18 hb11 ?_
     refine aT 19 hb11 ?_
     replace hb11 := of_decide_eq_true (hb11)
     refine go 3 ?_
     obtain ⟨x12, hx12⟩ : ∃ x, l[Int.toNat (v3 - 1)]? = some x := ⟨_, List.getElem?_eq_getElem (by first | omega | (simp; done) | (simp; omega))⟩
     refine CH.alt 22 (sV (.int .i64 (wrap64 (v3 - 1)))) (sV (.int .i64 ((v3 - 1)))) (by kernel_rfl) (by rw [w64 (n := (v3 - 1)) (by omega) (by omega)]) ?_
     refine CH.idx hτ (d119 x12) (rows := (l.map d119)) (n := (v3 - 1)) (sz := 5) (by kernel_rfl) (by kernel_rfl) (by first | omega | (simp; done) | (simp; omega)) (by rw [List.getElem?_map, hx12]; rfl) (by kernel_rfl) ?_
     refine go 3 ?_
     refine CH.idx hτ (d119 x5) (rows := (l.map d119)) (n := v3) (sz := 5) (by kernel_rfl) (by kernel_rfl) (by first | omega | (simp; done) | (simp; omega)) (by rw [List.getElem?_map, hx5]; rfl) (by kernel_rfl) ?_
     refine go 1 ?_
     obtain ⟨r13, hr15, hf14⟩ := s_TxLess x12 x5
     replace hr15 := hr15.symm; subst hr15
     refine ca hf14 Tryz.func65 ?_
     refine go 3 ?_
     refine ek ⟨[(0, lV (l.map d119)), (3, iV v3), (32, bV (!(txLess x12 x5)))], [], 528⟩ ?_
     refine if_ (b := !(txLess x12 x5)) (fun hb17 => ?_) (fun hb17 => ?_)
     ·replace hb17 := bnot_yes (hb17)
      refine sk ⟨[(2, bV false)], [], 544⟩ ?_
      refine X.ret ?_
      exact ⟨trivial, _, _, ⟨false, (by first | exact (fls (fun h => upto_no (by omega) (by omega) ‹_› (fun hr => by first | exact tf hr.1 ‹_› | exact tf (hr.2 _ (by omega) ‹_›) ‹_›) h.1)) | exact (dcd (by simp only [decide_eq_true_eq, List.length_map]; exact ⟨fun h => ⟨upto_all hA (by omega), by omega⟩, fun h => by have := h.2; omega⟩))), rfl, rfl⟩, mkr⟩
     ·replace hb17 := bnot_no (hb17)
      refine X.skip ?_
      refine X.rk ⟨[(0, lV (l.map d119)), (3, iV (wrap64 (v3 + 1)))], [], 576⟩ hτ hmix (by kernel_rfl) (by kernel_rfl) (s2 := ⟨[(0, lV (l.map d119)), (3, iV (v3 + 1))], [], 576⟩) (congrArg (fun z : Int => (⟨[(0, lV (l.map d119)), (3, iV z)], [], 576⟩ : St)) (show wrap64 (v3 + 1) = (v3 + 1) by rw [w64 (n := (v3 + 1)) (by omega) (by omega)])) ?_
      refine ⟨⟨(v3 + 1), ⟨by first | omega | (dsimp only; omega), by first | omega | (dsimp only; omega), upto_nx (by first | omega | (dsimp only; omega)) hA ‹_› (⟨‹_›, (by first | exact fun y h0 hy => absurd h0 (by first | omega | (dsimp only; omega)) | exact prev_fn ‹_› ‹_›)⟩)⟩⟩, by first | exact rfl | omega | (dsimp only; omega) | (simp only [List.length_append, List.length_cons, List.length_nil, List.length_set]; omega) | (simp; done) | (simp; omega), Wk.mk' [] (by kernel_rfl) (by kernel_rfl) (by kernel_rfl)⟩
    ·refine aF 18 hb11 ?_
     refine aF 19 hb11 ?_
     replace hb11 := of_decide_eq_false (hb11)
     refine go 13 ?_
     refine ek ⟨[(0, lV (l.map d119)), (3, iV v3), (32, bV false)], [], 528⟩ ?_
     refine X.ifF (by kernel_rfl) ?_
     refine X.skip ?_
     refine X.rk ⟨[(0, lV (l.map d119)), (3, iV (wrap64 (v3 + 1)))], [], 576⟩ hτ hmix (by kernel_rfl) (by kernel_rfl) (s2 := ⟨[(0, lV (l.map d119)), (3, iV (v3 + 1))], [], 576⟩) (congrArg (fun z : Int => (⟨[(0, lV (l.map d119)), (3, iV z)], [], 576⟩ : St)) (show wrap64 (v3 + 1) = (v3 + 1) by rw [w64 (n := (v3 + 1)) (by omega) (by omega)])) ?_
     refine ⟨⟨(v3 + 1), ⟨by first | omega | (dsimp only; omega), by first | omega | (dsimp only; omega), upto_nx (by first | omega | (dsimp only; omega)) hA ‹_› (⟨‹_›, (by first | exact fun y h0 hy => absurd h0 (by first | omega | (dsimp only; omega)) | exact prev_fn ‹_› ‹_›)⟩)⟩⟩, by first | exact rfl | omega | (dsimp only; omega) | (simp only [List.length_append, List.length_cons, List.length_nil, List.length_set]; omega) | (simp; done) | (simp; omega), Wk.mk' [] (by kernel_rfl) (by kernel_rfl) (by kernel_rfl)⟩
  ·replace hb4 := of_decide_eq_false (hb4)
   refine X.exit ?_
   refine sk ⟨[(2, bV (decide ((((l.map d119).length : Int) : Int) ≤ 20)))], [], 224⟩ ?_
   refine X.ret ?_
   exact ⟨trivial, _, _, ⟨decide ((((l.map d119).length : Int) : Int) ≤ 20), (by first | exact (fls (fun h => upto_no (by omega) (by omega) ‹_› (fun hr => by first | exact tf hr.1 ‹_› | exact tf (hr.2 _ (by omega) ‹_›) ‹_›) h.1)) | exact (dcd (by simp only [decide_eq_true_eq, List.length_map]; exact ⟨fun h => ⟨upto_all hA (by omega), by omega⟩, fun h => by have := h.2; omega⟩))), rfl, rfl⟩, mkr⟩
 obtain ⟨_, _, ⟨r0, h1_, rfl, rfl⟩, hf⟩ := key
 exact ⟨r0, h1_, hf⟩

theorem i_PoolOk (l : List S119) (hl : SmT l) : ∃ r0 : Bool, (r0 = poolOk l) ∧ Fn Tryz.prog 40 [lV (l.map d119)] (lookH []) (bV r0) (lookH []) := by
 have key : ∃ x' h', ((fun x' h' => ∃ r0 : Bool, (r0 = poolOk l) ∧ x' = bV r0 ∧ h' = [])) x' h' ∧ Fn Tryz.prog 40 [lV (l.map d119)] (lookH []) x' (lookH h') := by
  refine Fn.bodyX (N := 33) hτ Tryz.func40 rfl rfl rfl rfl ?_
  refine sk ⟨[(0, lV (l.map d119))], [], 80⟩ ?_
  refine X.seq ?_
  refine X.seq ?_
  have el1 : (l.map d119).length = l.length := List.length_map ..
  refine rk ⟨[(0, lV (l.map d119)), (5, lV (l.map d119)), (6, iV ((l.map d119).length : Int)), (7, iV 0)], [], 128⟩ ?_
  refine X.block ?_
  -- 2: v7 : Int
  refine X.loop (σ := { g : Int // (fun (v7 : Int) => 0 ≤ v7 ∧ v7 ≤ l.length ∧ Upto (poolR l) (fun n => l[n]?) v7) g }) (fun g => (fun (v7 : Int) => ⟨[(0, lV (l.map d119)), (5, lV (l.map d119)), (6, iV ((l.map d119).length : Int)), (7, iV v7)], [], 128⟩) g.1) (fun g => (fun (v7 : Int) => (l.length - v7).toNat) g.1) ⟨0, ⟨by first | omega | (dsimp only; omega), by first | omega | (dsimp only; omega), upto_zero⟩⟩ (Wk.less (by kernel_rfl)) (fun g => ?_)
  obtain ⟨v7, hg3⟩ := g
  have hg3 : 0 ≤ v7 ∧ v7 ≤ l.length ∧ Upto (poolR l) (fun n => l[n]?) v7 := hg3
  obtain ⟨_, _, hA⟩ := hg3
  refine X.seq ?_
  have hm := hl.1
  refine rk ⟨[(0, lV (l.map d119)), (5, lV (l.map d119)), (6, iV ((l.map d119).length : Int)), (7, iV v7), (8, bV (decide ((v7 : Int) < ((l.map d119).length : Int))))], [], 144⟩ ?_
  refine X.seq ?_
  refine if_ (b := decide ((v7 : Int) < ((l.map d119).length : Int))) (fun hb4 => ?_) (fun hb4 => ?_)
  ·replace hb4 := of_decide_eq_true (hb4)
   refine X.skip ?_
   refine X.seq ?_
   refine X.block ?_
   refine X.seq (rs 1 ?_)
   obtain ⟨x5, hx5⟩ : ∃ x, l[Int.toNat v7]? = some x := ⟨_, List.getElem?_eq_getElem (by first | omega | (simp; done) | (simp; omega))⟩
   refine CH.idx hτ (d119 x5) (rows := (l.map d119)) (n := v7) (sz := 5) (by kernel_rfl) (by kernel_rfl) (by first | omega | (simp; done) | (simp; omega)) (by rw [List.getElem?_map, hx5]; rfl) (by kernel_rfl) ?_
   refine go 4 ?_
   refine ek ⟨[(0, lV (l.map d119)), (3, iV v7), (4, .pt 192 0 0), (5, lV (l.map d119)), (6, iV ((l.map d119).length : Int)), (7, iV v7)], [(192, some (.box (cD (d119 x5))))], 240⟩ ?_
   refine X.seq (rs 1 ?_)
   obtain ⟨r6, hr8, hf7⟩ := i_TxOk x5 (by exact all_at hl.2 ‹_›)
   replace hr8 := hr8.symm; subst hr8
   refine ca hf7 Tryz.func81 ?_
   refine go 2 ?_
   rcases Bool.eq_false_or_eq_true (!(txOk x5)) with hb10 | hb10
   ·refine aT 14 hb10 ?_
    refine aT 15 hb10 ?_
    replace hb10 := bnot_yes (hb10)
    refine go 13 ?_
    refine ek ⟨[(0, lV (l.map d119)), (5, lV (l.map d119)), (6, iV ((l.map d119).length : Int)), (7, iV v7), (28, bV true)], [], 512⟩ ?_
    refine X.ifT (by kernel_rfl) ?_
    refine sk ⟨[(2, bV false)], [], 528⟩ ?_
    refine X.ret ?_
    exact ⟨trivial, _, _, ⟨false, (by first | exact (fls (fun h => upto_no (by omega) (by omega) ‹_› (fun hr => by first | exact tf hr.1 ‹_› | exact tf (hr.2 _ (by omega) ‹_›) ‹_›) h.1)) | exact (dcd (by simp only [decide_eq_true_eq, List.length_map]; exact ⟨fun h => ⟨upto_all hA (by omega), by omega⟩, fun h => by have := h.2; omega⟩))), rfl, rfl⟩, mkr⟩
   ·refine aF 14 hb10 ?_
    refine aF 15 hb10 ?_
    replace hb10 := bnot_no (hb10)
    refine go 3 ?_
    rcases Bool.eq_false_or_eq_true (decide ((v7 : Int) > 0)) with hb11 | hb11
    ·refine aT 17 hb11 ?_
     refine aT 18 hb11 ?_
     replace hb11 := of_decide_eq_true (hb11)
     refine go 3 ?_
     obtain ⟨x12, hx12⟩ : ∃ x, l[Int.toNat (v7 - 1)]? = some x := ⟨_, List.getElem?_eq_getElem (by first | omega | (simp; done) | (simp; omega))⟩
     refine CH.alt 21 (sV (.int .i64 (wrap64 (v7 - 1)))) (sV (.int .i64 ((v7 - 1)))) (by kernel_rfl) (by rw [w64 (n := (v7 - 1)) (by omega) (by omega)]) ?_
     refine CH.idx hτ (d119 x12) (rows := (l.map d119)) (n := (v7 - 1)) (sz := 5) (by kernel_rfl) (by kernel_rfl) (by first | omega | (simp; done) | (simp; omega)) (by rw [List.getElem?_map, hx12]; rfl) (by kernel_rfl) ?_
     refine go 2 ?_
     obtain ⟨r13, hr15, hf14⟩ := i_TxLess x12 x5
     replace hr15 := hr15.symm; subst hr15
     refine ca hf14 Tryz.func82 ?_
     refine go 3 ?_
     refine ek ⟨[(0, lV (l.map d119)), (5, lV (l.map d119)), (6, iV ((l.map d119).length : Int)), (7, iV v7), (28, bV (!(txLess x12 x5)))], [], 512⟩ ?_
     refine if_ (b := !(txLess x12 x5)) (fun hb17 => ?_) (fun hb17 => ?_)
     ·replace hb17 := bnot_yes (hb17)
      refine sk ⟨[(2, bV false)], [], 528⟩ ?_
      refine X.ret ?_
      exact ⟨trivial, _, _, ⟨false, (by first | exact (fls (fun h => upto_no (by omega) (by omega) ‹_› (fun hr => by first | exact tf hr.1 ‹_› | exact tf (hr.2 _ (by omega) ‹_›) ‹_›) h.1)) | exact (dcd (by simp only [decide_eq_true_eq, List.length_map]; exact ⟨fun h => ⟨upto_all hA (by omega), by omega⟩, fun h => by have := h.2; omega⟩))), rfl, rfl⟩, mkr⟩
     ·replace hb17 := bnot_no (hb17)
      refine X.skip ?_
      refine X.rk ⟨[(0, lV (l.map d119)), (5, lV (l.map d119)), (6, iV ((l.map d119).length : Int)), (7, iV (wrap64 (v7 + 1)))], [], 544⟩ hτ hmix (by kernel_rfl) (by kernel_rfl) (s2 := ⟨[(0, lV (l.map d119)), (5, lV (l.map d119)), (6, iV ((l.map d119).length : Int)), (7, iV (v7 + 1))], [], 544⟩) (congrArg (fun z : Int => (⟨[(0, lV (l.map d119)), (5, lV (l.map d119)), (6, iV ((l.map d119).length : Int)), (7, iV z)], [], 544⟩ : St)) (show wrap64 (v7 + 1) = (v7 + 1) by rw [w64 (n := (v7 + 1)) (by omega) (by omega)])) ?_
      refine ⟨⟨(v7 + 1), ⟨by first | omega | (dsimp only; omega), by first | omega | (dsimp only; omega), upto_nx (by first | omega | (dsimp only; omega)) hA ‹_› (⟨‹_›, (by first | exact fun y h0 hy => absurd h0 (by first | omega | (dsimp only; omega)) | exact prev_fn ‹_› ‹_›)⟩)⟩⟩, by first | exact rfl | omega | (dsimp only; omega) | (simp only [List.length_append, List.length_cons, List.length_nil, List.length_set]; omega) | (simp; done) | (simp; omega), Wk.mk' [] (by kernel_rfl) (by kernel_rfl) (by kernel_rfl)⟩
    ·refine aF 17 hb11 ?_
     refine aF 18 hb11 ?_
     replace hb11 := of_decide_eq_false (hb11)
     refine go 10 ?_
     refine ek ⟨[(0, lV (l.map d119)), (5, lV (l.map d119)), (6, iV ((l.map d119).length : Int)), (7, iV v7), (28, bV false)], [], 512⟩ ?_
     refine X.ifF (by kernel_rfl) ?_
     refine X.skip ?_
     refine X.rk ⟨[(0, lV (l.map d119)), (5, lV (l.map d119)), (6, iV ((l.map d119).length : Int)), (7, iV (wrap64 (v7 + 1)))], [], 544⟩ hτ hmix (by kernel_rfl) (by kernel_rfl) (s2 := ⟨[(0, lV (l.map d119)), (5, lV (l.map d119)), (6, iV ((l.map d119).length : Int)), (7, iV (v7 + 1))], [], 544⟩) (congrArg (fun z : Int => (⟨[(0, lV (l.map d119)), (5, lV (l.map d119)), (6, iV ((l.map d119).length : Int)), (7, iV z)], [], 544⟩ : St)) (show wrap64 (v7 + 1) = (v7 + 1) by rw [w64 (n := (v7 + 1)) (by omega) (by omega)])) ?_
     refine ⟨⟨(v7 + 1), ⟨by first | omega | (dsimp only; omega), by first | omega | (dsimp only; omega), upto_nx (by first | omega | (dsimp only; omega)) hA ‹_› (⟨‹_›, (by first | exact fun y h0 hy => absurd h0 (by first | omega | (dsimp only; omega)) | exact prev_fn ‹_› ‹_›)⟩)⟩⟩, by first | exact rfl | omega | (dsimp only; omega) | (simp only [List.length_append, List.length_cons, List.length_nil, List.length_set]; omega) | (simp; done) | (simp; omega), Wk.mk' [] (by kernel_rfl) (by kernel_rfl) (by kernel_rfl)⟩
  ·replace hb4 := of_decide_eq_false (hb4)
   refine X.exit ?_
   refine sk ⟨[(2, bV (decide ((((l.map d119).length : Int) : Int) ≤ 20)))], [], 208⟩ ?_
   refine X.ret ?_
   exact ⟨trivial, _, _, ⟨decide ((((l.map d119).length : Int) : Int) ≤ 20), (by first | exact (fls (fun h => upto_no (by omega) (by omega) ‹_› (fun hr => by first | exact tf hr.1 ‹_› | exact tf (hr.2 _ (by omega) ‹_›) ‹_›) h.1)) | exact (dcd (by simp only [decide_eq_true_eq, List.length_map]; exact ⟨fun h => ⟨upto_all hA (by omega), by omega⟩, fun h => by have := h.2; omega⟩))), rfl, rfl⟩, mkr⟩
 obtain ⟨_, _, ⟨r0, h1_, rfl, rfl⟩, hf⟩ := key
 exact ⟨r0, h1_, hf⟩
end Go.Proofs.YtpegmlbbeookbaaGreat.Av
