/-
What functions of the program come to, walked one by one.
Conditions: none beside those that each theorem names.
-/
import Derived.Test.YtggmeldoecnkaaaAvPF
import Derived.Test.YtggmeldoecnkaaaAvGR
set_option linter.unusedVariables false
set_option linter.unusedSimpArgs false
namespace Go.Proofs.Ytggmeldoecnkaaa.Av
open Go.RowKit
set_option maxRecDepth 20000
set_option maxHeartbeats 4000000

def setW (l : List S38) : List S165 := (l.filter (fun a => decide (5 ≤ a.f3))).map (fun a => (⟨a.f0, a.f3⟩ : S165))
section
variable {l : List S38} {L : List S165} {i : Int} {x : S38}
theorem st_i0 : ([] : List S165) = setW (l.take (0 : Int).toNat) := by simp [setW]
theorem st_y (h0 : 0 ≤ i) (hx : l[i.toNat]? = some x) (h : L = setW (l.take i.toNat)) (hb : x.f3 ≥ 5) : L ++ [⟨x.f0, x.f3⟩] = setW (l.take (i + 1).toNat) := by
  rw [h, ← take_succ h0 hx]
  unfold setW
  rw [List.filter_append, List.filter_cons_of_pos (by simpa using hb), List.map_append]
  rfl
theorem st_n (h0 : 0 ≤ i) (hx : l[i.toNat]? = some x) (h : L = setW (l.take i.toNat)) (hb : ¬ x.f3 ≥ 5) : L = setW (l.take (i + 1).toNat) := by
  rw [h, ← take_succ h0 hx]
  unfold setW
  rw [List.filter_append, List.filter_cons_of_neg (by simpa using hb)]
  simp
theorem st_e (h : L = setW (l.take i.toNat)) (hi : (l.length : Int) ≤ i) : L = setW l := by rw [h, take_all (by omega)]
theorem st_len (l : List S38) : (setW l).length ≤ l.length := by
  unfold setW
  rw [List.length_map]
  exact List.length_filter_le ..
end
/-- A node anew. -/
noncomputable def nnW (s : ByteArray) (g : S27) : S83 := if nameOk s = true ∧ ledgerOk g = true then ⟨s, g.f0, g, setW g.f1, [], 1, 0, ⟨0, -1, []⟩, ⟨0, [], []⟩, 0, [], [], [], [], []⟩ else z83
def ndE (n : S83) : Prop := n.f4.length = 0 ∧ n.f7.f2.length = 0 ∧ n.f8.f1.length = 0 ∧ n.f8.f2.length = 0 ∧ n.f10.length = 0 ∧ n.f11.length = 0 ∧ n.f12.length = 0 ∧ n.f13.length = 0 ∧ n.f14.length = 0
theorem nn_e (s : ByteArray) (g : S27) : ndE (nnW s g) := by
  unfold nnW
  split <;> exact ⟨rfl, rfl, rfl, rfl, rfl, rfl, rfl, rfl, rfl⟩
theorem nn_yes {s : ByteArray} {g : S27} (h1 : nameOk s = true) (h2 : ledgerOk g = true) : ⟨s, g.f0, g, setW g.f1, [], 1, 0, ⟨0, -1, []⟩, ⟨0, [], []⟩, 0, [], [], [], [], []⟩ = nnW s g := by unfold nnW; rw [if_pos ⟨h1, h2⟩]
theorem nn_n1 {s : ByteArray} {g : S27} (h1 : nameOk s = false) : z83 = nnW s g := by unfold nnW; rw [if_neg (by simp [h1])]
theorem nn_n2 {s : ByteArray} {g : S27} (h1 : ledgerOk g = false) : z83 = nnW s g := by unfold nnW; rw [if_neg (by simp [h1])]
theorem nn_sm (s : ByteArray) {g : S27} (hg : acsSm g.f1) : acsSm (nnW s g).f2.f1 ∧ (nnW s g).f2.f1.length + acT (nnW s g).f2.f1 ≤ g.f1.length + acT g.f1 ∧ (nnW s g).f3.length ≤ g.f1.length := by
  unfold nnW
  split
  · exact ⟨hg, Nat.le_refl _, st_len _⟩
  · exact ⟨⟨Nat.zero_le _, fun x hx => by cases hx⟩, Nat.zero_le _, Nat.zero_le _⟩
/-! marks -/
def mkLv (k : Int) (j : Int) (x : S188) : Prop := x.f0 = k + 2 * j ∧ x.f1 = k + 2 * j + 1
def mkA (k : Int) (l : List S38) (j : Int) (x : S38) : Prop := x.f0 = mt (k + 4 * j + 2 * acT (l.take j.toNat)) ∧ x.f1 = k + 4 * j + 2 * acT (l.take j.toNat) + 1 ∧ x.f2 = k + 4 * j + 2 * acT (l.take j.toNat) + 2 ∧ x.f3 = k + 4 * j + 2 * acT (l.take j.toNat) + 3 ∧ Upto (mkLv (k + 4 * j + 2 * acT (l.take j.toNat) + 4)) (fun n => x.f4[n]?) x.f4.length
theorem take_set' {α : Type} (l : List α) {i j : Nat} (h : j ≤ i) (y : α) : (l.set i y).take j = l.take j := by
  apply List.ext_getElem?
  intro n
  rw [List.getElem?_take, List.getElem?_take]
  split
  · rw [List.getElem?_set_ne (by omega)]
  · rfl
section
variable {k : Int} {L : List S38} {i : Int} {y : S38}
theorem mkA_set (hU : Upto (mkA k L) (fun n => L[n]?) i) (h0 : 0 ≤ i) (hy : mkA k L i y) : Upto (mkA k (L.set i.toNat y)) (fun n => (L.set i.toNat y)[n]?) (i + 1) := by
  intro j x h1 h2 hx
  have hx : (L.set i.toNat y)[j.toNat]? = some x := hx
  have ht : (L.set i.toNat y).take j.toNat = L.take j.toNat := take_set' _ (by omega) _
  unfold mkA
  rw [ht]
  by_cases q : j = i
  · subst q
    rw [set_get hx]
    exact hy
  · rw [List.getElem?_set_ne (by omega)] at hx
    exact hU j x h1 (by omega) hx
theorem acT_full {l : List S38} (h : (l.length : Int) ≤ i) : acT (l.take i.toNat) = acT l := by rw [List.take_of_length_le (by omega)]
theorem upto_mk {f : Nat → Option S188} {a b n m : Int} (h : Upto (mkLv a) f n) (e : a = b) (en : n = m) : Upto (mkLv b) f m := by subst e; subst en; exact h
theorem acT_set (h0 : 0 ≤ i) (hi : i < (L.length : Int)) : acT ((L.set i.toNat y).take (i + 1).toNat) = acT (L.take i.toNat) + y.f4.length := by
  rw [acT_take (x := y) h0 (by rw [List.getElem?_set_self (by omega)]), take_set' _ (Nat.le_refl _)]
end
def mkN (k : Int) (n : S83) : Prop := Upto (mkA k n.f2.f1) (fun m => n.f2.f1[m]?) n.f2.f1.length ∧ Upto (mkVal (k + 4 * n.f2.f1.length + 2 * acT n.f2.f1)) (fun m => n.f3[m]?) n.f3.length
theorem sameQ_rf (q : S68) : sameQ q q = true := by simp [sameQ, allEq_self]
theorem sameT_rf (q : S69) : sameT q q = true := by simp [sameT, allEq_self]
theorem i_SetOf (q : S27) (hg : acsSm q.f1) : ∃ r0 : List S165, (r0 = if ledgerOk q = true then setW q.f1 else []) ∧ Fn Try.prog 92 [.e (.agg [.d (.v (.int .i64 q.f0)), .d (.sl (q.f1.map d38))])] (lookH []) (rV 64) (lookH [(64, some (.row 2 165 (r0.map d165) false true))]) := by
 have key : ∃ x' h', ((fun x' h' => ∃ r0 : List S165, (r0 = if ledgerOk q = true then setW q.f1 else []) ∧ x' = rV 64 ∧ h' = [(64, some (.row 2 165 (r0.map d165) false true))])) x' h' ∧ Fn Try.prog 92 [.e (.agg [.d (.v (.int .i64 q.f0)), .d (.sl (q.f1.map d38))])] (lookH []) x' (lookH h') := by
  refine Fn.bodyX (N := 29) hτ Try.func92 rfl rfl rfl rfl ?_
  refine sk ⟨[(1, .pt 64 0 0)], [(64, some (.box [.d (.v (.int .i64 q.f0)), .d (.sl (q.f1.map d38))]))], 96⟩ ?_
  refine X.seq ?_
  refine X.seq (rs 1 ?_)
  obtain ⟨r1, hr3, hf2⟩ := i_LedgerOk q (by assumption)
  replace hr3 := hr3.symm; subst hr3
  refine ca hf2 Try.func91 ?_
  refine go 1 ?_
  refine ek ⟨[(1, .pt 64 0 0), (8, bV (!(ledgerOk q)))], [(64, some (.box [.d (.v (.int .i64 q.f0)), .d (.sl (q.f1.map d38))]))], 144⟩ ?_
  refine if_ (b := !(ledgerOk q)) (fun hb5 => ?_) (fun hb5 => ?_)
  ·replace hb5 := bnot_yes (hb5)
   refine sk ⟨[(2, .e (.c (.nil)))], [], 160⟩ ?_
   refine X.ret ?_
   exact ⟨trivial, _, _, ⟨[], (by first | exact (by rw [if_pos ‹ledgerOk _ = true›]; exact st_e hE (by omega)) | exact (by rw [if_neg (by simp [*])])), rfl, rfl⟩, .inr ⟨_, Wk.ownT 2 2 165 (by kernel_rfl) (by kernel_rfl) (by kernel_rfl), Ret.mk' [(64, 160)] (by kernel_rfl) (by kernel_rfl) (by kernel_rfl)⟩⟩
  ·replace hb5 := bnot_no (hb5)
   refine X.skip ?_
   refine X.seq ?_
   have hgl := hg.1
   refine rk ⟨[(1, .pt 64 0 0), (3, .e (.c (.nil)))], [(64, some (.box [.d (.v (.int .i64 q.f0)), .d (.sl (q.f1.map d38))]))], 160⟩ ?_
   refine X.seq ?_
   refine X.seq ?_
   have el6 : (q.f1.map d38).length = q.f1.length := List.length_map ..
   refine rk ⟨[(3, .e (.c (.nil))), (10, lV (q.f1.map d38)), (11, iV ((q.f1.map d38).length : Int)), (12, iV 0)], [], 224⟩ ?_
   refine X.block ?_
   refine X.weak (Wk.ownT 3 2 165 (by kernel_rfl) (by kernel_rfl) (by kernel_rfl)) ?_
   -- 5: Lv3 : List S165, v12 : Int
   refine X.loop (σ := { g : (List S165) × Int // (fun (Lv3 : List S165) (v12 : Int) => 0 ≤ v12 ∧ v12 ≤ q.f1.length ∧ Lv3.length ≤ (v12).toNat ∧ Lv3 = setW (q.f1.take (v12).toNat)) g.1 g.2 }) (fun g => (fun (Lv3 : List S165) (v12 : Int) => ⟨[(3, rV 224), (10, lV (q.f1.map d38)), (11, iV ((q.f1.map d38).length : Int)), (12, iV v12)], [(224, some (.row 2 165 (Lv3.map d165) false true))], 240⟩) g.1.1 g.1.2) (fun g => (fun (Lv3 : List S165) (v12 : Int) => (q.f1.length - v12).toNat) g.1.1 g.1.2) ⟨([], 0), ⟨by first | omega | (dsimp only; omega), by first | omega | (dsimp only; omega), by simp, st_i0⟩⟩ (Wk.less (by kernel_rfl)) (fun g => ?_)
   obtain ⟨⟨Lv3, v12⟩, hg8⟩ := g
   have hg8 : 0 ≤ v12 ∧ v12 ≤ q.f1.length ∧ Lv3.length ≤ (v12).toNat ∧ Lv3 = setW (q.f1.take (v12).toNat) := hg8
   obtain ⟨_, _, hL, hE⟩ := hg8
   refine sk ⟨[(3, rV 224), (10, lV (q.f1.map d38)), (11, iV ((q.f1.map d38).length : Int)), (12, iV v12), (13, bV (decide ((v12 : Int) < ((q.f1.map d38).length : Int))))], [(224, some (.row 2 165 (Lv3.map d165) false true))], 256⟩ ?_
   refine X.seq ?_
   refine if_ (b := decide ((v12 : Int) < ((q.f1.map d38).length : Int))) (fun hb9 => ?_) (fun hb9 => ?_)
   ·replace hb9 := of_decide_eq_true (hb9)
    refine X.skip ?_
    refine X.seq ?_
    refine X.block ?_
    refine X.seq (rs 0 ?_)
    obtain ⟨x10, hx10⟩ : ∃ x, q.f1[Int.toNat v12]? = some x := ⟨_, List.getElem?_eq_getElem (by first | omega | (simp; done) | (simp; omega))⟩
    refine CH.idx hτ (d38 x10) (rows := (q.f1.map d38)) (n := v12) (sz := 5) (by kernel_rfl) (by kernel_rfl) (by first | omega | (simp; done) | (simp; omega)) (by rw [List.getElem?_map, hx10]; rfl) (by kernel_rfl) ?_
    refine go 3 ?_
    refine ek ⟨[(3, rV 224), (5, .pt 288 0 0), (10, lV (q.f1.map d38)), (11, iV ((q.f1.map d38).length : Int)), (12, iV v12)], [(224, some (.row 2 165 (Lv3.map d165) false true)), (288, some (.box (cD (d38 x10))))], 320⟩ ?_
    refine sk ⟨[(3, rV 224), (5, .pt 288 0 0), (10, lV (q.f1.map d38)), (11, iV ((q.f1.map d38).length : Int)), (12, iV v12), (18, bV (decide ((x10.f3 : Int) ≥ 5)))], [(224, some (.row 2 165 (Lv3.map d165) false true)), (288, some (.box (cD (d38 x10))))], 368⟩ ?_
    refine if_ (b := decide ((x10.f3 : Int) ≥ 5)) (fun hb11 => ?_) (fun hb11 => ?_)
    ·replace hb11 := of_decide_eq_true (hb11)
     refine rs 7 ?_
     have el12 : (Lv3.map d165).length = Lv3.length := List.length_map ..
     have el13 : (([(⟨x10.f0, x10.f3⟩ : S165)] : List S165).map d165).length = ([(⟨x10.f0, x10.f3⟩ : S165)] : List S165).length := List.length_map ..
     have el14 : ([(⟨x10.f0, x10.f3⟩ : S165)] : List S165).length = 1 := rfl
     refine CH.app hτ (rows := (Lv3.map d165)) (rows2 := (([(⟨x10.f0, x10.f3⟩ : S165)] : List S165).map d165)) (sz := 2) (bys := 24) true (by kernel_rfl) (by kernel_rfl) (fun _ => flat_d d165 (fun x => rfl)) (flat_ok (f := d165) (fun x => rfl)) (by simp only [List.length_map] <;> (first | done | omega | (simp; done) | (simp; omega))) (by kernel_rfl) ?_
     refine go 1 ?_
     refine CH.endk ⟨[(3, rV 480), (10, lV (q.f1.map d38)), (11, iV ((q.f1.map d38).length : Int)), (12, iV v12)], [(480, some (.row 2 165 ((Lv3.map d165) ++ (([(⟨x10.f0, x10.f3⟩ : S165)] : List S165).map d165)) false true))], 512⟩ (by kernel_rfl) (by kernel_rfl) (s2 := ⟨[(3, rV 480), (10, lV (q.f1.map d38)), (11, iV ((q.f1.map d38).length : Int)), (12, iV v12)], [(480, some (.row 2 165 ((Lv3 ++ ([(⟨x10.f0, x10.f3⟩ : S165)] : List S165)).map d165) false true))], 512⟩) (congrArg (fun z : List (List D) => (⟨[(3, rV 480), (10, lV (q.f1.map d38)), (11, iV ((q.f1.map d38).length : Int)), (12, iV v12)], [(480, some (.row 2 165 z false true))], 512⟩ : St)) (show (Lv3.map d165) ++ (([(⟨x10.f0, x10.f3⟩ : S165)] : List S165).map d165) = ((Lv3 ++ ([(⟨x10.f0, x10.f3⟩ : S165)] : List S165)).map d165) from List.map_append.symm)) ?_
     refine X.rk ⟨[(3, rV 480), (10, lV (q.f1.map d38)), (11, iV ((q.f1.map d38).length : Int)), (12, iV (wrap64 (v12 + 1)))], [(480, some (.row 2 165 ((Lv3 ++ ([(⟨x10.f0, x10.f3⟩ : S165)] : List S165)).map d165) false true))], 544⟩ hτ hmix (by kernel_rfl) (by kernel_rfl) (s2 := ⟨[(3, rV 480), (10, lV (q.f1.map d38)), (11, iV ((q.f1.map d38).length : Int)), (12, iV (v12 + 1))], [(480, some (.row 2 165 ((Lv3 ++ ([(⟨x10.f0, x10.f3⟩ : S165)] : List S165)).map d165) false true))], 544⟩) (congrArg (fun z : Int => (⟨[(3, rV 480), (10, lV (q.f1.map d38)), (11, iV ((q.f1.map d38).length : Int)), (12, iV z)], [(480, some (.row 2 165 ((Lv3 ++ ([(⟨x10.f0, x10.f3⟩ : S165)] : List S165)).map d165) false true))], 544⟩ : St)) (show wrap64 (v12 + 1) = (v12 + 1) by rw [w64 (n := (v12 + 1)) (by omega) (by omega)])) ?_
     refine ⟨⟨((Lv3 ++ ([(⟨x10.f0, x10.f3⟩ : S165)] : List S165)), (v12 + 1)), ⟨by first | omega | (dsimp only; omega), by first | omega | (dsimp only; omega), by first | omega | (simp only [List.length_append, List.length_cons, List.length_nil]; (first | omega | (dsimp only; omega))), by first | exact st_y (by first | omega | (dsimp only; omega)) ‹_› hE ‹_› | exact st_n (by first | omega | (dsimp only; omega)) ‹_› hE ‹_›⟩⟩, by first | exact rfl | omega | (dsimp only; omega) | (simp only [List.length_append, List.length_cons, List.length_nil, List.length_set]; omega) | (simp; done) | (simp; omega), Wk.mk' [(224, 480)] (by kernel_rfl) (by kernel_rfl) (by kernel_rfl)⟩
    ·replace hb11 := of_decide_eq_false (hb11)
     refine X.skip ?_
     refine X.rk ⟨[(3, rV 224), (10, lV (q.f1.map d38)), (11, iV ((q.f1.map d38).length : Int)), (12, iV (wrap64 (v12 + 1)))], [(224, some (.row 2 165 (Lv3.map d165) false true))], 400⟩ hτ hmix (by kernel_rfl) (by kernel_rfl) (s2 := ⟨[(3, rV 224), (10, lV (q.f1.map d38)), (11, iV ((q.f1.map d38).length : Int)), (12, iV (v12 + 1))], [(224, some (.row 2 165 (Lv3.map d165) false true))], 400⟩) (congrArg (fun z : Int => (⟨[(3, rV 224), (10, lV (q.f1.map d38)), (11, iV ((q.f1.map d38).length : Int)), (12, iV z)], [(224, some (.row 2 165 (Lv3.map d165) false true))], 400⟩ : St)) (show wrap64 (v12 + 1) = (v12 + 1) by rw [w64 (n := (v12 + 1)) (by omega) (by omega)])) ?_
     refine ⟨⟨(Lv3, (v12 + 1)), ⟨by first | omega | (dsimp only; omega), by first | omega | (dsimp only; omega), by first | omega | (simp only [List.length_append, List.length_cons, List.length_nil]; (first | omega | (dsimp only; omega))), by first | exact st_y (by first | omega | (dsimp only; omega)) ‹_› hE ‹_› | exact st_n (by first | omega | (dsimp only; omega)) ‹_› hE ‹_›⟩⟩, by first | exact rfl | omega | (dsimp only; omega) | (simp only [List.length_append, List.length_cons, List.length_nil, List.length_set]; omega) | (simp; done) | (simp; omega), Wk.mk' [(224, 224)] (by kernel_rfl) (by kernel_rfl) (by kernel_rfl)⟩
   ·replace hb9 := of_decide_eq_false (hb9)
    refine X.exit ?_
    refine sk ⟨[(2, rV 224)], [(224, some (.row 2 165 (Lv3.map d165) false true))], 288⟩ ?_
    refine X.ret ?_
    exact ⟨trivial, _, _, ⟨Lv3, (by first | exact (by rw [if_pos ‹ledgerOk _ = true›]; exact st_e hE (by omega)) | exact (by rw [if_neg (by simp [*])])), rfl, rfl⟩, .inl (Ret.mk' [(64, 224)] (by kernel_rfl) (by kernel_rfl) (by kernel_rfl))⟩
 obtain ⟨_, _, ⟨r0, h1_, rfl, rfl⟩, hf⟩ := key
 exact ⟨r0, h1_, hf⟩

theorem s_l7Set (q : S27) (hg : acsSm q.f1) : ∃ r0 : List S165, (r0 = setW q.f1) ∧ Fn Try.prog 89 [.e (.agg [.d (.v (.int .i64 q.f0)), .d (.sl (q.f1.map d38))])] (lookH []) (.e (.c (.f (.sl (r0.map d165))))) (lookH []) := by
 have key : ∃ x' h', ((fun x' h' => ∃ r0 : List S165, (r0 = setW q.f1) ∧ x' = .e (.c (.f (.sl (r0.map d165)))) ∧ h' = [])) x' h' ∧ Fn Try.prog 89 [.e (.agg [.d (.v (.int .i64 q.f0)), .d (.sl (q.f1.map d38))])] (lookH []) x' (lookH h') := by
  refine Fn.bodyX (N := 37) hτ Try.func89 rfl rfl rfl rfl ?_
  refine sk ⟨[(1, .pt 64 0 0)], [(64, some (.box [.d (.v (.int .i64 q.f0)), .d (.sl (q.f1.map d38))]))], 96⟩ ?_
  refine sk ⟨[(1, .pt 64 0 0), (3, rV 96)], [(64, some (.box [.d (.v (.int .i64 q.f0)), .d (.sl (q.f1.map d38))])), (96, some (.row 2 165 [] false true))], 128⟩ ?_
  refine X.seq ?_
  refine X.seq ?_
  have hgl := hg.1
  refine rk ⟨[(1, .pt 64 0 0), (3, rV 96), (4, iV 0)], [(64, some (.box [.d (.v (.int .i64 q.f0)), .d (.sl (q.f1.map d38))])), (96, some (.row 2 165 [] false true))], 144⟩ ?_
  refine X.block ?_
  -- 3: Lv3 : List S165, v4 : Int
  refine X.loop (σ := { g : (List S165) × Int // (fun (Lv3 : List S165) (v4 : Int) => 0 ≤ v4 ∧ v4 ≤ q.f1.length ∧ Lv3.length ≤ (v4).toNat ∧ Lv3 = setW (q.f1.take (v4).toNat)) g.1 g.2 }) (fun g => (fun (Lv3 : List S165) (v4 : Int) => ⟨[(1, .pt 64 0 0), (3, rV 96), (4, iV v4)], [(64, some (.box [.d (.v (.int .i64 q.f0)), .d (.sl (q.f1.map d38))])), (96, some (.row 2 165 (Lv3.map d165) false true))], 144⟩) g.1.1 g.1.2) (fun g => (fun (Lv3 : List S165) (v4 : Int) => (q.f1.length - v4).toNat) g.1.1 g.1.2) ⟨([], 0), ⟨by first | omega | (dsimp only; omega), by first | omega | (dsimp only; omega), by simp, st_i0⟩⟩ (Wk.less (by kernel_rfl)) (fun g => ?_)
  obtain ⟨⟨Lv3, v4⟩, hg2⟩ := g
  have hg2 : 0 ≤ v4 ∧ v4 ≤ q.f1.length ∧ Lv3.length ≤ (v4).toNat ∧ Lv3 = setW (q.f1.take (v4).toNat) := hg2
  obtain ⟨_, _, hL, hE⟩ := hg2
  refine X.seq ?_
  refine X.seq ?_
  have el3 : (q.f1.map d38).length = q.f1.length := List.length_map ..
  refine rk ⟨[(1, .pt 64 0 0), (3, rV 96), (4, iV v4), (10, bV (decide ((v4 : Int) < ((q.f1.map d38).length : Int))))], [(64, some (.box [.d (.v (.int .i64 q.f0)), .d (.sl (q.f1.map d38))])), (96, some (.row 2 165 (Lv3.map d165) false true))], 224⟩ ?_
  refine if_ (b := decide ((v4 : Int) < ((q.f1.map d38).length : Int))) (fun hb4 => ?_) (fun hb4 => ?_)
  ·replace hb4 := of_decide_eq_true (hb4)
   refine X.skip ?_
   refine X.seq ?_
   refine X.block ?_
   refine X.seq (rs 3 ?_)
   obtain ⟨x5, hx5⟩ : ∃ x, q.f1[Int.toNat v4]? = some x := ⟨_, List.getElem?_eq_getElem (by first | omega | (simp; done) | (simp; omega))⟩
   refine CH.idx hτ (d38 x5) (rows := (q.f1.map d38)) (n := v4) (sz := 5) (by kernel_rfl) (by kernel_rfl) (by first | omega | (simp; done) | (simp; omega)) (by rw [List.getElem?_map, hx5]; rfl) (by kernel_rfl) ?_
   refine go 3 ?_
   refine ek ⟨[(1, .pt 64 0 0), (3, rV 96), (4, iV v4), (19, bV (decide ((x5.f3 : Int) ≥ 5)))], [(64, some (.box [.d (.v (.int .i64 q.f0)), .d (.sl (q.f1.map d38))])), (96, some (.row 2 165 (Lv3.map d165) false true))], 336⟩ ?_
   refine if_ (b := decide ((x5.f3 : Int) ≥ 5)) (fun hb6 => ?_) (fun hb6 => ?_)
   ·replace hb6 := of_decide_eq_true (hb6)
    refine rs 4 ?_
    refine CH.idx hτ (d38 x5) (rows := (q.f1.map d38)) (n := v4) (sz := 5) (by kernel_rfl) (by kernel_rfl) (by first | omega | (simp; done) | (simp; omega)) (by rw [List.getElem?_map, hx5]; rfl) (by kernel_rfl) ?_
    refine go 5 ?_
    refine CH.idx hτ (d38 x5) (rows := (q.f1.map d38)) (n := v4) (sz := 5) (by kernel_rfl) (by kernel_rfl) (by first | omega | (simp; done) | (simp; omega)) (by rw [List.getElem?_map, hx5]; rfl) (by kernel_rfl) ?_
    refine go 4 ?_
    have el7 : (Lv3.map d165).length = Lv3.length := List.length_map ..
    have el8 : (([(⟨x5.f0, x5.f3⟩ : S165)] : List S165).map d165).length = ([(⟨x5.f0, x5.f3⟩ : S165)] : List S165).length := List.length_map ..
    have el9 : ([(⟨x5.f0, x5.f3⟩ : S165)] : List S165).length = 1 := rfl
    refine CH.app hτ (rows := (Lv3.map d165)) (rows2 := (([(⟨x5.f0, x5.f3⟩ : S165)] : List S165).map d165)) (sz := 2) (bys := 24) true (by kernel_rfl) (by kernel_rfl) (fun _ => flat_d d165 (fun x => rfl)) (flat_ok (f := d165) (fun x => rfl)) (by simp only [List.length_map] <;> (first | done | omega | (simp; done) | (simp; omega))) (by kernel_rfl) ?_
    refine go 1 ?_
    refine CH.endk ⟨[(1, .pt 64 0 0), (3, rV 576), (4, iV v4)], [(64, some (.box [.d (.v (.int .i64 q.f0)), .d (.sl (q.f1.map d38))])), (576, some (.row 2 165 ((Lv3.map d165) ++ (([(⟨x5.f0, x5.f3⟩ : S165)] : List S165).map d165)) false true))], 608⟩ (by kernel_rfl) (by kernel_rfl) (s2 := ⟨[(1, .pt 64 0 0), (3, rV 576), (4, iV v4)], [(64, some (.box [.d (.v (.int .i64 q.f0)), .d (.sl (q.f1.map d38))])), (576, some (.row 2 165 ((Lv3 ++ ([(⟨x5.f0, x5.f3⟩ : S165)] : List S165)).map d165) false true))], 608⟩) (congrArg (fun z : List (List D) => (⟨[(1, .pt 64 0 0), (3, rV 576), (4, iV v4)], [(64, some (.box [.d (.v (.int .i64 q.f0)), .d (.sl (q.f1.map d38))])), (576, some (.row 2 165 z false true))], 608⟩ : St)) (show (Lv3.map d165) ++ (([(⟨x5.f0, x5.f3⟩ : S165)] : List S165).map d165) = ((Lv3 ++ ([(⟨x5.f0, x5.f3⟩ : S165)] : List S165)).map d165) from List.map_append.symm)) ?_
    refine X.rk ⟨[(1, .pt 64 0 0), (3, rV 576), (4, iV (wrap64 (v4 + 1)))], [(64, some (.box [.d (.v (.int .i64 q.f0)), .d (.sl (q.f1.map d38))])), (576, some (.row 2 165 ((Lv3 ++ ([(⟨x5.f0, x5.f3⟩ : S165)] : List S165)).map d165) false true))], 656⟩ hτ hmix (by kernel_rfl) (by kernel_rfl) (s2 := ⟨[(1, .pt 64 0 0), (3, rV 576), (4, iV (v4 + 1))], [(64, some (.box [.d (.v (.int .i64 q.f0)), .d (.sl (q.f1.map d38))])), (576, some (.row 2 165 ((Lv3 ++ ([(⟨x5.f0, x5.f3⟩ : S165)] : List S165)).map d165) false true))], 656⟩) (congrArg (fun z : Int => (⟨[(1, .pt 64 0 0), (3, rV 576), (4, iV z)], [(64, some (.box [.d (.v (.int .i64 q.f0)), .d (.sl (q.f1.map d38))])), (576, some (.row 2 165 ((Lv3 ++ ([(⟨x5.f0, x5.f3⟩ : S165)] : List S165)).map d165) false true))], 656⟩ : St)) (show wrap64 (v4 + 1) = (v4 + 1) by rw [w64 (n := (v4 + 1)) (by omega) (by omega)])) ?_
    refine ⟨⟨((Lv3 ++ ([(⟨x5.f0, x5.f3⟩ : S165)] : List S165)), (v4 + 1)), ⟨by first | omega | (dsimp only; omega), by first | omega | (dsimp only; omega), by first | omega | (simp only [List.length_append, List.length_cons, List.length_nil]; (first | omega | (dsimp only; omega))), by first | exact st_y (by first | omega | (dsimp only; omega)) ‹_› hE ‹_› | exact st_n (by first | omega | (dsimp only; omega)) ‹_› hE ‹_›⟩⟩, by first | exact rfl | omega | (dsimp only; omega) | (simp only [List.length_append, List.length_cons, List.length_nil, List.length_set]; omega) | (simp; done) | (simp; omega), Wk.mk' [(64, 64), (96, 576)] (by kernel_rfl) (by kernel_rfl) (by kernel_rfl)⟩
   ·replace hb6 := of_decide_eq_false (hb6)
    refine X.skip ?_
    refine X.rk ⟨[(1, .pt 64 0 0), (3, rV 96), (4, iV (wrap64 (v4 + 1)))], [(64, some (.box [.d (.v (.int .i64 q.f0)), .d (.sl (q.f1.map d38))])), (96, some (.row 2 165 (Lv3.map d165) false true))], 384⟩ hτ hmix (by kernel_rfl) (by kernel_rfl) (s2 := ⟨[(1, .pt 64 0 0), (3, rV 96), (4, iV (v4 + 1))], [(64, some (.box [.d (.v (.int .i64 q.f0)), .d (.sl (q.f1.map d38))])), (96, some (.row 2 165 (Lv3.map d165) false true))], 384⟩) (congrArg (fun z : Int => (⟨[(1, .pt 64 0 0), (3, rV 96), (4, iV z)], [(64, some (.box [.d (.v (.int .i64 q.f0)), .d (.sl (q.f1.map d38))])), (96, some (.row 2 165 (Lv3.map d165) false true))], 384⟩ : St)) (show wrap64 (v4 + 1) = (v4 + 1) by rw [w64 (n := (v4 + 1)) (by omega) (by omega)])) ?_
    refine ⟨⟨(Lv3, (v4 + 1)), ⟨by first | omega | (dsimp only; omega), by first | omega | (dsimp only; omega), by first | omega | (simp only [List.length_append, List.length_cons, List.length_nil]; (first | omega | (dsimp only; omega))), by first | exact st_y (by first | omega | (dsimp only; omega)) ‹_› hE ‹_› | exact st_n (by first | omega | (dsimp only; omega)) ‹_› hE ‹_›⟩⟩, by first | exact rfl | omega | (dsimp only; omega) | (simp only [List.length_append, List.length_cons, List.length_nil, List.length_set]; omega) | (simp; done) | (simp; omega), Wk.mk' [(64, 64), (96, 96)] (by kernel_rfl) (by kernel_rfl) (by kernel_rfl)⟩
  ·replace hb4 := of_decide_eq_false (hb4)
   refine X.exit ?_
   refine sk ⟨[(2, rV 96)], [(96, some (.row 2 165 (Lv3.map d165) false true))], 256⟩ ?_
   refine X.ret ?_
   exact ⟨trivial, _, _, ⟨Lv3, (st_e hE (by omega)), rfl, rfl⟩, .inr ⟨⟨[(2, .e (.c (.f (.sl (Lv3.map d165)))))], [(96, some (.row 2 165 (Lv3.map d165) true true))], 256⟩, Wk.less (by kernel_rfl), Ret.mk' [] (by kernel_rfl) (by kernel_rfl) (by kernel_rfl)⟩⟩
 obtain ⟨_, _, ⟨r0, h1_, rfl, rfl⟩, hf⟩ := key
 exact ⟨r0, h1_, hf⟩

theorem i_rootQc  : ∃ r0 : S68, (r0 = ⟨0, -1, []⟩) ∧ Fn Try.prog 93 [] (lookH []) (.e (.agg [.d (.v (.int .i64 r0.f0)), .d (.v (.int .i64 r0.f1)), .ref 64])) (lookH [(64, some (.row 1 9 (r0.f2.map dS) false true))]) := by
 have key : ∃ x' h', ((fun x' h' => ∃ r0 : S68, (r0 = ⟨0, -1, []⟩) ∧ x' = .e (.agg [.d (.v (.int .i64 r0.f0)), .d (.v (.int .i64 r0.f1)), .ref 64]) ∧ h' = [(64, some (.row 1 9 (r0.f2.map dS) false true))])) x' h' ∧ Fn Try.prog 93 [] (lookH []) x' (lookH h') := by
  refine Fn.bodyX (N := 2) hτ Try.func93 rfl rfl rfl rfl ?_
  refine sk ⟨[(0, .pt 64 0 0)], [(64, some (.box [.d (.v (.int .i64 0)), .d (.v (.int .i64 0)), .nil]))], 80⟩ ?_
  refine sk ⟨[(0, .pt 64 0 0)], [(64, some (.box [.d (.v (.int .i64 0)), .d (.v (.int .i64 (-1))), .nil]))], 112⟩ ?_
  refine X.ret ?_
  exact ⟨trivial, _, _, ⟨(⟨0, (-1), []⟩ : S68), rfl, rfl, rfl⟩, .inr ⟨_, Wk.ownB 64 [.d (.v (.int .i64 0)), .d (.v (.int .i64 (-1))), .nil] 2 1 9 (by kernel_rfl) rfl (by kernel_rfl) (by kernel_rfl), Ret.mk' [(64, 112)] (by kernel_rfl) (by kernel_rfl) (by kernel_rfl)⟩⟩
 obtain ⟨_, _, ⟨r0, h1_, rfl, rfl⟩, hf⟩ := key
 exact ⟨r0, h1_, hf⟩

theorem s_NodeNew (s : ByteArray) (q : S27) (hs : SmS s) (hg : acsSm q.f1) : ∃ r0 : S83, (r0 = nnW s q) ∧ Fn Try.prog 35 [.e (.c (.d (.v (.string s)))), .e (.agg [.d (.v (.int .i64 q.f0)), .d (.sl (q.f1.map d38))])] (lookH []) (.e (.agg [.d (.v (.string r0.f0)), .d (.v (.int .i64 r0.f1)), .d (.v (.int .i64 r0.f2.f0)), .f (.sl (r0.f2.f1.map d38)), .f (.sl (r0.f3.map d165)), .f (.sl (r0.f4.map d72)), .d (.v (.int .i64 r0.f5)), .d (.v (.int .i64 r0.f6)), .d (.v (.int .i64 r0.f7.f0)), .d (.v (.int .i64 r0.f7.f1)), .f (.sl (r0.f7.f2.map dS)), .d (.v (.int .i64 r0.f8.f0)), .f (.sl (r0.f8.f1.map dS)), .f (.sl (r0.f8.f2.map dI)), .d (.v (.int .i64 r0.f9)), .f (.sl (r0.f10.map d177)), .f (.sl (r0.f11.map d180)), .f (.sl (r0.f12.map dI)), .f (.sl (r0.f13.map d35)), .f (.sl (r0.f14.map d183))])) (lookH []) := by
 have key : ∃ x' h', ((fun x' h' => ∃ r0 : S83, (r0 = nnW s q) ∧ x' = .e (.agg [.d (.v (.string r0.f0)), .d (.v (.int .i64 r0.f1)), .d (.v (.int .i64 r0.f2.f0)), .f (.sl (r0.f2.f1.map d38)), .f (.sl (r0.f3.map d165)), .f (.sl (r0.f4.map d72)), .d (.v (.int .i64 r0.f5)), .d (.v (.int .i64 r0.f6)), .d (.v (.int .i64 r0.f7.f0)), .d (.v (.int .i64 r0.f7.f1)), .f (.sl (r0.f7.f2.map dS)), .d (.v (.int .i64 r0.f8.f0)), .f (.sl (r0.f8.f1.map dS)), .f (.sl (r0.f8.f2.map dI)), .d (.v (.int .i64 r0.f9)), .f (.sl (r0.f10.map d177)), .f (.sl (r0.f11.map d180)), .f (.sl (r0.f12.map dI)), .f (.sl (r0.f13.map d35)), .f (.sl (r0.f14.map d183))]) ∧ h' = [])) x' h' ∧ Fn Try.prog 35 [.e (.c (.d (.v (.string s)))), .e (.agg [.d (.v (.int .i64 q.f0)), .d (.sl (q.f1.map d38))])] (lookH []) x' (lookH h') := by
  refine Fn.bodyX (N := 23) hτ Try.func35 rfl rfl rfl rfl ?_
  refine sk ⟨[(0, .e (.c (.d (.v (.string s))))), (3, .pt 64 0 0), (4, .pt 80 0 0)], [(64, some (.box [.d (.v (.int .i64 q.f0)), .d (.sl (q.f1.map d38))])), (80, some (.box [.d (.v (.string (⟨#[]⟩ : ByteArray))), .d (.v (.int .i64 0)), .d (.v (.int .i64 0)), .nil, .nil, .nil, .d (.v (.int .i64 0)), .d (.v (.int .i64 0)), .d (.v (.int .i64 0)), .d (.v (.int .i64 0)), .nil, .d (.v (.int .i64 0)), .nil, .nil, .d (.v (.int .i64 0)), .nil, .nil, .nil, .nil, .nil]))], 96⟩ ?_
  refine X.seq ?_
  refine X.seq (rs 1 ?_)
  obtain ⟨r1, hr3, hf2⟩ := s_NameOk s (by assumption)
  replace hr3 := hr3.symm; subst hr3
  refine ca hf2 Try.func86 ?_
  refine go 2 ?_
  rcases Bool.eq_false_or_eq_true (!(nameOk s)) with hb5 | hb5
  ·refine aT 7 hb5 ?_
   refine aT 8 hb5 ?_
   replace hb5 := bnot_yes (hb5)
   refine go 4 ?_
   refine ek ⟨[(0, .e (.c (.d (.v (.string s))))), (3, .pt 64 0 0), (4, .pt 80 0 0), (12, bV true)], [(64, some (.box [.d (.v (.int .i64 q.f0)), .d (.sl (q.f1.map d38))])), (80, some (.box [.d (.v (.string (⟨#[]⟩ : ByteArray))), .d (.v (.int .i64 0)), .d (.v (.int .i64 0)), .nil, .nil, .nil, .d (.v (.int .i64 0)), .d (.v (.int .i64 0)), .d (.v (.int .i64 0)), .d (.v (.int .i64 0)), .nil, .d (.v (.int .i64 0)), .nil, .nil, .d (.v (.int .i64 0)), .nil, .nil, .nil, .nil, .nil]))], 224⟩ ?_
   refine X.ifT (by kernel_rfl) ?_
   refine sk ⟨[(4, .pt 80 0 0)], [(80, some (.box [.d (.v (.string (⟨#[]⟩ : ByteArray))), .d (.v (.int .i64 0)), .d (.v (.int .i64 0)), .nil, .nil, .nil, .d (.v (.int .i64 0)), .d (.v (.int .i64 0)), .d (.v (.int .i64 0)), .d (.v (.int .i64 0)), .nil, .d (.v (.int .i64 0)), .nil, .nil, .d (.v (.int .i64 0)), .nil, .nil, .nil, .nil, .nil]))], 256⟩ ?_
   refine X.ret ?_
   exact ⟨trivial, _, _, ⟨(⟨(⟨#[]⟩ : ByteArray), 0, (⟨0, []⟩ : S27), [], [], 0, 0, (⟨0, 0, []⟩ : S68), (⟨0, [], []⟩ : S69), 0, [], [], [], [], []⟩ : S83), (by first | exact (nn_n1 ‹_›) | exact (nn_n2 ‹_›) | exact (nn_yes ‹_› ‹_›) | exact (by rw [if_pos ‹ledgerOk _ = true›]; exact nn_yes ‹_› ‹_›)), rfl, rfl⟩, .inr ⟨⟨[(4, .pt 80 0 0)], [(80, some (.box [.d (.v (.string (⟨#[]⟩ : ByteArray))), .d (.v (.int .i64 0)), .d (.v (.int .i64 0)), .f (.sl []), .f (.sl []), .f (.sl []), .d (.v (.int .i64 0)), .d (.v (.int .i64 0)), .d (.v (.int .i64 0)), .d (.v (.int .i64 0)), .f (.sl []), .d (.v (.int .i64 0)), .f (.sl []), .f (.sl []), .d (.v (.int .i64 0)), .f (.sl []), .f (.sl []), .f (.sl []), .f (.sl []), .f (.sl [])]))], 256⟩, Wk.less (by kernel_rfl), Ret.mk' [] (by kernel_rfl) (by kernel_rfl) (by kernel_rfl)⟩⟩
  ·refine aF 7 hb5 ?_
   refine aF 8 hb5 ?_
   replace hb5 := bnot_no (hb5)
   refine go 1 ?_
   obtain ⟨r6, hr8, hf7⟩ := s_LedgerOk q (by assumption)
   replace hr8 := hr8.symm; subst hr8
   refine ca hf7 Try.func87 ?_
   refine go 2 ?_
   refine ek ⟨[(0, .e (.c (.d (.v (.string s))))), (3, .pt 64 0 0), (4, .pt 80 0 0), (12, bV (!(ledgerOk q)))], [(64, some (.box [.d (.v (.int .i64 q.f0)), .d (.sl (q.f1.map d38))])), (80, some (.box [.d (.v (.string (⟨#[]⟩ : ByteArray))), .d (.v (.int .i64 0)), .d (.v (.int .i64 0)), .nil, .nil, .nil, .d (.v (.int .i64 0)), .d (.v (.int .i64 0)), .d (.v (.int .i64 0)), .d (.v (.int .i64 0)), .nil, .d (.v (.int .i64 0)), .nil, .nil, .d (.v (.int .i64 0)), .nil, .nil, .nil, .nil, .nil]))], 224⟩ ?_
   refine if_ (b := !(ledgerOk q)) (fun hb10 => ?_) (fun hb10 => ?_)
   ·replace hb10 := bnot_yes (hb10)
    refine sk ⟨[(4, .pt 80 0 0)], [(80, some (.box [.d (.v (.string (⟨#[]⟩ : ByteArray))), .d (.v (.int .i64 0)), .d (.v (.int .i64 0)), .nil, .nil, .nil, .d (.v (.int .i64 0)), .d (.v (.int .i64 0)), .d (.v (.int .i64 0)), .d (.v (.int .i64 0)), .nil, .d (.v (.int .i64 0)), .nil, .nil, .d (.v (.int .i64 0)), .nil, .nil, .nil, .nil, .nil]))], 256⟩ ?_
    refine X.ret ?_
    exact ⟨trivial, _, _, ⟨(⟨(⟨#[]⟩ : ByteArray), 0, (⟨0, []⟩ : S27), [], [], 0, 0, (⟨0, 0, []⟩ : S68), (⟨0, [], []⟩ : S69), 0, [], [], [], [], []⟩ : S83), (by first | exact (nn_n1 ‹_›) | exact (nn_n2 ‹_›) | exact (nn_yes ‹_› ‹_›) | exact (by rw [if_pos ‹ledgerOk _ = true›]; exact nn_yes ‹_› ‹_›)), rfl, rfl⟩, .inr ⟨⟨[(4, .pt 80 0 0)], [(80, some (.box [.d (.v (.string (⟨#[]⟩ : ByteArray))), .d (.v (.int .i64 0)), .d (.v (.int .i64 0)), .f (.sl []), .f (.sl []), .f (.sl []), .d (.v (.int .i64 0)), .d (.v (.int .i64 0)), .d (.v (.int .i64 0)), .d (.v (.int .i64 0)), .f (.sl []), .d (.v (.int .i64 0)), .f (.sl []), .f (.sl []), .d (.v (.int .i64 0)), .f (.sl []), .f (.sl []), .f (.sl []), .f (.sl []), .f (.sl [])]))], 256⟩, Wk.less (by kernel_rfl), Ret.mk' [] (by kernel_rfl) (by kernel_rfl) (by kernel_rfl)⟩⟩
   ·replace hb10 := bnot_no (hb10)
    refine X.skip ?_
    refine X.seq (rs 4 ?_)
    obtain ⟨r11, hr13, hf12⟩ := s_l6Copy q (by assumption)
    replace hr13 := hr13.symm; subst hr13
    refine ca hf12 Try.func88 ?_
    refine go 1 ?_
    obtain ⟨r15, hr17, hf16⟩ := s_l7Set q (by assumption)
    replace hr17 := hr17.symm; subst hr17
    refine ca hf16 Try.func89 ?_
    refine go 3 ?_
    refine ek ⟨[(4, .pt 80 0 0)], [(80, some (.box [.d (.v (.string s)), .d (.v (.int .i64 q.f0)), .d (.v (.int .i64 q.f0)), .ref 288, .f (.sl ((setW q.f1).map d165)), .nil, .d (.v (.int .i64 1)), .d (.v (.int .i64 0)), .d (.v (.int .i64 0)), .d (.v (.int .i64 (-1))), .nil, .d (.v (.int .i64 0)), .nil, .nil, .d (.v (.int .i64 0)), .nil, .nil, .nil, .nil, .nil])), (288, some (.row 5 38 (q.f1.map d38) false true))], 384⟩ ?_
    refine X.ret ?_
    exact ⟨trivial, _, _, ⟨(⟨s, q.f0, q, (setW q.f1), [], 1, 0, (⟨0, (-1), []⟩ : S68), (⟨0, [], []⟩ : S69), 0, [], [], [], [], []⟩ : S83), (by first | exact (nn_n1 ‹_›) | exact (nn_n2 ‹_›) | exact (nn_yes ‹_› ‹_›) | exact (by rw [if_pos ‹ledgerOk _ = true›]; exact nn_yes ‹_› ‹_›)), rfl, rfl⟩, .inr ⟨⟨[(4, .pt 80 0 0)], [(80, some (.box [.d (.v (.string s)), .d (.v (.int .i64 q.f0)), .d (.v (.int .i64 q.f0)), .f (.sl (q.f1.map d38)), .f (.sl ((setW q.f1).map d165)), .f (.sl []), .d (.v (.int .i64 1)), .d (.v (.int .i64 0)), .d (.v (.int .i64 0)), .d (.v (.int .i64 (-1))), .f (.sl []), .d (.v (.int .i64 0)), .f (.sl []), .f (.sl []), .d (.v (.int .i64 0)), .f (.sl []), .f (.sl []), .f (.sl []), .f (.sl []), .f (.sl [])])), (288, some (.row 5 38 (q.f1.map d38) true true))], 384⟩, Wk.less (by kernel_rfl), Ret.mk' [] (by kernel_rfl) (by kernel_rfl) (by kernel_rfl)⟩⟩
 obtain ⟨_, _, ⟨r0, h1_, rfl, rfl⟩, hf⟩ := key
 exact ⟨r0, h1_, hf⟩

theorem i_NodeNew (s : ByteArray) (q : S27) (hs : SmS s) (hg : acsSm q.f1) : ∃ r0 : S83, (r0 = nnW s q) ∧ Fn Try.prog 36 [.e (.c (.d (.v (.string s)))), .e (.agg [.d (.v (.int .i64 q.f0)), .d (.sl (q.f1.map d38))])] (lookH []) (.e (.agg [.d (.v (.string r0.f0)), .d (.v (.int .i64 r0.f1)), .d (.v (.int .i64 r0.f2.f0)), .ref 64, .ref 65, .ref 66, .d (.v (.int .i64 r0.f5)), .d (.v (.int .i64 r0.f6)), .d (.v (.int .i64 r0.f7.f0)), .d (.v (.int .i64 r0.f7.f1)), .ref 67, .d (.v (.int .i64 r0.f8.f0)), .ref 68, .ref 69, .d (.v (.int .i64 r0.f9)), .ref 70, .ref 71, .ref 72, .ref 73, .ref 74])) (lookH [(64, some (.nst 5 38 [(4, 2, 188)] (r0.f2.f1.map d38) [])), (65, some (.row 2 165 (r0.f3.map d165) false true)), (66, some (.row 14 72 (r0.f4.map d72) false true)), (67, some (.row 1 9 (r0.f7.f2.map dS) false true)), (68, some (.row 1 9 (r0.f8.f1.map dS) false true)), (69, some (.row 1 3 (r0.f8.f2.map dI) false true)), (70, some (.row 3 177 (r0.f10.map d177) false true)), (71, some (.row 3 180 (r0.f11.map d180) false true)), (72, some (.row 1 3 (r0.f12.map dI) false true)), (73, some (.row 5 35 (r0.f13.map d35) false true)), (74, some (.row 5 183 (r0.f14.map d183) false true))]) := by
 have key : ∃ x' h', ((fun x' h' => ∃ r0 : S83, (r0 = nnW s q) ∧ x' = .e (.agg [.d (.v (.string r0.f0)), .d (.v (.int .i64 r0.f1)), .d (.v (.int .i64 r0.f2.f0)), .ref 64, .ref 65, .ref 66, .d (.v (.int .i64 r0.f5)), .d (.v (.int .i64 r0.f6)), .d (.v (.int .i64 r0.f7.f0)), .d (.v (.int .i64 r0.f7.f1)), .ref 67, .d (.v (.int .i64 r0.f8.f0)), .ref 68, .ref 69, .d (.v (.int .i64 r0.f9)), .ref 70, .ref 71, .ref 72, .ref 73, .ref 74]) ∧ h' = [(64, some (.nst 5 38 [(4, 2, 188)] (r0.f2.f1.map d38) [])), (65, some (.row 2 165 (r0.f3.map d165) false true)), (66, some (.row 14 72 (r0.f4.map d72) false true)), (67, some (.row 1 9 (r0.f7.f2.map dS) false true)), (68, some (.row 1 9 (r0.f8.f1.map dS) false true)), (69, some (.row 1 3 (r0.f8.f2.map dI) false true)), (70, some (.row 3 177 (r0.f10.map d177) false true)), (71, some (.row 3 180 (r0.f11.map d180) false true)), (72, some (.row 1 3 (r0.f12.map dI) false true)), (73, some (.row 5 35 (r0.f13.map d35) false true)), (74, some (.row 5 183 (r0.f14.map d183) false true))])) x' h' ∧ Fn Try.prog 36 [.e (.c (.d (.v (.string s)))), .e (.agg [.d (.v (.int .i64 q.f0)), .d (.sl (q.f1.map d38))])] (lookH []) x' (lookH h') := by
  refine Fn.bodyX (N := 23) hτ Try.func36 rfl rfl rfl rfl ?_
  refine sk ⟨[(0, .e (.c (.d (.v (.string s))))), (3, .pt 64 0 0), (4, .pt 80 0 0)], [(64, some (.box [.d (.v (.int .i64 q.f0)), .d (.sl (q.f1.map d38))])), (80, some (.box [.d (.v (.string (⟨#[]⟩ : ByteArray))), .d (.v (.int .i64 0)), .d (.v (.int .i64 0)), .nil, .nil, .nil, .d (.v (.int .i64 0)), .d (.v (.int .i64 0)), .d (.v (.int .i64 0)), .d (.v (.int .i64 0)), .nil, .d (.v (.int .i64 0)), .nil, .nil, .d (.v (.int .i64 0)), .nil, .nil, .nil, .nil, .nil]))], 96⟩ ?_
  refine X.seq ?_
  refine X.seq (rs 1 ?_)
  obtain ⟨r1, hr3, hf2⟩ := i_NameOk s (by assumption)
  replace hr3 := hr3.symm; subst hr3
  refine ca hf2 Try.func90 ?_
  refine go 2 ?_
  rcases Bool.eq_false_or_eq_true (!(nameOk s)) with hb5 | hb5
  ·refine aT 7 hb5 ?_
   refine aT 8 hb5 ?_
   replace hb5 := bnot_yes (hb5)
   refine go 4 ?_
   refine ek ⟨[(0, .e (.c (.d (.v (.string s))))), (3, .pt 64 0 0), (4, .pt 80 0 0), (12, bV true)], [(64, some (.box [.d (.v (.int .i64 q.f0)), .d (.sl (q.f1.map d38))])), (80, some (.box [.d (.v (.string (⟨#[]⟩ : ByteArray))), .d (.v (.int .i64 0)), .d (.v (.int .i64 0)), .nil, .nil, .nil, .d (.v (.int .i64 0)), .d (.v (.int .i64 0)), .d (.v (.int .i64 0)), .d (.v (.int .i64 0)), .nil, .d (.v (.int .i64 0)), .nil, .nil, .d (.v (.int .i64 0)), .nil, .nil, .nil, .nil, .nil]))], 224⟩ ?_
   refine X.ifT (by kernel_rfl) ?_
   refine sk ⟨[(4, .pt 80 0 0)], [(80, some (.box [.d (.v (.string (⟨#[]⟩ : ByteArray))), .d (.v (.int .i64 0)), .d (.v (.int .i64 0)), .nil, .nil, .nil, .d (.v (.int .i64 0)), .d (.v (.int .i64 0)), .d (.v (.int .i64 0)), .d (.v (.int .i64 0)), .nil, .d (.v (.int .i64 0)), .nil, .nil, .d (.v (.int .i64 0)), .nil, .nil, .nil, .nil, .nil]))], 256⟩ ?_
   refine X.ret ?_
   exact ⟨trivial, _, _, ⟨(⟨(⟨#[]⟩ : ByteArray), 0, (⟨0, []⟩ : S27), [], [], 0, 0, (⟨0, 0, []⟩ : S68), (⟨0, [], []⟩ : S69), 0, [], [], [], [], []⟩ : S83), (by first | exact (nn_n1 ‹_›) | exact (nn_n2 ‹_›) | exact (nn_yes ‹_› ‹_›) | exact (by rw [if_pos ‹ledgerOk _ = true›]; exact nn_yes ‹_› ‹_›)), rfl, rfl⟩, .inr ⟨_, (Wk.ownBN 80 [.d (.v (.string (⟨#[]⟩ : ByteArray))), .d (.v (.int .i64 0)), .d (.v (.int .i64 0)), .nil, .nil, .nil, .d (.v (.int .i64 0)), .d (.v (.int .i64 0)), .d (.v (.int .i64 0)), .d (.v (.int .i64 0)), .nil, .d (.v (.int .i64 0)), .nil, .nil, .d (.v (.int .i64 0)), .nil, .nil, .nil, .nil, .nil] 3 5 38 [(4, 2, 188)] (by kernel_rfl) rfl (by kernel_rfl) (by kernel_rfl)).trans ((Wk.ownB 80 [.d (.v (.string (⟨#[]⟩ : ByteArray))), .d (.v (.int .i64 0)), .d (.v (.int .i64 0)), .ref 256, .nil, .nil, .d (.v (.int .i64 0)), .d (.v (.int .i64 0)), .d (.v (.int .i64 0)), .d (.v (.int .i64 0)), .nil, .d (.v (.int .i64 0)), .nil, .nil, .d (.v (.int .i64 0)), .nil, .nil, .nil, .nil, .nil] 4 2 165 (by kernel_rfl) rfl (by kernel_rfl) (by kernel_rfl)).trans ((Wk.ownB 80 [.d (.v (.string (⟨#[]⟩ : ByteArray))), .d (.v (.int .i64 0)), .d (.v (.int .i64 0)), .ref 256, .ref 272, .nil, .d (.v (.int .i64 0)), .d (.v (.int .i64 0)), .d (.v (.int .i64 0)), .d (.v (.int .i64 0)), .nil, .d (.v (.int .i64 0)), .nil, .nil, .d (.v (.int .i64 0)), .nil, .nil, .nil, .nil, .nil] 5 14 72 (by kernel_rfl) rfl (by kernel_rfl) (by kernel_rfl)).trans ((Wk.ownB 80 [.d (.v (.string (⟨#[]⟩ : ByteArray))), .d (.v (.int .i64 0)), .d (.v (.int .i64 0)), .ref 256, .ref 272, .ref 288, .d (.v (.int .i64 0)), .d (.v (.int .i64 0)), .d (.v (.int .i64 0)), .d (.v (.int .i64 0)), .nil, .d (.v (.int .i64 0)), .nil, .nil, .d (.v (.int .i64 0)), .nil, .nil, .nil, .nil, .nil] 10 1 9 (by kernel_rfl) rfl (by kernel_rfl) (by kernel_rfl)).trans ((Wk.ownB 80 [.d (.v (.string (⟨#[]⟩ : ByteArray))), .d (.v (.int .i64 0)), .d (.v (.int .i64 0)), .ref 256, .ref 272, .ref 288, .d (.v (.int .i64 0)), .d (.v (.int .i64 0)), .d (.v (.int .i64 0)), .d (.v (.int .i64 0)), .ref 304, .d (.v (.int .i64 0)), .nil, .nil, .d (.v (.int .i64 0)), .nil, .nil, .nil, .nil, .nil] 12 1 9 (by kernel_rfl) rfl (by kernel_rfl) (by kernel_rfl)).trans ((Wk.ownB 80 [.d (.v (.string (⟨#[]⟩ : ByteArray))), .d (.v (.int .i64 0)), .d (.v (.int .i64 0)), .ref 256, .ref 272, .ref 288, .d (.v (.int .i64 0)), .d (.v (.int .i64 0)), .d (.v (.int .i64 0)), .d (.v (.int .i64 0)), .ref 304, .d (.v (.int .i64 0)), .ref 320, .nil, .d (.v (.int .i64 0)), .nil, .nil, .nil, .nil, .nil] 13 1 3 (by kernel_rfl) rfl (by kernel_rfl) (by kernel_rfl)).trans ((Wk.ownB 80 [.d (.v (.string (⟨#[]⟩ : ByteArray))), .d (.v (.int .i64 0)), .d (.v (.int .i64 0)), .ref 256, .ref 272, .ref 288, .d (.v (.int .i64 0)), .d (.v (.int .i64 0)), .d (.v (.int .i64 0)), .d (.v (.int .i64 0)), .ref 304, .d (.v (.int .i64 0)), .ref 320, .ref 336, .d (.v (.int .i64 0)), .nil, .nil, .nil, .nil, .nil] 15 3 177 (by kernel_rfl) rfl (by kernel_rfl) (by kernel_rfl)).trans ((Wk.ownB 80 [.d (.v (.string (⟨#[]⟩ : ByteArray))), .d (.v (.int .i64 0)), .d (.v (.int .i64 0)), .ref 256, .ref 272, .ref 288, .d (.v (.int .i64 0)), .d (.v (.int .i64 0)), .d (.v (.int .i64 0)), .d (.v (.int .i64 0)), .ref 304, .d (.v (.int .i64 0)), .ref 320, .ref 336, .d (.v (.int .i64 0)), .ref 352, .nil, .nil, .nil, .nil] 16 3 180 (by kernel_rfl) rfl (by kernel_rfl) (by kernel_rfl)).trans ((Wk.ownB 80 [.d (.v (.string (⟨#[]⟩ : ByteArray))), .d (.v (.int .i64 0)), .d (.v (.int .i64 0)), .ref 256, .ref 272, .ref 288, .d (.v (.int .i64 0)), .d (.v (.int .i64 0)), .d (.v (.int .i64 0)), .d (.v (.int .i64 0)), .ref 304, .d (.v (.int .i64 0)), .ref 320, .ref 336, .d (.v (.int .i64 0)), .ref 352, .ref 368, .nil, .nil, .nil] 17 1 3 (by kernel_rfl) rfl (by kernel_rfl) (by kernel_rfl)).trans ((Wk.ownB 80 [.d (.v (.string (⟨#[]⟩ : ByteArray))), .d (.v (.int .i64 0)), .d (.v (.int .i64 0)), .ref 256, .ref 272, .ref 288, .d (.v (.int .i64 0)), .d (.v (.int .i64 0)), .d (.v (.int .i64 0)), .d (.v (.int .i64 0)), .ref 304, .d (.v (.int .i64 0)), .ref 320, .ref 336, .d (.v (.int .i64 0)), .ref 352, .ref 368, .ref 384, .nil, .nil] 18 5 35 (by kernel_rfl) rfl (by kernel_rfl) (by kernel_rfl)).trans (Wk.ownB 80 [.d (.v (.string (⟨#[]⟩ : ByteArray))), .d (.v (.int .i64 0)), .d (.v (.int .i64 0)), .ref 256, .ref 272, .ref 288, .d (.v (.int .i64 0)), .d (.v (.int .i64 0)), .d (.v (.int .i64 0)), .d (.v (.int .i64 0)), .ref 304, .d (.v (.int .i64 0)), .ref 320, .ref 336, .d (.v (.int .i64 0)), .ref 352, .ref 368, .ref 384, .ref 400, .nil] 19 5 183 (by kernel_rfl) rfl (by kernel_rfl) (by kernel_rfl))))))))))), Ret.mk' [(64, 256), (65, 272), (66, 288), (67, 304), (68, 320), (69, 336), (70, 352), (71, 368), (72, 384), (73, 400), (74, 416)] (by kernel_rfl) (by kernel_rfl) (by kernel_rfl)⟩⟩
  ·refine aF 7 hb5 ?_
   refine aF 8 hb5 ?_
   replace hb5 := bnot_no (hb5)
   refine go 1 ?_
   obtain ⟨r6, hr8, hf7⟩ := i_LedgerOk q (by assumption)
   replace hr8 := hr8.symm; subst hr8
   refine ca hf7 Try.func91 ?_
   refine go 2 ?_
   refine ek ⟨[(0, .e (.c (.d (.v (.string s))))), (3, .pt 64 0 0), (4, .pt 80 0 0), (12, bV (!(ledgerOk q)))], [(64, some (.box [.d (.v (.int .i64 q.f0)), .d (.sl (q.f1.map d38))])), (80, some (.box [.d (.v (.string (⟨#[]⟩ : ByteArray))), .d (.v (.int .i64 0)), .d (.v (.int .i64 0)), .nil, .nil, .nil, .d (.v (.int .i64 0)), .d (.v (.int .i64 0)), .d (.v (.int .i64 0)), .d (.v (.int .i64 0)), .nil, .d (.v (.int .i64 0)), .nil, .nil, .d (.v (.int .i64 0)), .nil, .nil, .nil, .nil, .nil]))], 224⟩ ?_
   refine if_ (b := !(ledgerOk q)) (fun hb10 => ?_) (fun hb10 => ?_)
   ·replace hb10 := bnot_yes (hb10)
    refine sk ⟨[(4, .pt 80 0 0)], [(80, some (.box [.d (.v (.string (⟨#[]⟩ : ByteArray))), .d (.v (.int .i64 0)), .d (.v (.int .i64 0)), .nil, .nil, .nil, .d (.v (.int .i64 0)), .d (.v (.int .i64 0)), .d (.v (.int .i64 0)), .d (.v (.int .i64 0)), .nil, .d (.v (.int .i64 0)), .nil, .nil, .d (.v (.int .i64 0)), .nil, .nil, .nil, .nil, .nil]))], 256⟩ ?_
    refine X.ret ?_
    exact ⟨trivial, _, _, ⟨(⟨(⟨#[]⟩ : ByteArray), 0, (⟨0, []⟩ : S27), [], [], 0, 0, (⟨0, 0, []⟩ : S68), (⟨0, [], []⟩ : S69), 0, [], [], [], [], []⟩ : S83), (by first | exact (nn_n1 ‹_›) | exact (nn_n2 ‹_›) | exact (nn_yes ‹_› ‹_›) | exact (by rw [if_pos ‹ledgerOk _ = true›]; exact nn_yes ‹_› ‹_›)), rfl, rfl⟩, .inr ⟨_, (Wk.ownBN 80 [.d (.v (.string (⟨#[]⟩ : ByteArray))), .d (.v (.int .i64 0)), .d (.v (.int .i64 0)), .nil, .nil, .nil, .d (.v (.int .i64 0)), .d (.v (.int .i64 0)), .d (.v (.int .i64 0)), .d (.v (.int .i64 0)), .nil, .d (.v (.int .i64 0)), .nil, .nil, .d (.v (.int .i64 0)), .nil, .nil, .nil, .nil, .nil] 3 5 38 [(4, 2, 188)] (by kernel_rfl) rfl (by kernel_rfl) (by kernel_rfl)).trans ((Wk.ownB 80 [.d (.v (.string (⟨#[]⟩ : ByteArray))), .d (.v (.int .i64 0)), .d (.v (.int .i64 0)), .ref 256, .nil, .nil, .d (.v (.int .i64 0)), .d (.v (.int .i64 0)), .d (.v (.int .i64 0)), .d (.v (.int .i64 0)), .nil, .d (.v (.int .i64 0)), .nil, .nil, .d (.v (.int .i64 0)), .nil, .nil, .nil, .nil, .nil] 4 2 165 (by kernel_rfl) rfl (by kernel_rfl) (by kernel_rfl)).trans ((Wk.ownB 80 [.d (.v (.string (⟨#[]⟩ : ByteArray))), .d (.v (.int .i64 0)), .d (.v (.int .i64 0)), .ref 256, .ref 272, .nil, .d (.v (.int .i64 0)), .d (.v (.int .i64 0)), .d (.v (.int .i64 0)), .d (.v (.int .i64 0)), .nil, .d (.v (.int .i64 0)), .nil, .nil, .d (.v (.int .i64 0)), .nil, .nil, .nil, .nil, .nil] 5 14 72 (by kernel_rfl) rfl (by kernel_rfl) (by kernel_rfl)).trans ((Wk.ownB 80 [.d (.v (.string (⟨#[]⟩ : ByteArray))), .d (.v (.int .i64 0)), .d (.v (.int .i64 0)), .ref 256, .ref 272, .ref 288, .d (.v (.int .i64 0)), .d (.v (.int .i64 0)), .d (.v (.int .i64 0)), .d (.v (.int .i64 0)), .nil, .d (.v (.int .i64 0)), .nil, .nil, .d (.v (.int .i64 0)), .nil, .nil, .nil, .nil, .nil] 10 1 9 (by kernel_rfl) rfl (by kernel_rfl) (by kernel_rfl)).trans ((Wk.ownB 80 [.d (.v (.string (⟨#[]⟩ : ByteArray))), .d (.v (.int .i64 0)), .d (.v (.int .i64 0)), .ref 256, .ref 272, .ref 288, .d (.v (.int .i64 0)), .d (.v (.int .i64 0)), .d (.v (.int .i64 0)), .d (.v (.int .i64 0)), .ref 304, .d (.v (.int .i64 0)), .nil, .nil, .d (.v (.int .i64 0)), .nil, .nil, .nil, .nil, .nil] 12 1 9 (by kernel_rfl) rfl (by kernel_rfl) (by kernel_rfl)).trans ((Wk.ownB 80 [.d (.v (.string (⟨#[]⟩ : ByteArray))), .d (.v (.int .i64 0)), .d (.v (.int .i64 0)), .ref 256, .ref 272, .ref 288, .d (.v (.int .i64 0)), .d (.v (.int .i64 0)), .d (.v (.int .i64 0)), .d (.v (.int .i64 0)), .ref 304, .d (.v (.int .i64 0)), .ref 320, .nil, .d (.v (.int .i64 0)), .nil, .nil, .nil, .nil, .nil] 13 1 3 (by kernel_rfl) rfl (by kernel_rfl) (by kernel_rfl)).trans ((Wk.ownB 80 [.d (.v (.string (⟨#[]⟩ : ByteArray))), .d (.v (.int .i64 0)), .d (.v (.int .i64 0)), .ref 256, .ref 272, .ref 288, .d (.v (.int .i64 0)), .d (.v (.int .i64 0)), .d (.v (.int .i64 0)), .d (.v (.int .i64 0)), .ref 304, .d (.v (.int .i64 0)), .ref 320, .ref 336, .d (.v (.int .i64 0)), .nil, .nil, .nil, .nil, .nil] 15 3 177 (by kernel_rfl) rfl (by kernel_rfl) (by kernel_rfl)).trans ((Wk.ownB 80 [.d (.v (.string (⟨#[]⟩ : ByteArray))), .d (.v (.int .i64 0)), .d (.v (.int .i64 0)), .ref 256, .ref 272, .ref 288, .d (.v (.int .i64 0)), .d (.v (.int .i64 0)), .d (.v (.int .i64 0)), .d (.v (.int .i64 0)), .ref 304, .d (.v (.int .i64 0)), .ref 320, .ref 336, .d (.v (.int .i64 0)), .ref 352, .nil, .nil, .nil, .nil] 16 3 180 (by kernel_rfl) rfl (by kernel_rfl) (by kernel_rfl)).trans ((Wk.ownB 80 [.d (.v (.string (⟨#[]⟩ : ByteArray))), .d (.v (.int .i64 0)), .d (.v (.int .i64 0)), .ref 256, .ref 272, .ref 288, .d (.v (.int .i64 0)), .d (.v (.int .i64 0)), .d (.v (.int .i64 0)), .d (.v (.int .i64 0)), .ref 304, .d (.v (.int .i64 0)), .ref 320, .ref 336, .d (.v (.int .i64 0)), .ref 352, .ref 368, .nil, .nil, .nil] 17 1 3 (by kernel_rfl) rfl (by kernel_rfl) (by kernel_rfl)).trans ((Wk.ownB 80 [.d (.v (.string (⟨#[]⟩ : ByteArray))), .d (.v (.int .i64 0)), .d (.v (.int .i64 0)), .ref 256, .ref 272, .ref 288, .d (.v (.int .i64 0)), .d (.v (.int .i64 0)), .d (.v (.int .i64 0)), .d (.v (.int .i64 0)), .ref 304, .d (.v (.int .i64 0)), .ref 320, .ref 336, .d (.v (.int .i64 0)), .ref 352, .ref 368, .ref 384, .nil, .nil] 18 5 35 (by kernel_rfl) rfl (by kernel_rfl) (by kernel_rfl)).trans (Wk.ownB 80 [.d (.v (.string (⟨#[]⟩ : ByteArray))), .d (.v (.int .i64 0)), .d (.v (.int .i64 0)), .ref 256, .ref 272, .ref 288, .d (.v (.int .i64 0)), .d (.v (.int .i64 0)), .d (.v (.int .i64 0)), .d (.v (.int .i64 0)), .ref 304, .d (.v (.int .i64 0)), .ref 320, .ref 336, .d (.v (.int .i64 0)), .ref 352, .ref 368, .ref 384, .ref 400, .nil] 19 5 183 (by kernel_rfl) rfl (by kernel_rfl) (by kernel_rfl))))))))))), Ret.mk' [(64, 256), (65, 272), (66, 288), (67, 304), (68, 320), (69, 336), (70, 352), (71, 368), (72, 384), (73, 400), (74, 416)] (by kernel_rfl) (by kernel_rfl) (by kernel_rfl)⟩⟩
   ·replace hb10 := bnot_no (hb10)
    refine X.skip ?_
    refine X.seq (rs 4 ?_)
    obtain ⟨r11, hr13, hf12⟩ := i_copyLedger q (by assumption)
    replace hr13 := hr13.symm; subst hr13
    refine ca hf12 Try.func47 ?_
    refine go 1 ?_
    obtain ⟨r15, hr17, hf16⟩ := i_SetOf q (by assumption)
    replace hr17 := hr17.symm; subst hr17
    refine ca hf16 Try.func92 ?_
    obtain ⟨r19, hr21, hf20⟩ := i_rootQc 
    replace hr21 := hr21.symm; subst hr21
    refine ca hf20 Try.func93 ?_
    refine go 2 ?_
    refine ek ⟨[(4, .pt 80 0 0)], [(80, some (.box [.d (.v (.string s)), .d (.v (.int .i64 q.f0)), .d (.v (.int .i64 q.f0)), .ref 288, .ref 320, .nil, .d (.v (.int .i64 1)), .d (.v (.int .i64 0)), .d (.v (.int .i64 (((⟨0, -1, []⟩ : S68)).f0))), .d (.v (.int .i64 (((⟨0, -1, []⟩ : S68)).f1))), .ref 336, .d (.v (.int .i64 0)), .nil, .nil, .d (.v (.int .i64 0)), .nil, .nil, .nil, .nil, .nil])), (288, some (.nst 5 38 [(4, 2, 188)] (q.f1.map d38) [])), (320, some (.row 2 165 ((if ledgerOk q = true then setW q.f1 else []).map d165) false true)), (336, some (.row 1 9 ((((⟨0, -1, []⟩ : S68)).f2).map dS) false true))], 384⟩ ?_
    refine X.ret ?_
    exact ⟨trivial, _, _, ⟨(⟨s, q.f0, q, (if ledgerOk q = true then setW q.f1 else []), [], 1, 0, (⟨((⟨0, -1, []⟩ : S68)).f0, ((⟨0, -1, []⟩ : S68)).f1, ((⟨0, -1, []⟩ : S68)).f2⟩ : S68), (⟨0, [], []⟩ : S69), 0, [], [], [], [], []⟩ : S83), (by first | exact (nn_n1 ‹_›) | exact (nn_n2 ‹_›) | exact (nn_yes ‹_› ‹_›) | exact (by rw [if_pos ‹ledgerOk _ = true›]; exact nn_yes ‹_› ‹_›)), rfl, rfl⟩, .inr ⟨_, (Wk.ownB 80 [.d (.v (.string s)), .d (.v (.int .i64 q.f0)), .d (.v (.int .i64 q.f0)), .ref 288, .ref 320, .nil, .d (.v (.int .i64 1)), .d (.v (.int .i64 0)), .d (.v (.int .i64 (((⟨0, -1, []⟩ : S68)).f0))), .d (.v (.int .i64 (((⟨0, -1, []⟩ : S68)).f1))), .ref 336, .d (.v (.int .i64 0)), .nil, .nil, .d (.v (.int .i64 0)), .nil, .nil, .nil, .nil, .nil] 5 14 72 (by kernel_rfl) rfl (by kernel_rfl) (by kernel_rfl)).trans ((Wk.ownB 80 [.d (.v (.string s)), .d (.v (.int .i64 q.f0)), .d (.v (.int .i64 q.f0)), .ref 288, .ref 320, .ref 384, .d (.v (.int .i64 1)), .d (.v (.int .i64 0)), .d (.v (.int .i64 (((⟨0, -1, []⟩ : S68)).f0))), .d (.v (.int .i64 (((⟨0, -1, []⟩ : S68)).f1))), .ref 336, .d (.v (.int .i64 0)), .nil, .nil, .d (.v (.int .i64 0)), .nil, .nil, .nil, .nil, .nil] 12 1 9 (by kernel_rfl) rfl (by kernel_rfl) (by kernel_rfl)).trans ((Wk.ownB 80 [.d (.v (.string s)), .d (.v (.int .i64 q.f0)), .d (.v (.int .i64 q.f0)), .ref 288, .ref 320, .ref 384, .d (.v (.int .i64 1)), .d (.v (.int .i64 0)), .d (.v (.int .i64 (((⟨0, -1, []⟩ : S68)).f0))), .d (.v (.int .i64 (((⟨0, -1, []⟩ : S68)).f1))), .ref 336, .d (.v (.int .i64 0)), .ref 400, .nil, .d (.v (.int .i64 0)), .nil, .nil, .nil, .nil, .nil] 13 1 3 (by kernel_rfl) rfl (by kernel_rfl) (by kernel_rfl)).trans ((Wk.ownB 80 [.d (.v (.string s)), .d (.v (.int .i64 q.f0)), .d (.v (.int .i64 q.f0)), .ref 288, .ref 320, .ref 384, .d (.v (.int .i64 1)), .d (.v (.int .i64 0)), .d (.v (.int .i64 (((⟨0, -1, []⟩ : S68)).f0))), .d (.v (.int .i64 (((⟨0, -1, []⟩ : S68)).f1))), .ref 336, .d (.v (.int .i64 0)), .ref 400, .ref 416, .d (.v (.int .i64 0)), .nil, .nil, .nil, .nil, .nil] 15 3 177 (by kernel_rfl) rfl (by kernel_rfl) (by kernel_rfl)).trans ((Wk.ownB 80 [.d (.v (.string s)), .d (.v (.int .i64 q.f0)), .d (.v (.int .i64 q.f0)), .ref 288, .ref 320, .ref 384, .d (.v (.int .i64 1)), .d (.v (.int .i64 0)), .d (.v (.int .i64 (((⟨0, -1, []⟩ : S68)).f0))), .d (.v (.int .i64 (((⟨0, -1, []⟩ : S68)).f1))), .ref 336, .d (.v (.int .i64 0)), .ref 400, .ref 416, .d (.v (.int .i64 0)), .ref 432, .nil, .nil, .nil, .nil] 16 3 180 (by kernel_rfl) rfl (by kernel_rfl) (by kernel_rfl)).trans ((Wk.ownB 80 [.d (.v (.string s)), .d (.v (.int .i64 q.f0)), .d (.v (.int .i64 q.f0)), .ref 288, .ref 320, .ref 384, .d (.v (.int .i64 1)), .d (.v (.int .i64 0)), .d (.v (.int .i64 (((⟨0, -1, []⟩ : S68)).f0))), .d (.v (.int .i64 (((⟨0, -1, []⟩ : S68)).f1))), .ref 336, .d (.v (.int .i64 0)), .ref 400, .ref 416, .d (.v (.int .i64 0)), .ref 432, .ref 448, .nil, .nil, .nil] 17 1 3 (by kernel_rfl) rfl (by kernel_rfl) (by kernel_rfl)).trans ((Wk.ownB 80 [.d (.v (.string s)), .d (.v (.int .i64 q.f0)), .d (.v (.int .i64 q.f0)), .ref 288, .ref 320, .ref 384, .d (.v (.int .i64 1)), .d (.v (.int .i64 0)), .d (.v (.int .i64 (((⟨0, -1, []⟩ : S68)).f0))), .d (.v (.int .i64 (((⟨0, -1, []⟩ : S68)).f1))), .ref 336, .d (.v (.int .i64 0)), .ref 400, .ref 416, .d (.v (.int .i64 0)), .ref 432, .ref 448, .ref 464, .nil, .nil] 18 5 35 (by kernel_rfl) rfl (by kernel_rfl) (by kernel_rfl)).trans (Wk.ownB 80 [.d (.v (.string s)), .d (.v (.int .i64 q.f0)), .d (.v (.int .i64 q.f0)), .ref 288, .ref 320, .ref 384, .d (.v (.int .i64 1)), .d (.v (.int .i64 0)), .d (.v (.int .i64 (((⟨0, -1, []⟩ : S68)).f0))), .d (.v (.int .i64 (((⟨0, -1, []⟩ : S68)).f1))), .ref 336, .d (.v (.int .i64 0)), .ref 400, .ref 416, .d (.v (.int .i64 0)), .ref 432, .ref 448, .ref 464, .ref 480, .nil] 19 5 183 (by kernel_rfl) rfl (by kernel_rfl) (by kernel_rfl)))))))), Ret.mk' [(64, 288), (65, 320), (66, 384), (67, 336), (68, 400), (69, 416), (70, 432), (71, 448), (72, 464), (73, 480), (74, 496)] (by kernel_rfl) (by kernel_rfl) (by kernel_rfl)⟩⟩
 obtain ⟨_, _, ⟨r0, h1_, rfl, rfl⟩, hf⟩ := key
 exact ⟨r0, h1_, hf⟩

theorem l_markLeaveSx (l : List S188) (k : Int) (hl : l.length ≤ 2000000) (hk : 0 ≤ k ∧ k ≤ 100000000) : ∃ r0 : Int, ∃ q0 : List S188, (q0.length = l.length ∧ r0 = k + 2 * l.length ∧ Upto (mkLv k) (fun n => q0[n]?) l.length) ∧ Fn Try.prog 123 [rV 0, iV k] (lookH [(0, some (.row 2 188 (l.map d188) false true))]) (iV r0) (lookH [(0, some (.row 2 188 (q0.map d188) false true))]) := by
 have key : ∃ x' h', ((fun x' h' => ∃ r0 : Int, ∃ q0 : List S188, (q0.length = l.length ∧ r0 = k + 2 * l.length ∧ Upto (mkLv k) (fun n => q0[n]?) l.length) ∧ x' = iV r0 ∧ h' = [(0, some (.row 2 188 (q0.map d188) false true))])) x' h' ∧ Fn Try.prog 123 [rV 0, iV k] (lookH [(0, some (.row 2 188 (l.map d188) false true))]) x' (lookH h') := by
  refine Fn.bodyX (N := 27) hτ Try.func123 rfl rfl rfl rfl ?_
  refine sk ⟨[(0, rV 0), (1, iV k)], [(0, some (.row 2 188 (l.map d188) false true))], 80⟩ ?_
  refine X.seq ?_
  refine sk ⟨[(0, rV 0), (1, iV k), (5, iV 0)], [(0, some (.row 2 188 (l.map d188) false true))], 96⟩ ?_
  refine X.block ?_
  -- 2: L0 : List S188, v1 : Int, v5 : Int
  refine X.loop (σ := { g : (List S188) × Int × Int // (fun (L0 : List S188) (v1 : Int) (v5 : Int) => 0 ≤ v5 ∧ v5 ≤ l.length ∧ v1 = k + 2 * v5 ∧ L0.length = l.length ∧ Upto (mkLv k) (fun n => L0[n]?) v5) g.1 g.2.1 g.2.2 }) (fun g => (fun (L0 : List S188) (v1 : Int) (v5 : Int) => ⟨[(0, rV 0), (1, iV v1), (5, iV v5)], [(0, some (.row 2 188 (L0.map d188) false true))], 96⟩) g.1.1 g.1.2.1 g.1.2.2) (fun g => (fun (L0 : List S188) (v1 : Int) (v5 : Int) => (l.length - v5).toNat) g.1.1 g.1.2.1 g.1.2.2) ⟨(l, k, 0), ⟨by first | omega | (dsimp only; omega), by first | omega | (dsimp only; omega), by first | omega | (dsimp only; omega), rfl, upto_zero⟩⟩ (Wk.less (by kernel_rfl)) (fun g => ?_)
  obtain ⟨⟨L0, v1, v5⟩, hg2⟩ := g
  have hg2 : 0 ≤ v5 ∧ v5 ≤ l.length ∧ v1 = k + 2 * v5 ∧ L0.length = l.length ∧ Upto (mkLv k) (fun n => L0[n]?) v5 := hg2
  obtain ⟨_, _, _, hL, hA⟩ := hg2
  refine X.seq ?_
  refine X.seq ?_
  have hlb : (l.map d188).length = l.length := List.length_map ..
  have el3 : (L0.map d188).length = L0.length := List.length_map ..
  refine rk ⟨[(0, rV 0), (1, iV v1), (5, iV v5), (9, bV (decide ((v5 : Int) < ((L0.map d188).length : Int))))], [(0, some (.row 2 188 (L0.map d188) false true))], 160⟩ ?_
  refine if_ (b := decide ((v5 : Int) < ((L0.map d188).length : Int))) (fun hb4 => ?_) (fun hb4 => ?_)
  ·replace hb4 := of_decide_eq_true (hb4)
   refine X.skip ?_
   refine X.seq ?_
   refine X.block ?_
   refine X.seq (rs 3 ?_)
   refine CH.idxR hτ (rows := (L0.map d188)) (n := v5) (b := 0) (by kernel_rfl) (by kernel_rfl) (by first | omega | (simp; done) | (simp; omega)) (by simp only [List.length_map, List.length_set]; first | omega | (simp; done) | (simp; omega)) (by kernel_rfl) ?_
   refine go 1 ?_
   obtain ⟨x5, hx5⟩ : ∃ x, L0[Int.toNat v5]? = some x := ⟨_, List.getElem?_eq_getElem (by first | omega | (simp; done) | (simp; omega))⟩
   refine CH.row hτ (d188 x5) (by kernel_rfl) (by kernel_rfl) (by rw [List.getElem?_map, hx5]; rfl) (by kernel_rfl) ?_
   refine CH.endk ⟨[(0, rV 0), (1, iV v1), (5, iV v5)], [(0, some (.row 2 188 ((L0.map d188).set (Int.toNat v5) (d188 (⟨v1, x5.f1⟩ : S188))) false true))], 256⟩ (by kernel_rfl) (by kernel_rfl) (s2 := ⟨[(0, rV 0), (1, iV v1), (5, iV v5)], [(0, some (.row 2 188 ((L0.set (Int.toNat v5) (⟨v1, x5.f1⟩ : S188)).map d188) false true))], 256⟩) (congrArg (fun z : List (List D) => (⟨[(0, rV 0), (1, iV v1), (5, iV v5)], [(0, some (.row 2 188 z false true))], 256⟩ : St)) (show ((L0.map d188).set (Int.toNat v5) (d188 (⟨v1, x5.f1⟩ : S188))) = ((L0.set (Int.toNat v5) (⟨v1, x5.f1⟩ : S188)).map d188) from List.map_set.symm)) ?_
   refine X.seq ?_
   refine X.rk ⟨[(0, rV 0), (1, iV (wrap64 (v1 + 1))), (5, iV v5)], [(0, some (.row 2 188 ((L0.set (Int.toNat v5) (⟨v1, x5.f1⟩ : S188)).map d188) false true))], 304⟩ hτ hmix (by kernel_rfl) (by kernel_rfl) (s2 := ⟨[(0, rV 0), (1, iV (v1 + 1)), (5, iV v5)], [(0, some (.row 2 188 ((L0.set (Int.toNat v5) (⟨v1, x5.f1⟩ : S188)).map d188) false true))], 304⟩) (congrArg (fun z : Int => (⟨[(0, rV 0), (1, iV z), (5, iV v5)], [(0, some (.row 2 188 ((L0.set (Int.toNat v5) (⟨v1, x5.f1⟩ : S188)).map d188) false true))], 304⟩ : St)) (show wrap64 (v1 + 1) = (v1 + 1) by rw [w64 (n := (v1 + 1)) (by omega) (by omega)])) ?_
   refine X.seq (rs 3 ?_)
   refine CH.idxR hτ (rows := ((L0.set (Int.toNat v5) (⟨v1, x5.f1⟩ : S188)).map d188)) (n := v5) (b := 0) (by kernel_rfl) (by kernel_rfl) (by first | omega | (simp; done) | (simp; omega)) (by simp only [List.length_map, List.length_set]; first | omega | (simp; done) | (simp; omega)) (by kernel_rfl) ?_
   refine go 1 ?_
   obtain ⟨x6, hx6⟩ : ∃ x, (L0.set (Int.toNat v5) (⟨v1, x5.f1⟩ : S188))[Int.toNat v5]? = some x := ⟨_, List.getElem?_eq_getElem (by first | omega | (simp; done) | (simp; omega))⟩
   have qhx6 := set_get hx6
   refine CH.row hτ (d188 x6) (by kernel_rfl) (by kernel_rfl) (by rw [List.getElem?_map, hx6]; rfl) (by kernel_rfl) ?_
   refine CH.endk ⟨[(0, rV 0), (1, iV (v1 + 1)), (5, iV v5)], [(0, some (.row 2 188 (((L0.set (Int.toNat v5) (⟨v1, x5.f1⟩ : S188)).map d188).set (Int.toNat v5) (d188 (⟨x6.f0, (v1 + 1)⟩ : S188))) false true))], 400⟩ (by kernel_rfl) (by kernel_rfl) (s2 := ⟨[(0, rV 0), (1, iV (v1 + 1)), (5, iV v5)], [(0, some (.row 2 188 (((L0.set (Int.toNat v5) (⟨v1, x5.f1⟩ : S188)).set (Int.toNat v5) (⟨x6.f0, (v1 + 1)⟩ : S188)).map d188) false true))], 400⟩) (congrArg (fun z : List (List D) => (⟨[(0, rV 0), (1, iV (v1 + 1)), (5, iV v5)], [(0, some (.row 2 188 z false true))], 400⟩ : St)) (show (((L0.set (Int.toNat v5) (⟨v1, x5.f1⟩ : S188)).map d188).set (Int.toNat v5) (d188 (⟨x6.f0, (v1 + 1)⟩ : S188))) = (((L0.set (Int.toNat v5) (⟨v1, x5.f1⟩ : S188)).set (Int.toNat v5) (⟨x6.f0, (v1 + 1)⟩ : S188)).map d188) from List.map_set.symm)) ?_
   refine X.rk ⟨[(0, rV 0), (1, iV (wrap64 ((v1 + 1) + 1))), (5, iV v5)], [(0, some (.row 2 188 (((L0.set (Int.toNat v5) (⟨v1, x5.f1⟩ : S188)).set (Int.toNat v5) (⟨x6.f0, (v1 + 1)⟩ : S188)).map d188) false true))], 448⟩ hτ hmix (by kernel_rfl) (by kernel_rfl) (s2 := ⟨[(0, rV 0), (1, iV ((v1 + 1) + 1)), (5, iV v5)], [(0, some (.row 2 188 (((L0.set (Int.toNat v5) (⟨v1, x5.f1⟩ : S188)).set (Int.toNat v5) (⟨x6.f0, (v1 + 1)⟩ : S188)).map d188) false true))], 448⟩) (congrArg (fun z : Int => (⟨[(0, rV 0), (1, iV z), (5, iV v5)], [(0, some (.row 2 188 (((L0.set (Int.toNat v5) (⟨v1, x5.f1⟩ : S188)).set (Int.toNat v5) (⟨x6.f0, (v1 + 1)⟩ : S188)).map d188) false true))], 448⟩ : St)) (show wrap64 ((v1 + 1) + 1) = ((v1 + 1) + 1) by rw [w64 (n := ((v1 + 1) + 1)) (by omega) (by omega)])) ?_
   refine X.rk ⟨[(0, rV 0), (1, iV ((v1 + 1) + 1)), (5, iV (wrap64 (v5 + 1)))], [(0, some (.row 2 188 (((L0.set (Int.toNat v5) (⟨v1, x5.f1⟩ : S188)).set (Int.toNat v5) (⟨x6.f0, (v1 + 1)⟩ : S188)).map d188) false true))], 496⟩ hτ hmix (by kernel_rfl) (by kernel_rfl) (s2 := ⟨[(0, rV 0), (1, iV ((v1 + 1) + 1)), (5, iV (v5 + 1))], [(0, some (.row 2 188 (((L0.set (Int.toNat v5) (⟨v1, x5.f1⟩ : S188)).set (Int.toNat v5) (⟨x6.f0, (v1 + 1)⟩ : S188)).map d188) false true))], 496⟩) (congrArg (fun z : Int => (⟨[(0, rV 0), (1, iV ((v1 + 1) + 1)), (5, iV z)], [(0, some (.row 2 188 (((L0.set (Int.toNat v5) (⟨v1, x5.f1⟩ : S188)).set (Int.toNat v5) (⟨x6.f0, (v1 + 1)⟩ : S188)).map d188) false true))], 496⟩ : St)) (show wrap64 (v5 + 1) = (v5 + 1) by rw [w64 (n := (v5 + 1)) (by omega) (by omega)])) ?_
   refine ⟨⟨(((L0.set (Int.toNat v5) (⟨v1, x5.f1⟩ : S188)).set (Int.toNat v5) (⟨x6.f0, (v1 + 1)⟩ : S188)), ((v1 + 1) + 1), (v5 + 1)), ⟨by first | omega | (dsimp only; omega), by first | omega | (dsimp only; omega), by first | omega | (dsimp only; omega), by simp only [List.length_set]; omega, by simp only [List.set_set]; exact set_all hA (by first | omega | (dsimp only; omega)) (by subst_vars; exact ⟨rfl, rfl⟩)⟩⟩, by first | exact rfl | omega | (dsimp only; omega) | (simp only [List.length_append, List.length_cons, List.length_nil, List.length_set]; omega) | (simp; done) | (simp; omega), Wk.mk' [] (by kernel_rfl) (by kernel_rfl) (by kernel_rfl)⟩
  ·replace hb4 := of_decide_eq_false (hb4)
   refine X.exit ?_
   refine sk ⟨[(4, iV v1)], [(0, some (.row 2 188 (L0.map d188) false true))], 192⟩ ?_
   refine X.ret ?_
   exact ⟨trivial, _, _, ⟨v1, L0, ⟨hL, by omega, upto_all hA (by omega)⟩, rfl, rfl⟩, mkr⟩
 obtain ⟨_, _, ⟨r0, q0, h1_, rfl, rfl⟩, hf⟩ := key
 exact ⟨r0, q0, h1_, hf⟩

theorem l_heldLeaveS (l : List S188) (k : Int) (hl : l.length ≤ 2000000) (hk : 0 ≤ k ∧ k ≤ 100000000) : ∃ r0 : Int, ((-1 ≤ r0 ∧ r0 ≤ k + 2 * l.length ∧ (0 ≤ r0 → r0 = k + 2 * l.length)) ∧ (Upto (mkLv k) (fun n => l[n]?) l.length → r0 = k + 2 * l.length)) ∧ Fn Try.prog 183 [lV (l.map d188), iV k] (lookH []) (iV r0) (lookH []) := by
 have key : ∃ x' h', ((fun x' h' => ∃ r0 : Int, ((-1 ≤ r0 ∧ r0 ≤ k + 2 * l.length ∧ (0 ≤ r0 → r0 = k + 2 * l.length)) ∧ (Upto (mkLv k) (fun n => l[n]?) l.length → r0 = k + 2 * l.length)) ∧ x' = iV r0 ∧ h' = [])) x' h' ∧ Fn Try.prog 183 [lV (l.map d188), iV k] (lookH []) x' (lookH h') := by
  refine Fn.bodyX (N := 31) hτ Try.func183 rfl rfl rfl rfl ?_
  refine sk ⟨[(0, lV (l.map d188)), (1, iV k)], [], 80⟩ ?_
  refine X.seq ?_
  refine sk ⟨[(0, lV (l.map d188)), (1, iV k), (5, iV 0)], [], 96⟩ ?_
  refine X.block ?_
  -- 2: v1 : Int, v5 : Int
  refine X.loop (σ := { g : Int × Int // (fun (v1 : Int) (v5 : Int) => 0 ≤ v5 ∧ v5 ≤ l.length ∧ v1 = k + 2 * v5) g.1 g.2 }) (fun g => (fun (v1 : Int) (v5 : Int) => ⟨[(0, lV (l.map d188)), (1, iV v1), (5, iV v5)], [], 96⟩) g.1.1 g.1.2) (fun g => (fun (v1 : Int) (v5 : Int) => (l.length - v5).toNat) g.1.1 g.1.2) ⟨(k, 0), ⟨by first | omega | (dsimp only; omega), by first | omega | (dsimp only; omega), by first | omega | (dsimp only; omega)⟩⟩ (Wk.less (by kernel_rfl)) (fun g => ?_)
  obtain ⟨⟨v1, v5⟩, hg2⟩ := g
  have hg2 : 0 ≤ v5 ∧ v5 ≤ l.length ∧ v1 = k + 2 * v5 := hg2
  obtain ⟨_, _, _⟩ := hg2
  refine X.seq ?_
  refine X.seq ?_
  have el3 : (l.map d188).length = l.length := List.length_map ..
  refine rk ⟨[(0, lV (l.map d188)), (1, iV v1), (5, iV v5), (9, bV (decide ((v5 : Int) < ((l.map d188).length : Int))))], [], 160⟩ ?_
  refine if_ (b := decide ((v5 : Int) < ((l.map d188).length : Int))) (fun hb4 => ?_) (fun hb4 => ?_)
  ·replace hb4 := of_decide_eq_true (hb4)
   refine X.skip ?_
   refine X.seq ?_
   refine X.block ?_
   refine X.seq ?_
   refine X.seq (rs 2 ?_)
   obtain ⟨x5, hx5⟩ : ∃ x, l[Int.toNat v5]? = some x := ⟨_, List.getElem?_eq_getElem (by first | omega | (simp; done) | (simp; omega))⟩
   refine CH.idx hτ (d188 x5) (rows := (l.map d188)) (n := v5) (sz := 2) (by kernel_rfl) (by kernel_rfl) (by first | omega | (simp; done) | (simp; omega)) (by rw [List.getElem?_map, hx5]; rfl) (by kernel_rfl) ?_
   refine go 4 ?_
   refine ek ⟨[(0, lV (l.map d188)), (1, iV v1), (5, iV v5), (18, bV (x5.f0 != v1))], [], 272⟩ ?_
   refine if_ (b := (x5.f0 != v1)) (fun hb6 => ?_) (fun hb6 => ?_)
   ·replace hb6 := bne_iff_ne.1 (hb6)
    refine sk ⟨[(4, iV (-1))], [], 288⟩ ?_
    refine X.ret ?_
    exact ⟨trivial, _, _, ⟨(-1), ⟨⟨by omega, by omega, fun h => by omega⟩, (fun hM => by first | omega | (have hq := hM _ _ (by omega) (by omega) (‹l[_]? = some _›); exfalso; first | (have := hq.1; omega) | (have := hq.2; omega)))⟩, rfl, rfl⟩, mkr⟩
   ·replace hb6 := bne_eq_false_iff_eq.1 (hb6)
    refine X.skip ?_
    refine X.seq ?_
    refine X.rk ⟨[(0, lV (l.map d188)), (1, iV (wrap64 (v1 + 1))), (5, iV v5)], [], 320⟩ hτ hmix (by kernel_rfl) (by kernel_rfl) (s2 := ⟨[(0, lV (l.map d188)), (1, iV (v1 + 1)), (5, iV v5)], [], 320⟩) (congrArg (fun z : Int => (⟨[(0, lV (l.map d188)), (1, iV z), (5, iV v5)], [], 320⟩ : St)) (show wrap64 (v1 + 1) = (v1 + 1) by rw [w64 (n := (v1 + 1)) (by omega) (by omega)])) ?_
    refine X.seq ?_
    refine X.seq (rs 2 ?_)
    refine CH.idx hτ (d188 x5) (rows := (l.map d188)) (n := v5) (sz := 2) (by kernel_rfl) (by kernel_rfl) (by first | omega | (simp; done) | (simp; omega)) (by rw [List.getElem?_map, hx5]; rfl) (by kernel_rfl) ?_
    refine go 4 ?_
    refine ek ⟨[(0, lV (l.map d188)), (1, iV (v1 + 1)), (5, iV v5), (27, bV (x5.f1 != (v1 + 1)))], [], 432⟩ ?_
    refine if_ (b := (x5.f1 != (v1 + 1))) (fun hb7 => ?_) (fun hb7 => ?_)
    ·replace hb7 := bne_iff_ne.1 (hb7)
     refine sk ⟨[(4, iV (-1))], [], 448⟩ ?_
     refine X.ret ?_
     exact ⟨trivial, _, _, ⟨(-1), ⟨⟨by omega, by omega, fun h => by omega⟩, (fun hM => by first | omega | (have hq := hM _ _ (by omega) (by omega) (‹l[_]? = some _›); exfalso; first | (have := hq.1; omega) | (have := hq.2; omega)))⟩, rfl, rfl⟩, mkr⟩
    ·replace hb7 := bne_eq_false_iff_eq.1 (hb7)
     refine X.skip ?_
     refine X.rk ⟨[(0, lV (l.map d188)), (1, iV (wrap64 ((v1 + 1) + 1))), (5, iV v5)], [], 480⟩ hτ hmix (by kernel_rfl) (by kernel_rfl) (s2 := ⟨[(0, lV (l.map d188)), (1, iV ((v1 + 1) + 1)), (5, iV v5)], [], 480⟩) (congrArg (fun z : Int => (⟨[(0, lV (l.map d188)), (1, iV z), (5, iV v5)], [], 480⟩ : St)) (show wrap64 ((v1 + 1) + 1) = ((v1 + 1) + 1) by rw [w64 (n := ((v1 + 1) + 1)) (by omega) (by omega)])) ?_
     refine X.rk ⟨[(0, lV (l.map d188)), (1, iV ((v1 + 1) + 1)), (5, iV (wrap64 (v5 + 1)))], [], 528⟩ hτ hmix (by kernel_rfl) (by kernel_rfl) (s2 := ⟨[(0, lV (l.map d188)), (1, iV ((v1 + 1) + 1)), (5, iV (v5 + 1))], [], 528⟩) (congrArg (fun z : Int => (⟨[(0, lV (l.map d188)), (1, iV ((v1 + 1) + 1)), (5, iV z)], [], 528⟩ : St)) (show wrap64 (v5 + 1) = (v5 + 1) by rw [w64 (n := (v5 + 1)) (by omega) (by omega)])) ?_
     refine ⟨⟨(((v1 + 1) + 1), (v5 + 1)), ⟨by first | omega | (dsimp only; omega), by first | omega | (dsimp only; omega), by first | omega | (dsimp only; omega)⟩⟩, by first | exact rfl | omega | (dsimp only; omega) | (simp only [List.length_append, List.length_cons, List.length_nil, List.length_set]; omega) | (simp; done) | (simp; omega), Wk.mk' [] (by kernel_rfl) (by kernel_rfl) (by kernel_rfl)⟩
  ·replace hb4 := of_decide_eq_false (hb4)
   refine X.exit ?_
   refine sk ⟨[(4, iV v1)], [], 192⟩ ?_
   refine X.ret ?_
   exact ⟨trivial, _, _, ⟨v1, ⟨⟨by omega, by omega, fun h => by omega⟩, (fun hM => by first | omega | (have hq := hM _ _ (by omega) (by omega) (‹l[_]? = some _›); exfalso; first | (have := hq.1; omega) | (have := hq.2; omega)))⟩, rfl, rfl⟩, mkr⟩
 obtain ⟨_, _, ⟨r0, h1_, rfl, rfl⟩, hf⟩ := key
 exact ⟨r0, h1_, hf⟩

theorem l_markAcctSx (l : List S38) (k : Int) (hl : acsSm l) (hk : 0 ≤ k ∧ k + 4 * l.length + 2 * acT l ≤ 100000000) : ∃ r0 : Int, ∃ q0 : List S38, (q0.length = l.length ∧ acT q0 = acT l ∧ r0 = k + 4 * l.length + 2 * acT l ∧ Upto (mkA k q0) (fun n => q0[n]?) l.length) ∧ Fn Try.prog 59 [rV 0, iV k] (lookH [(0, some (.nst 5 38 [(4, 2, 188)] (l.map d38) []))]) (iV r0) (lookH [(0, some (.nst 5 38 [(4, 2, 188)] (q0.map d38) []))]) := by
 have key : ∃ x' h', ((fun x' h' => ∃ r0 : Int, ∃ q0 : List S38, (q0.length = l.length ∧ acT q0 = acT l ∧ r0 = k + 4 * l.length + 2 * acT l ∧ Upto (mkA k q0) (fun n => q0[n]?) l.length) ∧ x' = iV r0 ∧ h' = [(0, some (.nst 5 38 [(4, 2, 188)] (q0.map d38) []))])) x' h' ∧ Fn Try.prog 59 [rV 0, iV k] (lookH [(0, some (.nst 5 38 [(4, 2, 188)] (l.map d38) []))]) x' (lookH h') := by
  refine Fn.bodyX (N := 49) hτ Try.func59 rfl rfl rfl rfl ?_
  refine sk ⟨[(0, rV 0), (1, iV k)], [(0, some (.nst 5 38 [(4, 2, 188)] (l.map d38) []))], 80⟩ ?_
  refine X.seq ?_
  refine sk ⟨[(0, rV 0), (1, iV k), (5, iV 0)], [(0, some (.nst 5 38 [(4, 2, 188)] (l.map d38) []))], 96⟩ ?_
  refine X.block ?_
  -- 2: L0 : List S38, v1 : Int, v5 : Int
  refine X.loop (σ := { g : (List S38) × Int × Int // (fun (L0 : List S38) (v1 : Int) (v5 : Int) => 0 ≤ v5 ∧ v5 ≤ l.length ∧ v1 = k + 4 * v5 + 2 * acT (L0.take (v5).toNat) ∧ acT (L0.take (v5).toNat) = acT (l.take (v5).toNat) ∧ L0.length = l.length ∧ (∀ (j : Nat), v5 ≤ (j : Int) → L0[j]? = l[j]?) ∧ Upto (mkA k L0) (fun n => L0[n]?) v5) g.1 g.2.1 g.2.2 }) (fun g => (fun (L0 : List S38) (v1 : Int) (v5 : Int) => ⟨[(0, rV 0), (1, iV v1), (5, iV v5)], [(0, some (.nst 5 38 [(4, 2, 188)] (L0.map d38) []))], 96⟩) g.1.1 g.1.2.1 g.1.2.2) (fun g => (fun (L0 : List S38) (v1 : Int) (v5 : Int) => (l.length - v5).toNat) g.1.1 g.1.2.1 g.1.2.2) ⟨(l, k, 0), ⟨by first | omega | (dsimp only; omega), by first | omega | (dsimp only; omega), by simp [acT], rfl, rfl, fun _ _ => rfl, upto_zero⟩⟩ (Wk.less (by kernel_rfl)) (fun g => ?_)
  obtain ⟨⟨L0, v1, v5⟩, hg2⟩ := g
  have hg2 : 0 ≤ v5 ∧ v5 ≤ l.length ∧ v1 = k + 4 * v5 + 2 * acT (L0.take (v5).toNat) ∧ acT (L0.take (v5).toNat) = acT (l.take (v5).toNat) ∧ L0.length = l.length ∧ (∀ (j : Nat), v5 ≤ (j : Int) → L0[j]? = l[j]?) ∧ Upto (mkA k L0) (fun n => L0[n]?) v5 := hg2
  obtain ⟨_, _, hk1, hac1, hL, hA, hU⟩ := hg2
  refine X.seq ?_
  refine X.seq ?_
  have hlb : (l.map d38).length = l.length := List.length_map ..
  have hll := hl.1
  have el3 : (L0.map d38).length = L0.length := List.length_map ..
  refine rk ⟨[(0, rV 0), (1, iV v1), (5, iV v5), (9, bV (decide ((v5 : Int) < ((L0.map d38).length : Int))))], [(0, some (.nst 5 38 [(4, 2, 188)] (L0.map d38) []))], 160⟩ ?_
  refine if_ (b := decide ((v5 : Int) < ((L0.map d38).length : Int))) (fun hb4 => ?_) (fun hb4 => ?_)
  ·replace hb4 := of_decide_eq_true (hb4)
   refine X.skip ?_
   refine X.seq ?_
   refine X.block ?_
   refine X.seq ?_
   have hle := acT_le l (Int.toNat v5)
   have hle2 := acT_le l (Int.toNat (v5 + 1))
   refine rs 3 ?_
   obtain ⟨r5, hr7, hf6⟩ := l_markText v1 (by omega)
   replace hr7 := hr7.symm; subst hr7
   refine ca hf6 Try.func58 ?_
   refine CH.idxR hτ (rows := (L0.map d38)) (n := v5) (b := 0) (by kernel_rfl) (by kernel_rfl) (by first | omega | (simp; done) | (simp; omega)) (by simp only [List.length_map, List.length_set]; first | omega | (simp; done) | (simp; omega)) (by kernel_rfl) ?_
   refine go 1 ?_
   obtain ⟨x9, hx9⟩ : ∃ x, L0[Int.toNat v5]? = some x := ⟨_, List.getElem?_eq_getElem (by first | omega | (simp; done) | (simp; omega))⟩
   have hx0 := (hA _ (by omega)).symm.trans hx9; have hx4 := (hl.2 _ (List.mem_of_getElem? hx0)).2; have hst := acT_take (by omega) hx0
   refine CH.stN hτ (rows := (L0.map d38)) (n := Int.toNat v5) (p := 0) (len := 1) (op := []) (L := []) (d38 x9) (by kernel_rfl) (by kernel_rfl) (by rw [List.getElem?_map, hx9]; rfl) trivial trivial (by kernel_rfl) ?_
   refine CH.endk ⟨[(0, rV 0), (1, iV v1), (5, iV v5)], [(0, some (.nst 5 38 [(4, 2, 188)] ((L0.map d38).set (Int.toNat v5) (d38 (⟨(mt v1), x9.f1, x9.f2, x9.f3, x9.f4⟩ : S38))) []))], 272⟩ (by kernel_rfl) (by kernel_rfl) (s2 := ⟨[(0, rV 0), (1, iV v1), (5, iV v5)], [(0, some (.nst 5 38 [(4, 2, 188)] ((L0.set (Int.toNat v5) (⟨(mt v1), x9.f1, x9.f2, x9.f3, x9.f4⟩ : S38)).map d38) []))], 272⟩) (congrArg (fun z : List (List D) => (⟨[(0, rV 0), (1, iV v1), (5, iV v5)], [(0, some (.nst 5 38 [(4, 2, 188)] z []))], 272⟩ : St)) (show ((L0.map d38).set (Int.toNat v5) (d38 (⟨(mt v1), x9.f1, x9.f2, x9.f3, x9.f4⟩ : S38))) = ((L0.set (Int.toNat v5) (⟨(mt v1), x9.f1, x9.f2, x9.f3, x9.f4⟩ : S38)).map d38) from List.map_set.symm)) ?_
   refine X.seq ?_
   refine X.rk ⟨[(0, rV 0), (1, iV (wrap64 (v1 + 1))), (5, iV v5)], [(0, some (.nst 5 38 [(4, 2, 188)] ((L0.set (Int.toNat v5) (⟨(mt v1), x9.f1, x9.f2, x9.f3, x9.f4⟩ : S38)).map d38) []))], 320⟩ hτ hmix (by kernel_rfl) (by kernel_rfl) (s2 := ⟨[(0, rV 0), (1, iV (v1 + 1)), (5, iV v5)], [(0, some (.nst 5 38 [(4, 2, 188)] ((L0.set (Int.toNat v5) (⟨(mt v1), x9.f1, x9.f2, x9.f3, x9.f4⟩ : S38)).map d38) []))], 320⟩) (congrArg (fun z : Int => (⟨[(0, rV 0), (1, iV z), (5, iV v5)], [(0, some (.nst 5 38 [(4, 2, 188)] ((L0.set (Int.toNat v5) (⟨(mt v1), x9.f1, x9.f2, x9.f3, x9.f4⟩ : S38)).map d38) []))], 320⟩ : St)) (show wrap64 (v1 + 1) = (v1 + 1) by rw [w64 (n := (v1 + 1)) (by omega) (by omega)])) ?_
   refine X.seq (rs 3 ?_)
   refine CH.idxR hτ (rows := ((L0.set (Int.toNat v5) (⟨(mt v1), x9.f1, x9.f2, x9.f3, x9.f4⟩ : S38)).map d38)) (n := v5) (b := 0) (by kernel_rfl) (by kernel_rfl) (by first | omega | (simp; done) | (simp; omega)) (by simp only [List.length_map, List.length_set]; first | omega | (simp; done) | (simp; omega)) (by kernel_rfl) ?_
   refine go 1 ?_
   obtain ⟨x10, hx10⟩ : ∃ x, (L0.set (Int.toNat v5) (⟨(mt v1), x9.f1, x9.f2, x9.f3, x9.f4⟩ : S38))[Int.toNat v5]? = some x := ⟨_, List.getElem?_eq_getElem (by first | omega | (simp; done) | (simp; omega))⟩
   have qhx10 := congrArg (fun a : S38 => a.f4.length) (set_get hx10); simp only at qhx10; have phx10 := set_get hx10
   refine CH.stN hτ (rows := ((L0.set (Int.toNat v5) (⟨(mt v1), x9.f1, x9.f2, x9.f3, x9.f4⟩ : S38)).map d38)) (n := Int.toNat v5) (p := 1) (len := 1) (op := []) (L := []) (d38 x10) (by kernel_rfl) (by kernel_rfl) (by rw [List.getElem?_map, hx10]; rfl) trivial trivial (by kernel_rfl) ?_
   refine CH.endk ⟨[(0, rV 0), (1, iV (v1 + 1)), (5, iV v5)], [(0, some (.nst 5 38 [(4, 2, 188)] (((L0.set (Int.toNat v5) (⟨(mt v1), x9.f1, x9.f2, x9.f3, x9.f4⟩ : S38)).map d38).set (Int.toNat v5) (d38 (⟨x10.f0, (v1 + 1), x10.f2, x10.f3, x10.f4⟩ : S38))) []))], 416⟩ (by kernel_rfl) (by kernel_rfl) (s2 := ⟨[(0, rV 0), (1, iV (v1 + 1)), (5, iV v5)], [(0, some (.nst 5 38 [(4, 2, 188)] (((L0.set (Int.toNat v5) (⟨(mt v1), x9.f1, x9.f2, x9.f3, x9.f4⟩ : S38)).set (Int.toNat v5) (⟨x10.f0, (v1 + 1), x10.f2, x10.f3, x10.f4⟩ : S38)).map d38) []))], 416⟩) (congrArg (fun z : List (List D) => (⟨[(0, rV 0), (1, iV (v1 + 1)), (5, iV v5)], [(0, some (.nst 5 38 [(4, 2, 188)] z []))], 416⟩ : St)) (show (((L0.set (Int.toNat v5) (⟨(mt v1), x9.f1, x9.f2, x9.f3, x9.f4⟩ : S38)).map d38).set (Int.toNat v5) (d38 (⟨x10.f0, (v1 + 1), x10.f2, x10.f3, x10.f4⟩ : S38))) = (((L0.set (Int.toNat v5) (⟨(mt v1), x9.f1, x9.f2, x9.f3, x9.f4⟩ : S38)).set (Int.toNat v5) (⟨x10.f0, (v1 + 1), x10.f2, x10.f3, x10.f4⟩ : S38)).map d38) from List.map_set.symm)) ?_
   refine X.seq ?_
   refine X.rk ⟨[(0, rV 0), (1, iV (wrap64 ((v1 + 1) + 1))), (5, iV v5)], [(0, some (.nst 5 38 [(4, 2, 188)] (((L0.set (Int.toNat v5) (⟨(mt v1), x9.f1, x9.f2, x9.f3, x9.f4⟩ : S38)).set (Int.toNat v5) (⟨x10.f0, (v1 + 1), x10.f2, x10.f3, x10.f4⟩ : S38)).map d38) []))], 464⟩ hτ hmix (by kernel_rfl) (by kernel_rfl) (s2 := ⟨[(0, rV 0), (1, iV ((v1 + 1) + 1)), (5, iV v5)], [(0, some (.nst 5 38 [(4, 2, 188)] (((L0.set (Int.toNat v5) (⟨(mt v1), x9.f1, x9.f2, x9.f3, x9.f4⟩ : S38)).set (Int.toNat v5) (⟨x10.f0, (v1 + 1), x10.f2, x10.f3, x10.f4⟩ : S38)).map d38) []))], 464⟩) (congrArg (fun z : Int => (⟨[(0, rV 0), (1, iV z), (5, iV v5)], [(0, some (.nst 5 38 [(4, 2, 188)] (((L0.set (Int.toNat v5) (⟨(mt v1), x9.f1, x9.f2, x9.f3, x9.f4⟩ : S38)).set (Int.toNat v5) (⟨x10.f0, (v1 + 1), x10.f2, x10.f3, x10.f4⟩ : S38)).map d38) []))], 464⟩ : St)) (show wrap64 ((v1 + 1) + 1) = ((v1 + 1) + 1) by rw [w64 (n := ((v1 + 1) + 1)) (by omega) (by omega)])) ?_
   refine X.seq (rs 3 ?_)
   refine CH.idxR hτ (rows := (((L0.set (Int.toNat v5) (⟨(mt v1), x9.f1, x9.f2, x9.f3, x9.f4⟩ : S38)).set (Int.toNat v5) (⟨x10.f0, (v1 + 1), x10.f2, x10.f3, x10.f4⟩ : S38)).map d38)) (n := v5) (b := 0) (by kernel_rfl) (by kernel_rfl) (by first | omega | (simp; done) | (simp; omega)) (by simp only [List.length_map, List.length_set]; first | omega | (simp; done) | (simp; omega)) (by kernel_rfl) ?_
   refine go 1 ?_
   obtain ⟨x11, hx11⟩ : ∃ x, ((L0.set (Int.toNat v5) (⟨(mt v1), x9.f1, x9.f2, x9.f3, x9.f4⟩ : S38)).set (Int.toNat v5) (⟨x10.f0, (v1 + 1), x10.f2, x10.f3, x10.f4⟩ : S38))[Int.toNat v5]? = some x := ⟨_, List.getElem?_eq_getElem (by first | omega | (simp; done) | (simp; omega))⟩
   have qhx11 := congrArg (fun a : S38 => a.f4.length) (set_get hx11); simp only at qhx11; have phx11 := set_get hx11
   refine CH.stN hτ (rows := (((L0.set (Int.toNat v5) (⟨(mt v1), x9.f1, x9.f2, x9.f3, x9.f4⟩ : S38)).set (Int.toNat v5) (⟨x10.f0, (v1 + 1), x10.f2, x10.f3, x10.f4⟩ : S38)).map d38)) (n := Int.toNat v5) (p := 2) (len := 1) (op := []) (L := []) (d38 x11) (by kernel_rfl) (by kernel_rfl) (by rw [List.getElem?_map, hx11]; rfl) trivial trivial (by kernel_rfl) ?_
   refine CH.endk ⟨[(0, rV 0), (1, iV ((v1 + 1) + 1)), (5, iV v5)], [(0, some (.nst 5 38 [(4, 2, 188)] ((((L0.set (Int.toNat v5) (⟨(mt v1), x9.f1, x9.f2, x9.f3, x9.f4⟩ : S38)).set (Int.toNat v5) (⟨x10.f0, (v1 + 1), x10.f2, x10.f3, x10.f4⟩ : S38)).map d38).set (Int.toNat v5) (d38 (⟨x11.f0, x11.f1, ((v1 + 1) + 1), x11.f3, x11.f4⟩ : S38))) []))], 560⟩ (by kernel_rfl) (by kernel_rfl) (s2 := ⟨[(0, rV 0), (1, iV ((v1 + 1) + 1)), (5, iV v5)], [(0, some (.nst 5 38 [(4, 2, 188)] ((((L0.set (Int.toNat v5) (⟨(mt v1), x9.f1, x9.f2, x9.f3, x9.f4⟩ : S38)).set (Int.toNat v5) (⟨x10.f0, (v1 + 1), x10.f2, x10.f3, x10.f4⟩ : S38)).set (Int.toNat v5) (⟨x11.f0, x11.f1, ((v1 + 1) + 1), x11.f3, x11.f4⟩ : S38)).map d38) []))], 560⟩) (congrArg (fun z : List (List D) => (⟨[(0, rV 0), (1, iV ((v1 + 1) + 1)), (5, iV v5)], [(0, some (.nst 5 38 [(4, 2, 188)] z []))], 560⟩ : St)) (show ((((L0.set (Int.toNat v5) (⟨(mt v1), x9.f1, x9.f2, x9.f3, x9.f4⟩ : S38)).set (Int.toNat v5) (⟨x10.f0, (v1 + 1), x10.f2, x10.f3, x10.f4⟩ : S38)).map d38).set (Int.toNat v5) (d38 (⟨x11.f0, x11.f1, ((v1 + 1) + 1), x11.f3, x11.f4⟩ : S38))) = ((((L0.set (Int.toNat v5) (⟨(mt v1), x9.f1, x9.f2, x9.f3, x9.f4⟩ : S38)).set (Int.toNat v5) (⟨x10.f0, (v1 + 1), x10.f2, x10.f3, x10.f4⟩ : S38)).set (Int.toNat v5) (⟨x11.f0, x11.f1, ((v1 + 1) + 1), x11.f3, x11.f4⟩ : S38)).map d38) from List.map_set.symm)) ?_
   refine X.seq ?_
   refine X.rk ⟨[(0, rV 0), (1, iV (wrap64 (((v1 + 1) + 1) + 1))), (5, iV v5)], [(0, some (.nst 5 38 [(4, 2, 188)] ((((L0.set (Int.toNat v5) (⟨(mt v1), x9.f1, x9.f2, x9.f3, x9.f4⟩ : S38)).set (Int.toNat v5) (⟨x10.f0, (v1 + 1), x10.f2, x10.f3, x10.f4⟩ : S38)).set (Int.toNat v5) (⟨x11.f0, x11.f1, ((v1 + 1) + 1), x11.f3, x11.f4⟩ : S38)).map d38) []))], 608⟩ hτ hmix (by kernel_rfl) (by kernel_rfl) (s2 := ⟨[(0, rV 0), (1, iV (((v1 + 1) + 1) + 1)), (5, iV v5)], [(0, some (.nst 5 38 [(4, 2, 188)] ((((L0.set (Int.toNat v5) (⟨(mt v1), x9.f1, x9.f2, x9.f3, x9.f4⟩ : S38)).set (Int.toNat v5) (⟨x10.f0, (v1 + 1), x10.f2, x10.f3, x10.f4⟩ : S38)).set (Int.toNat v5) (⟨x11.f0, x11.f1, ((v1 + 1) + 1), x11.f3, x11.f4⟩ : S38)).map d38) []))], 608⟩) (congrArg (fun z : Int => (⟨[(0, rV 0), (1, iV z), (5, iV v5)], [(0, some (.nst 5 38 [(4, 2, 188)] ((((L0.set (Int.toNat v5) (⟨(mt v1), x9.f1, x9.f2, x9.f3, x9.f4⟩ : S38)).set (Int.toNat v5) (⟨x10.f0, (v1 + 1), x10.f2, x10.f3, x10.f4⟩ : S38)).set (Int.toNat v5) (⟨x11.f0, x11.f1, ((v1 + 1) + 1), x11.f3, x11.f4⟩ : S38)).map d38) []))], 608⟩ : St)) (show wrap64 (((v1 + 1) + 1) + 1) = (((v1 + 1) + 1) + 1) by rw [w64 (n := (((v1 + 1) + 1) + 1)) (by omega) (by omega)])) ?_
   refine X.seq (rs 3 ?_)
   refine CH.idxR hτ (rows := ((((L0.set (Int.toNat v5) (⟨(mt v1), x9.f1, x9.f2, x9.f3, x9.f4⟩ : S38)).set (Int.toNat v5) (⟨x10.f0, (v1 + 1), x10.f2, x10.f3, x10.f4⟩ : S38)).set (Int.toNat v5) (⟨x11.f0, x11.f1, ((v1 + 1) + 1), x11.f3, x11.f4⟩ : S38)).map d38)) (n := v5) (b := 0) (by kernel_rfl) (by kernel_rfl) (by first | omega | (simp; done) | (simp; omega)) (by simp only [List.length_map, List.length_set]; first | omega | (simp; done) | (simp; omega)) (by kernel_rfl) ?_
   refine go 1 ?_
   obtain ⟨x12, hx12⟩ : ∃ x, (((L0.set (Int.toNat v5) (⟨(mt v1), x9.f1, x9.f2, x9.f3, x9.f4⟩ : S38)).set (Int.toNat v5) (⟨x10.f0, (v1 + 1), x10.f2, x10.f3, x10.f4⟩ : S38)).set (Int.toNat v5) (⟨x11.f0, x11.f1, ((v1 + 1) + 1), x11.f3, x11.f4⟩ : S38))[Int.toNat v5]? = some x := ⟨_, List.getElem?_eq_getElem (by first | omega | (simp; done) | (simp; omega))⟩
   have qhx12 := congrArg (fun a : S38 => a.f4.length) (set_get hx12); simp only at qhx12; have phx12 := set_get hx12
   refine CH.stN hτ (rows := ((((L0.set (Int.toNat v5) (⟨(mt v1), x9.f1, x9.f2, x9.f3, x9.f4⟩ : S38)).set (Int.toNat v5) (⟨x10.f0, (v1 + 1), x10.f2, x10.f3, x10.f4⟩ : S38)).set (Int.toNat v5) (⟨x11.f0, x11.f1, ((v1 + 1) + 1), x11.f3, x11.f4⟩ : S38)).map d38)) (n := Int.toNat v5) (p := 3) (len := 1) (op := []) (L := []) (d38 x12) (by kernel_rfl) (by kernel_rfl) (by rw [List.getElem?_map, hx12]; rfl) trivial trivial (by kernel_rfl) ?_
   refine CH.endk ⟨[(0, rV 0), (1, iV (((v1 + 1) + 1) + 1)), (5, iV v5)], [(0, some (.nst 5 38 [(4, 2, 188)] (((((L0.set (Int.toNat v5) (⟨(mt v1), x9.f1, x9.f2, x9.f3, x9.f4⟩ : S38)).set (Int.toNat v5) (⟨x10.f0, (v1 + 1), x10.f2, x10.f3, x10.f4⟩ : S38)).set (Int.toNat v5) (⟨x11.f0, x11.f1, ((v1 + 1) + 1), x11.f3, x11.f4⟩ : S38)).map d38).set (Int.toNat v5) (d38 (⟨x12.f0, x12.f1, x12.f2, (((v1 + 1) + 1) + 1), x12.f4⟩ : S38))) []))], 704⟩ (by kernel_rfl) (by kernel_rfl) (s2 := ⟨[(0, rV 0), (1, iV (((v1 + 1) + 1) + 1)), (5, iV v5)], [(0, some (.nst 5 38 [(4, 2, 188)] (((((L0.set (Int.toNat v5) (⟨(mt v1), x9.f1, x9.f2, x9.f3, x9.f4⟩ : S38)).set (Int.toNat v5) (⟨x10.f0, (v1 + 1), x10.f2, x10.f3, x10.f4⟩ : S38)).set (Int.toNat v5) (⟨x11.f0, x11.f1, ((v1 + 1) + 1), x11.f3, x11.f4⟩ : S38)).set (Int.toNat v5) (⟨x12.f0, x12.f1, x12.f2, (((v1 + 1) + 1) + 1), x12.f4⟩ : S38)).map d38) []))], 704⟩) (congrArg (fun z : List (List D) => (⟨[(0, rV 0), (1, iV (((v1 + 1) + 1) + 1)), (5, iV v5)], [(0, some (.nst 5 38 [(4, 2, 188)] z []))], 704⟩ : St)) (show (((((L0.set (Int.toNat v5) (⟨(mt v1), x9.f1, x9.f2, x9.f3, x9.f4⟩ : S38)).set (Int.toNat v5) (⟨x10.f0, (v1 + 1), x10.f2, x10.f3, x10.f4⟩ : S38)).set (Int.toNat v5) (⟨x11.f0, x11.f1, ((v1 + 1) + 1), x11.f3, x11.f4⟩ : S38)).map d38).set (Int.toNat v5) (d38 (⟨x12.f0, x12.f1, x12.f2, (((v1 + 1) + 1) + 1), x12.f4⟩ : S38))) = (((((L0.set (Int.toNat v5) (⟨(mt v1), x9.f1, x9.f2, x9.f3, x9.f4⟩ : S38)).set (Int.toNat v5) (⟨x10.f0, (v1 + 1), x10.f2, x10.f3, x10.f4⟩ : S38)).set (Int.toNat v5) (⟨x11.f0, x11.f1, ((v1 + 1) + 1), x11.f3, x11.f4⟩ : S38)).set (Int.toNat v5) (⟨x12.f0, x12.f1, x12.f2, (((v1 + 1) + 1) + 1), x12.f4⟩ : S38)).map d38) from List.map_set.symm)) ?_
   refine X.seq ?_
   refine X.rk ⟨[(0, rV 0), (1, iV (wrap64 ((((v1 + 1) + 1) + 1) + 1))), (5, iV v5)], [(0, some (.nst 5 38 [(4, 2, 188)] (((((L0.set (Int.toNat v5) (⟨(mt v1), x9.f1, x9.f2, x9.f3, x9.f4⟩ : S38)).set (Int.toNat v5) (⟨x10.f0, (v1 + 1), x10.f2, x10.f3, x10.f4⟩ : S38)).set (Int.toNat v5) (⟨x11.f0, x11.f1, ((v1 + 1) + 1), x11.f3, x11.f4⟩ : S38)).set (Int.toNat v5) (⟨x12.f0, x12.f1, x12.f2, (((v1 + 1) + 1) + 1), x12.f4⟩ : S38)).map d38) []))], 752⟩ hτ hmix (by kernel_rfl) (by kernel_rfl) (s2 := ⟨[(0, rV 0), (1, iV ((((v1 + 1) + 1) + 1) + 1)), (5, iV v5)], [(0, some (.nst 5 38 [(4, 2, 188)] (((((L0.set (Int.toNat v5) (⟨(mt v1), x9.f1, x9.f2, x9.f3, x9.f4⟩ : S38)).set (Int.toNat v5) (⟨x10.f0, (v1 + 1), x10.f2, x10.f3, x10.f4⟩ : S38)).set (Int.toNat v5) (⟨x11.f0, x11.f1, ((v1 + 1) + 1), x11.f3, x11.f4⟩ : S38)).set (Int.toNat v5) (⟨x12.f0, x12.f1, x12.f2, (((v1 + 1) + 1) + 1), x12.f4⟩ : S38)).map d38) []))], 752⟩) (congrArg (fun z : Int => (⟨[(0, rV 0), (1, iV z), (5, iV v5)], [(0, some (.nst 5 38 [(4, 2, 188)] (((((L0.set (Int.toNat v5) (⟨(mt v1), x9.f1, x9.f2, x9.f3, x9.f4⟩ : S38)).set (Int.toNat v5) (⟨x10.f0, (v1 + 1), x10.f2, x10.f3, x10.f4⟩ : S38)).set (Int.toNat v5) (⟨x11.f0, x11.f1, ((v1 + 1) + 1), x11.f3, x11.f4⟩ : S38)).set (Int.toNat v5) (⟨x12.f0, x12.f1, x12.f2, (((v1 + 1) + 1) + 1), x12.f4⟩ : S38)).map d38) []))], 752⟩ : St)) (show wrap64 ((((v1 + 1) + 1) + 1) + 1) = ((((v1 + 1) + 1) + 1) + 1) by rw [w64 (n := ((((v1 + 1) + 1) + 1) + 1)) (by omega) (by omega)])) ?_
   refine rs 2 ?_
   refine CH.idxR hτ (rows := (((((L0.set (Int.toNat v5) (⟨(mt v1), x9.f1, x9.f2, x9.f3, x9.f4⟩ : S38)).set (Int.toNat v5) (⟨x10.f0, (v1 + 1), x10.f2, x10.f3, x10.f4⟩ : S38)).set (Int.toNat v5) (⟨x11.f0, x11.f1, ((v1 + 1) + 1), x11.f3, x11.f4⟩ : S38)).set (Int.toNat v5) (⟨x12.f0, x12.f1, x12.f2, (((v1 + 1) + 1) + 1), x12.f4⟩ : S38)).map d38)) (n := v5) (b := 0) (by kernel_rfl) (by kernel_rfl) (by first | omega | (simp; done) | (simp; omega)) (by simp only [List.length_map, List.length_set]; first | omega | (simp; done) | (simp; omega)) (by kernel_rfl) ?_
   refine go 1 ?_
   obtain ⟨x13, hx13⟩ : ∃ x, ((((L0.set (Int.toNat v5) (⟨(mt v1), x9.f1, x9.f2, x9.f3, x9.f4⟩ : S38)).set (Int.toNat v5) (⟨x10.f0, (v1 + 1), x10.f2, x10.f3, x10.f4⟩ : S38)).set (Int.toNat v5) (⟨x11.f0, x11.f1, ((v1 + 1) + 1), x11.f3, x11.f4⟩ : S38)).set (Int.toNat v5) (⟨x12.f0, x12.f1, x12.f2, (((v1 + 1) + 1) + 1), x12.f4⟩ : S38))[Int.toNat v5]? = some x := ⟨_, List.getElem?_eq_getElem (by first | omega | (simp; done) | (simp; omega))⟩
   have qhx13 := congrArg (fun a : S38 => a.f4.length) (set_get hx13); simp only at qhx13; have phx13 := set_get hx13
   refine CH.ldN hτ (rows := (((((L0.set (Int.toNat v5) (⟨(mt v1), x9.f1, x9.f2, x9.f3, x9.f4⟩ : S38)).set (Int.toNat v5) (⟨x10.f0, (v1 + 1), x10.f2, x10.f3, x10.f4⟩ : S38)).set (Int.toNat v5) (⟨x11.f0, x11.f1, ((v1 + 1) + 1), x11.f3, x11.f4⟩ : S38)).set (Int.toNat v5) (⟨x12.f0, x12.f1, x12.f2, (((v1 + 1) + 1) + 1), x12.f4⟩ : S38)).map d38)) (n := Int.toNat v5) (p := 4) (op := []) (d38 x13) (.sl (x13.f4.map d188)) (by kernel_rfl) (by kernel_rfl) (by rw [List.getElem?_map, hx13]; rfl) rfl trivial (by kernel_rfl) ?_
   refine go 1 ?_
   obtain ⟨r14, q15, hr17, hf16⟩ := l_markLeaveSx x13.f4 ((((v1 + 1) + 1) + 1) + 1) (by first | assumption | omega) (by first | assumption | omega)
   obtain ⟨hql, hqk, hqm⟩ := hr17
   refine CH.callB hf16 Try.func123 ⟨rfl, rfl⟩ 816 2 188 (x13.f4.map d188) true 188 (q15.map d188) (by kernel_rfl) (by kernel_rfl) (by kernel_rfl) (by kernel_rfl) (by kernel_rfl) (by first | (simp; done) | (simp; omega)) (by kernel_rfl) ?_
   refine go 1 ?_
   refine ek ⟨[(0, rV 0), (1, iV r14), (5, iV v5)], [(0, some (.nst 5 38 [(4, 2, 188)] (((((L0.set (Int.toNat v5) (⟨(mt v1), x9.f1, x9.f2, x9.f3, x9.f4⟩ : S38)).set (Int.toNat v5) (⟨x10.f0, (v1 + 1), x10.f2, x10.f3, x10.f4⟩ : S38)).set (Int.toNat v5) (⟨x11.f0, x11.f1, ((v1 + 1) + 1), x11.f3, x11.f4⟩ : S38)).set (Int.toNat v5) (⟨x12.f0, x12.f1, x12.f2, (((v1 + 1) + 1) + 1), x12.f4⟩ : S38)).map d38) [(Int.toNat v5, 4, 816)])), (816, some (.row 2 188 (q15.map d188) false true))], 880⟩ ?_
   refine X.weak (Wk.closeN (wd := 5) (wd' := 2) (i := Int.toNat v5) (j := 4) (r := 816) (e := 38) (ty := 188) (co := [(4, 2, 188)]) (rows := (((((L0.set (Int.toNat v5) (⟨(mt v1), x9.f1, x9.f2, x9.f3, x9.f4⟩ : S38)).set (Int.toNat v5) (⟨x10.f0, (v1 + 1), x10.f2, x10.f3, x10.f4⟩ : S38)).set (Int.toNat v5) (⟨x11.f0, x11.f1, ((v1 + 1) + 1), x11.f3, x11.f4⟩ : S38)).set (Int.toNat v5) (⟨x12.f0, x12.f1, x12.f2, (((v1 + 1) + 1) + 1), x12.f4⟩ : S38)).map d38)) (q := (q15.map d188)) (op2 := []) 0 (d38 x13) (by kernel_rfl) (by kernel_rfl) (by rw [List.getElem?_map, hx13]; rfl) (flat_d d188 (fun x => rfl)) (by exact trivial) (by kernel_rfl) (by kernel_rfl) (by kernel_rfl) (by kernel_rfl)) ?_
   refine X.sub (fun z : List (List D) => (⟨[(0, rV 0), (1, iV r14), (5, iV v5)], (0, some (.nst 5 38 [(4, 2, 188)] z [])) :: (816, none) :: [(0, some (.nst 5 38 [(4, 2, 188)] (((((L0.set (Int.toNat v5) (⟨(mt v1), x9.f1, x9.f2, x9.f3, x9.f4⟩ : S38)).set (Int.toNat v5) (⟨x10.f0, (v1 + 1), x10.f2, x10.f3, x10.f4⟩ : S38)).set (Int.toNat v5) (⟨x11.f0, x11.f1, ((v1 + 1) + 1), x11.f3, x11.f4⟩ : S38)).set (Int.toNat v5) (⟨x12.f0, x12.f1, x12.f2, (((v1 + 1) + 1) + 1), x12.f4⟩ : S38)).map d38) [(Int.toNat v5, 4, 816)])), (816, some (.row 2 188 (q15.map d188) false true))], 880⟩ : St)) (show (((((L0.set (Int.toNat v5) (⟨(mt v1), x9.f1, x9.f2, x9.f3, x9.f4⟩ : S38)).set (Int.toNat v5) (⟨x10.f0, (v1 + 1), x10.f2, x10.f3, x10.f4⟩ : S38)).set (Int.toNat v5) (⟨x11.f0, x11.f1, ((v1 + 1) + 1), x11.f3, x11.f4⟩ : S38)).set (Int.toNat v5) (⟨x12.f0, x12.f1, x12.f2, (((v1 + 1) + 1) + 1), x12.f4⟩ : S38)).map d38).set (Int.toNat v5) ((d38 x13).set 4 (.sl (q15.map d188))) = ((((((L0.set (Int.toNat v5) (⟨(mt v1), x9.f1, x9.f2, x9.f3, x9.f4⟩ : S38)).set (Int.toNat v5) (⟨x10.f0, (v1 + 1), x10.f2, x10.f3, x10.f4⟩ : S38)).set (Int.toNat v5) (⟨x11.f0, x11.f1, ((v1 + 1) + 1), x11.f3, x11.f4⟩ : S38)).set (Int.toNat v5) (⟨x12.f0, x12.f1, x12.f2, (((v1 + 1) + 1) + 1), x12.f4⟩ : S38)).set (Int.toNat v5) (⟨x13.f0, x13.f1, x13.f2, x13.f3, q15⟩ : S38)).map d38) from (List.map_set (f := d38) (l := ((((L0.set (Int.toNat v5) (⟨(mt v1), x9.f1, x9.f2, x9.f3, x9.f4⟩ : S38)).set (Int.toNat v5) (⟨x10.f0, (v1 + 1), x10.f2, x10.f3, x10.f4⟩ : S38)).set (Int.toNat v5) (⟨x11.f0, x11.f1, ((v1 + 1) + 1), x11.f3, x11.f4⟩ : S38)).set (Int.toNat v5) (⟨x12.f0, x12.f1, x12.f2, (((v1 + 1) + 1) + 1), x12.f4⟩ : S38))) (i := Int.toNat v5) (a := (⟨x13.f0, x13.f1, x13.f2, x13.f3, q15⟩ : S38))).symm) ?_
   refine X.weak (Wk.less (s1 := ⟨[(0, rV 0), (1, iV r14), (5, iV v5)], [(0, some (.nst 5 38 [(4, 2, 188)] ((((((L0.set (Int.toNat v5) (⟨(mt v1), x9.f1, x9.f2, x9.f3, x9.f4⟩ : S38)).set (Int.toNat v5) (⟨x10.f0, (v1 + 1), x10.f2, x10.f3, x10.f4⟩ : S38)).set (Int.toNat v5) (⟨x11.f0, x11.f1, ((v1 + 1) + 1), x11.f3, x11.f4⟩ : S38)).set (Int.toNat v5) (⟨x12.f0, x12.f1, x12.f2, (((v1 + 1) + 1) + 1), x12.f4⟩ : S38)).set (Int.toNat v5) (⟨x13.f0, x13.f1, x13.f2, x13.f3, q15⟩ : S38)).map d38) []))], 880⟩) (by kernel_rfl)) ?_
   refine X.rk ⟨[(0, rV 0), (1, iV r14), (5, iV (wrap64 (v5 + 1)))], [(0, some (.nst 5 38 [(4, 2, 188)] ((((((L0.set (Int.toNat v5) (⟨(mt v1), x9.f1, x9.f2, x9.f3, x9.f4⟩ : S38)).set (Int.toNat v5) (⟨x10.f0, (v1 + 1), x10.f2, x10.f3, x10.f4⟩ : S38)).set (Int.toNat v5) (⟨x11.f0, x11.f1, ((v1 + 1) + 1), x11.f3, x11.f4⟩ : S38)).set (Int.toNat v5) (⟨x12.f0, x12.f1, x12.f2, (((v1 + 1) + 1) + 1), x12.f4⟩ : S38)).set (Int.toNat v5) (⟨x13.f0, x13.f1, x13.f2, x13.f3, q15⟩ : S38)).map d38) []))], 928⟩ hτ hmix (by kernel_rfl) (by kernel_rfl) (s2 := ⟨[(0, rV 0), (1, iV r14), (5, iV (v5 + 1))], [(0, some (.nst 5 38 [(4, 2, 188)] ((((((L0.set (Int.toNat v5) (⟨(mt v1), x9.f1, x9.f2, x9.f3, x9.f4⟩ : S38)).set (Int.toNat v5) (⟨x10.f0, (v1 + 1), x10.f2, x10.f3, x10.f4⟩ : S38)).set (Int.toNat v5) (⟨x11.f0, x11.f1, ((v1 + 1) + 1), x11.f3, x11.f4⟩ : S38)).set (Int.toNat v5) (⟨x12.f0, x12.f1, x12.f2, (((v1 + 1) + 1) + 1), x12.f4⟩ : S38)).set (Int.toNat v5) (⟨x13.f0, x13.f1, x13.f2, x13.f3, q15⟩ : S38)).map d38) []))], 928⟩) (congrArg (fun z : Int => (⟨[(0, rV 0), (1, iV r14), (5, iV z)], [(0, some (.nst 5 38 [(4, 2, 188)] ((((((L0.set (Int.toNat v5) (⟨(mt v1), x9.f1, x9.f2, x9.f3, x9.f4⟩ : S38)).set (Int.toNat v5) (⟨x10.f0, (v1 + 1), x10.f2, x10.f3, x10.f4⟩ : S38)).set (Int.toNat v5) (⟨x11.f0, x11.f1, ((v1 + 1) + 1), x11.f3, x11.f4⟩ : S38)).set (Int.toNat v5) (⟨x12.f0, x12.f1, x12.f2, (((v1 + 1) + 1) + 1), x12.f4⟩ : S38)).set (Int.toNat v5) (⟨x13.f0, x13.f1, x13.f2, x13.f3, q15⟩ : S38)).map d38) []))], 928⟩ : St)) (show wrap64 (v5 + 1) = (v5 + 1) by rw [w64 (n := (v5 + 1)) (by omega) (by omega)])) ?_
   refine ⟨⟨((((((L0.set (Int.toNat v5) (⟨(mt v1), x9.f1, x9.f2, x9.f3, x9.f4⟩ : S38)).set (Int.toNat v5) (⟨x10.f0, (v1 + 1), x10.f2, x10.f3, x10.f4⟩ : S38)).set (Int.toNat v5) (⟨x11.f0, x11.f1, ((v1 + 1) + 1), x11.f3, x11.f4⟩ : S38)).set (Int.toNat v5) (⟨x12.f0, x12.f1, x12.f2, (((v1 + 1) + 1) + 1), x12.f4⟩ : S38)).set (Int.toNat v5) (⟨x13.f0, x13.f1, x13.f2, x13.f3, q15⟩ : S38)), r14, (v5 + 1)), ⟨by first | omega | (dsimp only; omega), by first | omega | (dsimp only; omega), by (try dsimp only); simp only [List.set_set]; rw [acT_set (by first | omega | (dsimp only; omega)) (by first | omega | (dsimp only; omega))]; (try dsimp only); omega, by (try dsimp only); simp only [List.set_set]; rw [acT_set (by first | omega | (dsimp only; omega)) (by first | omega | (dsimp only; omega))]; (try dsimp only); omega, by simp only [List.length_set]; omega, fun j hj => by (try dsimp only at hj); (try dsimp only); simp only [List.set_set]; rw [List.getElem?_set_ne (by first | omega | (dsimp only; omega))]; exact hA j (by first | omega | (dsimp only; omega)), by (try dsimp only); simp only [List.set_set]; refine mkA_set hU (by first | omega | (dsimp only; omega)) ?_; clear hst hle hle2; subst_vars; exact ⟨by dsimp only, by dsimp only, by dsimp only; omega, by dsimp only; omega, upto_mk hqm (by first | omega | (dsimp only; omega)) (by rw [← hql])⟩⟩⟩, by first | exact rfl | omega | (dsimp only; omega) | (simp only [List.length_append, List.length_cons, List.length_nil, List.length_set]; omega) | (simp; done) | (simp; omega), Wk.mk' [] (by kernel_rfl) (by kernel_rfl) (by kernel_rfl)⟩
  ·replace hb4 := of_decide_eq_false (hb4)
   refine X.exit ?_
   refine sk ⟨[(4, iV v1)], [(0, some (.nst 5 38 [(4, 2, 188)] (L0.map d38) []))], 192⟩ ?_
   refine X.ret ?_
   exact ⟨trivial, _, _, ⟨v1, L0, ⟨hL, (by have h1 := acT_full (l := L0) (i := v5) (by omega); have h2 := acT_full (l := l) (i := v5) (by omega); omega), (by have h1 := acT_full (l := L0) (i := v5) (by omega); have h2 := acT_full (l := l) (i := v5) (by omega); omega), upto_all hU (by omega)⟩, rfl, rfl⟩, mkr⟩
 obtain ⟨_, _, ⟨r0, q0, h1_, rfl, rfl⟩, hf⟩ := key
 exact ⟨r0, q0, h1_, hf⟩

theorem l_markLedgerx (g : S27) (k : Int) (hl : acsSm g.f1) (hk : 0 ≤ k ∧ k + 4 * g.f1.length + 2 * acT g.f1 ≤ 100000000) : ∃ r0 : Int, ∃ q0 : List S38, (q0.length = g.f1.length ∧ acT q0 = acT g.f1 ∧ r0 = k + 4 * g.f1.length + 2 * acT g.f1 ∧ Upto (mkA k q0) (fun n => q0[n]?) g.f1.length) ∧ Fn Try.prog 22 [.e (.agg [.d (.v (.int .i64 g.f0)), .ref 0]), iV k] (lookH [(0, some (.nst 5 38 [(4, 2, 188)] (g.f1.map d38) []))]) (iV r0) (lookH [(0, some (.nst 5 38 [(4, 2, 188)] (q0.map d38) []))]) := by
 have key : ∃ x' h', ((fun x' h' => ∃ r0 : Int, ∃ q0 : List S38, (q0.length = g.f1.length ∧ acT q0 = acT g.f1 ∧ r0 = k + 4 * g.f1.length + 2 * acT g.f1 ∧ Upto (mkA k q0) (fun n => q0[n]?) g.f1.length) ∧ x' = iV r0 ∧ h' = [(0, some (.nst 5 38 [(4, 2, 188)] (q0.map d38) []))])) x' h' ∧ Fn Try.prog 22 [.e (.agg [.d (.v (.int .i64 g.f0)), .ref 0]), iV k] (lookH [(0, some (.nst 5 38 [(4, 2, 188)] (g.f1.map d38) []))]) x' (lookH h') := by
  refine Fn.bodyX (N := 10) hτ Try.func22 rfl rfl rfl rfl ?_
  refine sk ⟨[(1, iV k), (2, .pt 64 0 0)], [(0, some (.nst 5 38 [(4, 2, 188)] (g.f1.map d38) [])), (64, some (.box [.d (.v (.int .i64 g.f0)), .ref 0]))], 96⟩ ?_
  refine X.seq (rs 3 ?_)
  obtain ⟨r1, q2, hr4, hf3⟩ := l_markAcctSx g.f1 k (by assumption) (by first | assumption | omega)
  obtain ⟨hal, hat, hak, ham⟩ := hr4
  refine CH.callG hf3 Try.func59 ⟨rfl, rfl⟩ [(0, 0)] (by kernel_rfl) (by kernel_rfl) (by kernel_rfl) (nb := true) (fun _ => (back_consN 5 38 [(4, 2, 188)] (g.f1.map d38) 38 [(4, 2, 188)] (q2.map d38) (by kernel_rfl) (by kernel_rfl) (by first | (simp; done) | (simp only [List.length_map]; first | assumption | omega) | (simp; omega)) back_nil)) (by kernel_rfl) ?_
  refine go 1 ?_
  refine ek ⟨[(1, iV r1)], [(0, some (.nst 5 38 [(4, 2, 188)] (q2.map d38) []))], 176⟩ ?_
  refine sk ⟨[(4, iV r1)], [(0, some (.nst 5 38 [(4, 2, 188)] (q2.map d38) []))], 208⟩ ?_
  refine X.ret ?_
  exact ⟨trivial, _, _, ⟨r1, q2, ⟨hal, hat, hak, ham⟩, rfl, rfl⟩, mkr⟩
 obtain ⟨_, _, ⟨r0, q0, h1_, rfl, rfl⟩, hf⟩ := key
 exact ⟨r0, q0, h1_, hf⟩

theorem l_heldAcctS (l : List S38) (k : Int) (hl : l.length ≤ 2000000) (hl2 : acT l ≤ 2000000) (hk : 0 ≤ k ∧ k + 4 * l.length + 2 * acT l ≤ 100000000) : ∃ r0 : Int, ((-1 ≤ r0 ∧ r0 ≤ k + 4 * l.length + 2 * acT l) ∧ (Upto (mkA k l) (fun n => l[n]?) l.length → r0 = k + 4 * l.length + 2 * acT l)) ∧ Fn Try.prog 154 [lV (l.map d38), iV k] (lookH []) (iV r0) (lookH []) := by
 have key : ∃ x' h', ((fun x' h' => ∃ r0 : Int, ((-1 ≤ r0 ∧ r0 ≤ k + 4 * l.length + 2 * acT l) ∧ (Upto (mkA k l) (fun n => l[n]?) l.length → r0 = k + 4 * l.length + 2 * acT l)) ∧ x' = iV r0 ∧ h' = [])) x' h' ∧ Fn Try.prog 154 [lV (l.map d38), iV k] (lookH []) x' (lookH h') := by
  refine Fn.bodyX (N := 59) hτ Try.func154 rfl rfl rfl rfl ?_
  refine sk ⟨[(0, lV (l.map d38)), (1, iV k)], [], 80⟩ ?_
  refine X.seq ?_
  refine sk ⟨[(0, lV (l.map d38)), (1, iV k), (5, iV 0)], [], 96⟩ ?_
  refine X.block ?_
  -- 2: v1 : Int, v5 : Int
  refine X.loop (σ := { g : Int × Int // (fun (v1 : Int) (v5 : Int) => 0 ≤ v5 ∧ v5 ≤ l.length ∧ v1 = k + 4 * v5 + 2 * acT (l.take (v5).toNat)) g.1 g.2 }) (fun g => (fun (v1 : Int) (v5 : Int) => ⟨[(0, lV (l.map d38)), (1, iV v1), (5, iV v5)], [], 96⟩) g.1.1 g.1.2) (fun g => (fun (v1 : Int) (v5 : Int) => (l.length - v5).toNat) g.1.1 g.1.2) ⟨(k, 0), ⟨by first | omega | (dsimp only; omega), by first | omega | (dsimp only; omega), by simp [acT]⟩⟩ (Wk.less (by kernel_rfl)) (fun g => ?_)
  obtain ⟨⟨v1, v5⟩, hg2⟩ := g
  have hg2 : 0 ≤ v5 ∧ v5 ≤ l.length ∧ v1 = k + 4 * v5 + 2 * acT (l.take (v5).toNat) := hg2
  obtain ⟨_, _, hk1⟩ := hg2
  refine X.seq ?_
  refine X.seq ?_
  have hll := hl
  have el3 : (l.map d38).length = l.length := List.length_map ..
  refine rk ⟨[(0, lV (l.map d38)), (1, iV v1), (5, iV v5), (9, bV (decide ((v5 : Int) < ((l.map d38).length : Int))))], [], 160⟩ ?_
  refine if_ (b := decide ((v5 : Int) < ((l.map d38).length : Int))) (fun hb4 => ?_) (fun hb4 => ?_)
  ·replace hb4 := of_decide_eq_true (hb4)
   refine X.skip ?_
   refine X.seq ?_
   refine X.block ?_
   refine X.seq ?_
   refine X.seq ?_
   have hle := acT_le l (Int.toNat v5)
   have hle2 := acT_le l (Int.toNat (v5 + 1))
   refine rs 2 ?_
   obtain ⟨x5, hx5⟩ : ∃ x, l[Int.toNat v5]? = some x := ⟨_, List.getElem?_eq_getElem (by first | omega | (simp; done) | (simp; omega))⟩
   have hst := acT_take (by omega) hx5
   refine CH.idx hτ (d38 x5) (rows := (l.map d38)) (n := v5) (sz := 5) (by kernel_rfl) (by kernel_rfl) (by first | omega | (simp; done) | (simp; omega)) (by rw [List.getElem?_map, hx5]; rfl) (by kernel_rfl) ?_
   refine go 3 ?_
   obtain ⟨r6, hr8, hf7⟩ := l_markText v1 (by omega)
   replace hr8 := hr8.symm; subst hr8
   refine ca hf7 Try.func58 ?_
   refine go 1 ?_
   refine ek ⟨[(0, lV (l.map d38)), (1, iV v1), (5, iV v5), (19, bV (!(x5.f0.toList == (mt v1).toList)))], [], 288⟩ ?_
   refine if_ (b := !(x5.f0.toList == (mt v1).toList)) (fun hb10 => ?_) (fun hb10 => ?_)
   ·replace hb10 := beq_no (bnot_yes (hb10))
    refine sk ⟨[(4, iV (-1))], [], 304⟩ ?_
    refine X.ret ?_
    exact ⟨trivial, _, _, ⟨(-1), ⟨(by first | omega | (have h2 := acT_full (l := l) (i := v5) (by omega); omega)), (fun hM => by first | omega | (have h2 := acT_full (l := l) (i := v5) (by omega); omega) | (have hq := hM _ _ (by omega) (by omega) (‹l[_]? = some _›); exfalso; first | (have h9 := hq.2.1; omega) | (have h9 := hq.2.2.1; omega) | (have h9 := hq.2.2.2.1; omega) | (have h9 := hhd (upto_mk hq.2.2.2.2 (by omega) rfl); omega) | (exact ‹¬ _› (by rw [hq.1]; congr 2; omega))))⟩, rfl, rfl⟩, mkr⟩
   ·replace hb10 := beq_yes (bnot_no (hb10))
    refine X.skip ?_
    refine X.seq ?_
    refine X.rk ⟨[(0, lV (l.map d38)), (1, iV (wrap64 (v1 + 1))), (5, iV v5)], [], 336⟩ hτ hmix (by kernel_rfl) (by kernel_rfl) (s2 := ⟨[(0, lV (l.map d38)), (1, iV (v1 + 1)), (5, iV v5)], [], 336⟩) (congrArg (fun z : Int => (⟨[(0, lV (l.map d38)), (1, iV z), (5, iV v5)], [], 336⟩ : St)) (show wrap64 (v1 + 1) = (v1 + 1) by rw [w64 (n := (v1 + 1)) (by omega) (by omega)])) ?_
    refine X.seq ?_
    refine X.seq (rs 2 ?_)
    refine CH.idx hτ (d38 x5) (rows := (l.map d38)) (n := v5) (sz := 5) (by kernel_rfl) (by kernel_rfl) (by first | omega | (simp; done) | (simp; omega)) (by rw [List.getElem?_map, hx5]; rfl) (by kernel_rfl) ?_
    refine go 4 ?_
    refine ek ⟨[(0, lV (l.map d38)), (1, iV (v1 + 1)), (5, iV v5), (28, bV (x5.f1 != (v1 + 1)))], [], 448⟩ ?_
    refine if_ (b := (x5.f1 != (v1 + 1))) (fun hb11 => ?_) (fun hb11 => ?_)
    ·replace hb11 := bne_iff_ne.1 (hb11)
     refine sk ⟨[(4, iV (-1))], [], 464⟩ ?_
     refine X.ret ?_
     exact ⟨trivial, _, _, ⟨(-1), ⟨(by first | omega | (have h2 := acT_full (l := l) (i := v5) (by omega); omega)), (fun hM => by first | omega | (have h2 := acT_full (l := l) (i := v5) (by omega); omega) | (have hq := hM _ _ (by omega) (by omega) (‹l[_]? = some _›); exfalso; first | (have h9 := hq.2.1; omega) | (have h9 := hq.2.2.1; omega) | (have h9 := hq.2.2.2.1; omega) | (have h9 := hhd (upto_mk hq.2.2.2.2 (by omega) rfl); omega) | (exact ‹¬ _› (by rw [hq.1]; congr 2; omega))))⟩, rfl, rfl⟩, mkr⟩
    ·replace hb11 := bne_eq_false_iff_eq.1 (hb11)
     refine X.skip ?_
     refine X.seq ?_
     refine X.rk ⟨[(0, lV (l.map d38)), (1, iV (wrap64 ((v1 + 1) + 1))), (5, iV v5)], [], 496⟩ hτ hmix (by kernel_rfl) (by kernel_rfl) (s2 := ⟨[(0, lV (l.map d38)), (1, iV ((v1 + 1) + 1)), (5, iV v5)], [], 496⟩) (congrArg (fun z : Int => (⟨[(0, lV (l.map d38)), (1, iV z), (5, iV v5)], [], 496⟩ : St)) (show wrap64 ((v1 + 1) + 1) = ((v1 + 1) + 1) by rw [w64 (n := ((v1 + 1) + 1)) (by omega) (by omega)])) ?_
     refine X.seq ?_
     refine X.seq (rs 2 ?_)
     refine CH.idx hτ (d38 x5) (rows := (l.map d38)) (n := v5) (sz := 5) (by kernel_rfl) (by kernel_rfl) (by first | omega | (simp; done) | (simp; omega)) (by rw [List.getElem?_map, hx5]; rfl) (by kernel_rfl) ?_
     refine go 4 ?_
     refine ek ⟨[(0, lV (l.map d38)), (1, iV ((v1 + 1) + 1)), (5, iV v5), (37, bV (x5.f2 != ((v1 + 1) + 1)))], [], 608⟩ ?_
     refine if_ (b := (x5.f2 != ((v1 + 1) + 1))) (fun hb12 => ?_) (fun hb12 => ?_)
     ·replace hb12 := bne_iff_ne.1 (hb12)
      refine sk ⟨[(4, iV (-1))], [], 624⟩ ?_
      refine X.ret ?_
      exact ⟨trivial, _, _, ⟨(-1), ⟨(by first | omega | (have h2 := acT_full (l := l) (i := v5) (by omega); omega)), (fun hM => by first | omega | (have h2 := acT_full (l := l) (i := v5) (by omega); omega) | (have hq := hM _ _ (by omega) (by omega) (‹l[_]? = some _›); exfalso; first | (have h9 := hq.2.1; omega) | (have h9 := hq.2.2.1; omega) | (have h9 := hq.2.2.2.1; omega) | (have h9 := hhd (upto_mk hq.2.2.2.2 (by omega) rfl); omega) | (exact ‹¬ _› (by rw [hq.1]; congr 2; omega))))⟩, rfl, rfl⟩, mkr⟩
     ·replace hb12 := bne_eq_false_iff_eq.1 (hb12)
      refine X.skip ?_
      refine X.seq ?_
      refine X.rk ⟨[(0, lV (l.map d38)), (1, iV (wrap64 (((v1 + 1) + 1) + 1))), (5, iV v5)], [], 656⟩ hτ hmix (by kernel_rfl) (by kernel_rfl) (s2 := ⟨[(0, lV (l.map d38)), (1, iV (((v1 + 1) + 1) + 1)), (5, iV v5)], [], 656⟩) (congrArg (fun z : Int => (⟨[(0, lV (l.map d38)), (1, iV z), (5, iV v5)], [], 656⟩ : St)) (show wrap64 (((v1 + 1) + 1) + 1) = (((v1 + 1) + 1) + 1) by rw [w64 (n := (((v1 + 1) + 1) + 1)) (by omega) (by omega)])) ?_
      refine X.seq ?_
      refine X.seq (rs 2 ?_)
      refine CH.idx hτ (d38 x5) (rows := (l.map d38)) (n := v5) (sz := 5) (by kernel_rfl) (by kernel_rfl) (by first | omega | (simp; done) | (simp; omega)) (by rw [List.getElem?_map, hx5]; rfl) (by kernel_rfl) ?_
      refine go 4 ?_
      refine ek ⟨[(0, lV (l.map d38)), (1, iV (((v1 + 1) + 1) + 1)), (5, iV v5), (46, bV (x5.f3 != (((v1 + 1) + 1) + 1)))], [], 768⟩ ?_
      refine if_ (b := (x5.f3 != (((v1 + 1) + 1) + 1))) (fun hb13 => ?_) (fun hb13 => ?_)
      ·replace hb13 := bne_iff_ne.1 (hb13)
       refine sk ⟨[(4, iV (-1))], [], 784⟩ ?_
       refine X.ret ?_
       exact ⟨trivial, _, _, ⟨(-1), ⟨(by first | omega | (have h2 := acT_full (l := l) (i := v5) (by omega); omega)), (fun hM => by first | omega | (have h2 := acT_full (l := l) (i := v5) (by omega); omega) | (have hq := hM _ _ (by omega) (by omega) (‹l[_]? = some _›); exfalso; first | (have h9 := hq.2.1; omega) | (have h9 := hq.2.2.1; omega) | (have h9 := hq.2.2.2.1; omega) | (have h9 := hhd (upto_mk hq.2.2.2.2 (by omega) rfl); omega) | (exact ‹¬ _› (by rw [hq.1]; congr 2; omega))))⟩, rfl, rfl⟩, mkr⟩
      ·replace hb13 := bne_eq_false_iff_eq.1 (hb13)
       refine X.skip ?_
       refine X.seq ?_
       refine X.rk ⟨[(0, lV (l.map d38)), (1, iV (wrap64 ((((v1 + 1) + 1) + 1) + 1))), (5, iV v5)], [], 816⟩ hτ hmix (by kernel_rfl) (by kernel_rfl) (s2 := ⟨[(0, lV (l.map d38)), (1, iV ((((v1 + 1) + 1) + 1) + 1)), (5, iV v5)], [], 816⟩) (congrArg (fun z : Int => (⟨[(0, lV (l.map d38)), (1, iV z), (5, iV v5)], [], 816⟩ : St)) (show wrap64 ((((v1 + 1) + 1) + 1) + 1) = ((((v1 + 1) + 1) + 1) + 1) by rw [w64 (n := ((((v1 + 1) + 1) + 1) + 1)) (by omega) (by omega)])) ?_
       refine X.seq (rs 2 ?_)
       refine CH.idx hτ (d38 x5) (rows := (l.map d38)) (n := v5) (sz := 5) (by kernel_rfl) (by kernel_rfl) (by first | omega | (simp; done) | (simp; omega)) (by rw [List.getElem?_map, hx5]; rfl) (by kernel_rfl) ?_
       refine go 3 ?_
       obtain ⟨r14, hr16, hf15⟩ := l_heldLeaveS x5.f4 ((((v1 + 1) + 1) + 1) + 1) (by first | assumption | omega) (by first | assumption | omega)
       obtain ⟨⟨hhb1, hhb2, hhb3⟩, hhd⟩ := hr16
       refine ca hf15 Try.func183 ?_
       refine go 1 ?_
       refine ek ⟨[(0, lV (l.map d38)), (1, iV r14), (5, iV v5)], [], 944⟩ ?_
       refine sk ⟨[(0, lV (l.map d38)), (1, iV r14), (5, iV v5), (57, bV (decide ((r14 : Int) < 0)))], [], 976⟩ ?_
       refine if_ (b := decide ((r14 : Int) < 0)) (fun hb17 => ?_) (fun hb17 => ?_)
       ·replace hb17 := of_decide_eq_true (hb17)
        refine sk ⟨[(4, iV (-1))], [], 992⟩ ?_
        refine X.ret ?_
        exact ⟨trivial, _, _, ⟨(-1), ⟨(by first | omega | (have h2 := acT_full (l := l) (i := v5) (by omega); omega)), (fun hM => by first | omega | (have h2 := acT_full (l := l) (i := v5) (by omega); omega) | (have hq := hM _ _ (by omega) (by omega) (‹l[_]? = some _›); exfalso; first | (have h9 := hq.2.1; omega) | (have h9 := hq.2.2.1; omega) | (have h9 := hq.2.2.2.1; omega) | (have h9 := hhd (upto_mk hq.2.2.2.2 (by omega) rfl); omega) | (exact ‹¬ _› (by rw [hq.1]; congr 2; omega))))⟩, rfl, rfl⟩, mkr⟩
       ·replace hb17 := of_decide_eq_false (hb17)
        refine X.skip ?_
        refine X.rk ⟨[(0, lV (l.map d38)), (1, iV r14), (5, iV (wrap64 (v5 + 1)))], [], 1024⟩ hτ hmix (by kernel_rfl) (by kernel_rfl) (s2 := ⟨[(0, lV (l.map d38)), (1, iV r14), (5, iV (v5 + 1))], [], 1024⟩) (congrArg (fun z : Int => (⟨[(0, lV (l.map d38)), (1, iV r14), (5, iV z)], [], 1024⟩ : St)) (show wrap64 (v5 + 1) = (v5 + 1) by rw [w64 (n := (v5 + 1)) (by omega) (by omega)])) ?_
        refine ⟨⟨(r14, (v5 + 1)), ⟨by first | omega | (dsimp only; omega), by first | omega | (dsimp only; omega), (by have h9 := hhb3 (by first | omega | (dsimp only; omega)); (try dsimp only); omega)⟩⟩, by first | exact rfl | omega | (dsimp only; omega) | (simp only [List.length_append, List.length_cons, List.length_nil, List.length_set]; omega) | (simp; done) | (simp; omega), Wk.mk' [] (by kernel_rfl) (by kernel_rfl) (by kernel_rfl)⟩
  ·replace hb4 := of_decide_eq_false (hb4)
   refine X.exit ?_
   refine sk ⟨[(4, iV v1)], [], 192⟩ ?_
   refine X.ret ?_
   exact ⟨trivial, _, _, ⟨v1, ⟨(by first | omega | (have h2 := acT_full (l := l) (i := v5) (by omega); omega)), (fun hM => by first | omega | (have h2 := acT_full (l := l) (i := v5) (by omega); omega) | (have hq := hM _ _ (by omega) (by omega) (‹l[_]? = some _›); exfalso; first | (have h9 := hq.2.1; omega) | (have h9 := hq.2.2.1; omega) | (have h9 := hq.2.2.2.1; omega) | (have h9 := hhd (upto_mk hq.2.2.2.2 (by omega) rfl); omega) | (exact ‹¬ _› (by rw [hq.1]; congr 2; omega))))⟩, rfl, rfl⟩, mkr⟩
 obtain ⟨_, _, ⟨r0, h1_, rfl, rfl⟩, hf⟩ := key
 exact ⟨r0, h1_, hf⟩

theorem l_heldLedger (g : S27) (k : Int) (hl : g.f1.length ≤ 2000000) (hl2 : acT g.f1 ≤ 2000000) (hk : 0 ≤ k ∧ k + 4 * g.f1.length + 2 * acT g.f1 ≤ 100000000) : ∃ r0 : Int, ((-1 ≤ r0 ∧ r0 ≤ k + 4 * g.f1.length + 2 * acT g.f1) ∧ (Upto (mkA k g.f1) (fun n => g.f1[n]?) g.f1.length → r0 = k + 4 * g.f1.length + 2 * acT g.f1)) ∧ Fn Try.prog 101 [.e (.agg [.d (.v (.int .i64 g.f0)), .d (.sl (g.f1.map d38))]), iV k] (lookH []) (iV r0) (lookH []) := by
 have key : ∃ x' h', ((fun x' h' => ∃ r0 : Int, ((-1 ≤ r0 ∧ r0 ≤ k + 4 * g.f1.length + 2 * acT g.f1) ∧ (Upto (mkA k g.f1) (fun n => g.f1[n]?) g.f1.length → r0 = k + 4 * g.f1.length + 2 * acT g.f1)) ∧ x' = iV r0 ∧ h' = [])) x' h' ∧ Fn Try.prog 101 [.e (.agg [.d (.v (.int .i64 g.f0)), .d (.sl (g.f1.map d38))]), iV k] (lookH []) x' (lookH h') := by
  refine Fn.bodyX (N := 12) hτ Try.func101 rfl rfl rfl rfl ?_
  refine sk ⟨[(1, iV k), (2, .pt 64 0 0)], [(64, some (.box [.d (.v (.int .i64 g.f0)), .d (.sl (g.f1.map d38))]))], 96⟩ ?_
  refine X.seq (rs 3 ?_)
  obtain ⟨r1, hr3, hf2⟩ := l_heldAcctS g.f1 k (by first | assumption | omega) (by first | assumption | omega) (by first | assumption | omega)
  obtain ⟨hhb, hha⟩ := hr3
  refine ca hf2 Try.func154 ?_
  refine go 1 ?_
  refine ek ⟨[(1, iV r1)], [], 176⟩ ?_
  refine X.seq ?_
  refine sk ⟨[(1, iV r1), (10, bV (decide ((r1 : Int) < 0)))], [], 208⟩ ?_
  refine if_ (b := decide ((r1 : Int) < 0)) (fun hb4 => ?_) (fun hb4 => ?_)
  ·replace hb4 := of_decide_eq_true (hb4)
   refine sk ⟨[(4, iV (-1))], [], 224⟩ ?_
   refine X.ret ?_
   exact ⟨trivial, _, _, ⟨(-1), ⟨by omega, fun hM => by have h9 := hha hM; omega⟩, rfl, rfl⟩, mkr⟩
  ·replace hb4 := of_decide_eq_false (hb4)
   refine X.skip ?_
   refine sk ⟨[(4, iV r1)], [], 240⟩ ?_
   refine X.ret ?_
   exact ⟨trivial, _, _, ⟨r1, ⟨by omega, fun hM => by have h9 := hha hM; omega⟩, rfl, rfl⟩, mkr⟩
 obtain ⟨_, _, ⟨r0, h1_, rfl, rfl⟩, hf⟩ := key
 exact ⟨r0, h1_, hf⟩

theorem l_eqBlockS (l : List S72) (m : List S72) (hl : l.length = 0) (hm : m.length = 0) : ∃ r0 : Bool, (r0 = true) ∧ Fn Try.prog 30 [lV (l.map d72), lV (m.map d72)] (lookH []) (bV r0) (lookH []) := by
 have key : ∃ x' h', ((fun x' h' => ∃ r0 : Bool, (r0 = true) ∧ x' = bV r0 ∧ h' = [])) x' h' ∧ Fn Try.prog 30 [lV (l.map d72), lV (m.map d72)] (lookH []) x' (lookH h') := by
  refine Fn.bodyX (N := 27) hτ Try.func30 rfl rfl rfl rfl ?_
  refine sk ⟨[(0, lV (l.map d72)), (1, lV (m.map d72))], [], 80⟩ ?_
  refine X.seq ?_
  refine X.seq ?_
  have el1 : (l.map d72).length = l.length := List.length_map ..
  have el2 : (m.map d72).length = m.length := List.length_map ..
  refine rk ⟨[(0, lV (l.map d72)), (1, lV (m.map d72)), (10, bV (((l.map d72).length : Int) != ((m.map d72).length : Int)))], [], 160⟩ ?_
  refine if_ (b := (((l.map d72).length : Int) != ((m.map d72).length : Int))) (fun hb3 => ?_) (fun hb3 => ?_)
  ·replace hb3 := bne_iff_ne.1 (hb3)
   refine sk ⟨[(4, bV false)], [], 176⟩ ?_
   refine X.ret ?_
   exact ⟨trivial, _, _, ⟨false, (by first | exact rfl | exact (by exfalso; (try simp only [List.length_map] at *); omega)), rfl, rfl⟩, mkr⟩
  ·replace hb3 := bne_eq_false_iff_eq.1 (hb3)
   refine X.skip ?_
   refine X.seq ?_
   refine sk ⟨[(0, lV (l.map d72)), (1, lV (m.map d72)), (5, iV 0)], [], 176⟩ ?_
   refine X.block ?_
   -- 4: v5 : Int
   refine X.loop (σ := { g : Int // (fun (v5 : Int) => 0 ≤ v5) g }) (fun g => (fun (v5 : Int) => ⟨[(0, lV (l.map d72)), (1, lV (m.map d72)), (5, iV v5)], [], 176⟩) g.1) (fun g => (fun (v5 : Int) => (0 : Nat)) g.1) ⟨0, by first | omega | (dsimp only; omega)⟩ (Wk.less (by kernel_rfl)) (fun g => ?_)
   obtain ⟨v5, hg5⟩ := g
   have hg5 : 0 ≤ v5 := hg5
   refine X.seq ?_
   refine sk ⟨[(0, lV (l.map d72)), (1, lV (m.map d72)), (5, iV v5), (14, bV (decide ((v5 : Int) < ((l.map d72).length : Int))))], [], 240⟩ ?_
   refine if_ (b := decide ((v5 : Int) < ((l.map d72).length : Int))) (fun hb6 => ?_) (fun hb6 => ?_)
   ·replace hb6 := of_decide_eq_true (hb6)
    refine X.skip ?_
    refine X.seq ?_
    refine X.block ?_
    refine X.seq ?_
    exfalso; (try simp only [List.length_map] at *); omega
   ·replace hb6 := of_decide_eq_false (hb6)
    refine X.exit ?_
    refine sk ⟨[(4, bV true)], [], 256⟩ ?_
    refine X.ret ?_
    exact ⟨trivial, _, _, ⟨true, (by first | exact rfl | exact (by exfalso; (try simp only [List.length_map] at *); omega)), rfl, rfl⟩, mkr⟩
 obtain ⟨_, _, ⟨r0, h1_, rfl, rfl⟩, hf⟩ := key
 exact ⟨r0, h1_, hf⟩

theorem l_markBlockS (l : List S72) (k : Int) (hl : l.length = 0) (hk : 0 ≤ k ∧ k ≤ 100000000) : ∃ r0 : Int, ∃ q0 : List S72, (q0.length = 0 ∧ r0 = k) ∧ Fn Try.prog 32 [rV 0, iV k] (lookH [(0, some (.row 14 72 (l.map d72) false true))]) (iV r0) (lookH [(0, some (.row 14 72 (q0.map d72) false true))]) := by
 have key : ∃ x' h', ((fun x' h' => ∃ r0 : Int, ∃ q0 : List S72, (q0.length = 0 ∧ r0 = k) ∧ x' = iV r0 ∧ h' = [(0, some (.row 14 72 (q0.map d72) false true))])) x' h' ∧ Fn Try.prog 32 [rV 0, iV k] (lookH [(0, some (.row 14 72 (l.map d72) false true))]) x' (lookH h') := by
  refine Fn.bodyX (N := 121) hτ Try.func32 rfl rfl rfl rfl ?_
  refine sk ⟨[(0, rV 0), (1, iV k)], [(0, some (.row 14 72 (l.map d72) false true))], 80⟩ ?_
  refine X.seq ?_
  refine sk ⟨[(0, rV 0), (1, iV k), (5, iV 0)], [(0, some (.row 14 72 (l.map d72) false true))], 96⟩ ?_
  refine X.block ?_
  -- 2: L0 : List S72, v1 : Int, v5 : Int
  refine X.loop (σ := { g : (List S72) × Int × Int // (fun (L0 : List S72) (v1 : Int) (v5 : Int) => 0 ≤ v5 ∧ L0.length = 0 ∧ v1 = k) g.1 g.2.1 g.2.2 }) (fun g => (fun (L0 : List S72) (v1 : Int) (v5 : Int) => ⟨[(0, rV 0), (1, iV v1), (5, iV v5)], [(0, some (.row 14 72 (L0.map d72) false true))], 96⟩) g.1.1 g.1.2.1 g.1.2.2) (fun g => (fun (L0 : List S72) (v1 : Int) (v5 : Int) => (0 : Nat)) g.1.1 g.1.2.1 g.1.2.2) ⟨(l, k, 0), ⟨by first | omega | (dsimp only; omega), by first | omega | (dsimp only; omega), rfl⟩⟩ (Wk.less (by kernel_rfl)) (fun g => ?_)
  obtain ⟨⟨L0, v1, v5⟩, hg2⟩ := g
  have hg2 : 0 ≤ v5 ∧ L0.length = 0 ∧ v1 = k := hg2
  obtain ⟨_, hL, _⟩ := hg2
  refine X.seq ?_
  refine X.seq ?_
  have el3 : (L0.map d72).length = L0.length := List.length_map ..
  refine rk ⟨[(0, rV 0), (1, iV v1), (5, iV v5), (9, bV (decide ((v5 : Int) < ((L0.map d72).length : Int))))], [(0, some (.row 14 72 (L0.map d72) false true))], 160⟩ ?_
  refine if_ (b := decide ((v5 : Int) < ((L0.map d72).length : Int))) (fun hb4 => ?_) (fun hb4 => ?_)
  ·replace hb4 := of_decide_eq_true (hb4)
   refine X.skip ?_
   refine X.seq ?_
   refine X.block ?_
   refine X.seq ?_
   exfalso; (try simp only [List.length_map] at *); omega
  ·replace hb4 := of_decide_eq_false (hb4)
   refine X.exit ?_
   refine sk ⟨[(4, iV v1)], [(0, some (.row 14 72 (L0.map d72) false true))], 192⟩ ?_
   refine X.ret ?_
   exact ⟨trivial, _, _, ⟨v1, L0, ⟨hL, by omega⟩, rfl, rfl⟩, mkr⟩
 obtain ⟨_, _, ⟨r0, q0, h1_, rfl, rfl⟩, hf⟩ := key
 exact ⟨r0, q0, h1_, hf⟩

theorem l_heldBlockS (l : List S72) (k : Int) (hl : l.length = 0) (hk : 0 ≤ k ∧ k ≤ 100000000) : ∃ r0 : Int, (r0 = k) ∧ Fn Try.prog 34 [lV (l.map d72), iV k] (lookH []) (iV r0) (lookH []) := by
 have key : ∃ x' h', ((fun x' h' => ∃ r0 : Int, (r0 = k) ∧ x' = iV r0 ∧ h' = [])) x' h' ∧ Fn Try.prog 34 [lV (l.map d72), iV k] (lookH []) x' (lookH h') := by
  refine Fn.bodyX (N := 149) hτ Try.func34 rfl rfl rfl rfl ?_
  refine sk ⟨[(0, lV (l.map d72)), (1, iV k)], [], 80⟩ ?_
  refine X.seq ?_
  refine sk ⟨[(0, lV (l.map d72)), (1, iV k), (5, iV 0)], [], 96⟩ ?_
  refine X.block ?_
  -- 2: v1 : Int, v5 : Int
  refine X.loop (σ := { g : Int × Int // (fun (v1 : Int) (v5 : Int) => 0 ≤ v5 ∧ v1 = k) g.1 g.2 }) (fun g => (fun (v1 : Int) (v5 : Int) => ⟨[(0, lV (l.map d72)), (1, iV v1), (5, iV v5)], [], 96⟩) g.1.1 g.1.2) (fun g => (fun (v1 : Int) (v5 : Int) => (0 : Nat)) g.1.1 g.1.2) ⟨(k, 0), ⟨by first | omega | (dsimp only; omega), rfl⟩⟩ (Wk.less (by kernel_rfl)) (fun g => ?_)
  obtain ⟨⟨v1, v5⟩, hg2⟩ := g
  have hg2 : 0 ≤ v5 ∧ v1 = k := hg2
  obtain ⟨_, _⟩ := hg2
  refine X.seq ?_
  refine X.seq ?_
  have el3 : (l.map d72).length = l.length := List.length_map ..
  refine rk ⟨[(0, lV (l.map d72)), (1, iV v1), (5, iV v5), (9, bV (decide ((v5 : Int) < ((l.map d72).length : Int))))], [], 160⟩ ?_
  refine if_ (b := decide ((v5 : Int) < ((l.map d72).length : Int))) (fun hb4 => ?_) (fun hb4 => ?_)
  ·replace hb4 := of_decide_eq_true (hb4)
   refine X.skip ?_
   refine X.seq ?_
   refine X.block ?_
   refine X.seq ?_
   refine X.seq ?_
   exfalso; (try simp only [List.length_map] at *); omega
  ·replace hb4 := of_decide_eq_false (hb4)
   refine X.exit ?_
   refine sk ⟨[(4, iV v1)], [], 192⟩ ?_
   refine X.ret ?_
   exact ⟨trivial, _, _, ⟨v1, (by omega), rfl, rfl⟩, mkr⟩
 obtain ⟨_, _, ⟨r0, h1_, rfl, rfl⟩, hf⟩ := key
 exact ⟨r0, h1_, hf⟩

theorem l_eqVoteS (l : List S177) (m : List S177) (hl : l.length = 0) (hm : m.length = 0) : ∃ r0 : Bool, (r0 = true) ∧ Fn Try.prog 94 [lV (l.map d177), lV (m.map d177)] (lookH []) (bV r0) (lookH []) := by
 have key : ∃ x' h', ((fun x' h' => ∃ r0 : Bool, (r0 = true) ∧ x' = bV r0 ∧ h' = [])) x' h' ∧ Fn Try.prog 94 [lV (l.map d177), lV (m.map d177)] (lookH []) x' (lookH h') := by
  refine Fn.bodyX (N := 27) hτ Try.func94 rfl rfl rfl rfl ?_
  refine sk ⟨[(0, lV (l.map d177)), (1, lV (m.map d177))], [], 80⟩ ?_
  refine X.seq ?_
  refine X.seq ?_
  have el1 : (l.map d177).length = l.length := List.length_map ..
  have el2 : (m.map d177).length = m.length := List.length_map ..
  refine rk ⟨[(0, lV (l.map d177)), (1, lV (m.map d177)), (10, bV (((l.map d177).length : Int) != ((m.map d177).length : Int)))], [], 160⟩ ?_
  refine if_ (b := (((l.map d177).length : Int) != ((m.map d177).length : Int))) (fun hb3 => ?_) (fun hb3 => ?_)
  ·replace hb3 := bne_iff_ne.1 (hb3)
   refine sk ⟨[(4, bV false)], [], 176⟩ ?_
   refine X.ret ?_
   exact ⟨trivial, _, _, ⟨false, (by first | exact rfl | exact (by exfalso; (try simp only [List.length_map] at *); omega)), rfl, rfl⟩, mkr⟩
  ·replace hb3 := bne_eq_false_iff_eq.1 (hb3)
   refine X.skip ?_
   refine X.seq ?_
   refine sk ⟨[(0, lV (l.map d177)), (1, lV (m.map d177)), (5, iV 0)], [], 176⟩ ?_
   refine X.block ?_
   -- 4: v5 : Int
   refine X.loop (σ := { g : Int // (fun (v5 : Int) => 0 ≤ v5) g }) (fun g => (fun (v5 : Int) => ⟨[(0, lV (l.map d177)), (1, lV (m.map d177)), (5, iV v5)], [], 176⟩) g.1) (fun g => (fun (v5 : Int) => (0 : Nat)) g.1) ⟨0, by first | omega | (dsimp only; omega)⟩ (Wk.less (by kernel_rfl)) (fun g => ?_)
   obtain ⟨v5, hg5⟩ := g
   have hg5 : 0 ≤ v5 := hg5
   refine X.seq ?_
   refine sk ⟨[(0, lV (l.map d177)), (1, lV (m.map d177)), (5, iV v5), (14, bV (decide ((v5 : Int) < ((l.map d177).length : Int))))], [], 240⟩ ?_
   refine if_ (b := decide ((v5 : Int) < ((l.map d177).length : Int))) (fun hb6 => ?_) (fun hb6 => ?_)
   ·replace hb6 := of_decide_eq_true (hb6)
    refine X.skip ?_
    refine X.seq ?_
    refine X.block ?_
    refine X.seq ?_
    exfalso; (try simp only [List.length_map] at *); omega
   ·replace hb6 := of_decide_eq_false (hb6)
    refine X.exit ?_
    refine sk ⟨[(4, bV true)], [], 256⟩ ?_
    refine X.ret ?_
    exact ⟨trivial, _, _, ⟨true, (by first | exact rfl | exact (by exfalso; (try simp only [List.length_map] at *); omega)), rfl, rfl⟩, mkr⟩
 obtain ⟨_, _, ⟨r0, h1_, rfl, rfl⟩, hf⟩ := key
 exact ⟨r0, h1_, hf⟩

theorem l_markVoteS (l : List S177) (k : Int) (hl : l.length = 0) (hk : 0 ≤ k ∧ k ≤ 100000000) : ∃ r0 : Int, ∃ q0 : List S177, (q0.length = 0 ∧ r0 = k) ∧ Fn Try.prog 98 [rV 0, iV k] (lookH [(0, some (.row 3 177 (l.map d177) false true))]) (iV r0) (lookH [(0, some (.row 3 177 (q0.map d177) false true))]) := by
 have key : ∃ x' h', ((fun x' h' => ∃ r0 : Int, ∃ q0 : List S177, (q0.length = 0 ∧ r0 = k) ∧ x' = iV r0 ∧ h' = [(0, some (.row 3 177 (q0.map d177) false true))])) x' h' ∧ Fn Try.prog 98 [rV 0, iV k] (lookH [(0, some (.row 3 177 (l.map d177) false true))]) x' (lookH h') := by
  refine Fn.bodyX (N := 35) hτ Try.func98 rfl rfl rfl rfl ?_
  refine sk ⟨[(0, rV 0), (1, iV k)], [(0, some (.row 3 177 (l.map d177) false true))], 80⟩ ?_
  refine X.seq ?_
  refine sk ⟨[(0, rV 0), (1, iV k), (5, iV 0)], [(0, some (.row 3 177 (l.map d177) false true))], 96⟩ ?_
  refine X.block ?_
  -- 2: L0 : List S177, v1 : Int, v5 : Int
  refine X.loop (σ := { g : (List S177) × Int × Int // (fun (L0 : List S177) (v1 : Int) (v5 : Int) => 0 ≤ v5 ∧ L0.length = 0 ∧ v1 = k) g.1 g.2.1 g.2.2 }) (fun g => (fun (L0 : List S177) (v1 : Int) (v5 : Int) => ⟨[(0, rV 0), (1, iV v1), (5, iV v5)], [(0, some (.row 3 177 (L0.map d177) false true))], 96⟩) g.1.1 g.1.2.1 g.1.2.2) (fun g => (fun (L0 : List S177) (v1 : Int) (v5 : Int) => (0 : Nat)) g.1.1 g.1.2.1 g.1.2.2) ⟨(l, k, 0), ⟨by first | omega | (dsimp only; omega), by first | omega | (dsimp only; omega), rfl⟩⟩ (Wk.less (by kernel_rfl)) (fun g => ?_)
  obtain ⟨⟨L0, v1, v5⟩, hg2⟩ := g
  have hg2 : 0 ≤ v5 ∧ L0.length = 0 ∧ v1 = k := hg2
  obtain ⟨_, hL, _⟩ := hg2
  refine X.seq ?_
  refine X.seq ?_
  have el3 : (L0.map d177).length = L0.length := List.length_map ..
  refine rk ⟨[(0, rV 0), (1, iV v1), (5, iV v5), (9, bV (decide ((v5 : Int) < ((L0.map d177).length : Int))))], [(0, some (.row 3 177 (L0.map d177) false true))], 160⟩ ?_
  refine if_ (b := decide ((v5 : Int) < ((L0.map d177).length : Int))) (fun hb4 => ?_) (fun hb4 => ?_)
  ·replace hb4 := of_decide_eq_true (hb4)
   refine X.skip ?_
   refine X.seq ?_
   refine X.block ?_
   refine X.seq ?_
   exfalso; (try simp only [List.length_map] at *); omega
  ·replace hb4 := of_decide_eq_false (hb4)
   refine X.exit ?_
   refine sk ⟨[(4, iV v1)], [(0, some (.row 3 177 (L0.map d177) false true))], 192⟩ ?_
   refine X.ret ?_
   exact ⟨trivial, _, _, ⟨v1, L0, ⟨hL, by omega⟩, rfl, rfl⟩, mkr⟩
 obtain ⟨_, _, ⟨r0, q0, h1_, rfl, rfl⟩, hf⟩ := key
 exact ⟨r0, q0, h1_, hf⟩

theorem l_heldVoteS (l : List S177) (k : Int) (hl : l.length = 0) (hk : 0 ≤ k ∧ k ≤ 100000000) : ∃ r0 : Int, (r0 = k) ∧ Fn Try.prog 104 [lV (l.map d177), iV k] (lookH []) (iV r0) (lookH []) := by
 have key : ∃ x' h', ((fun x' h' => ∃ r0 : Int, (r0 = k) ∧ x' = iV r0 ∧ h' = [])) x' h' ∧ Fn Try.prog 104 [lV (l.map d177), iV k] (lookH []) x' (lookH h') := by
  refine Fn.bodyX (N := 41) hτ Try.func104 rfl rfl rfl rfl ?_
  refine sk ⟨[(0, lV (l.map d177)), (1, iV k)], [], 80⟩ ?_
  refine X.seq ?_
  refine sk ⟨[(0, lV (l.map d177)), (1, iV k), (5, iV 0)], [], 96⟩ ?_
  refine X.block ?_
  -- 2: v1 : Int, v5 : Int
  refine X.loop (σ := { g : Int × Int // (fun (v1 : Int) (v5 : Int) => 0 ≤ v5 ∧ v1 = k) g.1 g.2 }) (fun g => (fun (v1 : Int) (v5 : Int) => ⟨[(0, lV (l.map d177)), (1, iV v1), (5, iV v5)], [], 96⟩) g.1.1 g.1.2) (fun g => (fun (v1 : Int) (v5 : Int) => (0 : Nat)) g.1.1 g.1.2) ⟨(k, 0), ⟨by first | omega | (dsimp only; omega), rfl⟩⟩ (Wk.less (by kernel_rfl)) (fun g => ?_)
  obtain ⟨⟨v1, v5⟩, hg2⟩ := g
  have hg2 : 0 ≤ v5 ∧ v1 = k := hg2
  obtain ⟨_, _⟩ := hg2
  refine X.seq ?_
  refine X.seq ?_
  have el3 : (l.map d177).length = l.length := List.length_map ..
  refine rk ⟨[(0, lV (l.map d177)), (1, iV v1), (5, iV v5), (9, bV (decide ((v5 : Int) < ((l.map d177).length : Int))))], [], 160⟩ ?_
  refine if_ (b := decide ((v5 : Int) < ((l.map d177).length : Int))) (fun hb4 => ?_) (fun hb4 => ?_)
  ·replace hb4 := of_decide_eq_true (hb4)
   refine X.skip ?_
   refine X.seq ?_
   refine X.block ?_
   refine X.seq ?_
   refine X.seq ?_
   exfalso; (try simp only [List.length_map] at *); omega
  ·replace hb4 := of_decide_eq_false (hb4)
   refine X.exit ?_
   refine sk ⟨[(4, iV v1)], [], 192⟩ ?_
   refine X.ret ?_
   exact ⟨trivial, _, _, ⟨v1, (by omega), rfl, rfl⟩, mkr⟩
 obtain ⟨_, _, ⟨r0, h1_, rfl, rfl⟩, hf⟩ := key
 exact ⟨r0, h1_, hf⟩

theorem l_eqGoneS (l : List S180) (m : List S180) (hl : l.length = 0) (hm : m.length = 0) : ∃ r0 : Bool, (r0 = true) ∧ Fn Try.prog 95 [lV (l.map d180), lV (m.map d180)] (lookH []) (bV r0) (lookH []) := by
 have key : ∃ x' h', ((fun x' h' => ∃ r0 : Bool, (r0 = true) ∧ x' = bV r0 ∧ h' = [])) x' h' ∧ Fn Try.prog 95 [lV (l.map d180), lV (m.map d180)] (lookH []) x' (lookH h') := by
  refine Fn.bodyX (N := 27) hτ Try.func95 rfl rfl rfl rfl ?_
  refine sk ⟨[(0, lV (l.map d180)), (1, lV (m.map d180))], [], 80⟩ ?_
  refine X.seq ?_
  refine X.seq ?_
  have el1 : (l.map d180).length = l.length := List.length_map ..
  have el2 : (m.map d180).length = m.length := List.length_map ..
  refine rk ⟨[(0, lV (l.map d180)), (1, lV (m.map d180)), (10, bV (((l.map d180).length : Int) != ((m.map d180).length : Int)))], [], 160⟩ ?_
  refine if_ (b := (((l.map d180).length : Int) != ((m.map d180).length : Int))) (fun hb3 => ?_) (fun hb3 => ?_)
  ·replace hb3 := bne_iff_ne.1 (hb3)
   refine sk ⟨[(4, bV false)], [], 176⟩ ?_
   refine X.ret ?_
   exact ⟨trivial, _, _, ⟨false, (by first | exact rfl | exact (by exfalso; (try simp only [List.length_map] at *); omega)), rfl, rfl⟩, mkr⟩
  ·replace hb3 := bne_eq_false_iff_eq.1 (hb3)
   refine X.skip ?_
   refine X.seq ?_
   refine sk ⟨[(0, lV (l.map d180)), (1, lV (m.map d180)), (5, iV 0)], [], 176⟩ ?_
   refine X.block ?_
   -- 4: v5 : Int
   refine X.loop (σ := { g : Int // (fun (v5 : Int) => 0 ≤ v5) g }) (fun g => (fun (v5 : Int) => ⟨[(0, lV (l.map d180)), (1, lV (m.map d180)), (5, iV v5)], [], 176⟩) g.1) (fun g => (fun (v5 : Int) => (0 : Nat)) g.1) ⟨0, by first | omega | (dsimp only; omega)⟩ (Wk.less (by kernel_rfl)) (fun g => ?_)
   obtain ⟨v5, hg5⟩ := g
   have hg5 : 0 ≤ v5 := hg5
   refine X.seq ?_
   refine sk ⟨[(0, lV (l.map d180)), (1, lV (m.map d180)), (5, iV v5), (14, bV (decide ((v5 : Int) < ((l.map d180).length : Int))))], [], 240⟩ ?_
   refine if_ (b := decide ((v5 : Int) < ((l.map d180).length : Int))) (fun hb6 => ?_) (fun hb6 => ?_)
   ·replace hb6 := of_decide_eq_true (hb6)
    refine X.skip ?_
    refine X.seq ?_
    refine X.block ?_
    refine X.seq ?_
    exfalso; (try simp only [List.length_map] at *); omega
   ·replace hb6 := of_decide_eq_false (hb6)
    refine X.exit ?_
    refine sk ⟨[(4, bV true)], [], 256⟩ ?_
    refine X.ret ?_
    exact ⟨trivial, _, _, ⟨true, (by first | exact rfl | exact (by exfalso; (try simp only [List.length_map] at *); omega)), rfl, rfl⟩, mkr⟩
 obtain ⟨_, _, ⟨r0, h1_, rfl, rfl⟩, hf⟩ := key
 exact ⟨r0, h1_, hf⟩

theorem l_markGoneS (l : List S180) (k : Int) (hl : l.length = 0) (hk : 0 ≤ k ∧ k ≤ 100000000) : ∃ r0 : Int, ∃ q0 : List S180, (q0.length = 0 ∧ r0 = k) ∧ Fn Try.prog 99 [rV 0, iV k] (lookH [(0, some (.row 3 180 (l.map d180) false true))]) (iV r0) (lookH [(0, some (.row 3 180 (q0.map d180) false true))]) := by
 have key : ∃ x' h', ((fun x' h' => ∃ r0 : Int, ∃ q0 : List S180, (q0.length = 0 ∧ r0 = k) ∧ x' = iV r0 ∧ h' = [(0, some (.row 3 180 (q0.map d180) false true))])) x' h' ∧ Fn Try.prog 99 [rV 0, iV k] (lookH [(0, some (.row 3 180 (l.map d180) false true))]) x' (lookH h') := by
  refine Fn.bodyX (N := 35) hτ Try.func99 rfl rfl rfl rfl ?_
  refine sk ⟨[(0, rV 0), (1, iV k)], [(0, some (.row 3 180 (l.map d180) false true))], 80⟩ ?_
  refine X.seq ?_
  refine sk ⟨[(0, rV 0), (1, iV k), (5, iV 0)], [(0, some (.row 3 180 (l.map d180) false true))], 96⟩ ?_
  refine X.block ?_
  -- 2: L0 : List S180, v1 : Int, v5 : Int
  refine X.loop (σ := { g : (List S180) × Int × Int // (fun (L0 : List S180) (v1 : Int) (v5 : Int) => 0 ≤ v5 ∧ L0.length = 0 ∧ v1 = k) g.1 g.2.1 g.2.2 }) (fun g => (fun (L0 : List S180) (v1 : Int) (v5 : Int) => ⟨[(0, rV 0), (1, iV v1), (5, iV v5)], [(0, some (.row 3 180 (L0.map d180) false true))], 96⟩) g.1.1 g.1.2.1 g.1.2.2) (fun g => (fun (L0 : List S180) (v1 : Int) (v5 : Int) => (0 : Nat)) g.1.1 g.1.2.1 g.1.2.2) ⟨(l, k, 0), ⟨by first | omega | (dsimp only; omega), by first | omega | (dsimp only; omega), rfl⟩⟩ (Wk.less (by kernel_rfl)) (fun g => ?_)
  obtain ⟨⟨L0, v1, v5⟩, hg2⟩ := g
  have hg2 : 0 ≤ v5 ∧ L0.length = 0 ∧ v1 = k := hg2
  obtain ⟨_, hL, _⟩ := hg2
  refine X.seq ?_
  refine X.seq ?_
  have el3 : (L0.map d180).length = L0.length := List.length_map ..
  refine rk ⟨[(0, rV 0), (1, iV v1), (5, iV v5), (9, bV (decide ((v5 : Int) < ((L0.map d180).length : Int))))], [(0, some (.row 3 180 (L0.map d180) false true))], 160⟩ ?_
  refine if_ (b := decide ((v5 : Int) < ((L0.map d180).length : Int))) (fun hb4 => ?_) (fun hb4 => ?_)
  ·replace hb4 := of_decide_eq_true (hb4)
   refine X.skip ?_
   refine X.seq ?_
   refine X.block ?_
   refine X.seq ?_
   exfalso; (try simp only [List.length_map] at *); omega
  ·replace hb4 := of_decide_eq_false (hb4)
   refine X.exit ?_
   refine sk ⟨[(4, iV v1)], [(0, some (.row 3 180 (L0.map d180) false true))], 192⟩ ?_
   refine X.ret ?_
   exact ⟨trivial, _, _, ⟨v1, L0, ⟨hL, by omega⟩, rfl, rfl⟩, mkr⟩
 obtain ⟨_, _, ⟨r0, q0, h1_, rfl, rfl⟩, hf⟩ := key
 exact ⟨r0, q0, h1_, hf⟩

theorem l_heldGoneS (l : List S180) (k : Int) (hl : l.length = 0) (hk : 0 ≤ k ∧ k ≤ 100000000) : ∃ r0 : Int, (r0 = k) ∧ Fn Try.prog 105 [lV (l.map d180), iV k] (lookH []) (iV r0) (lookH []) := by
 have key : ∃ x' h', ((fun x' h' => ∃ r0 : Int, (r0 = k) ∧ x' = iV r0 ∧ h' = [])) x' h' ∧ Fn Try.prog 105 [lV (l.map d180), iV k] (lookH []) x' (lookH h') := by
  refine Fn.bodyX (N := 41) hτ Try.func105 rfl rfl rfl rfl ?_
  refine sk ⟨[(0, lV (l.map d180)), (1, iV k)], [], 80⟩ ?_
  refine X.seq ?_
  refine sk ⟨[(0, lV (l.map d180)), (1, iV k), (5, iV 0)], [], 96⟩ ?_
  refine X.block ?_
  -- 2: v1 : Int, v5 : Int
  refine X.loop (σ := { g : Int × Int // (fun (v1 : Int) (v5 : Int) => 0 ≤ v5 ∧ v1 = k) g.1 g.2 }) (fun g => (fun (v1 : Int) (v5 : Int) => ⟨[(0, lV (l.map d180)), (1, iV v1), (5, iV v5)], [], 96⟩) g.1.1 g.1.2) (fun g => (fun (v1 : Int) (v5 : Int) => (0 : Nat)) g.1.1 g.1.2) ⟨(k, 0), ⟨by first | omega | (dsimp only; omega), rfl⟩⟩ (Wk.less (by kernel_rfl)) (fun g => ?_)
  obtain ⟨⟨v1, v5⟩, hg2⟩ := g
  have hg2 : 0 ≤ v5 ∧ v1 = k := hg2
  obtain ⟨_, _⟩ := hg2
  refine X.seq ?_
  refine X.seq ?_
  have el3 : (l.map d180).length = l.length := List.length_map ..
  refine rk ⟨[(0, lV (l.map d180)), (1, iV v1), (5, iV v5), (9, bV (decide ((v5 : Int) < ((l.map d180).length : Int))))], [], 160⟩ ?_
  refine if_ (b := decide ((v5 : Int) < ((l.map d180).length : Int))) (fun hb4 => ?_) (fun hb4 => ?_)
  ·replace hb4 := of_decide_eq_true (hb4)
   refine X.skip ?_
   refine X.seq ?_
   refine X.block ?_
   refine X.seq ?_
   refine X.seq ?_
   exfalso; (try simp only [List.length_map] at *); omega
  ·replace hb4 := of_decide_eq_false (hb4)
   refine X.exit ?_
   refine sk ⟨[(4, iV v1)], [], 192⟩ ?_
   refine X.ret ?_
   exact ⟨trivial, _, _, ⟨v1, (by omega), rfl, rfl⟩, mkr⟩
 obtain ⟨_, _, ⟨r0, h1_, rfl, rfl⟩, hf⟩ := key
 exact ⟨r0, h1_, hf⟩

theorem l_eqProofS (l : List S183) (m : List S183) (hl : l.length = 0) (hm : m.length = 0) : ∃ r0 : Bool, (r0 = true) ∧ Fn Try.prog 97 [lV (l.map d183), lV (m.map d183)] (lookH []) (bV r0) (lookH []) := by
 have key : ∃ x' h', ((fun x' h' => ∃ r0 : Bool, (r0 = true) ∧ x' = bV r0 ∧ h' = [])) x' h' ∧ Fn Try.prog 97 [lV (l.map d183), lV (m.map d183)] (lookH []) x' (lookH h') := by
  refine Fn.bodyX (N := 27) hτ Try.func97 rfl rfl rfl rfl ?_
  refine sk ⟨[(0, lV (l.map d183)), (1, lV (m.map d183))], [], 80⟩ ?_
  refine X.seq ?_
  refine X.seq ?_
  have el1 : (l.map d183).length = l.length := List.length_map ..
  have el2 : (m.map d183).length = m.length := List.length_map ..
  refine rk ⟨[(0, lV (l.map d183)), (1, lV (m.map d183)), (10, bV (((l.map d183).length : Int) != ((m.map d183).length : Int)))], [], 160⟩ ?_
  refine if_ (b := (((l.map d183).length : Int) != ((m.map d183).length : Int))) (fun hb3 => ?_) (fun hb3 => ?_)
  ·replace hb3 := bne_iff_ne.1 (hb3)
   refine sk ⟨[(4, bV false)], [], 176⟩ ?_
   refine X.ret ?_
   exact ⟨trivial, _, _, ⟨false, (by first | exact rfl | exact (by exfalso; (try simp only [List.length_map] at *); omega)), rfl, rfl⟩, mkr⟩
  ·replace hb3 := bne_eq_false_iff_eq.1 (hb3)
   refine X.skip ?_
   refine X.seq ?_
   refine sk ⟨[(0, lV (l.map d183)), (1, lV (m.map d183)), (5, iV 0)], [], 176⟩ ?_
   refine X.block ?_
   -- 4: v5 : Int
   refine X.loop (σ := { g : Int // (fun (v5 : Int) => 0 ≤ v5) g }) (fun g => (fun (v5 : Int) => ⟨[(0, lV (l.map d183)), (1, lV (m.map d183)), (5, iV v5)], [], 176⟩) g.1) (fun g => (fun (v5 : Int) => (0 : Nat)) g.1) ⟨0, by first | omega | (dsimp only; omega)⟩ (Wk.less (by kernel_rfl)) (fun g => ?_)
   obtain ⟨v5, hg5⟩ := g
   have hg5 : 0 ≤ v5 := hg5
   refine X.seq ?_
   refine sk ⟨[(0, lV (l.map d183)), (1, lV (m.map d183)), (5, iV v5), (14, bV (decide ((v5 : Int) < ((l.map d183).length : Int))))], [], 240⟩ ?_
   refine if_ (b := decide ((v5 : Int) < ((l.map d183).length : Int))) (fun hb6 => ?_) (fun hb6 => ?_)
   ·replace hb6 := of_decide_eq_true (hb6)
    refine X.skip ?_
    refine X.seq ?_
    refine X.block ?_
    refine X.seq ?_
    exfalso; (try simp only [List.length_map] at *); omega
   ·replace hb6 := of_decide_eq_false (hb6)
    refine X.exit ?_
    refine sk ⟨[(4, bV true)], [], 256⟩ ?_
    refine X.ret ?_
    exact ⟨trivial, _, _, ⟨true, (by first | exact rfl | exact (by exfalso; (try simp only [List.length_map] at *); omega)), rfl, rfl⟩, mkr⟩
 obtain ⟨_, _, ⟨r0, h1_, rfl, rfl⟩, hf⟩ := key
 exact ⟨r0, h1_, hf⟩

theorem l_markProofS (l : List S183) (k : Int) (hl : l.length = 0) (hk : 0 ≤ k ∧ k ≤ 100000000) : ∃ r0 : Int, ∃ q0 : List S183, (q0.length = 0 ∧ r0 = k) ∧ Fn Try.prog 100 [rV 0, iV k] (lookH [(0, some (.row 5 183 (l.map d183) false true))]) (iV r0) (lookH [(0, some (.row 5 183 (q0.map d183) false true))]) := by
 have key : ∃ x' h', ((fun x' h' => ∃ r0 : Int, ∃ q0 : List S183, (q0.length = 0 ∧ r0 = k) ∧ x' = iV r0 ∧ h' = [(0, some (.row 5 183 (q0.map d183) false true))])) x' h' ∧ Fn Try.prog 100 [rV 0, iV k] (lookH [(0, some (.row 5 183 (l.map d183) false true))]) x' (lookH h') := by
  refine Fn.bodyX (N := 51) hτ Try.func100 rfl rfl rfl rfl ?_
  refine sk ⟨[(0, rV 0), (1, iV k)], [(0, some (.row 5 183 (l.map d183) false true))], 80⟩ ?_
  refine X.seq ?_
  refine sk ⟨[(0, rV 0), (1, iV k), (5, iV 0)], [(0, some (.row 5 183 (l.map d183) false true))], 96⟩ ?_
  refine X.block ?_
  -- 2: L0 : List S183, v1 : Int, v5 : Int
  refine X.loop (σ := { g : (List S183) × Int × Int // (fun (L0 : List S183) (v1 : Int) (v5 : Int) => 0 ≤ v5 ∧ L0.length = 0 ∧ v1 = k) g.1 g.2.1 g.2.2 }) (fun g => (fun (L0 : List S183) (v1 : Int) (v5 : Int) => ⟨[(0, rV 0), (1, iV v1), (5, iV v5)], [(0, some (.row 5 183 (L0.map d183) false true))], 96⟩) g.1.1 g.1.2.1 g.1.2.2) (fun g => (fun (L0 : List S183) (v1 : Int) (v5 : Int) => (0 : Nat)) g.1.1 g.1.2.1 g.1.2.2) ⟨(l, k, 0), ⟨by first | omega | (dsimp only; omega), by first | omega | (dsimp only; omega), rfl⟩⟩ (Wk.less (by kernel_rfl)) (fun g => ?_)
  obtain ⟨⟨L0, v1, v5⟩, hg2⟩ := g
  have hg2 : 0 ≤ v5 ∧ L0.length = 0 ∧ v1 = k := hg2
  obtain ⟨_, hL, _⟩ := hg2
  refine X.seq ?_
  refine X.seq ?_
  have el3 : (L0.map d183).length = L0.length := List.length_map ..
  refine rk ⟨[(0, rV 0), (1, iV v1), (5, iV v5), (9, bV (decide ((v5 : Int) < ((L0.map d183).length : Int))))], [(0, some (.row 5 183 (L0.map d183) false true))], 160⟩ ?_
  refine if_ (b := decide ((v5 : Int) < ((L0.map d183).length : Int))) (fun hb4 => ?_) (fun hb4 => ?_)
  ·replace hb4 := of_decide_eq_true (hb4)
   refine X.skip ?_
   refine X.seq ?_
   refine X.block ?_
   refine X.seq ?_
   exfalso; (try simp only [List.length_map] at *); omega
  ·replace hb4 := of_decide_eq_false (hb4)
   refine X.exit ?_
   refine sk ⟨[(4, iV v1)], [(0, some (.row 5 183 (L0.map d183) false true))], 192⟩ ?_
   refine X.ret ?_
   exact ⟨trivial, _, _, ⟨v1, L0, ⟨hL, by omega⟩, rfl, rfl⟩, mkr⟩
 obtain ⟨_, _, ⟨r0, q0, h1_, rfl, rfl⟩, hf⟩ := key
 exact ⟨r0, q0, h1_, hf⟩

theorem l_heldProofS (l : List S183) (k : Int) (hl : l.length = 0) (hk : 0 ≤ k ∧ k ≤ 100000000) : ∃ r0 : Int, (r0 = k) ∧ Fn Try.prog 106 [lV (l.map d183), iV k] (lookH []) (iV r0) (lookH []) := by
 have key : ∃ x' h', ((fun x' h' => ∃ r0 : Int, (r0 = k) ∧ x' = iV r0 ∧ h' = [])) x' h' ∧ Fn Try.prog 106 [lV (l.map d183), iV k] (lookH []) x' (lookH h') := by
  refine Fn.bodyX (N := 61) hτ Try.func106 rfl rfl rfl rfl ?_
  refine sk ⟨[(0, lV (l.map d183)), (1, iV k)], [], 80⟩ ?_
  refine X.seq ?_
  refine sk ⟨[(0, lV (l.map d183)), (1, iV k), (5, iV 0)], [], 96⟩ ?_
  refine X.block ?_
  -- 2: v1 : Int, v5 : Int
  refine X.loop (σ := { g : Int × Int // (fun (v1 : Int) (v5 : Int) => 0 ≤ v5 ∧ v1 = k) g.1 g.2 }) (fun g => (fun (v1 : Int) (v5 : Int) => ⟨[(0, lV (l.map d183)), (1, iV v1), (5, iV v5)], [], 96⟩) g.1.1 g.1.2) (fun g => (fun (v1 : Int) (v5 : Int) => (0 : Nat)) g.1.1 g.1.2) ⟨(k, 0), ⟨by first | omega | (dsimp only; omega), rfl⟩⟩ (Wk.less (by kernel_rfl)) (fun g => ?_)
  obtain ⟨⟨v1, v5⟩, hg2⟩ := g
  have hg2 : 0 ≤ v5 ∧ v1 = k := hg2
  obtain ⟨_, _⟩ := hg2
  refine X.seq ?_
  refine X.seq ?_
  have el3 : (l.map d183).length = l.length := List.length_map ..
  refine rk ⟨[(0, lV (l.map d183)), (1, iV v1), (5, iV v5), (9, bV (decide ((v5 : Int) < ((l.map d183).length : Int))))], [], 160⟩ ?_
  refine if_ (b := decide ((v5 : Int) < ((l.map d183).length : Int))) (fun hb4 => ?_) (fun hb4 => ?_)
  ·replace hb4 := of_decide_eq_true (hb4)
   refine X.skip ?_
   refine X.seq ?_
   refine X.block ?_
   refine X.seq ?_
   refine X.seq ?_
   exfalso; (try simp only [List.length_map] at *); omega
  ·replace hb4 := of_decide_eq_false (hb4)
   refine X.exit ?_
   refine sk ⟨[(4, iV v1)], [], 192⟩ ?_
   refine X.ret ?_
   exact ⟨trivial, _, _, ⟨v1, (by omega), rfl, rfl⟩, mkr⟩
 obtain ⟨_, _, ⟨r0, h1_, rfl, rfl⟩, hf⟩ := key
 exact ⟨r0, h1_, hf⟩

theorem l_eqNode (a : S83) (b : S83) (he : a = b) (hS : acsSm a.f2.f1) (hL : a.f3.length ≤ 2000000) (hE : ndE a) : ∃ r0 : Bool, (r0 = true) ∧ Fn Try.prog 37 [.e (.agg (cD (d83 a))), .e (.agg (cD (d83 b)))] (lookH []) (bV r0) (lookH []) := by
 have key : ∃ x' h', ((fun x' h' => ∃ r0 : Bool, (r0 = true) ∧ x' = bV r0 ∧ h' = [])) x' h' ∧ Fn Try.prog 37 [.e (.agg (cD (d83 a))), .e (.agg (cD (d83 b)))] (lookH []) x' (lookH h') := by
  refine Fn.bodyX (N := 90) hτ Try.func37 rfl rfl rfl rfl ?_
  refine sk ⟨[(2, .pt 64 0 0), (3, .pt 80 0 0)], [(64, some (.box (cD (d83 a)))), (80, some (.box (cD (d83 b))))], 112⟩ ?_
  refine X.seq ?_
  refine X.seq ?_
  have hSb : acsSm b.f2.f1 := he ▸ hS
  have hLb : b.f3.length ≤ 2000000 := he ▸ hL
  have hEb : ndE b := he ▸ hE
  obtain ⟨e4, e7, e81, e82, e10, e11, e12, e13, e14⟩ := hE
  obtain ⟨f4, f7, f81, f82, f10, f11, f12, f13, f14⟩ := hEb
  have qa72 : a.f7.f2.length ≤ 2000000 := by omega
  have qa81 : a.f8.f1.length ≤ 2000000 := by omega
  have qa82 : a.f8.f2.length ≤ 2000000 := by omega
  have qb72 : b.f7.f2.length ≤ 2000000 := by omega
  have qb81 : b.f8.f1.length ≤ 2000000 := by omega
  have qb82 : b.f8.f2.length ≤ 2000000 := by omega
  refine rk ⟨[(2, .pt 64 0 0), (3, .pt 80 0 0), (9, bV (!(a.f0.toList == b.f0.toList)))], [(64, some (.box (cD (d83 a)))), (80, some (.box (cD (d83 b))))], 192⟩ ?_
  refine if_ (b := !(a.f0.toList == b.f0.toList)) (fun hb1 => ?_) (fun hb1 => ?_)
  ·replace hb1 := beq_no (bnot_yes (hb1))
   refine sk ⟨[(4, bV false)], [], 208⟩ ?_
   refine X.ret ?_
   exact ⟨trivial, _, _, ⟨false, (by first | exact rfl | exact (by subst he; exact tf (eqV_self _) ‹_›) | exact (by subst he; exact tf (allEq_self _) ‹_›) | exact (by subst he; exact tf (sameQ_rf _) ‹_›) | exact (by subst he; exact tf (sameT_rf _) ‹_›) | exact (by subst he; exact absurd rfl ‹_›) | exact (by simp_all)), rfl, rfl⟩, mkr⟩
  ·replace hb1 := beq_yes (bnot_no (hb1))
   refine X.skip ?_
   refine X.seq ?_
   refine sk ⟨[(2, .pt 64 0 0), (3, .pt 80 0 0), (14, bV (a.f1 != b.f1))], [(64, some (.box (cD (d83 a)))), (80, some (.box (cD (d83 b))))], 272⟩ ?_
   refine if_ (b := (a.f1 != b.f1)) (fun hb2 => ?_) (fun hb2 => ?_)
   ·replace hb2 := bne_iff_ne.1 (hb2)
    refine sk ⟨[(4, bV false)], [], 288⟩ ?_
    refine X.ret ?_
    exact ⟨trivial, _, _, ⟨false, (by first | exact rfl | exact (by subst he; exact tf (eqV_self _) ‹_›) | exact (by subst he; exact tf (allEq_self _) ‹_›) | exact (by subst he; exact tf (sameQ_rf _) ‹_›) | exact (by subst he; exact tf (sameT_rf _) ‹_›) | exact (by subst he; exact absurd rfl ‹_›) | exact (by simp_all)), rfl, rfl⟩, mkr⟩
   ·replace hb2 := bne_eq_false_iff_eq.1 (hb2)
    refine X.skip ?_
    refine X.seq ?_
    refine X.seq (rs 4 ?_)
    obtain ⟨r3, hr5, hf4⟩ := l_eqLedger a.f2 b.f2 (by assumption) (by assumption)
    replace hr5 := hr5.symm; subst hr5
    refine ca hf4 Try.func20 ?_
    refine go 1 ?_
    refine ek ⟨[(2, .pt 64 0 0), (3, .pt 80 0 0), (20, bV (!(eqV a.f2 b.f2)))], [(64, some (.box (cD (d83 a)))), (80, some (.box (cD (d83 b))))], 368⟩ ?_
    refine if_ (b := !(eqV a.f2 b.f2)) (fun hb7 => ?_) (fun hb7 => ?_)
    ·replace hb7 := bnot_yes (hb7)
     refine sk ⟨[(4, bV false)], [], 384⟩ ?_
     refine X.ret ?_
     exact ⟨trivial, _, _, ⟨false, (by first | exact rfl | exact (by subst he; exact tf (eqV_self _) ‹_›) | exact (by subst he; exact tf (allEq_self _) ‹_›) | exact (by subst he; exact tf (sameQ_rf _) ‹_›) | exact (by subst he; exact tf (sameT_rf _) ‹_›) | exact (by subst he; exact absurd rfl ‹_›) | exact (by simp_all)), rfl, rfl⟩, mkr⟩
    ·replace hb7 := bnot_no (hb7)
     refine X.skip ?_
     refine X.seq ?_
     refine X.seq (rs 4 ?_)
     obtain ⟨r8, hr10, hf9⟩ := l_eqValS a.f3 b.f3 (by first | assumption | omega) (by first | assumption | omega)
     replace hr10 := hr10.symm; subst hr10
     refine ca hf9 Try.func77 ?_
     refine go 1 ?_
     refine ek ⟨[(2, .pt 64 0 0), (3, .pt 80 0 0), (26, bV (!(allEq a.f3 b.f3)))], [(64, some (.box (cD (d83 a)))), (80, some (.box (cD (d83 b))))], 464⟩ ?_
     refine if_ (b := !(allEq a.f3 b.f3)) (fun hb12 => ?_) (fun hb12 => ?_)
     ·replace hb12 := bnot_yes (hb12)
      refine sk ⟨[(4, bV false)], [], 480⟩ ?_
      refine X.ret ?_
      exact ⟨trivial, _, _, ⟨false, (by first | exact rfl | exact (by subst he; exact tf (eqV_self _) ‹_›) | exact (by subst he; exact tf (allEq_self _) ‹_›) | exact (by subst he; exact tf (sameQ_rf _) ‹_›) | exact (by subst he; exact tf (sameT_rf _) ‹_›) | exact (by subst he; exact absurd rfl ‹_›) | exact (by simp_all)), rfl, rfl⟩, mkr⟩
     ·replace hb12 := bnot_no (hb12)
      refine X.skip ?_
      refine X.seq ?_
      refine X.seq (rs 4 ?_)
      obtain ⟨r13, hr15, hf14⟩ := l_eqBlockS a.f4 b.f4 (by assumption) (by assumption)
      replace hr15 := hr15.symm; subst hr15
      refine ca hf14 Try.func30 ?_
      refine go 1 ?_
      refine ek ⟨[(2, .pt 64 0 0), (3, .pt 80 0 0), (32, bV false)], [(64, some (.box (cD (d83 a)))), (80, some (.box (cD (d83 b))))], 560⟩ ?_
      refine X.ifF (by kernel_rfl) ?_
      refine X.skip ?_
      refine X.seq ?_
      refine sk ⟨[(2, .pt 64 0 0), (3, .pt 80 0 0), (37, bV (a.f5 != b.f5))], [(64, some (.box (cD (d83 a)))), (80, some (.box (cD (d83 b))))], 640⟩ ?_
      refine if_ (b := (a.f5 != b.f5)) (fun hb17 => ?_) (fun hb17 => ?_)
      ·replace hb17 := bne_iff_ne.1 (hb17)
       refine sk ⟨[(4, bV false)], [], 656⟩ ?_
       refine X.ret ?_
       exact ⟨trivial, _, _, ⟨false, (by first | exact rfl | exact (by subst he; exact tf (eqV_self _) ‹_›) | exact (by subst he; exact tf (allEq_self _) ‹_›) | exact (by subst he; exact tf (sameQ_rf _) ‹_›) | exact (by subst he; exact tf (sameT_rf _) ‹_›) | exact (by subst he; exact absurd rfl ‹_›) | exact (by simp_all)), rfl, rfl⟩, mkr⟩
      ·replace hb17 := bne_eq_false_iff_eq.1 (hb17)
       refine X.skip ?_
       refine X.seq ?_
       refine sk ⟨[(2, .pt 64 0 0), (3, .pt 80 0 0), (42, bV (a.f6 != b.f6))], [(64, some (.box (cD (d83 a)))), (80, some (.box (cD (d83 b))))], 720⟩ ?_
       refine if_ (b := (a.f6 != b.f6)) (fun hb18 => ?_) (fun hb18 => ?_)
       ·replace hb18 := bne_iff_ne.1 (hb18)
        refine sk ⟨[(4, bV false)], [], 736⟩ ?_
        refine X.ret ?_
        exact ⟨trivial, _, _, ⟨false, (by first | exact rfl | exact (by subst he; exact tf (eqV_self _) ‹_›) | exact (by subst he; exact tf (allEq_self _) ‹_›) | exact (by subst he; exact tf (sameQ_rf _) ‹_›) | exact (by subst he; exact tf (sameT_rf _) ‹_›) | exact (by subst he; exact absurd rfl ‹_›) | exact (by simp_all)), rfl, rfl⟩, mkr⟩
       ·replace hb18 := bne_eq_false_iff_eq.1 (hb18)
        refine X.skip ?_
        refine X.seq ?_
        refine X.seq (rs 4 ?_)
        obtain ⟨r19, hr21, hf20⟩ := l_eqQc a.f7 b.f7 (by assumption) (by assumption)
        replace hr21 := hr21.symm; subst hr21
        refine ca hf20 Try.func75 ?_
        refine go 1 ?_
        refine ek ⟨[(2, .pt 64 0 0), (3, .pt 80 0 0), (48, bV (!(sameQ a.f7 b.f7)))], [(64, some (.box (cD (d83 a)))), (80, some (.box (cD (d83 b))))], 816⟩ ?_
        refine if_ (b := !(sameQ a.f7 b.f7)) (fun hb23 => ?_) (fun hb23 => ?_)
        ·replace hb23 := bnot_yes (hb23)
         refine sk ⟨[(4, bV false)], [], 832⟩ ?_
         refine X.ret ?_
         exact ⟨trivial, _, _, ⟨false, (by first | exact rfl | exact (by subst he; exact tf (eqV_self _) ‹_›) | exact (by subst he; exact tf (allEq_self _) ‹_›) | exact (by subst he; exact tf (sameQ_rf _) ‹_›) | exact (by subst he; exact tf (sameT_rf _) ‹_›) | exact (by subst he; exact absurd rfl ‹_›) | exact (by simp_all)), rfl, rfl⟩, mkr⟩
        ·replace hb23 := bnot_no (hb23)
         refine X.skip ?_
         refine X.seq ?_
         refine X.seq (rs 4 ?_)
         obtain ⟨r24, hr26, hf25⟩ := l_eqTc a.f8 b.f8 (by assumption) (by assumption) (by assumption) (by assumption)
         replace hr26 := hr26.symm; subst hr26
         refine ca hf25 Try.func76 ?_
         refine go 1 ?_
         refine ek ⟨[(2, .pt 64 0 0), (3, .pt 80 0 0), (54, bV (!(sameT a.f8 b.f8)))], [(64, some (.box (cD (d83 a)))), (80, some (.box (cD (d83 b))))], 912⟩ ?_
         refine if_ (b := !(sameT a.f8 b.f8)) (fun hb28 => ?_) (fun hb28 => ?_)
         ·replace hb28 := bnot_yes (hb28)
          refine sk ⟨[(4, bV false)], [], 928⟩ ?_
          refine X.ret ?_
          exact ⟨trivial, _, _, ⟨false, (by first | exact rfl | exact (by subst he; exact tf (eqV_self _) ‹_›) | exact (by subst he; exact tf (allEq_self _) ‹_›) | exact (by subst he; exact tf (sameQ_rf _) ‹_›) | exact (by subst he; exact tf (sameT_rf _) ‹_›) | exact (by subst he; exact absurd rfl ‹_›) | exact (by simp_all)), rfl, rfl⟩, mkr⟩
         ·replace hb28 := bnot_no (hb28)
          refine X.skip ?_
          refine X.seq ?_
          refine sk ⟨[(2, .pt 64 0 0), (3, .pt 80 0 0), (59, bV (a.f9 != b.f9))], [(64, some (.box (cD (d83 a)))), (80, some (.box (cD (d83 b))))], 992⟩ ?_
          refine if_ (b := (a.f9 != b.f9)) (fun hb29 => ?_) (fun hb29 => ?_)
          ·replace hb29 := bne_iff_ne.1 (hb29)
           refine sk ⟨[(4, bV false)], [], 1008⟩ ?_
           refine X.ret ?_
           exact ⟨trivial, _, _, ⟨false, (by first | exact rfl | exact (by subst he; exact tf (eqV_self _) ‹_›) | exact (by subst he; exact tf (allEq_self _) ‹_›) | exact (by subst he; exact tf (sameQ_rf _) ‹_›) | exact (by subst he; exact tf (sameT_rf _) ‹_›) | exact (by subst he; exact absurd rfl ‹_›) | exact (by simp_all)), rfl, rfl⟩, mkr⟩
          ·replace hb29 := bne_eq_false_iff_eq.1 (hb29)
           refine X.skip ?_
           refine X.seq ?_
           refine X.seq (rs 4 ?_)
           obtain ⟨r30, hr32, hf31⟩ := l_eqVoteS a.f10 b.f10 (by assumption) (by assumption)
           replace hr32 := hr32.symm; subst hr32
           refine ca hf31 Try.func94 ?_
           refine go 1 ?_
           refine ek ⟨[(2, .pt 64 0 0), (3, .pt 80 0 0), (65, bV false)], [(64, some (.box (cD (d83 a)))), (80, some (.box (cD (d83 b))))], 1088⟩ ?_
           refine X.ifF (by kernel_rfl) ?_
           refine X.skip ?_
           refine X.seq ?_
           refine X.seq (rs 4 ?_)
           obtain ⟨r34, hr36, hf35⟩ := l_eqGoneS a.f11 b.f11 (by assumption) (by assumption)
           replace hr36 := hr36.symm; subst hr36
           refine ca hf35 Try.func95 ?_
           refine go 1 ?_
           refine ek ⟨[(2, .pt 64 0 0), (3, .pt 80 0 0), (71, bV false)], [(64, some (.box (cD (d83 a)))), (80, some (.box (cD (d83 b))))], 1184⟩ ?_
           refine X.ifF (by kernel_rfl) ?_
           refine X.skip ?_
           refine X.seq ?_
           refine X.seq (rs 4 ?_)
           obtain ⟨r38, hr40, hf39⟩ := l_eqIntS a.f12 b.f12 (by first | assumption | omega) (by first | assumption | omega)
           replace hr40 := hr40.symm; subst hr40
           refine ca hf39 Try.func96 ?_
           refine go 1 ?_
           refine ek ⟨[(2, .pt 64 0 0), (3, .pt 80 0 0), (77, bV (!(allEq a.f12 b.f12)))], [(64, some (.box (cD (d83 a)))), (80, some (.box (cD (d83 b))))], 1280⟩ ?_
           refine if_ (b := !(allEq a.f12 b.f12)) (fun hb42 => ?_) (fun hb42 => ?_)
           ·replace hb42 := bnot_yes (hb42)
            refine sk ⟨[(4, bV false)], [], 1296⟩ ?_
            refine X.ret ?_
            exact ⟨trivial, _, _, ⟨false, (by first | exact rfl | exact (by subst he; exact tf (eqV_self _) ‹_›) | exact (by subst he; exact tf (allEq_self _) ‹_›) | exact (by subst he; exact tf (sameQ_rf _) ‹_›) | exact (by subst he; exact tf (sameT_rf _) ‹_›) | exact (by subst he; exact absurd rfl ‹_›) | exact (by simp_all)), rfl, rfl⟩, mkr⟩
           ·replace hb42 := bnot_no (hb42)
            refine X.skip ?_
            refine X.seq ?_
            refine X.seq (rs 4 ?_)
            obtain ⟨r43, hr45, hf44⟩ := l_eqTxS a.f13 b.f13 (by first | assumption | omega) (by first | assumption | omega)
            replace hr45 := hr45.symm; subst hr45
            refine ca hf44 Try.func19 ?_
            refine go 1 ?_
            refine ek ⟨[(2, .pt 64 0 0), (3, .pt 80 0 0), (83, bV (!(allEq a.f13 b.f13)))], [(64, some (.box (cD (d83 a)))), (80, some (.box (cD (d83 b))))], 1376⟩ ?_
            refine if_ (b := !(allEq a.f13 b.f13)) (fun hb47 => ?_) (fun hb47 => ?_)
            ·replace hb47 := bnot_yes (hb47)
             refine sk ⟨[(4, bV false)], [], 1392⟩ ?_
             refine X.ret ?_
             exact ⟨trivial, _, _, ⟨false, (by first | exact rfl | exact (by subst he; exact tf (eqV_self _) ‹_›) | exact (by subst he; exact tf (allEq_self _) ‹_›) | exact (by subst he; exact tf (sameQ_rf _) ‹_›) | exact (by subst he; exact tf (sameT_rf _) ‹_›) | exact (by subst he; exact absurd rfl ‹_›) | exact (by simp_all)), rfl, rfl⟩, mkr⟩
            ·replace hb47 := bnot_no (hb47)
             refine X.skip ?_
             refine X.seq ?_
             refine X.seq (rs 4 ?_)
             obtain ⟨r48, hr50, hf49⟩ := l_eqProofS a.f14 b.f14 (by assumption) (by assumption)
             replace hr50 := hr50.symm; subst hr50
             refine ca hf49 Try.func97 ?_
             refine go 1 ?_
             refine ek ⟨[(89, bV false)], [], 1472⟩ ?_
             refine X.ifF (by kernel_rfl) ?_
             refine X.skip ?_
             refine sk ⟨[(4, bV true)], [], 1488⟩ ?_
             refine X.ret ?_
             exact ⟨trivial, _, _, ⟨true, (by first | exact rfl | exact (by subst he; exact tf (eqV_self _) ‹_›) | exact (by subst he; exact tf (allEq_self _) ‹_›) | exact (by subst he; exact tf (sameQ_rf _) ‹_›) | exact (by subst he; exact tf (sameT_rf _) ‹_›) | exact (by subst he; exact absurd rfl ‹_›) | exact (by simp_all)), rfl, rfl⟩, mkr⟩
 obtain ⟨_, _, ⟨r0, h1_, rfl, rfl⟩, hf⟩ := key
 exact ⟨r0, h1_, hf⟩

theorem l_markNode (n : S83) (k : Int) (hS : acsSm n.f2.f1) (hL : n.f3.length ≤ 2000000) (hk : 0 ≤ k ∧ k + 4 * n.f2.f1.length + 2 * acT n.f2.f1 + 2 * n.f3.length ≤ 20000000) (hE : ndE n) : ∃ r0 : Int, ∃ q0 : List S38, ∃ q1 : List S165, ∃ q2 : List S72, ∃ q3 : List ByteArray, ∃ q4 : List ByteArray, ∃ q5 : List Int, ∃ q6 : List S177, ∃ q7 : List S180, ∃ q8 : List Int, ∃ q9 : List S35, ∃ q10 : List S183, (q0.length = n.f2.f1.length ∧ acT q0 = acT n.f2.f1 ∧ q1.length = n.f3.length ∧ (q2.length = 0 ∧ q3.length = 0 ∧ q4.length = 0 ∧ q5.length = 0 ∧ q6.length = 0 ∧ q7.length = 0 ∧ q8.length = 0 ∧ q9.length = 0 ∧ q10.length = 0) ∧ r0 = k + 4 * n.f2.f1.length + 2 * acT n.f2.f1 + 2 * n.f3.length ∧ Upto (mkA k q0) (fun m => q0[m]?) n.f2.f1.length ∧ Upto (mkVal (k + 4 * n.f2.f1.length + 2 * acT n.f2.f1)) (fun m => q1[m]?) n.f3.length) ∧ Fn Try.prog 38 [.e (.agg [.d (.v (.string n.f0)), .d (.v (.int .i64 n.f1)), .d (.v (.int .i64 n.f2.f0)), .ref 0, .ref 1, .ref 2, .d (.v (.int .i64 n.f5)), .d (.v (.int .i64 n.f6)), .d (.v (.int .i64 n.f7.f0)), .d (.v (.int .i64 n.f7.f1)), .ref 3, .d (.v (.int .i64 n.f8.f0)), .ref 4, .ref 5, .d (.v (.int .i64 n.f9)), .ref 6, .ref 7, .ref 8, .ref 9, .ref 10]), iV k] (lookH [(0, some (.nst 5 38 [(4, 2, 188)] (n.f2.f1.map d38) [])), (1, some (.row 2 165 (n.f3.map d165) false true)), (2, some (.row 14 72 (n.f4.map d72) false true)), (3, some (.row 1 9 (n.f7.f2.map dS) false true)), (4, some (.row 1 9 (n.f8.f1.map dS) false true)), (5, some (.row 1 3 (n.f8.f2.map dI) false true)), (6, some (.row 3 177 (n.f10.map d177) false true)), (7, some (.row 3 180 (n.f11.map d180) false true)), (8, some (.row 1 3 (n.f12.map dI) false true)), (9, some (.row 5 35 (n.f13.map d35) false true)), (10, some (.row 5 183 (n.f14.map d183) false true))]) (iV r0) (lookH [(0, some (.nst 5 38 [(4, 2, 188)] (q0.map d38) [])), (1, some (.row 2 165 (q1.map d165) false true)), (2, some (.row 14 72 (q2.map d72) false true)), (3, some (.row 1 9 (q3.map dS) false true)), (4, some (.row 1 9 (q4.map dS) false true)), (5, some (.row 1 3 (q5.map dI) false true)), (6, some (.row 3 177 (q6.map d177) false true)), (7, some (.row 3 180 (q7.map d180) false true)), (8, some (.row 1 3 (q8.map dI) false true)), (9, some (.row 5 35 (q9.map d35) false true)), (10, some (.row 5 183 (q10.map d183) false true))]) := by
 have key : ∃ x' h', ((fun x' h' => ∃ r0 : Int, ∃ q0 : List S38, ∃ q1 : List S165, ∃ q2 : List S72, ∃ q3 : List ByteArray, ∃ q4 : List ByteArray, ∃ q5 : List Int, ∃ q6 : List S177, ∃ q7 : List S180, ∃ q8 : List Int, ∃ q9 : List S35, ∃ q10 : List S183, (q0.length = n.f2.f1.length ∧ acT q0 = acT n.f2.f1 ∧ q1.length = n.f3.length ∧ (q2.length = 0 ∧ q3.length = 0 ∧ q4.length = 0 ∧ q5.length = 0 ∧ q6.length = 0 ∧ q7.length = 0 ∧ q8.length = 0 ∧ q9.length = 0 ∧ q10.length = 0) ∧ r0 = k + 4 * n.f2.f1.length + 2 * acT n.f2.f1 + 2 * n.f3.length ∧ Upto (mkA k q0) (fun m => q0[m]?) n.f2.f1.length ∧ Upto (mkVal (k + 4 * n.f2.f1.length + 2 * acT n.f2.f1)) (fun m => q1[m]?) n.f3.length) ∧ x' = iV r0 ∧ h' = [(0, some (.nst 5 38 [(4, 2, 188)] (q0.map d38) [])), (1, some (.row 2 165 (q1.map d165) false true)), (2, some (.row 14 72 (q2.map d72) false true)), (3, some (.row 1 9 (q3.map dS) false true)), (4, some (.row 1 9 (q4.map dS) false true)), (5, some (.row 1 3 (q5.map dI) false true)), (6, some (.row 3 177 (q6.map d177) false true)), (7, some (.row 3 180 (q7.map d180) false true)), (8, some (.row 1 3 (q8.map dI) false true)), (9, some (.row 5 35 (q9.map d35) false true)), (10, some (.row 5 183 (q10.map d183) false true))])) x' h' ∧ Fn Try.prog 38 [.e (.agg [.d (.v (.string n.f0)), .d (.v (.int .i64 n.f1)), .d (.v (.int .i64 n.f2.f0)), .ref 0, .ref 1, .ref 2, .d (.v (.int .i64 n.f5)), .d (.v (.int .i64 n.f6)), .d (.v (.int .i64 n.f7.f0)), .d (.v (.int .i64 n.f7.f1)), .ref 3, .d (.v (.int .i64 n.f8.f0)), .ref 4, .ref 5, .d (.v (.int .i64 n.f9)), .ref 6, .ref 7, .ref 8, .ref 9, .ref 10]), iV k] (lookH [(0, some (.nst 5 38 [(4, 2, 188)] (n.f2.f1.map d38) [])), (1, some (.row 2 165 (n.f3.map d165) false true)), (2, some (.row 14 72 (n.f4.map d72) false true)), (3, some (.row 1 9 (n.f7.f2.map dS) false true)), (4, some (.row 1 9 (n.f8.f1.map dS) false true)), (5, some (.row 1 3 (n.f8.f2.map dI) false true)), (6, some (.row 3 177 (n.f10.map d177) false true)), (7, some (.row 3 180 (n.f11.map d180) false true)), (8, some (.row 1 3 (n.f12.map dI) false true)), (9, some (.row 5 35 (n.f13.map d35) false true)), (10, some (.row 5 183 (n.f14.map d183) false true))]) x' (lookH h') := by
  refine Fn.bodyX (N := 46) hτ Try.func38 rfl rfl rfl rfl ?_
  refine sk ⟨[(1, iV k), (2, .pt 64 0 0)], [(0, some (.nst 5 38 [(4, 2, 188)] (n.f2.f1.map d38) [])), (1, some (.row 2 165 (n.f3.map d165) false true)), (2, some (.row 14 72 (n.f4.map d72) false true)), (3, some (.row 1 9 (n.f7.f2.map dS) false true)), (4, some (.row 1 9 (n.f8.f1.map dS) false true)), (5, some (.row 1 3 (n.f8.f2.map dI) false true)), (6, some (.row 3 177 (n.f10.map d177) false true)), (7, some (.row 3 180 (n.f11.map d180) false true)), (8, some (.row 1 3 (n.f12.map dI) false true)), (9, some (.row 5 35 (n.f13.map d35) false true)), (10, some (.row 5 183 (n.f14.map d183) false true)), (64, some (.box [.d (.v (.string n.f0)), .d (.v (.int .i64 n.f1)), .d (.v (.int .i64 n.f2.f0)), .ref 0, .ref 1, .ref 2, .d (.v (.int .i64 n.f5)), .d (.v (.int .i64 n.f6)), .d (.v (.int .i64 n.f7.f0)), .d (.v (.int .i64 n.f7.f1)), .ref 3, .d (.v (.int .i64 n.f8.f0)), .ref 4, .ref 5, .d (.v (.int .i64 n.f9)), .ref 6, .ref 7, .ref 8, .ref 9, .ref 10]))], 96⟩ ?_
  refine X.seq ?_
  obtain ⟨e4, e7, e81, e82, e10, e11, e12, e13, e14⟩ := hE
  have q72 : n.f7.f2.length ≤ 2000000 := by omega
  have q81 : n.f8.f1.length ≤ 2000000 := by omega
  have q82 : n.f8.f2.length ≤ 2000000 := by omega
  refine rs 3 ?_
  obtain ⟨r1, q2, hr4, hf3⟩ := l_markLedgerx n.f2 k (by assumption) (by first | assumption | omega)
  obtain ⟨hal, hat, hak, ham⟩ := hr4
  refine CH.callG hf3 Try.func22 ⟨rfl, rfl⟩ [(0, 0)] (by kernel_rfl) (by kernel_rfl) (by kernel_rfl) (nb := true) (fun _ => (back_consN 5 38 [(4, 2, 188)] (n.f2.f1.map d38) 38 [(4, 2, 188)] (q2.map d38) (by kernel_rfl) (by kernel_rfl) (by first | (simp; done) | (simp only [List.length_map]; first | assumption | omega) | (simp; omega)) back_nil)) (by kernel_rfl) ?_
  refine go 1 ?_
  refine ek ⟨[(1, iV r1), (2, .pt 64 0 0)], [(0, some (.nst 5 38 [(4, 2, 188)] (q2.map d38) [])), (1, some (.row 2 165 (n.f3.map d165) false true)), (2, some (.row 14 72 (n.f4.map d72) false true)), (3, some (.row 1 9 (n.f7.f2.map dS) false true)), (4, some (.row 1 9 (n.f8.f1.map dS) false true)), (5, some (.row 1 3 (n.f8.f2.map dI) false true)), (6, some (.row 3 177 (n.f10.map d177) false true)), (7, some (.row 3 180 (n.f11.map d180) false true)), (8, some (.row 1 3 (n.f12.map dI) false true)), (9, some (.row 5 35 (n.f13.map d35) false true)), (10, some (.row 5 183 (n.f14.map d183) false true)), (64, some (.box [.d (.v (.string n.f0)), .d (.v (.int .i64 n.f1)), .d (.v (.int .i64 n.f2.f0)), .ref 0, .ref 1, .ref 2, .d (.v (.int .i64 n.f5)), .d (.v (.int .i64 n.f6)), .d (.v (.int .i64 n.f7.f0)), .d (.v (.int .i64 n.f7.f1)), .ref 3, .d (.v (.int .i64 n.f8.f0)), .ref 4, .ref 5, .d (.v (.int .i64 n.f9)), .ref 6, .ref 7, .ref 8, .ref 9, .ref 10]))], 176⟩ ?_
  refine X.seq ?_
  have g0 := hal
  have gt := hat
  have gk := hak
  have gm := ham
  refine rs 3 ?_
  obtain ⟨r5, q6, hr8, hf7⟩ := l_markValS n.f3 r1 (by first | assumption | omega) (by first | assumption | omega)
  obtain ⟨hql, hqk, hqm⟩ := hr8
  refine CH.callB hf7 Try.func80 ⟨rfl, rfl⟩ 1 2 165 (n.f3.map d165) true 165 (q6.map d165) (by kernel_rfl) (by kernel_rfl) (by kernel_rfl) (by kernel_rfl) (by kernel_rfl) (by first | (simp; done) | (simp; omega)) (by kernel_rfl) ?_
  refine go 1 ?_
  refine ek ⟨[(1, iV r5), (2, .pt 64 0 0)], [(0, some (.nst 5 38 [(4, 2, 188)] (q2.map d38) [])), (1, some (.row 2 165 (q6.map d165) false true)), (2, some (.row 14 72 (n.f4.map d72) false true)), (3, some (.row 1 9 (n.f7.f2.map dS) false true)), (4, some (.row 1 9 (n.f8.f1.map dS) false true)), (5, some (.row 1 3 (n.f8.f2.map dI) false true)), (6, some (.row 3 177 (n.f10.map d177) false true)), (7, some (.row 3 180 (n.f11.map d180) false true)), (8, some (.row 1 3 (n.f12.map dI) false true)), (9, some (.row 5 35 (n.f13.map d35) false true)), (10, some (.row 5 183 (n.f14.map d183) false true)), (64, some (.box [.d (.v (.string n.f0)), .d (.v (.int .i64 n.f1)), .d (.v (.int .i64 n.f2.f0)), .ref 0, .ref 1, .ref 2, .d (.v (.int .i64 n.f5)), .d (.v (.int .i64 n.f6)), .d (.v (.int .i64 n.f7.f0)), .d (.v (.int .i64 n.f7.f1)), .ref 3, .d (.v (.int .i64 n.f8.f0)), .ref 4, .ref 5, .d (.v (.int .i64 n.f9)), .ref 6, .ref 7, .ref 8, .ref 9, .ref 10]))], 256⟩ ?_
  refine X.seq ?_
  have g1 := hql
  have g1m := hqm
  refine rs 3 ?_
  obtain ⟨r9, q10, hr12, hf11⟩ := l_markBlockS n.f4 r5 (by assumption) (by first | assumption | omega)
  obtain ⟨hdl, hdk⟩ := hr12
  refine CH.callB hf11 Try.func32 ⟨rfl, rfl⟩ 2 14 72 (n.f4.map d72) true 72 (q10.map d72) (by kernel_rfl) (by kernel_rfl) (by kernel_rfl) (by kernel_rfl) (by kernel_rfl) (by first | (simp; done) | (simp; omega)) (by kernel_rfl) ?_
  refine go 1 ?_
  refine ek ⟨[(1, iV r9), (2, .pt 64 0 0)], [(0, some (.nst 5 38 [(4, 2, 188)] (q2.map d38) [])), (1, some (.row 2 165 (q6.map d165) false true)), (2, some (.row 14 72 (q10.map d72) false true)), (3, some (.row 1 9 (n.f7.f2.map dS) false true)), (4, some (.row 1 9 (n.f8.f1.map dS) false true)), (5, some (.row 1 3 (n.f8.f2.map dI) false true)), (6, some (.row 3 177 (n.f10.map d177) false true)), (7, some (.row 3 180 (n.f11.map d180) false true)), (8, some (.row 1 3 (n.f12.map dI) false true)), (9, some (.row 5 35 (n.f13.map d35) false true)), (10, some (.row 5 183 (n.f14.map d183) false true)), (64, some (.box [.d (.v (.string n.f0)), .d (.v (.int .i64 n.f1)), .d (.v (.int .i64 n.f2.f0)), .ref 0, .ref 1, .ref 2, .d (.v (.int .i64 n.f5)), .d (.v (.int .i64 n.f6)), .d (.v (.int .i64 n.f7.f0)), .d (.v (.int .i64 n.f7.f1)), .ref 3, .d (.v (.int .i64 n.f8.f0)), .ref 4, .ref 5, .d (.v (.int .i64 n.f9)), .ref 6, .ref 7, .ref 8, .ref 9, .ref 10]))], 336⟩ ?_
  refine X.seq (rs 3 ?_)
  obtain ⟨r13, q14, hr16, hf15⟩ := l_markQc n.f7 r9 (by first | assumption | omega) (by first | assumption | omega)
  obtain ⟨hl0, hk0, hm0⟩ := hr16
  refine CH.callB hf15 Try.func81 ⟨rfl, rfl⟩ 3 1 9 (n.f7.f2.map dS) true 9 (q14.map dS) (by kernel_rfl) (by kernel_rfl) (by kernel_rfl) (by kernel_rfl) (by kernel_rfl) (by first | (simp; done) | (simp; omega)) (by kernel_rfl) ?_
  refine go 1 ?_
  refine ek ⟨[(1, iV r13), (2, .pt 64 0 0)], [(0, some (.nst 5 38 [(4, 2, 188)] (q2.map d38) [])), (1, some (.row 2 165 (q6.map d165) false true)), (2, some (.row 14 72 (q10.map d72) false true)), (3, some (.row 1 9 (q14.map dS) false true)), (4, some (.row 1 9 (n.f8.f1.map dS) false true)), (5, some (.row 1 3 (n.f8.f2.map dI) false true)), (6, some (.row 3 177 (n.f10.map d177) false true)), (7, some (.row 3 180 (n.f11.map d180) false true)), (8, some (.row 1 3 (n.f12.map dI) false true)), (9, some (.row 5 35 (n.f13.map d35) false true)), (10, some (.row 5 183 (n.f14.map d183) false true)), (64, some (.box [.d (.v (.string n.f0)), .d (.v (.int .i64 n.f1)), .d (.v (.int .i64 n.f2.f0)), .ref 0, .ref 1, .ref 2, .d (.v (.int .i64 n.f5)), .d (.v (.int .i64 n.f6)), .d (.v (.int .i64 n.f7.f0)), .d (.v (.int .i64 n.f7.f1)), .ref 3, .d (.v (.int .i64 n.f8.f0)), .ref 4, .ref 5, .d (.v (.int .i64 n.f9)), .ref 6, .ref 7, .ref 8, .ref 9, .ref 10]))], 416⟩ ?_
  refine X.seq (rs 3 ?_)
  obtain ⟨r17, q18, q19, hr21, hf20⟩ := l_markTc n.f8 r13 (by first | assumption | omega) (by first | assumption | omega) (by first | assumption | omega)
  obtain ⟨hl1, hl2, hk1, hm1, hm2⟩ := hr21
  refine CH.callG hf20 Try.func82 ⟨rfl, rfl⟩ [(4, 0), (5, 1)] (by kernel_rfl) (by kernel_rfl) (by kernel_rfl) (nb := true) (fun _ => (back_cons 1 9 (n.f8.f1.map dS) true 9 (q18.map dS) (by kernel_rfl) (by kernel_rfl) (by first | (simp; done) | (simp; omega)) (back_cons 1 3 (n.f8.f2.map dI) true 3 (q19.map dI) (by kernel_rfl) (by kernel_rfl) (by first | (simp; done) | (simp; omega)) back_nil))) (by kernel_rfl) ?_
  refine go 1 ?_
  refine ek ⟨[(1, iV r17), (2, .pt 64 0 0)], [(0, some (.nst 5 38 [(4, 2, 188)] (q2.map d38) [])), (1, some (.row 2 165 (q6.map d165) false true)), (2, some (.row 14 72 (q10.map d72) false true)), (3, some (.row 1 9 (q14.map dS) false true)), (4, some (.row 1 9 (q18.map dS) false true)), (5, some (.row 1 3 (q19.map dI) false true)), (6, some (.row 3 177 (n.f10.map d177) false true)), (7, some (.row 3 180 (n.f11.map d180) false true)), (8, some (.row 1 3 (n.f12.map dI) false true)), (9, some (.row 5 35 (n.f13.map d35) false true)), (10, some (.row 5 183 (n.f14.map d183) false true)), (64, some (.box [.d (.v (.string n.f0)), .d (.v (.int .i64 n.f1)), .d (.v (.int .i64 n.f2.f0)), .ref 0, .ref 1, .ref 2, .d (.v (.int .i64 n.f5)), .d (.v (.int .i64 n.f6)), .d (.v (.int .i64 n.f7.f0)), .d (.v (.int .i64 n.f7.f1)), .ref 3, .d (.v (.int .i64 n.f8.f0)), .ref 4, .ref 5, .d (.v (.int .i64 n.f9)), .ref 6, .ref 7, .ref 8, .ref 9, .ref 10]))], 496⟩ ?_
  refine X.seq (rs 3 ?_)
  obtain ⟨r22, q23, hr25, hf24⟩ := l_markVoteS n.f10 r17 (by assumption) (by first | assumption | omega)
  obtain ⟨hdl, hdk⟩ := hr25
  refine CH.callB hf24 Try.func98 ⟨rfl, rfl⟩ 6 3 177 (n.f10.map d177) true 177 (q23.map d177) (by kernel_rfl) (by kernel_rfl) (by kernel_rfl) (by kernel_rfl) (by kernel_rfl) (by first | (simp; done) | (simp; omega)) (by kernel_rfl) ?_
  refine go 1 ?_
  refine ek ⟨[(1, iV r22), (2, .pt 64 0 0)], [(0, some (.nst 5 38 [(4, 2, 188)] (q2.map d38) [])), (1, some (.row 2 165 (q6.map d165) false true)), (2, some (.row 14 72 (q10.map d72) false true)), (3, some (.row 1 9 (q14.map dS) false true)), (4, some (.row 1 9 (q18.map dS) false true)), (5, some (.row 1 3 (q19.map dI) false true)), (6, some (.row 3 177 (q23.map d177) false true)), (7, some (.row 3 180 (n.f11.map d180) false true)), (8, some (.row 1 3 (n.f12.map dI) false true)), (9, some (.row 5 35 (n.f13.map d35) false true)), (10, some (.row 5 183 (n.f14.map d183) false true)), (64, some (.box [.d (.v (.string n.f0)), .d (.v (.int .i64 n.f1)), .d (.v (.int .i64 n.f2.f0)), .ref 0, .ref 1, .ref 2, .d (.v (.int .i64 n.f5)), .d (.v (.int .i64 n.f6)), .d (.v (.int .i64 n.f7.f0)), .d (.v (.int .i64 n.f7.f1)), .ref 3, .d (.v (.int .i64 n.f8.f0)), .ref 4, .ref 5, .d (.v (.int .i64 n.f9)), .ref 6, .ref 7, .ref 8, .ref 9, .ref 10]))], 576⟩ ?_
  refine X.seq (rs 3 ?_)
  obtain ⟨r26, q27, hr29, hf28⟩ := l_markGoneS n.f11 r22 (by assumption) (by first | assumption | omega)
  obtain ⟨hdl, hdk⟩ := hr29
  refine CH.callB hf28 Try.func99 ⟨rfl, rfl⟩ 7 3 180 (n.f11.map d180) true 180 (q27.map d180) (by kernel_rfl) (by kernel_rfl) (by kernel_rfl) (by kernel_rfl) (by kernel_rfl) (by first | (simp; done) | (simp; omega)) (by kernel_rfl) ?_
  refine go 1 ?_
  refine ek ⟨[(1, iV r26), (2, .pt 64 0 0)], [(0, some (.nst 5 38 [(4, 2, 188)] (q2.map d38) [])), (1, some (.row 2 165 (q6.map d165) false true)), (2, some (.row 14 72 (q10.map d72) false true)), (3, some (.row 1 9 (q14.map dS) false true)), (4, some (.row 1 9 (q18.map dS) false true)), (5, some (.row 1 3 (q19.map dI) false true)), (6, some (.row 3 177 (q23.map d177) false true)), (7, some (.row 3 180 (q27.map d180) false true)), (8, some (.row 1 3 (n.f12.map dI) false true)), (9, some (.row 5 35 (n.f13.map d35) false true)), (10, some (.row 5 183 (n.f14.map d183) false true)), (64, some (.box [.d (.v (.string n.f0)), .d (.v (.int .i64 n.f1)), .d (.v (.int .i64 n.f2.f0)), .ref 0, .ref 1, .ref 2, .d (.v (.int .i64 n.f5)), .d (.v (.int .i64 n.f6)), .d (.v (.int .i64 n.f7.f0)), .d (.v (.int .i64 n.f7.f1)), .ref 3, .d (.v (.int .i64 n.f8.f0)), .ref 4, .ref 5, .d (.v (.int .i64 n.f9)), .ref 6, .ref 7, .ref 8, .ref 9, .ref 10]))], 656⟩ ?_
  refine X.seq (rs 3 ?_)
  obtain ⟨r30, q31, hr33, hf32⟩ := l_markIntS n.f12 r26 (by first | assumption | omega) (by first | assumption | omega)
  obtain ⟨hql, hqk, hqm⟩ := hr33
  refine CH.callB hf32 Try.func79 ⟨rfl, rfl⟩ 8 1 3 (n.f12.map dI) true 3 (q31.map dI) (by kernel_rfl) (by kernel_rfl) (by kernel_rfl) (by kernel_rfl) (by kernel_rfl) (by first | (simp; done) | (simp; omega)) (by kernel_rfl) ?_
  refine go 1 ?_
  refine ek ⟨[(1, iV r30), (2, .pt 64 0 0)], [(0, some (.nst 5 38 [(4, 2, 188)] (q2.map d38) [])), (1, some (.row 2 165 (q6.map d165) false true)), (2, some (.row 14 72 (q10.map d72) false true)), (3, some (.row 1 9 (q14.map dS) false true)), (4, some (.row 1 9 (q18.map dS) false true)), (5, some (.row 1 3 (q19.map dI) false true)), (6, some (.row 3 177 (q23.map d177) false true)), (7, some (.row 3 180 (q27.map d180) false true)), (8, some (.row 1 3 (q31.map dI) false true)), (9, some (.row 5 35 (n.f13.map d35) false true)), (10, some (.row 5 183 (n.f14.map d183) false true)), (64, some (.box [.d (.v (.string n.f0)), .d (.v (.int .i64 n.f1)), .d (.v (.int .i64 n.f2.f0)), .ref 0, .ref 1, .ref 2, .d (.v (.int .i64 n.f5)), .d (.v (.int .i64 n.f6)), .d (.v (.int .i64 n.f7.f0)), .d (.v (.int .i64 n.f7.f1)), .ref 3, .d (.v (.int .i64 n.f8.f0)), .ref 4, .ref 5, .d (.v (.int .i64 n.f9)), .ref 6, .ref 7, .ref 8, .ref 9, .ref 10]))], 736⟩ ?_
  refine X.seq (rs 3 ?_)
  obtain ⟨r34, q35, hr37, hf36⟩ := l_markTxS n.f13 r30 (by first | assumption | omega) (by omega)
  obtain ⟨hql, hqk, hqm⟩ := hr37
  refine CH.callB hf36 Try.func21 ⟨rfl, rfl⟩ 9 5 35 (n.f13.map d35) true 35 (q35.map d35) (by kernel_rfl) (by kernel_rfl) (by kernel_rfl) (by kernel_rfl) (by kernel_rfl) (by first | (simp; done) | (simp; omega)) (by kernel_rfl) ?_
  refine go 1 ?_
  refine ek ⟨[(1, iV r34), (2, .pt 64 0 0)], [(0, some (.nst 5 38 [(4, 2, 188)] (q2.map d38) [])), (1, some (.row 2 165 (q6.map d165) false true)), (2, some (.row 14 72 (q10.map d72) false true)), (3, some (.row 1 9 (q14.map dS) false true)), (4, some (.row 1 9 (q18.map dS) false true)), (5, some (.row 1 3 (q19.map dI) false true)), (6, some (.row 3 177 (q23.map d177) false true)), (7, some (.row 3 180 (q27.map d180) false true)), (8, some (.row 1 3 (q31.map dI) false true)), (9, some (.row 5 35 (q35.map d35) false true)), (10, some (.row 5 183 (n.f14.map d183) false true)), (64, some (.box [.d (.v (.string n.f0)), .d (.v (.int .i64 n.f1)), .d (.v (.int .i64 n.f2.f0)), .ref 0, .ref 1, .ref 2, .d (.v (.int .i64 n.f5)), .d (.v (.int .i64 n.f6)), .d (.v (.int .i64 n.f7.f0)), .d (.v (.int .i64 n.f7.f1)), .ref 3, .d (.v (.int .i64 n.f8.f0)), .ref 4, .ref 5, .d (.v (.int .i64 n.f9)), .ref 6, .ref 7, .ref 8, .ref 9, .ref 10]))], 816⟩ ?_
  refine X.seq (rs 3 ?_)
  obtain ⟨r38, q39, hr41, hf40⟩ := l_markProofS n.f14 r34 (by assumption) (by first | assumption | omega)
  obtain ⟨hdl, hdk⟩ := hr41
  refine CH.callB hf40 Try.func100 ⟨rfl, rfl⟩ 10 5 183 (n.f14.map d183) true 183 (q39.map d183) (by kernel_rfl) (by kernel_rfl) (by kernel_rfl) (by kernel_rfl) (by kernel_rfl) (by first | (simp; done) | (simp; omega)) (by kernel_rfl) ?_
  refine go 1 ?_
  refine ek ⟨[(1, iV r38)], [(0, some (.nst 5 38 [(4, 2, 188)] (q2.map d38) [])), (1, some (.row 2 165 (q6.map d165) false true)), (2, some (.row 14 72 (q10.map d72) false true)), (3, some (.row 1 9 (q14.map dS) false true)), (4, some (.row 1 9 (q18.map dS) false true)), (5, some (.row 1 3 (q19.map dI) false true)), (6, some (.row 3 177 (q23.map d177) false true)), (7, some (.row 3 180 (q27.map d180) false true)), (8, some (.row 1 3 (q31.map dI) false true)), (9, some (.row 5 35 (q35.map d35) false true)), (10, some (.row 5 183 (q39.map d183) false true))], 896⟩ ?_
  refine sk ⟨[(4, iV r38)], [(0, some (.nst 5 38 [(4, 2, 188)] (q2.map d38) [])), (1, some (.row 2 165 (q6.map d165) false true)), (2, some (.row 14 72 (q10.map d72) false true)), (3, some (.row 1 9 (q14.map dS) false true)), (4, some (.row 1 9 (q18.map dS) false true)), (5, some (.row 1 3 (q19.map dI) false true)), (6, some (.row 3 177 (q23.map d177) false true)), (7, some (.row 3 180 (q27.map d180) false true)), (8, some (.row 1 3 (q31.map dI) false true)), (9, some (.row 5 35 (q35.map d35) false true)), (10, some (.row 5 183 (q39.map d183) false true))], 928⟩ ?_
  refine X.ret ?_
  exact ⟨trivial, _, _, ⟨r38, q2, q6, q10, q14, q18, q19, q23, q27, q31, q35, q39, ⟨g0, gt, g1, ⟨by omega, by omega, by omega, by omega, by omega, by omega, by omega, by omega, by omega⟩, by omega, gm, (by have h9 := g1m; rw [gk] at h9; exact h9)⟩, rfl, rfl⟩, mkr⟩
 obtain ⟨_, _, ⟨r0, q0, q1, q2, q3, q4, q5, q6, q7, q8, q9, q10, h1_, rfl, rfl⟩, hf⟩ := key
 exact ⟨r0, q0, q1, q2, q3, q4, q5, q6, q7, q8, q9, q10, h1_, hf⟩

theorem l_heldNode (n : S83) (k : Int) (hl : n.f2.f1.length ≤ 2000000) (hl2 : acT n.f2.f1 ≤ 2000000) (hL : n.f3.length ≤ 2000000) (hk : 0 ≤ k ∧ k + 4 * n.f2.f1.length + 2 * acT n.f2.f1 + 2 * n.f3.length ≤ 20000000) (hE : ndE n) : ∃ r0 : Int, (-1 ≤ r0 ∧ (mkN k n → r0 = k + 4 * n.f2.f1.length + 2 * acT n.f2.f1 + 2 * n.f3.length)) ∧ Fn Try.prog 39 [.e (.agg (cD (d83 n))), iV k] (lookH []) (iV r0) (lookH []) := by
 have key : ∃ x' h', ((fun x' h' => ∃ r0 : Int, (-1 ≤ r0 ∧ (mkN k n → r0 = k + 4 * n.f2.f1.length + 2 * acT n.f2.f1 + 2 * n.f3.length)) ∧ x' = iV r0 ∧ h' = [])) x' h' ∧ Fn Try.prog 39 [.e (.agg (cD (d83 n))), iV k] (lookH []) x' (lookH h') := by
  refine Fn.bodyX (N := 66) hτ Try.func39 rfl rfl rfl rfl ?_
  refine sk ⟨[(1, iV k), (2, .pt 64 0 0)], [(64, some (.box (cD (d83 n))))], 96⟩ ?_
  refine X.seq ?_
  obtain ⟨e4, e7, e81, e82, e10, e11, e12, e13, e14⟩ := hE
  have q72 : n.f7.f2.length ≤ 2000000 := by omega
  have q81 : n.f8.f1.length ≤ 2000000 := by omega
  have q82 : n.f8.f2.length ≤ 2000000 := by omega
  refine rs 3 ?_
  obtain ⟨r1, hr3, hf2⟩ := l_heldLedger n.f2 k (by first | assumption | omega) (by first | assumption | omega) (by first | assumption | omega)
  obtain ⟨hhb, hha⟩ := hr3
  refine ca hf2 Try.func101 ?_
  refine go 1 ?_
  refine ek ⟨[(1, iV r1), (2, .pt 64 0 0)], [(64, some (.box (cD (d83 n))))], 176⟩ ?_
  refine X.seq ?_
  refine X.seq ?_
  have gA := hha
  refine rk ⟨[(1, iV r1), (2, .pt 64 0 0), (10, bV (decide ((r1 : Int) < 0)))], [(64, some (.box (cD (d83 n))))], 208⟩ ?_
  refine if_ (b := decide ((r1 : Int) < 0)) (fun hb4 => ?_) (fun hb4 => ?_)
  ·replace hb4 := of_decide_eq_true (hb4)
   refine sk ⟨[(4, iV (-1))], [], 224⟩ ?_
   refine X.ret ?_
   exact ⟨trivial, _, _, ⟨(-1), ⟨by omega, fun hM => by first | omega | (have a1 := gA hM.1; first | omega | (have a2 := gV (by rw [a1]; exact hM.2); omega))⟩, rfl, rfl⟩, mkr⟩
  ·replace hb4 := of_decide_eq_false (hb4)
   refine X.skip ?_
   refine X.seq (rs 3 ?_)
   obtain ⟨r5, hr7, hf6⟩ := l_heldValS n.f3 r1 (by first | assumption | omega) (by first | assumption | omega)
   obtain ⟨hhb, hhd⟩ := hr7
   refine ca hf6 Try.func85 ?_
   refine go 1 ?_
   refine ek ⟨[(1, iV r5), (2, .pt 64 0 0)], [(64, some (.box (cD (d83 n))))], 288⟩ ?_
   refine X.seq ?_
   refine X.seq ?_
   have gV := hhd
   refine rk ⟨[(1, iV r5), (2, .pt 64 0 0), (16, bV (decide ((r5 : Int) < 0)))], [(64, some (.box (cD (d83 n))))], 320⟩ ?_
   refine if_ (b := decide ((r5 : Int) < 0)) (fun hb8 => ?_) (fun hb8 => ?_)
   ·replace hb8 := of_decide_eq_true (hb8)
    refine sk ⟨[(4, iV (-1))], [], 336⟩ ?_
    refine X.ret ?_
    exact ⟨trivial, _, _, ⟨(-1), ⟨by omega, fun hM => by first | omega | (have a1 := gA hM.1; first | omega | (have a2 := gV (by rw [a1]; exact hM.2); omega))⟩, rfl, rfl⟩, mkr⟩
   ·replace hb8 := of_decide_eq_false (hb8)
    refine X.skip ?_
    refine X.seq (rs 3 ?_)
    obtain ⟨r9, hr11, hf10⟩ := l_heldBlockS n.f4 r5 (by assumption) (by first | assumption | omega)
    replace hr11 := hr11.symm; subst hr11
    refine ca hf10 Try.func34 ?_
    refine go 1 ?_
    refine ek ⟨[(1, iV r5), (2, .pt 64 0 0)], [(64, some (.box (cD (d83 n))))], 400⟩ ?_
    refine X.seq ?_
    refine sk ⟨[(1, iV r5), (2, .pt 64 0 0), (22, bV (decide ((r5 : Int) < 0)))], [(64, some (.box (cD (d83 n))))], 432⟩ ?_
    refine if_ (b := decide ((r5 : Int) < 0)) (fun hb13 => ?_) (fun hb13 => ?_)
    ·replace hb13 := of_decide_eq_true (hb13)
     refine sk ⟨[(4, iV (-1))], [], 448⟩ ?_
     refine X.ret ?_
     exact ⟨trivial, _, _, ⟨(-1), ⟨by omega, fun hM => by first | omega | (have a1 := gA hM.1; first | omega | (have a2 := gV (by rw [a1]; exact hM.2); omega))⟩, rfl, rfl⟩, mkr⟩
    ·replace hb13 := of_decide_eq_false (hb13)
     refine X.skip ?_
     refine X.seq (rs 3 ?_)
     obtain ⟨r14, hr16, hf15⟩ := l_heldQc n.f7 r5 (by first | assumption | omega) (by first | assumption | omega)
     obtain ⟨hhb, hhq⟩ := hr16
     refine ca hf15 Try.func102 ?_
     refine go 1 ?_
     refine ek ⟨[(1, iV r14), (2, .pt 64 0 0)], [(64, some (.box (cD (d83 n))))], 512⟩ ?_
     refine X.seq ?_
     refine X.seq ?_
     have u7 := hhq (by unfold mkQ; rw [e7]; exact upto_zero)
     refine rk ⟨[(1, iV r14), (2, .pt 64 0 0), (28, bV (decide ((r14 : Int) < 0)))], [(64, some (.box (cD (d83 n))))], 544⟩ ?_
     refine if_ (b := decide ((r14 : Int) < 0)) (fun hb17 => ?_) (fun hb17 => ?_)
     ·replace hb17 := of_decide_eq_true (hb17)
      refine sk ⟨[(4, iV (-1))], [], 560⟩ ?_
      refine X.ret ?_
      exact ⟨trivial, _, _, ⟨(-1), ⟨by omega, fun hM => by first | omega | (have a1 := gA hM.1; first | omega | (have a2 := gV (by rw [a1]; exact hM.2); omega))⟩, rfl, rfl⟩, mkr⟩
     ·replace hb17 := of_decide_eq_false (hb17)
      refine X.skip ?_
      refine X.seq (rs 3 ?_)
      obtain ⟨r18, hr20, hf19⟩ := l_heldTc n.f8 r14 (by first | assumption | omega) (by first | assumption | omega) (by first | assumption | omega)
      obtain ⟨hhb, hht⟩ := hr20
      refine ca hf19 Try.func103 ?_
      refine go 1 ?_
      refine ek ⟨[(1, iV r18), (2, .pt 64 0 0)], [(64, some (.box (cD (d83 n))))], 624⟩ ?_
      refine X.seq ?_
      refine X.seq ?_
      have u8 := hht (by unfold mkT; rw [e81, e82]; exact ⟨upto_zero, upto_zero⟩)
      refine rk ⟨[(1, iV r18), (2, .pt 64 0 0), (34, bV (decide ((r18 : Int) < 0)))], [(64, some (.box (cD (d83 n))))], 656⟩ ?_
      refine if_ (b := decide ((r18 : Int) < 0)) (fun hb21 => ?_) (fun hb21 => ?_)
      ·replace hb21 := of_decide_eq_true (hb21)
       refine sk ⟨[(4, iV (-1))], [], 672⟩ ?_
       refine X.ret ?_
       exact ⟨trivial, _, _, ⟨(-1), ⟨by omega, fun hM => by first | omega | (have a1 := gA hM.1; first | omega | (have a2 := gV (by rw [a1]; exact hM.2); omega))⟩, rfl, rfl⟩, mkr⟩
      ·replace hb21 := of_decide_eq_false (hb21)
       refine X.skip ?_
       refine X.seq (rs 3 ?_)
       obtain ⟨r22, hr24, hf23⟩ := l_heldVoteS n.f10 r18 (by assumption) (by first | assumption | omega)
       replace hr24 := hr24.symm; subst hr24
       refine ca hf23 Try.func104 ?_
       refine go 1 ?_
       refine ek ⟨[(1, iV r18), (2, .pt 64 0 0)], [(64, some (.box (cD (d83 n))))], 736⟩ ?_
       refine X.seq ?_
       refine sk ⟨[(1, iV r18), (2, .pt 64 0 0), (40, bV (decide ((r18 : Int) < 0)))], [(64, some (.box (cD (d83 n))))], 768⟩ ?_
       refine if_ (b := decide ((r18 : Int) < 0)) (fun hb26 => ?_) (fun hb26 => ?_)
       ·replace hb26 := of_decide_eq_true (hb26)
        refine sk ⟨[(4, iV (-1))], [], 784⟩ ?_
        refine X.ret ?_
        exact ⟨trivial, _, _, ⟨(-1), ⟨by omega, fun hM => by first | omega | (have a1 := gA hM.1; first | omega | (have a2 := gV (by rw [a1]; exact hM.2); omega))⟩, rfl, rfl⟩, mkr⟩
       ·replace hb26 := of_decide_eq_false (hb26)
        refine X.skip ?_
        refine X.seq (rs 3 ?_)
        obtain ⟨r27, hr29, hf28⟩ := l_heldGoneS n.f11 r18 (by assumption) (by first | assumption | omega)
        replace hr29 := hr29.symm; subst hr29
        refine ca hf28 Try.func105 ?_
        refine go 1 ?_
        refine ek ⟨[(1, iV r18), (2, .pt 64 0 0)], [(64, some (.box (cD (d83 n))))], 848⟩ ?_
        refine X.seq ?_
        refine sk ⟨[(1, iV r18), (2, .pt 64 0 0), (46, bV (decide ((r18 : Int) < 0)))], [(64, some (.box (cD (d83 n))))], 880⟩ ?_
        refine if_ (b := decide ((r18 : Int) < 0)) (fun hb31 => ?_) (fun hb31 => ?_)
        ·replace hb31 := of_decide_eq_true (hb31)
         refine sk ⟨[(4, iV (-1))], [], 896⟩ ?_
         refine X.ret ?_
         exact ⟨trivial, _, _, ⟨(-1), ⟨by omega, fun hM => by first | omega | (have a1 := gA hM.1; first | omega | (have a2 := gV (by rw [a1]; exact hM.2); omega))⟩, rfl, rfl⟩, mkr⟩
        ·replace hb31 := of_decide_eq_false (hb31)
         refine X.skip ?_
         refine X.seq (rs 3 ?_)
         obtain ⟨r32, hr34, hf33⟩ := l_heldIntS n.f12 r18 (by first | assumption | omega) (by first | assumption | omega)
         obtain ⟨hhb, hhd⟩ := hr34
         refine ca hf33 Try.func84 ?_
         refine go 1 ?_
         refine ek ⟨[(1, iV r32), (2, .pt 64 0 0)], [(64, some (.box (cD (d83 n))))], 960⟩ ?_
         refine X.seq ?_
         refine X.seq ?_
         have u12 := hhd (by rw [e12]; exact upto_zero)
         refine rk ⟨[(1, iV r32), (2, .pt 64 0 0), (52, bV (decide ((r32 : Int) < 0)))], [(64, some (.box (cD (d83 n))))], 992⟩ ?_
         refine if_ (b := decide ((r32 : Int) < 0)) (fun hb35 => ?_) (fun hb35 => ?_)
         ·replace hb35 := of_decide_eq_true (hb35)
          refine sk ⟨[(4, iV (-1))], [], 1008⟩ ?_
          refine X.ret ?_
          exact ⟨trivial, _, _, ⟨(-1), ⟨by omega, fun hM => by first | omega | (have a1 := gA hM.1; first | omega | (have a2 := gV (by rw [a1]; exact hM.2); omega))⟩, rfl, rfl⟩, mkr⟩
         ·replace hb35 := of_decide_eq_false (hb35)
          refine X.skip ?_
          refine X.seq (rs 3 ?_)
          obtain ⟨r36, hr38, hf37⟩ := l_heldTxS n.f13 r32 (by first | assumption | omega) (by omega)
          obtain ⟨hhb, hhd⟩ := hr38
          refine ca hf37 Try.func23 ?_
          refine go 1 ?_
          refine ek ⟨[(1, iV r36), (2, .pt 64 0 0)], [(64, some (.box (cD (d83 n))))], 1072⟩ ?_
          refine X.seq ?_
          refine X.seq ?_
          have u13 := hhd (by rw [e13]; exact upto_zero)
          refine rk ⟨[(1, iV r36), (2, .pt 64 0 0), (58, bV (decide ((r36 : Int) < 0)))], [(64, some (.box (cD (d83 n))))], 1104⟩ ?_
          refine if_ (b := decide ((r36 : Int) < 0)) (fun hb39 => ?_) (fun hb39 => ?_)
          ·replace hb39 := of_decide_eq_true (hb39)
           refine sk ⟨[(4, iV (-1))], [], 1120⟩ ?_
           refine X.ret ?_
           exact ⟨trivial, _, _, ⟨(-1), ⟨by omega, fun hM => by first | omega | (have a1 := gA hM.1; first | omega | (have a2 := gV (by rw [a1]; exact hM.2); omega))⟩, rfl, rfl⟩, mkr⟩
          ·replace hb39 := of_decide_eq_false (hb39)
           refine X.skip ?_
           refine X.seq (rs 3 ?_)
           obtain ⟨r40, hr42, hf41⟩ := l_heldProofS n.f14 r36 (by assumption) (by first | assumption | omega)
           replace hr42 := hr42.symm; subst hr42
           refine ca hf41 Try.func106 ?_
           refine go 1 ?_
           refine ek ⟨[(1, iV r36)], [], 1184⟩ ?_
           refine X.seq ?_
           refine sk ⟨[(1, iV r36), (64, bV (decide ((r36 : Int) < 0)))], [], 1216⟩ ?_
           refine if_ (b := decide ((r36 : Int) < 0)) (fun hb44 => ?_) (fun hb44 => ?_)
           ·replace hb44 := of_decide_eq_true (hb44)
            refine sk ⟨[(4, iV (-1))], [], 1232⟩ ?_
            refine X.ret ?_
            exact ⟨trivial, _, _, ⟨(-1), ⟨by omega, fun hM => by first | omega | (have a1 := gA hM.1; first | omega | (have a2 := gV (by rw [a1]; exact hM.2); omega))⟩, rfl, rfl⟩, mkr⟩
           ·replace hb44 := of_decide_eq_false (hb44)
            refine X.skip ?_
            refine sk ⟨[(4, iV r36)], [], 1248⟩ ?_
            refine X.ret ?_
            exact ⟨trivial, _, _, ⟨r36, ⟨by omega, fun hM => by first | omega | (have a1 := gA hM.1; first | omega | (have a2 := gV (by rw [a1]; exact hM.2); omega))⟩, rfl, rfl⟩, mkr⟩
 obtain ⟨_, _, ⟨r0, h1_, rfl, rfl⟩, hf⟩ := key
 exact ⟨r0, h1_, hf⟩

theorem l_FnExactNodeNew (s : ByteArray) (x : S42) (hws : s.size ≤ maxLen) (hwg : w42 x) : ∃ r0 : Bool, (r0 = true) ∧ Fn Try.prog 6 [.e (.c (.d (.v (.string s)))), .e (.agg [.d (.v (.int .i64 x.f0)), .d (.sl (x.f1.map d151))])] (lookH []) (bV r0) (lookH []) := by
 have key : ∃ x' h', ((fun x' h' => ∃ r0 : Bool, (r0 = true) ∧ x' = bV r0 ∧ h' = [])) x' h' ∧ Fn Try.prog 6 [.e (.c (.d (.v (.string s)))), .e (.agg [.d (.v (.int .i64 x.f0)), .d (.sl (x.f1.map d151))])] (lookH []) x' (lookH h') := by
  refine Fn.bodyX (N := 77) hτ Try.func6 rfl rfl rfl rfl ?_
  refine sk ⟨[(0, .e (.c (.d (.v (.string s))))), (3, .pt 64 0 0)], [(64, some (.box [.d (.v (.int .i64 x.f0)), .d (.sl (x.f1.map d151))]))], 96⟩ ?_
  refine X.seq ?_
  refine X.seq ?_
  have hsm : s.size ≤ 9223372036854775807 := hws
  refine rk ⟨[(0, .e (.c (.d (.v (.string s))))), (3, .pt 64 0 0), (15, bV (decide (((s.size : Int) : Int) > 1048576)))], [(64, some (.box [.d (.v (.int .i64 x.f0)), .d (.sl (x.f1.map d151))]))], 144⟩ ?_
  refine if_ (b := decide (((s.size : Int) : Int) > 1048576)) (fun hb1 => ?_) (fun hb1 => ?_)
  ·replace hb1 := of_decide_eq_true (hb1)
   refine sk ⟨[(4, bV true)], [], 160⟩ ?_
   refine X.ret ?_
   exact ⟨trivial, _, _, ⟨true, (by first | exact rfl | exact (by exfalso; omega) | exact (tf (allEq_self _) ‹_›) | exact (tf (eqV_self _) ‹_›) | exact (absurd rfl ‹_›) | exact (by simp_all)), rfl, rfl⟩, mkr⟩
  ·replace hb1 := of_decide_eq_false (hb1)
   refine X.skip ?_
   refine sk ⟨[(0, .e (.c (.d (.v (.string s))))), (3, .pt 64 0 0), (5, iV 1048576)], [(64, some (.box [.d (.v (.int .i64 x.f0)), .d (.sl (x.f1.map d151))]))], 160⟩ ?_
   refine X.seq (rs 2 ?_)
   obtain ⟨r2, hr4, hf3⟩ := l_szLedger x 1048576 (by assumption) (by first | omega | assumption)
   obtain ⟨hz1, hz0, hz2⟩ := hr4
   refine ca hf3 Try.func15 ?_
   refine go 1 ?_
   refine ek ⟨[(0, .e (.c (.d (.v (.string s))))), (3, .pt 64 0 0), (5, iV r2)], [(64, some (.box [.d (.v (.int .i64 x.f0)), .d (.sl (x.f1.map d151))]))], 224⟩ ?_
   refine X.seq ?_
   refine sk ⟨[(0, .e (.c (.d (.v (.string s))))), (3, .pt 64 0 0), (20, bV (decide ((r2 : Int) < 0)))], [(64, some (.box [.d (.v (.int .i64 x.f0)), .d (.sl (x.f1.map d151))]))], 256⟩ ?_
   refine if_ (b := decide ((r2 : Int) < 0)) (fun hb5 => ?_) (fun hb5 => ?_)
   ·replace hb5 := of_decide_eq_true (hb5)
    refine sk ⟨[(4, bV true)], [], 272⟩ ?_
    refine X.ret ?_
    exact ⟨trivial, _, _, ⟨true, (by first | exact rfl | exact (by exfalso; omega) | exact (tf (allEq_self _) ‹_›) | exact (tf (eqV_self _) ‹_›) | exact (absurd rfl ‹_›) | exact (by simp_all)), rfl, rfl⟩, mkr⟩
   ·replace hb5 := of_decide_eq_false (hb5)
    refine X.skip ?_
    refine X.seq ?_
    obtain ⟨hG, hGl⟩ := hz2 (by omega)
    have hGm : (toLedger x).f1.length ≤ 2000000 := hG.1
    have hs : SmS s := (by show _ ≤ 2000000; omega)
    refine rs 2 ?_
    obtain ⟨r6, hr8, hf7⟩ := l_toLedger x (by assumption)
    replace hr8 := hr8.symm; subst hr8
    refine ca hf7 Try.func18 ?_
    obtain ⟨r10, hr12, hf11⟩ := s_NodeNew s ((toLedger x)) (by assumption) (by assumption)
    replace hr12 := hr12.symm; subst hr12
    have hne := nn_e s ((toLedger x))
    have hne2 := hne
    unfold ndE at hne2
    obtain ⟨hns1, hns2, hns3⟩ := nn_sm s (g := ((toLedger x))) (by assumption)
    refine ca hf11 Try.func35 ?_
    refine go 2 ?_
    refine ek ⟨[(0, .e (.c (.d (.v (.string s))))), (3, .pt 64 0 0), (6, .pt 320 0 0)], [(64, some (.box [.d (.v (.int .i64 x.f0)), .d (.sl (x.f1.map d151))])), (320, some (.box [.d (.v (.string (((nnW s ((toLedger x)))).f0))), .d (.v (.int .i64 (((nnW s ((toLedger x)))).f1))), .d (.v (.int .i64 ((((nnW s ((toLedger x)))).f2).f0))), .f (.sl (((((nnW s ((toLedger x)))).f2).f1).map d38)), .f (.sl ((((nnW s ((toLedger x)))).f3).map d165)), .f (.sl ((((nnW s ((toLedger x)))).f4).map d72)), .d (.v (.int .i64 (((nnW s ((toLedger x)))).f5))), .d (.v (.int .i64 (((nnW s ((toLedger x)))).f6))), .d (.v (.int .i64 ((((nnW s ((toLedger x)))).f7).f0))), .d (.v (.int .i64 ((((nnW s ((toLedger x)))).f7).f1))), .f (.sl (((((nnW s ((toLedger x)))).f7).f2).map dS)), .d (.v (.int .i64 ((((nnW s ((toLedger x)))).f8).f0))), .f (.sl (((((nnW s ((toLedger x)))).f8).f1).map dS)), .f (.sl (((((nnW s ((toLedger x)))).f8).f2).map dI)), .d (.v (.int .i64 (((nnW s ((toLedger x)))).f9))), .f (.sl ((((nnW s ((toLedger x)))).f10).map d177)), .f (.sl ((((nnW s ((toLedger x)))).f11).map d180)), .f (.sl ((((nnW s ((toLedger x)))).f12).map dI)), .f (.sl ((((nnW s ((toLedger x)))).f13).map d35)), .f (.sl ((((nnW s ((toLedger x)))).f14).map d183))]))], 352⟩ ?_
    refine X.seq (rs 1 ?_)
    obtain ⟨r14, hr16, hf15⟩ := l_toLedger x (by assumption)
    replace hr16 := hr16.symm; subst hr16
    refine ca hf15 Try.func18 ?_
    refine go 2 ?_
    refine ek ⟨[(0, .e (.c (.d (.v (.string s))))), (3, .pt 64 0 0), (6, .pt 320 0 0), (7, .pt 384 0 0)], [(64, some (.box [.d (.v (.int .i64 x.f0)), .d (.sl (x.f1.map d151))])), (320, some (.box [.d (.v (.string (((nnW s ((toLedger x)))).f0))), .d (.v (.int .i64 (((nnW s ((toLedger x)))).f1))), .d (.v (.int .i64 ((((nnW s ((toLedger x)))).f2).f0))), .f (.sl (((((nnW s ((toLedger x)))).f2).f1).map d38)), .f (.sl ((((nnW s ((toLedger x)))).f3).map d165)), .f (.sl ((((nnW s ((toLedger x)))).f4).map d72)), .d (.v (.int .i64 (((nnW s ((toLedger x)))).f5))), .d (.v (.int .i64 (((nnW s ((toLedger x)))).f6))), .d (.v (.int .i64 ((((nnW s ((toLedger x)))).f7).f0))), .d (.v (.int .i64 ((((nnW s ((toLedger x)))).f7).f1))), .f (.sl (((((nnW s ((toLedger x)))).f7).f2).map dS)), .d (.v (.int .i64 ((((nnW s ((toLedger x)))).f8).f0))), .f (.sl (((((nnW s ((toLedger x)))).f8).f1).map dS)), .f (.sl (((((nnW s ((toLedger x)))).f8).f2).map dI)), .d (.v (.int .i64 (((nnW s ((toLedger x)))).f9))), .f (.sl ((((nnW s ((toLedger x)))).f10).map d177)), .f (.sl ((((nnW s ((toLedger x)))).f11).map d180)), .f (.sl ((((nnW s ((toLedger x)))).f12).map dI)), .f (.sl ((((nnW s ((toLedger x)))).f13).map d35)), .f (.sl ((((nnW s ((toLedger x)))).f14).map d183))])), (368, some (.nst 5 38 [(4, 2, 188)] ((((toLedger x)).f1).map d38) [])), (384, some (.box [.d (.v (.int .i64 (((toLedger x)).f0))), .ref 368]))], 416⟩ ?_
    refine X.seq (rs 2 ?_)
    obtain ⟨r18, hr20, hf19⟩ := i_NodeNew s ((toLedger x)) (by assumption) (by assumption)
    replace hr20 := hr20.symm; subst hr20
    have hne := nn_e s ((toLedger x))
    have hne2 := hne
    unfold ndE at hne2
    obtain ⟨hns1, hns2, hns3⟩ := nn_sm s (g := ((toLedger x))) (by assumption)
    refine ca hf19 Try.func36 ?_
    refine go 2 ?_
    refine ek ⟨[(0, .e (.c (.d (.v (.string s))))), (3, .pt 64 0 0), (6, .pt 320 0 0), (7, .pt 384 0 0), (8, .pt 464 0 0)], [(64, some (.box [.d (.v (.int .i64 x.f0)), .d (.sl (x.f1.map d151))])), (320, some (.box [.d (.v (.string (((nnW s ((toLedger x)))).f0))), .d (.v (.int .i64 (((nnW s ((toLedger x)))).f1))), .d (.v (.int .i64 ((((nnW s ((toLedger x)))).f2).f0))), .f (.sl (((((nnW s ((toLedger x)))).f2).f1).map d38)), .f (.sl ((((nnW s ((toLedger x)))).f3).map d165)), .f (.sl ((((nnW s ((toLedger x)))).f4).map d72)), .d (.v (.int .i64 (((nnW s ((toLedger x)))).f5))), .d (.v (.int .i64 (((nnW s ((toLedger x)))).f6))), .d (.v (.int .i64 ((((nnW s ((toLedger x)))).f7).f0))), .d (.v (.int .i64 ((((nnW s ((toLedger x)))).f7).f1))), .f (.sl (((((nnW s ((toLedger x)))).f7).f2).map dS)), .d (.v (.int .i64 ((((nnW s ((toLedger x)))).f8).f0))), .f (.sl (((((nnW s ((toLedger x)))).f8).f1).map dS)), .f (.sl (((((nnW s ((toLedger x)))).f8).f2).map dI)), .d (.v (.int .i64 (((nnW s ((toLedger x)))).f9))), .f (.sl ((((nnW s ((toLedger x)))).f10).map d177)), .f (.sl ((((nnW s ((toLedger x)))).f11).map d180)), .f (.sl ((((nnW s ((toLedger x)))).f12).map dI)), .f (.sl ((((nnW s ((toLedger x)))).f13).map d35)), .f (.sl ((((nnW s ((toLedger x)))).f14).map d183))])), (368, some (.nst 5 38 [(4, 2, 188)] ((((toLedger x)).f1).map d38) [])), (384, some (.box [.d (.v (.int .i64 (((toLedger x)).f0))), .ref 368])), (448, some (.nst 5 38 [(4, 2, 188)] (((((nnW s ((toLedger x)))).f2).f1).map d38) [])), (449, some (.row 2 165 ((((nnW s ((toLedger x)))).f3).map d165) false true)), (450, some (.row 14 72 ((((nnW s ((toLedger x)))).f4).map d72) false true)), (451, some (.row 1 9 (((((nnW s ((toLedger x)))).f7).f2).map dS) false true)), (452, some (.row 1 9 (((((nnW s ((toLedger x)))).f8).f1).map dS) false true)), (453, some (.row 1 3 (((((nnW s ((toLedger x)))).f8).f2).map dI) false true)), (454, some (.row 3 177 ((((nnW s ((toLedger x)))).f10).map d177) false true)), (455, some (.row 3 180 ((((nnW s ((toLedger x)))).f11).map d180) false true)), (456, some (.row 1 3 ((((nnW s ((toLedger x)))).f12).map dI) false true)), (457, some (.row 5 35 ((((nnW s ((toLedger x)))).f13).map d35) false true)), (458, some (.row 5 183 ((((nnW s ((toLedger x)))).f14).map d183) false true)), (464, some (.box [.d (.v (.string (((nnW s ((toLedger x)))).f0))), .d (.v (.int .i64 (((nnW s ((toLedger x)))).f1))), .d (.v (.int .i64 ((((nnW s ((toLedger x)))).f2).f0))), .ref 448, .ref 449, .ref 450, .d (.v (.int .i64 (((nnW s ((toLedger x)))).f5))), .d (.v (.int .i64 (((nnW s ((toLedger x)))).f6))), .d (.v (.int .i64 ((((nnW s ((toLedger x)))).f7).f0))), .d (.v (.int .i64 ((((nnW s ((toLedger x)))).f7).f1))), .ref 451, .d (.v (.int .i64 ((((nnW s ((toLedger x)))).f8).f0))), .ref 452, .ref 453, .d (.v (.int .i64 (((nnW s ((toLedger x)))).f9))), .ref 454, .ref 455, .ref 456, .ref 457, .ref 458]))], 496⟩ ?_
    refine X.seq ?_
    refine X.seq (rs 2 ?_)
    obtain ⟨r22, hr24, hf23⟩ := l_eqNode ((nnW s ((toLedger x)))) ((nnW s ((toLedger x)))) (by rfl) (by first | assumption | exact hns1) (by first | assumption | omega) (by assumption)
    replace hr24 := hr24.symm; subst hr24
    refine ca hf23 Try.func37 ?_
    refine go 1 ?_
    refine ek ⟨[(0, .e (.c (.d (.v (.string s))))), (3, .pt 64 0 0), (6, .pt 320 0 0), (7, .pt 384 0 0), (8, .pt 464 0 0), (33, bV false)], [(64, some (.box [.d (.v (.int .i64 x.f0)), .d (.sl (x.f1.map d151))])), (320, some (.box [.d (.v (.string (((nnW s ((toLedger x)))).f0))), .d (.v (.int .i64 (((nnW s ((toLedger x)))).f1))), .d (.v (.int .i64 ((((nnW s ((toLedger x)))).f2).f0))), .f (.sl (((((nnW s ((toLedger x)))).f2).f1).map d38)), .f (.sl ((((nnW s ((toLedger x)))).f3).map d165)), .f (.sl ((((nnW s ((toLedger x)))).f4).map d72)), .d (.v (.int .i64 (((nnW s ((toLedger x)))).f5))), .d (.v (.int .i64 (((nnW s ((toLedger x)))).f6))), .d (.v (.int .i64 ((((nnW s ((toLedger x)))).f7).f0))), .d (.v (.int .i64 ((((nnW s ((toLedger x)))).f7).f1))), .f (.sl (((((nnW s ((toLedger x)))).f7).f2).map dS)), .d (.v (.int .i64 ((((nnW s ((toLedger x)))).f8).f0))), .f (.sl (((((nnW s ((toLedger x)))).f8).f1).map dS)), .f (.sl (((((nnW s ((toLedger x)))).f8).f2).map dI)), .d (.v (.int .i64 (((nnW s ((toLedger x)))).f9))), .f (.sl ((((nnW s ((toLedger x)))).f10).map d177)), .f (.sl ((((nnW s ((toLedger x)))).f11).map d180)), .f (.sl ((((nnW s ((toLedger x)))).f12).map dI)), .f (.sl ((((nnW s ((toLedger x)))).f13).map d35)), .f (.sl ((((nnW s ((toLedger x)))).f14).map d183))])), (368, some (.nst 5 38 [(4, 2, 188)] ((((toLedger x)).f1).map d38) [])), (384, some (.box [.d (.v (.int .i64 (((toLedger x)).f0))), .ref 368])), (448, some (.nst 5 38 [(4, 2, 188)] (((((nnW s ((toLedger x)))).f2).f1).map d38) [])), (449, some (.row 2 165 ((((nnW s ((toLedger x)))).f3).map d165) false true)), (450, some (.row 14 72 ((((nnW s ((toLedger x)))).f4).map d72) false true)), (451, some (.row 1 9 (((((nnW s ((toLedger x)))).f7).f2).map dS) false true)), (452, some (.row 1 9 (((((nnW s ((toLedger x)))).f8).f1).map dS) false true)), (453, some (.row 1 3 (((((nnW s ((toLedger x)))).f8).f2).map dI) false true)), (454, some (.row 3 177 ((((nnW s ((toLedger x)))).f10).map d177) false true)), (455, some (.row 3 180 ((((nnW s ((toLedger x)))).f11).map d180) false true)), (456, some (.row 1 3 ((((nnW s ((toLedger x)))).f12).map dI) false true)), (457, some (.row 5 35 ((((nnW s ((toLedger x)))).f13).map d35) false true)), (458, some (.row 5 183 ((((nnW s ((toLedger x)))).f14).map d183) false true)), (464, some (.box [.d (.v (.string (((nnW s ((toLedger x)))).f0))), .d (.v (.int .i64 (((nnW s ((toLedger x)))).f1))), .d (.v (.int .i64 ((((nnW s ((toLedger x)))).f2).f0))), .ref 448, .ref 449, .ref 450, .d (.v (.int .i64 (((nnW s ((toLedger x)))).f5))), .d (.v (.int .i64 (((nnW s ((toLedger x)))).f6))), .d (.v (.int .i64 ((((nnW s ((toLedger x)))).f7).f0))), .d (.v (.int .i64 ((((nnW s ((toLedger x)))).f7).f1))), .ref 451, .d (.v (.int .i64 ((((nnW s ((toLedger x)))).f8).f0))), .ref 452, .ref 453, .d (.v (.int .i64 (((nnW s ((toLedger x)))).f9))), .ref 454, .ref 455, .ref 456, .ref 457, .ref 458]))], 560⟩ ?_
    refine X.ifF (by kernel_rfl) ?_
    refine X.skip ?_
    refine X.seq ?_
    refine X.seq (rs 2 ?_)
    obtain ⟨r26, hr28, hf27⟩ := l_toLedger x (by assumption)
    replace hr28 := hr28.symm; subst hr28
    refine ca hf27 Try.func18 ?_
    obtain ⟨r30, hr32, hf31⟩ := l_eqLedger ((toLedger x)) ((toLedger x)) (by assumption) (by assumption)
    replace hr32 := hr32.symm; subst hr32
    refine ca hf31 Try.func20 ?_
    refine go 1 ?_
    refine ek ⟨[(0, .e (.c (.d (.v (.string s))))), (3, .pt 64 0 0), (6, .pt 320 0 0), (7, .pt 384 0 0), (8, .pt 464 0 0), (38, bV (!(eqV ((toLedger x)) ((toLedger x)))))], [(64, some (.box [.d (.v (.int .i64 x.f0)), .d (.sl (x.f1.map d151))])), (320, some (.box [.d (.v (.string (((nnW s ((toLedger x)))).f0))), .d (.v (.int .i64 (((nnW s ((toLedger x)))).f1))), .d (.v (.int .i64 ((((nnW s ((toLedger x)))).f2).f0))), .f (.sl (((((nnW s ((toLedger x)))).f2).f1).map d38)), .f (.sl ((((nnW s ((toLedger x)))).f3).map d165)), .f (.sl ((((nnW s ((toLedger x)))).f4).map d72)), .d (.v (.int .i64 (((nnW s ((toLedger x)))).f5))), .d (.v (.int .i64 (((nnW s ((toLedger x)))).f6))), .d (.v (.int .i64 ((((nnW s ((toLedger x)))).f7).f0))), .d (.v (.int .i64 ((((nnW s ((toLedger x)))).f7).f1))), .f (.sl (((((nnW s ((toLedger x)))).f7).f2).map dS)), .d (.v (.int .i64 ((((nnW s ((toLedger x)))).f8).f0))), .f (.sl (((((nnW s ((toLedger x)))).f8).f1).map dS)), .f (.sl (((((nnW s ((toLedger x)))).f8).f2).map dI)), .d (.v (.int .i64 (((nnW s ((toLedger x)))).f9))), .f (.sl ((((nnW s ((toLedger x)))).f10).map d177)), .f (.sl ((((nnW s ((toLedger x)))).f11).map d180)), .f (.sl ((((nnW s ((toLedger x)))).f12).map dI)), .f (.sl ((((nnW s ((toLedger x)))).f13).map d35)), .f (.sl ((((nnW s ((toLedger x)))).f14).map d183))])), (368, some (.nst 5 38 [(4, 2, 188)] ((((toLedger x)).f1).map d38) [])), (384, some (.box [.d (.v (.int .i64 (((toLedger x)).f0))), .ref 368])), (448, some (.nst 5 38 [(4, 2, 188)] (((((nnW s ((toLedger x)))).f2).f1).map d38) [])), (449, some (.row 2 165 ((((nnW s ((toLedger x)))).f3).map d165) false true)), (450, some (.row 14 72 ((((nnW s ((toLedger x)))).f4).map d72) false true)), (451, some (.row 1 9 (((((nnW s ((toLedger x)))).f7).f2).map dS) false true)), (452, some (.row 1 9 (((((nnW s ((toLedger x)))).f8).f1).map dS) false true)), (453, some (.row 1 3 (((((nnW s ((toLedger x)))).f8).f2).map dI) false true)), (454, some (.row 3 177 ((((nnW s ((toLedger x)))).f10).map d177) false true)), (455, some (.row 3 180 ((((nnW s ((toLedger x)))).f11).map d180) false true)), (456, some (.row 1 3 ((((nnW s ((toLedger x)))).f12).map dI) false true)), (457, some (.row 5 35 ((((nnW s ((toLedger x)))).f13).map d35) false true)), (458, some (.row 5 183 ((((nnW s ((toLedger x)))).f14).map d183) false true)), (464, some (.box [.d (.v (.string (((nnW s ((toLedger x)))).f0))), .d (.v (.int .i64 (((nnW s ((toLedger x)))).f1))), .d (.v (.int .i64 ((((nnW s ((toLedger x)))).f2).f0))), .ref 448, .ref 449, .ref 450, .d (.v (.int .i64 (((nnW s ((toLedger x)))).f5))), .d (.v (.int .i64 (((nnW s ((toLedger x)))).f6))), .d (.v (.int .i64 ((((nnW s ((toLedger x)))).f7).f0))), .d (.v (.int .i64 ((((nnW s ((toLedger x)))).f7).f1))), .ref 451, .d (.v (.int .i64 ((((nnW s ((toLedger x)))).f8).f0))), .ref 452, .ref 453, .d (.v (.int .i64 (((nnW s ((toLedger x)))).f9))), .ref 454, .ref 455, .ref 456, .ref 457, .ref 458]))], 640⟩ ?_
    refine if_ (b := !(eqV ((toLedger x)) ((toLedger x)))) (fun hb34 => ?_) (fun hb34 => ?_)
    ·replace hb34 := bnot_yes (hb34)
     refine sk ⟨[(4, bV false)], [], 656⟩ ?_
     refine X.ret ?_
     exact ⟨trivial, _, _, ⟨false, (by first | exact rfl | exact (by exfalso; omega) | exact (tf (allEq_self _) ‹_›) | exact (tf (eqV_self _) ‹_›) | exact (absurd rfl ‹_›) | exact (by simp_all)), rfl, rfl⟩, mkr⟩
    ·replace hb34 := bnot_no (hb34)
     refine X.skip ?_
     refine sk ⟨[(0, .e (.c (.d (.v (.string s))))), (3, .pt 64 0 0), (6, .pt 320 0 0), (7, .pt 384 0 0), (8, .pt 464 0 0), (9, iV 1)], [(64, some (.box [.d (.v (.int .i64 x.f0)), .d (.sl (x.f1.map d151))])), (320, some (.box [.d (.v (.string (((nnW s ((toLedger x)))).f0))), .d (.v (.int .i64 (((nnW s ((toLedger x)))).f1))), .d (.v (.int .i64 ((((nnW s ((toLedger x)))).f2).f0))), .f (.sl (((((nnW s ((toLedger x)))).f2).f1).map d38)), .f (.sl ((((nnW s ((toLedger x)))).f3).map d165)), .f (.sl ((((nnW s ((toLedger x)))).f4).map d72)), .d (.v (.int .i64 (((nnW s ((toLedger x)))).f5))), .d (.v (.int .i64 (((nnW s ((toLedger x)))).f6))), .d (.v (.int .i64 ((((nnW s ((toLedger x)))).f7).f0))), .d (.v (.int .i64 ((((nnW s ((toLedger x)))).f7).f1))), .f (.sl (((((nnW s ((toLedger x)))).f7).f2).map dS)), .d (.v (.int .i64 ((((nnW s ((toLedger x)))).f8).f0))), .f (.sl (((((nnW s ((toLedger x)))).f8).f1).map dS)), .f (.sl (((((nnW s ((toLedger x)))).f8).f2).map dI)), .d (.v (.int .i64 (((nnW s ((toLedger x)))).f9))), .f (.sl ((((nnW s ((toLedger x)))).f10).map d177)), .f (.sl ((((nnW s ((toLedger x)))).f11).map d180)), .f (.sl ((((nnW s ((toLedger x)))).f12).map dI)), .f (.sl ((((nnW s ((toLedger x)))).f13).map d35)), .f (.sl ((((nnW s ((toLedger x)))).f14).map d183))])), (368, some (.nst 5 38 [(4, 2, 188)] ((((toLedger x)).f1).map d38) [])), (384, some (.box [.d (.v (.int .i64 (((toLedger x)).f0))), .ref 368])), (448, some (.nst 5 38 [(4, 2, 188)] (((((nnW s ((toLedger x)))).f2).f1).map d38) [])), (449, some (.row 2 165 ((((nnW s ((toLedger x)))).f3).map d165) false true)), (450, some (.row 14 72 ((((nnW s ((toLedger x)))).f4).map d72) false true)), (451, some (.row 1 9 (((((nnW s ((toLedger x)))).f7).f2).map dS) false true)), (452, some (.row 1 9 (((((nnW s ((toLedger x)))).f8).f1).map dS) false true)), (453, some (.row 1 3 (((((nnW s ((toLedger x)))).f8).f2).map dI) false true)), (454, some (.row 3 177 ((((nnW s ((toLedger x)))).f10).map d177) false true)), (455, some (.row 3 180 ((((nnW s ((toLedger x)))).f11).map d180) false true)), (456, some (.row 1 3 ((((nnW s ((toLedger x)))).f12).map dI) false true)), (457, some (.row 5 35 ((((nnW s ((toLedger x)))).f13).map d35) false true)), (458, some (.row 5 183 ((((nnW s ((toLedger x)))).f14).map d183) false true)), (464, some (.box [.d (.v (.string (((nnW s ((toLedger x)))).f0))), .d (.v (.int .i64 (((nnW s ((toLedger x)))).f1))), .d (.v (.int .i64 ((((nnW s ((toLedger x)))).f2).f0))), .ref 448, .ref 449, .ref 450, .d (.v (.int .i64 (((nnW s ((toLedger x)))).f5))), .d (.v (.int .i64 (((nnW s ((toLedger x)))).f6))), .d (.v (.int .i64 ((((nnW s ((toLedger x)))).f7).f0))), .d (.v (.int .i64 ((((nnW s ((toLedger x)))).f7).f1))), .ref 451, .d (.v (.int .i64 ((((nnW s ((toLedger x)))).f8).f0))), .ref 452, .ref 453, .d (.v (.int .i64 (((nnW s ((toLedger x)))).f9))), .ref 454, .ref 455, .ref 456, .ref 457, .ref 458]))], 656⟩ ?_
     refine X.seq (rs 2 ?_)
     obtain ⟨r35, q36, hr38, hf37⟩ := l_markLedgerx ((toLedger x)) 1 (by assumption) (by first | assumption | omega)
     obtain ⟨hal, hat, hak, ham⟩ := hr38
     refine CH.callG hf37 Try.func22 ⟨rfl, rfl⟩ [(368, 0)] (by kernel_rfl) (by kernel_rfl) (by kernel_rfl) (nb := true) (fun _ => (back_consN 5 38 [(4, 2, 188)] ((((toLedger x)).f1).map d38) 38 [(4, 2, 188)] (q36.map d38) (by kernel_rfl) (by kernel_rfl) (by first | (simp; done) | (simp only [List.length_map]; first | assumption | omega) | (simp; omega)) back_nil)) (by kernel_rfl) ?_
     refine go 1 ?_
     refine ek ⟨[(0, .e (.c (.d (.v (.string s))))), (3, .pt 64 0 0), (6, .pt 320 0 0), (8, .pt 464 0 0), (9, iV r35)], [(64, some (.box [.d (.v (.int .i64 x.f0)), .d (.sl (x.f1.map d151))])), (320, some (.box [.d (.v (.string (((nnW s ((toLedger x)))).f0))), .d (.v (.int .i64 (((nnW s ((toLedger x)))).f1))), .d (.v (.int .i64 ((((nnW s ((toLedger x)))).f2).f0))), .f (.sl (((((nnW s ((toLedger x)))).f2).f1).map d38)), .f (.sl ((((nnW s ((toLedger x)))).f3).map d165)), .f (.sl ((((nnW s ((toLedger x)))).f4).map d72)), .d (.v (.int .i64 (((nnW s ((toLedger x)))).f5))), .d (.v (.int .i64 (((nnW s ((toLedger x)))).f6))), .d (.v (.int .i64 ((((nnW s ((toLedger x)))).f7).f0))), .d (.v (.int .i64 ((((nnW s ((toLedger x)))).f7).f1))), .f (.sl (((((nnW s ((toLedger x)))).f7).f2).map dS)), .d (.v (.int .i64 ((((nnW s ((toLedger x)))).f8).f0))), .f (.sl (((((nnW s ((toLedger x)))).f8).f1).map dS)), .f (.sl (((((nnW s ((toLedger x)))).f8).f2).map dI)), .d (.v (.int .i64 (((nnW s ((toLedger x)))).f9))), .f (.sl ((((nnW s ((toLedger x)))).f10).map d177)), .f (.sl ((((nnW s ((toLedger x)))).f11).map d180)), .f (.sl ((((nnW s ((toLedger x)))).f12).map dI)), .f (.sl ((((nnW s ((toLedger x)))).f13).map d35)), .f (.sl ((((nnW s ((toLedger x)))).f14).map d183))])), (448, some (.nst 5 38 [(4, 2, 188)] (((((nnW s ((toLedger x)))).f2).f1).map d38) [])), (449, some (.row 2 165 ((((nnW s ((toLedger x)))).f3).map d165) false true)), (450, some (.row 14 72 ((((nnW s ((toLedger x)))).f4).map d72) false true)), (451, some (.row 1 9 (((((nnW s ((toLedger x)))).f7).f2).map dS) false true)), (452, some (.row 1 9 (((((nnW s ((toLedger x)))).f8).f1).map dS) false true)), (453, some (.row 1 3 (((((nnW s ((toLedger x)))).f8).f2).map dI) false true)), (454, some (.row 3 177 ((((nnW s ((toLedger x)))).f10).map d177) false true)), (455, some (.row 3 180 ((((nnW s ((toLedger x)))).f11).map d180) false true)), (456, some (.row 1 3 ((((nnW s ((toLedger x)))).f12).map dI) false true)), (457, some (.row 5 35 ((((nnW s ((toLedger x)))).f13).map d35) false true)), (458, some (.row 5 183 ((((nnW s ((toLedger x)))).f14).map d183) false true)), (464, some (.box [.d (.v (.string (((nnW s ((toLedger x)))).f0))), .d (.v (.int .i64 (((nnW s ((toLedger x)))).f1))), .d (.v (.int .i64 ((((nnW s ((toLedger x)))).f2).f0))), .ref 448, .ref 449, .ref 450, .d (.v (.int .i64 (((nnW s ((toLedger x)))).f5))), .d (.v (.int .i64 (((nnW s ((toLedger x)))).f6))), .d (.v (.int .i64 ((((nnW s ((toLedger x)))).f7).f0))), .d (.v (.int .i64 ((((nnW s ((toLedger x)))).f7).f1))), .ref 451, .d (.v (.int .i64 ((((nnW s ((toLedger x)))).f8).f0))), .ref 452, .ref 453, .d (.v (.int .i64 (((nnW s ((toLedger x)))).f9))), .ref 454, .ref 455, .ref 456, .ref 457, .ref 458]))], 720⟩ ?_
     refine X.seq ?_
     refine X.seq (rs 3 ?_)
     rcases Bool.eq_false_or_eq_true (decide ((r35 : Int) < 0)) with hb39 | hb39
     ·refine aT 43 hb39 ?_
      refine aT 44 hb39 ?_
      replace hb39 := of_decide_eq_true (hb39)
      refine go 5 ?_
      refine ek ⟨[(0, .e (.c (.d (.v (.string s))))), (3, .pt 64 0 0), (6, .pt 320 0 0), (8, .pt 464 0 0), (49, bV true)], [(64, some (.box [.d (.v (.int .i64 x.f0)), .d (.sl (x.f1.map d151))])), (320, some (.box [.d (.v (.string (((nnW s ((toLedger x)))).f0))), .d (.v (.int .i64 (((nnW s ((toLedger x)))).f1))), .d (.v (.int .i64 ((((nnW s ((toLedger x)))).f2).f0))), .f (.sl (((((nnW s ((toLedger x)))).f2).f1).map d38)), .f (.sl ((((nnW s ((toLedger x)))).f3).map d165)), .f (.sl ((((nnW s ((toLedger x)))).f4).map d72)), .d (.v (.int .i64 (((nnW s ((toLedger x)))).f5))), .d (.v (.int .i64 (((nnW s ((toLedger x)))).f6))), .d (.v (.int .i64 ((((nnW s ((toLedger x)))).f7).f0))), .d (.v (.int .i64 ((((nnW s ((toLedger x)))).f7).f1))), .f (.sl (((((nnW s ((toLedger x)))).f7).f2).map dS)), .d (.v (.int .i64 ((((nnW s ((toLedger x)))).f8).f0))), .f (.sl (((((nnW s ((toLedger x)))).f8).f1).map dS)), .f (.sl (((((nnW s ((toLedger x)))).f8).f2).map dI)), .d (.v (.int .i64 (((nnW s ((toLedger x)))).f9))), .f (.sl ((((nnW s ((toLedger x)))).f10).map d177)), .f (.sl ((((nnW s ((toLedger x)))).f11).map d180)), .f (.sl ((((nnW s ((toLedger x)))).f12).map dI)), .f (.sl ((((nnW s ((toLedger x)))).f13).map d35)), .f (.sl ((((nnW s ((toLedger x)))).f14).map d183))])), (448, some (.nst 5 38 [(4, 2, 188)] (((((nnW s ((toLedger x)))).f2).f1).map d38) [])), (449, some (.row 2 165 ((((nnW s ((toLedger x)))).f3).map d165) false true)), (450, some (.row 14 72 ((((nnW s ((toLedger x)))).f4).map d72) false true)), (451, some (.row 1 9 (((((nnW s ((toLedger x)))).f7).f2).map dS) false true)), (452, some (.row 1 9 (((((nnW s ((toLedger x)))).f8).f1).map dS) false true)), (453, some (.row 1 3 (((((nnW s ((toLedger x)))).f8).f2).map dI) false true)), (454, some (.row 3 177 ((((nnW s ((toLedger x)))).f10).map d177) false true)), (455, some (.row 3 180 ((((nnW s ((toLedger x)))).f11).map d180) false true)), (456, some (.row 1 3 ((((nnW s ((toLedger x)))).f12).map dI) false true)), (457, some (.row 5 35 ((((nnW s ((toLedger x)))).f13).map d35) false true)), (458, some (.row 5 183 ((((nnW s ((toLedger x)))).f14).map d183) false true)), (464, some (.box [.d (.v (.string (((nnW s ((toLedger x)))).f0))), .d (.v (.int .i64 (((nnW s ((toLedger x)))).f1))), .d (.v (.int .i64 ((((nnW s ((toLedger x)))).f2).f0))), .ref 448, .ref 449, .ref 450, .d (.v (.int .i64 (((nnW s ((toLedger x)))).f5))), .d (.v (.int .i64 (((nnW s ((toLedger x)))).f6))), .d (.v (.int .i64 ((((nnW s ((toLedger x)))).f7).f0))), .d (.v (.int .i64 ((((nnW s ((toLedger x)))).f7).f1))), .ref 451, .d (.v (.int .i64 ((((nnW s ((toLedger x)))).f8).f0))), .ref 452, .ref 453, .d (.v (.int .i64 (((nnW s ((toLedger x)))).f9))), .ref 454, .ref 455, .ref 456, .ref 457, .ref 458]))], 848⟩ ?_
      refine X.ifT (by kernel_rfl) ?_
      refine sk ⟨[(4, bV false)], [], 864⟩ ?_
      refine X.ret ?_
      exact ⟨trivial, _, _, ⟨false, (by first | exact rfl | exact (by exfalso; omega) | exact (tf (allEq_self _) ‹_›) | exact (tf (eqV_self _) ‹_›) | exact (absurd rfl ‹_›) | exact (by simp_all)), rfl, rfl⟩, mkr⟩
     ·refine aF 43 hb39 ?_
      refine aF 44 hb39 ?_
      replace hb39 := of_decide_eq_false (hb39)
      refine go 2 ?_
      obtain ⟨r40, hr42, hf41⟩ := l_eqNode ((nnW s ((toLedger x)))) ((nnW s ((toLedger x)))) (by rfl) (by first | assumption | exact hns1) (by first | assumption | omega) (by assumption)
      replace hr42 := hr42.symm; subst hr42
      refine ca hf41 Try.func37 ?_
      refine go 2 ?_
      refine ek ⟨[(0, .e (.c (.d (.v (.string s))))), (3, .pt 64 0 0), (6, .pt 320 0 0), (8, .pt 464 0 0), (49, bV false)], [(64, some (.box [.d (.v (.int .i64 x.f0)), .d (.sl (x.f1.map d151))])), (320, some (.box [.d (.v (.string (((nnW s ((toLedger x)))).f0))), .d (.v (.int .i64 (((nnW s ((toLedger x)))).f1))), .d (.v (.int .i64 ((((nnW s ((toLedger x)))).f2).f0))), .f (.sl (((((nnW s ((toLedger x)))).f2).f1).map d38)), .f (.sl ((((nnW s ((toLedger x)))).f3).map d165)), .f (.sl ((((nnW s ((toLedger x)))).f4).map d72)), .d (.v (.int .i64 (((nnW s ((toLedger x)))).f5))), .d (.v (.int .i64 (((nnW s ((toLedger x)))).f6))), .d (.v (.int .i64 ((((nnW s ((toLedger x)))).f7).f0))), .d (.v (.int .i64 ((((nnW s ((toLedger x)))).f7).f1))), .f (.sl (((((nnW s ((toLedger x)))).f7).f2).map dS)), .d (.v (.int .i64 ((((nnW s ((toLedger x)))).f8).f0))), .f (.sl (((((nnW s ((toLedger x)))).f8).f1).map dS)), .f (.sl (((((nnW s ((toLedger x)))).f8).f2).map dI)), .d (.v (.int .i64 (((nnW s ((toLedger x)))).f9))), .f (.sl ((((nnW s ((toLedger x)))).f10).map d177)), .f (.sl ((((nnW s ((toLedger x)))).f11).map d180)), .f (.sl ((((nnW s ((toLedger x)))).f12).map dI)), .f (.sl ((((nnW s ((toLedger x)))).f13).map d35)), .f (.sl ((((nnW s ((toLedger x)))).f14).map d183))])), (448, some (.nst 5 38 [(4, 2, 188)] (((((nnW s ((toLedger x)))).f2).f1).map d38) [])), (449, some (.row 2 165 ((((nnW s ((toLedger x)))).f3).map d165) false true)), (450, some (.row 14 72 ((((nnW s ((toLedger x)))).f4).map d72) false true)), (451, some (.row 1 9 (((((nnW s ((toLedger x)))).f7).f2).map dS) false true)), (452, some (.row 1 9 (((((nnW s ((toLedger x)))).f8).f1).map dS) false true)), (453, some (.row 1 3 (((((nnW s ((toLedger x)))).f8).f2).map dI) false true)), (454, some (.row 3 177 ((((nnW s ((toLedger x)))).f10).map d177) false true)), (455, some (.row 3 180 ((((nnW s ((toLedger x)))).f11).map d180) false true)), (456, some (.row 1 3 ((((nnW s ((toLedger x)))).f12).map dI) false true)), (457, some (.row 5 35 ((((nnW s ((toLedger x)))).f13).map d35) false true)), (458, some (.row 5 183 ((((nnW s ((toLedger x)))).f14).map d183) false true)), (464, some (.box [.d (.v (.string (((nnW s ((toLedger x)))).f0))), .d (.v (.int .i64 (((nnW s ((toLedger x)))).f1))), .d (.v (.int .i64 ((((nnW s ((toLedger x)))).f2).f0))), .ref 448, .ref 449, .ref 450, .d (.v (.int .i64 (((nnW s ((toLedger x)))).f5))), .d (.v (.int .i64 (((nnW s ((toLedger x)))).f6))), .d (.v (.int .i64 ((((nnW s ((toLedger x)))).f7).f0))), .d (.v (.int .i64 ((((nnW s ((toLedger x)))).f7).f1))), .ref 451, .d (.v (.int .i64 ((((nnW s ((toLedger x)))).f8).f0))), .ref 452, .ref 453, .d (.v (.int .i64 (((nnW s ((toLedger x)))).f9))), .ref 454, .ref 455, .ref 456, .ref 457, .ref 458]))], 848⟩ ?_
      refine X.ifF (by kernel_rfl) ?_
      refine X.skip ?_
      refine sk ⟨[(0, .e (.c (.d (.v (.string s))))), (3, .pt 64 0 0), (6, .pt 320 0 0), (8, .pt 464 0 0), (10, iV 1)], [(64, some (.box [.d (.v (.int .i64 x.f0)), .d (.sl (x.f1.map d151))])), (320, some (.box [.d (.v (.string (((nnW s ((toLedger x)))).f0))), .d (.v (.int .i64 (((nnW s ((toLedger x)))).f1))), .d (.v (.int .i64 ((((nnW s ((toLedger x)))).f2).f0))), .f (.sl (((((nnW s ((toLedger x)))).f2).f1).map d38)), .f (.sl ((((nnW s ((toLedger x)))).f3).map d165)), .f (.sl ((((nnW s ((toLedger x)))).f4).map d72)), .d (.v (.int .i64 (((nnW s ((toLedger x)))).f5))), .d (.v (.int .i64 (((nnW s ((toLedger x)))).f6))), .d (.v (.int .i64 ((((nnW s ((toLedger x)))).f7).f0))), .d (.v (.int .i64 ((((nnW s ((toLedger x)))).f7).f1))), .f (.sl (((((nnW s ((toLedger x)))).f7).f2).map dS)), .d (.v (.int .i64 ((((nnW s ((toLedger x)))).f8).f0))), .f (.sl (((((nnW s ((toLedger x)))).f8).f1).map dS)), .f (.sl (((((nnW s ((toLedger x)))).f8).f2).map dI)), .d (.v (.int .i64 (((nnW s ((toLedger x)))).f9))), .f (.sl ((((nnW s ((toLedger x)))).f10).map d177)), .f (.sl ((((nnW s ((toLedger x)))).f11).map d180)), .f (.sl ((((nnW s ((toLedger x)))).f12).map dI)), .f (.sl ((((nnW s ((toLedger x)))).f13).map d35)), .f (.sl ((((nnW s ((toLedger x)))).f14).map d183))])), (448, some (.nst 5 38 [(4, 2, 188)] (((((nnW s ((toLedger x)))).f2).f1).map d38) [])), (449, some (.row 2 165 ((((nnW s ((toLedger x)))).f3).map d165) false true)), (450, some (.row 14 72 ((((nnW s ((toLedger x)))).f4).map d72) false true)), (451, some (.row 1 9 (((((nnW s ((toLedger x)))).f7).f2).map dS) false true)), (452, some (.row 1 9 (((((nnW s ((toLedger x)))).f8).f1).map dS) false true)), (453, some (.row 1 3 (((((nnW s ((toLedger x)))).f8).f2).map dI) false true)), (454, some (.row 3 177 ((((nnW s ((toLedger x)))).f10).map d177) false true)), (455, some (.row 3 180 ((((nnW s ((toLedger x)))).f11).map d180) false true)), (456, some (.row 1 3 ((((nnW s ((toLedger x)))).f12).map dI) false true)), (457, some (.row 5 35 ((((nnW s ((toLedger x)))).f13).map d35) false true)), (458, some (.row 5 183 ((((nnW s ((toLedger x)))).f14).map d183) false true)), (464, some (.box [.d (.v (.string (((nnW s ((toLedger x)))).f0))), .d (.v (.int .i64 (((nnW s ((toLedger x)))).f1))), .d (.v (.int .i64 ((((nnW s ((toLedger x)))).f2).f0))), .ref 448, .ref 449, .ref 450, .d (.v (.int .i64 (((nnW s ((toLedger x)))).f5))), .d (.v (.int .i64 (((nnW s ((toLedger x)))).f6))), .d (.v (.int .i64 ((((nnW s ((toLedger x)))).f7).f0))), .d (.v (.int .i64 ((((nnW s ((toLedger x)))).f7).f1))), .ref 451, .d (.v (.int .i64 ((((nnW s ((toLedger x)))).f8).f0))), .ref 452, .ref 453, .d (.v (.int .i64 (((nnW s ((toLedger x)))).f9))), .ref 454, .ref 455, .ref 456, .ref 457, .ref 458]))], 864⟩ ?_
      refine X.seq (rs 2 ?_)
      obtain ⟨r44, q45, q46, q47, q48, q49, q50, q51, q52, q53, q54, q55, hr57, hf56⟩ := l_markNode ((nnW s ((toLedger x)))) 1 (by first | assumption | exact hns1) (by first | assumption | omega) (by first | assumption | omega) (by assumption)
      obtain ⟨nq0, nqt, nq1, nqe, nqk, nqa, nqv⟩ := hr57
      refine CH.callG hf56 Try.func38 ⟨rfl, rfl⟩ [(448, 0), (449, 1), (450, 2), (451, 3), (452, 4), (453, 5), (454, 6), (455, 7), (456, 8), (457, 9), (458, 10)] (by kernel_rfl) (by kernel_rfl) (by kernel_rfl) (nb := true) (fun _ => (back_consN 5 38 [(4, 2, 188)] (((((nnW s ((toLedger x)))).f2).f1).map d38) 38 [(4, 2, 188)] (q45.map d38) (by kernel_rfl) (by kernel_rfl) (by first | (simp; done) | (simp only [List.length_map]; first | assumption | omega) | (simp; omega)) (back_cons 2 165 ((((nnW s ((toLedger x)))).f3).map d165) true 165 (q46.map d165) (by kernel_rfl) (by kernel_rfl) (by first | (simp; done) | (simp; omega)) (back_cons 14 72 ((((nnW s ((toLedger x)))).f4).map d72) true 72 (q47.map d72) (by kernel_rfl) (by kernel_rfl) (by first | (simp; done) | (simp; omega)) (back_cons 1 9 (((((nnW s ((toLedger x)))).f7).f2).map dS) true 9 (q48.map dS) (by kernel_rfl) (by kernel_rfl) (by first | (simp; done) | (simp; omega)) (back_cons 1 9 (((((nnW s ((toLedger x)))).f8).f1).map dS) true 9 (q49.map dS) (by kernel_rfl) (by kernel_rfl) (by first | (simp; done) | (simp; omega)) (back_cons 1 3 (((((nnW s ((toLedger x)))).f8).f2).map dI) true 3 (q50.map dI) (by kernel_rfl) (by kernel_rfl) (by first | (simp; done) | (simp; omega)) (back_cons 3 177 ((((nnW s ((toLedger x)))).f10).map d177) true 177 (q51.map d177) (by kernel_rfl) (by kernel_rfl) (by first | (simp; done) | (simp; omega)) (back_cons 3 180 ((((nnW s ((toLedger x)))).f11).map d180) true 180 (q52.map d180) (by kernel_rfl) (by kernel_rfl) (by first | (simp; done) | (simp; omega)) (back_cons 1 3 ((((nnW s ((toLedger x)))).f12).map dI) true 3 (q53.map dI) (by kernel_rfl) (by kernel_rfl) (by first | (simp; done) | (simp; omega)) (back_cons 5 35 ((((nnW s ((toLedger x)))).f13).map d35) true 35 (q54.map d35) (by kernel_rfl) (by kernel_rfl) (by first | (simp; done) | (simp; omega)) (back_cons 5 183 ((((nnW s ((toLedger x)))).f14).map d183) true 183 (q55.map d183) (by kernel_rfl) (by kernel_rfl) (by first | (simp; done) | (simp; omega)) back_nil)))))))))))) (by kernel_rfl) ?_
      refine go 1 ?_
      refine ek ⟨[(0, .e (.c (.d (.v (.string s))))), (3, .pt 64 0 0), (6, .pt 320 0 0), (8, .pt 464 0 0), (10, iV r44)], [(64, some (.box [.d (.v (.int .i64 x.f0)), .d (.sl (x.f1.map d151))])), (320, some (.box [.d (.v (.string (((nnW s ((toLedger x)))).f0))), .d (.v (.int .i64 (((nnW s ((toLedger x)))).f1))), .d (.v (.int .i64 ((((nnW s ((toLedger x)))).f2).f0))), .f (.sl (((((nnW s ((toLedger x)))).f2).f1).map d38)), .f (.sl ((((nnW s ((toLedger x)))).f3).map d165)), .f (.sl ((((nnW s ((toLedger x)))).f4).map d72)), .d (.v (.int .i64 (((nnW s ((toLedger x)))).f5))), .d (.v (.int .i64 (((nnW s ((toLedger x)))).f6))), .d (.v (.int .i64 ((((nnW s ((toLedger x)))).f7).f0))), .d (.v (.int .i64 ((((nnW s ((toLedger x)))).f7).f1))), .f (.sl (((((nnW s ((toLedger x)))).f7).f2).map dS)), .d (.v (.int .i64 ((((nnW s ((toLedger x)))).f8).f0))), .f (.sl (((((nnW s ((toLedger x)))).f8).f1).map dS)), .f (.sl (((((nnW s ((toLedger x)))).f8).f2).map dI)), .d (.v (.int .i64 (((nnW s ((toLedger x)))).f9))), .f (.sl ((((nnW s ((toLedger x)))).f10).map d177)), .f (.sl ((((nnW s ((toLedger x)))).f11).map d180)), .f (.sl ((((nnW s ((toLedger x)))).f12).map dI)), .f (.sl ((((nnW s ((toLedger x)))).f13).map d35)), .f (.sl ((((nnW s ((toLedger x)))).f14).map d183))])), (448, some (.nst 5 38 [(4, 2, 188)] (q45.map d38) [])), (449, some (.row 2 165 (q46.map d165) false true)), (450, some (.row 14 72 (q47.map d72) false true)), (451, some (.row 1 9 (q48.map dS) false true)), (452, some (.row 1 9 (q49.map dS) false true)), (453, some (.row 1 3 (q50.map dI) false true)), (454, some (.row 3 177 (q51.map d177) false true)), (455, some (.row 3 180 (q52.map d180) false true)), (456, some (.row 1 3 (q53.map dI) false true)), (457, some (.row 5 35 (q54.map d35) false true)), (458, some (.row 5 183 (q55.map d183) false true)), (464, some (.box [.d (.v (.string (((nnW s ((toLedger x)))).f0))), .d (.v (.int .i64 (((nnW s ((toLedger x)))).f1))), .d (.v (.int .i64 ((((nnW s ((toLedger x)))).f2).f0))), .ref 448, .ref 449, .ref 450, .d (.v (.int .i64 (((nnW s ((toLedger x)))).f5))), .d (.v (.int .i64 (((nnW s ((toLedger x)))).f6))), .d (.v (.int .i64 ((((nnW s ((toLedger x)))).f7).f0))), .d (.v (.int .i64 ((((nnW s ((toLedger x)))).f7).f1))), .ref 451, .d (.v (.int .i64 ((((nnW s ((toLedger x)))).f8).f0))), .ref 452, .ref 453, .d (.v (.int .i64 (((nnW s ((toLedger x)))).f9))), .ref 454, .ref 455, .ref 456, .ref 457, .ref 458]))], 928⟩ ?_
      refine sk ⟨[(0, .e (.c (.d (.v (.string s))))), (3, .pt 64 0 0), (6, .pt 320 0 0), (8, .pt 464 0 0), (10, iV r44), (11, iV 1)], [(64, some (.box [.d (.v (.int .i64 x.f0)), .d (.sl (x.f1.map d151))])), (320, some (.box [.d (.v (.string (((nnW s ((toLedger x)))).f0))), .d (.v (.int .i64 (((nnW s ((toLedger x)))).f1))), .d (.v (.int .i64 ((((nnW s ((toLedger x)))).f2).f0))), .f (.sl (((((nnW s ((toLedger x)))).f2).f1).map d38)), .f (.sl ((((nnW s ((toLedger x)))).f3).map d165)), .f (.sl ((((nnW s ((toLedger x)))).f4).map d72)), .d (.v (.int .i64 (((nnW s ((toLedger x)))).f5))), .d (.v (.int .i64 (((nnW s ((toLedger x)))).f6))), .d (.v (.int .i64 ((((nnW s ((toLedger x)))).f7).f0))), .d (.v (.int .i64 ((((nnW s ((toLedger x)))).f7).f1))), .f (.sl (((((nnW s ((toLedger x)))).f7).f2).map dS)), .d (.v (.int .i64 ((((nnW s ((toLedger x)))).f8).f0))), .f (.sl (((((nnW s ((toLedger x)))).f8).f1).map dS)), .f (.sl (((((nnW s ((toLedger x)))).f8).f2).map dI)), .d (.v (.int .i64 (((nnW s ((toLedger x)))).f9))), .f (.sl ((((nnW s ((toLedger x)))).f10).map d177)), .f (.sl ((((nnW s ((toLedger x)))).f11).map d180)), .f (.sl ((((nnW s ((toLedger x)))).f12).map dI)), .f (.sl ((((nnW s ((toLedger x)))).f13).map d35)), .f (.sl ((((nnW s ((toLedger x)))).f14).map d183))])), (448, some (.nst 5 38 [(4, 2, 188)] (q45.map d38) [])), (449, some (.row 2 165 (q46.map d165) false true)), (450, some (.row 14 72 (q47.map d72) false true)), (451, some (.row 1 9 (q48.map dS) false true)), (452, some (.row 1 9 (q49.map dS) false true)), (453, some (.row 1 3 (q50.map dI) false true)), (454, some (.row 3 177 (q51.map d177) false true)), (455, some (.row 3 180 (q52.map d180) false true)), (456, some (.row 1 3 (q53.map dI) false true)), (457, some (.row 5 35 (q54.map d35) false true)), (458, some (.row 5 183 (q55.map d183) false true)), (464, some (.box [.d (.v (.string (((nnW s ((toLedger x)))).f0))), .d (.v (.int .i64 (((nnW s ((toLedger x)))).f1))), .d (.v (.int .i64 ((((nnW s ((toLedger x)))).f2).f0))), .ref 448, .ref 449, .ref 450, .d (.v (.int .i64 (((nnW s ((toLedger x)))).f5))), .d (.v (.int .i64 (((nnW s ((toLedger x)))).f6))), .d (.v (.int .i64 ((((nnW s ((toLedger x)))).f7).f0))), .d (.v (.int .i64 ((((nnW s ((toLedger x)))).f7).f1))), .ref 451, .d (.v (.int .i64 ((((nnW s ((toLedger x)))).f8).f0))), .ref 452, .ref 453, .d (.v (.int .i64 (((nnW s ((toLedger x)))).f9))), .ref 454, .ref 455, .ref 456, .ref 457, .ref 458]))], 944⟩ ?_
      refine X.seq (rs 2 ?_)
      obtain ⟨r58, hr60, hf59⟩ := l_heldNode (⟨((nnW s ((toLedger x)))).f0, ((nnW s ((toLedger x)))).f1, (⟨(((nnW s ((toLedger x)))).f2).f0, q45⟩ : S27), q46, q47, ((nnW s ((toLedger x)))).f5, ((nnW s ((toLedger x)))).f6, (⟨(((nnW s ((toLedger x)))).f7).f0, (((nnW s ((toLedger x)))).f7).f1, q48⟩ : S68), (⟨(((nnW s ((toLedger x)))).f8).f0, q49, q50⟩ : S69), ((nnW s ((toLedger x)))).f9, q51, q52, q53, q54, q55⟩ : S83) 1 (by first | assumption | (dsimp only; omega)) (by first | assumption | (dsimp only; omega)) (by first | assumption | (dsimp only; omega)) (by first | assumption | (dsimp only; omega)) (by first | assumption | exact nqe)
      obtain ⟨nhb, nhd⟩ := hr60
      refine ca hf59 Try.func39 ?_
      refine go 1 ?_
      refine ek ⟨[(0, .e (.c (.d (.v (.string s))))), (3, .pt 64 0 0), (6, .pt 320 0 0), (8, .pt 464 0 0), (10, iV r44), (11, iV r58)], [(64, some (.box [.d (.v (.int .i64 x.f0)), .d (.sl (x.f1.map d151))])), (320, some (.box [.d (.v (.string (((nnW s ((toLedger x)))).f0))), .d (.v (.int .i64 (((nnW s ((toLedger x)))).f1))), .d (.v (.int .i64 ((((nnW s ((toLedger x)))).f2).f0))), .f (.sl (((((nnW s ((toLedger x)))).f2).f1).map d38)), .f (.sl ((((nnW s ((toLedger x)))).f3).map d165)), .f (.sl ((((nnW s ((toLedger x)))).f4).map d72)), .d (.v (.int .i64 (((nnW s ((toLedger x)))).f5))), .d (.v (.int .i64 (((nnW s ((toLedger x)))).f6))), .d (.v (.int .i64 ((((nnW s ((toLedger x)))).f7).f0))), .d (.v (.int .i64 ((((nnW s ((toLedger x)))).f7).f1))), .f (.sl (((((nnW s ((toLedger x)))).f7).f2).map dS)), .d (.v (.int .i64 ((((nnW s ((toLedger x)))).f8).f0))), .f (.sl (((((nnW s ((toLedger x)))).f8).f1).map dS)), .f (.sl (((((nnW s ((toLedger x)))).f8).f2).map dI)), .d (.v (.int .i64 (((nnW s ((toLedger x)))).f9))), .f (.sl ((((nnW s ((toLedger x)))).f10).map d177)), .f (.sl ((((nnW s ((toLedger x)))).f11).map d180)), .f (.sl ((((nnW s ((toLedger x)))).f12).map dI)), .f (.sl ((((nnW s ((toLedger x)))).f13).map d35)), .f (.sl ((((nnW s ((toLedger x)))).f14).map d183))])), (448, some (.nst 5 38 [(4, 2, 188)] (q45.map d38) [])), (449, some (.row 2 165 (q46.map d165) false true)), (450, some (.row 14 72 (q47.map d72) false true)), (451, some (.row 1 9 (q48.map dS) false true)), (452, some (.row 1 9 (q49.map dS) false true)), (453, some (.row 1 3 (q50.map dI) false true)), (454, some (.row 3 177 (q51.map d177) false true)), (455, some (.row 3 180 (q52.map d180) false true)), (456, some (.row 1 3 (q53.map dI) false true)), (457, some (.row 5 35 (q54.map d35) false true)), (458, some (.row 5 183 (q55.map d183) false true)), (464, some (.box [.d (.v (.string (((nnW s ((toLedger x)))).f0))), .d (.v (.int .i64 (((nnW s ((toLedger x)))).f1))), .d (.v (.int .i64 ((((nnW s ((toLedger x)))).f2).f0))), .ref 448, .ref 449, .ref 450, .d (.v (.int .i64 (((nnW s ((toLedger x)))).f5))), .d (.v (.int .i64 (((nnW s ((toLedger x)))).f6))), .d (.v (.int .i64 ((((nnW s ((toLedger x)))).f7).f0))), .d (.v (.int .i64 ((((nnW s ((toLedger x)))).f7).f1))), .ref 451, .d (.v (.int .i64 ((((nnW s ((toLedger x)))).f8).f0))), .ref 452, .ref 453, .d (.v (.int .i64 (((nnW s ((toLedger x)))).f9))), .ref 454, .ref 455, .ref 456, .ref 457, .ref 458]))], 1008⟩ ?_
      refine X.seq ?_
      refine X.seq ?_
      have hh := nhd ⟨by dsimp only; rw [nq0]; exact nqa, by dsimp only; rw [nq0, nqt, nq1]; exact nqv⟩
      dsimp only at hh
      refine rk ⟨[(0, .e (.c (.d (.v (.string s))))), (3, .pt 64 0 0), (6, .pt 320 0 0), (8, .pt 464 0 0), (10, iV r44), (11, iV r58), (57, bV (decide ((r58 : Int) < 0)))], [(64, some (.box [.d (.v (.int .i64 x.f0)), .d (.sl (x.f1.map d151))])), (320, some (.box [.d (.v (.string (((nnW s ((toLedger x)))).f0))), .d (.v (.int .i64 (((nnW s ((toLedger x)))).f1))), .d (.v (.int .i64 ((((nnW s ((toLedger x)))).f2).f0))), .f (.sl (((((nnW s ((toLedger x)))).f2).f1).map d38)), .f (.sl ((((nnW s ((toLedger x)))).f3).map d165)), .f (.sl ((((nnW s ((toLedger x)))).f4).map d72)), .d (.v (.int .i64 (((nnW s ((toLedger x)))).f5))), .d (.v (.int .i64 (((nnW s ((toLedger x)))).f6))), .d (.v (.int .i64 ((((nnW s ((toLedger x)))).f7).f0))), .d (.v (.int .i64 ((((nnW s ((toLedger x)))).f7).f1))), .f (.sl (((((nnW s ((toLedger x)))).f7).f2).map dS)), .d (.v (.int .i64 ((((nnW s ((toLedger x)))).f8).f0))), .f (.sl (((((nnW s ((toLedger x)))).f8).f1).map dS)), .f (.sl (((((nnW s ((toLedger x)))).f8).f2).map dI)), .d (.v (.int .i64 (((nnW s ((toLedger x)))).f9))), .f (.sl ((((nnW s ((toLedger x)))).f10).map d177)), .f (.sl ((((nnW s ((toLedger x)))).f11).map d180)), .f (.sl ((((nnW s ((toLedger x)))).f12).map dI)), .f (.sl ((((nnW s ((toLedger x)))).f13).map d35)), .f (.sl ((((nnW s ((toLedger x)))).f14).map d183))])), (448, some (.nst 5 38 [(4, 2, 188)] (q45.map d38) [])), (449, some (.row 2 165 (q46.map d165) false true)), (450, some (.row 14 72 (q47.map d72) false true)), (451, some (.row 1 9 (q48.map dS) false true)), (452, some (.row 1 9 (q49.map dS) false true)), (453, some (.row 1 3 (q50.map dI) false true)), (454, some (.row 3 177 (q51.map d177) false true)), (455, some (.row 3 180 (q52.map d180) false true)), (456, some (.row 1 3 (q53.map dI) false true)), (457, some (.row 5 35 (q54.map d35) false true)), (458, some (.row 5 183 (q55.map d183) false true)), (464, some (.box [.d (.v (.string (((nnW s ((toLedger x)))).f0))), .d (.v (.int .i64 (((nnW s ((toLedger x)))).f1))), .d (.v (.int .i64 ((((nnW s ((toLedger x)))).f2).f0))), .ref 448, .ref 449, .ref 450, .d (.v (.int .i64 (((nnW s ((toLedger x)))).f5))), .d (.v (.int .i64 (((nnW s ((toLedger x)))).f6))), .d (.v (.int .i64 ((((nnW s ((toLedger x)))).f7).f0))), .d (.v (.int .i64 ((((nnW s ((toLedger x)))).f7).f1))), .ref 451, .d (.v (.int .i64 ((((nnW s ((toLedger x)))).f8).f0))), .ref 452, .ref 453, .d (.v (.int .i64 (((nnW s ((toLedger x)))).f9))), .ref 454, .ref 455, .ref 456, .ref 457, .ref 458]))], 1040⟩ ?_
      refine if_ (b := decide ((r58 : Int) < 0)) (fun hb61 => ?_) (fun hb61 => ?_)
      ·replace hb61 := of_decide_eq_true (hb61)
       refine sk ⟨[(4, bV false)], [], 1056⟩ ?_
       refine X.ret ?_
       exact ⟨trivial, _, _, ⟨false, (by first | exact rfl | exact (by exfalso; omega) | exact (tf (allEq_self _) ‹_›) | exact (tf (eqV_self _) ‹_›) | exact (absurd rfl ‹_›) | exact (by simp_all)), rfl, rfl⟩, mkr⟩
      ·replace hb61 := of_decide_eq_false (hb61)
       refine X.skip ?_
       refine X.seq ?_
       refine sk ⟨[(0, .e (.c (.d (.v (.string s))))), (3, .pt 64 0 0), (6, .pt 320 0 0), (8, .pt 464 0 0), (10, iV r44), (60, bV (r58 != r44))], [(64, some (.box [.d (.v (.int .i64 x.f0)), .d (.sl (x.f1.map d151))])), (320, some (.box [.d (.v (.string (((nnW s ((toLedger x)))).f0))), .d (.v (.int .i64 (((nnW s ((toLedger x)))).f1))), .d (.v (.int .i64 ((((nnW s ((toLedger x)))).f2).f0))), .f (.sl (((((nnW s ((toLedger x)))).f2).f1).map d38)), .f (.sl ((((nnW s ((toLedger x)))).f3).map d165)), .f (.sl ((((nnW s ((toLedger x)))).f4).map d72)), .d (.v (.int .i64 (((nnW s ((toLedger x)))).f5))), .d (.v (.int .i64 (((nnW s ((toLedger x)))).f6))), .d (.v (.int .i64 ((((nnW s ((toLedger x)))).f7).f0))), .d (.v (.int .i64 ((((nnW s ((toLedger x)))).f7).f1))), .f (.sl (((((nnW s ((toLedger x)))).f7).f2).map dS)), .d (.v (.int .i64 ((((nnW s ((toLedger x)))).f8).f0))), .f (.sl (((((nnW s ((toLedger x)))).f8).f1).map dS)), .f (.sl (((((nnW s ((toLedger x)))).f8).f2).map dI)), .d (.v (.int .i64 (((nnW s ((toLedger x)))).f9))), .f (.sl ((((nnW s ((toLedger x)))).f10).map d177)), .f (.sl ((((nnW s ((toLedger x)))).f11).map d180)), .f (.sl ((((nnW s ((toLedger x)))).f12).map dI)), .f (.sl ((((nnW s ((toLedger x)))).f13).map d35)), .f (.sl ((((nnW s ((toLedger x)))).f14).map d183))])), (448, some (.nst 5 38 [(4, 2, 188)] (q45.map d38) [])), (449, some (.row 2 165 (q46.map d165) false true)), (450, some (.row 14 72 (q47.map d72) false true)), (451, some (.row 1 9 (q48.map dS) false true)), (452, some (.row 1 9 (q49.map dS) false true)), (453, some (.row 1 3 (q50.map dI) false true)), (454, some (.row 3 177 (q51.map d177) false true)), (455, some (.row 3 180 (q52.map d180) false true)), (456, some (.row 1 3 (q53.map dI) false true)), (457, some (.row 5 35 (q54.map d35) false true)), (458, some (.row 5 183 (q55.map d183) false true)), (464, some (.box [.d (.v (.string (((nnW s ((toLedger x)))).f0))), .d (.v (.int .i64 (((nnW s ((toLedger x)))).f1))), .d (.v (.int .i64 ((((nnW s ((toLedger x)))).f2).f0))), .ref 448, .ref 449, .ref 450, .d (.v (.int .i64 (((nnW s ((toLedger x)))).f5))), .d (.v (.int .i64 (((nnW s ((toLedger x)))).f6))), .d (.v (.int .i64 ((((nnW s ((toLedger x)))).f7).f0))), .d (.v (.int .i64 ((((nnW s ((toLedger x)))).f7).f1))), .ref 451, .d (.v (.int .i64 ((((nnW s ((toLedger x)))).f8).f0))), .ref 452, .ref 453, .d (.v (.int .i64 (((nnW s ((toLedger x)))).f9))), .ref 454, .ref 455, .ref 456, .ref 457, .ref 458]))], 1088⟩ ?_
       refine if_ (b := (r58 != r44)) (fun hb62 => ?_) (fun hb62 => ?_)
       ·replace hb62 := bne_iff_ne.1 (hb62)
        refine sk ⟨[(4, bV false)], [], 1104⟩ ?_
        refine X.ret ?_
        exact ⟨trivial, _, _, ⟨false, (by first | exact rfl | exact (by exfalso; omega) | exact (tf (allEq_self _) ‹_›) | exact (tf (eqV_self _) ‹_›) | exact (absurd rfl ‹_›) | exact (by simp_all)), rfl, rfl⟩, mkr⟩
       ·replace hb62 := bne_eq_false_iff_eq.1 (hb62)
        refine X.skip ?_
        refine X.seq (rs 2 ?_)
        obtain ⟨r63, hr65, hf64⟩ := l_toLedger x (by assumption)
        replace hr65 := hr65.symm; subst hr65
        refine ca hf64 Try.func18 ?_
        obtain ⟨r67, hr69, hf68⟩ := i_NodeNew s ((toLedger x)) (by assumption) (by assumption)
        replace hr69 := hr69.symm; subst hr69
        have hne := nn_e s ((toLedger x))
        have hne2 := hne
        unfold ndE at hne2
        obtain ⟨hns1, hns2, hns3⟩ := nn_sm s (g := ((toLedger x))) (by assumption)
        refine ca hf68 Try.func36 ?_
        refine go 2 ?_
        refine ek ⟨[(6, .pt 320 0 0), (8, .pt 464 0 0), (10, iV r44), (12, .pt 1152 0 0)], [(320, some (.box [.d (.v (.string (((nnW s ((toLedger x)))).f0))), .d (.v (.int .i64 (((nnW s ((toLedger x)))).f1))), .d (.v (.int .i64 ((((nnW s ((toLedger x)))).f2).f0))), .f (.sl (((((nnW s ((toLedger x)))).f2).f1).map d38)), .f (.sl ((((nnW s ((toLedger x)))).f3).map d165)), .f (.sl ((((nnW s ((toLedger x)))).f4).map d72)), .d (.v (.int .i64 (((nnW s ((toLedger x)))).f5))), .d (.v (.int .i64 (((nnW s ((toLedger x)))).f6))), .d (.v (.int .i64 ((((nnW s ((toLedger x)))).f7).f0))), .d (.v (.int .i64 ((((nnW s ((toLedger x)))).f7).f1))), .f (.sl (((((nnW s ((toLedger x)))).f7).f2).map dS)), .d (.v (.int .i64 ((((nnW s ((toLedger x)))).f8).f0))), .f (.sl (((((nnW s ((toLedger x)))).f8).f1).map dS)), .f (.sl (((((nnW s ((toLedger x)))).f8).f2).map dI)), .d (.v (.int .i64 (((nnW s ((toLedger x)))).f9))), .f (.sl ((((nnW s ((toLedger x)))).f10).map d177)), .f (.sl ((((nnW s ((toLedger x)))).f11).map d180)), .f (.sl ((((nnW s ((toLedger x)))).f12).map dI)), .f (.sl ((((nnW s ((toLedger x)))).f13).map d35)), .f (.sl ((((nnW s ((toLedger x)))).f14).map d183))])), (448, some (.nst 5 38 [(4, 2, 188)] (q45.map d38) [])), (449, some (.row 2 165 (q46.map d165) false true)), (450, some (.row 14 72 (q47.map d72) false true)), (451, some (.row 1 9 (q48.map dS) false true)), (452, some (.row 1 9 (q49.map dS) false true)), (453, some (.row 1 3 (q50.map dI) false true)), (454, some (.row 3 177 (q51.map d177) false true)), (455, some (.row 3 180 (q52.map d180) false true)), (456, some (.row 1 3 (q53.map dI) false true)), (457, some (.row 5 35 (q54.map d35) false true)), (458, some (.row 5 183 (q55.map d183) false true)), (464, some (.box [.d (.v (.string (((nnW s ((toLedger x)))).f0))), .d (.v (.int .i64 (((nnW s ((toLedger x)))).f1))), .d (.v (.int .i64 ((((nnW s ((toLedger x)))).f2).f0))), .ref 448, .ref 449, .ref 450, .d (.v (.int .i64 (((nnW s ((toLedger x)))).f5))), .d (.v (.int .i64 (((nnW s ((toLedger x)))).f6))), .d (.v (.int .i64 ((((nnW s ((toLedger x)))).f7).f0))), .d (.v (.int .i64 ((((nnW s ((toLedger x)))).f7).f1))), .ref 451, .d (.v (.int .i64 ((((nnW s ((toLedger x)))).f8).f0))), .ref 452, .ref 453, .d (.v (.int .i64 (((nnW s ((toLedger x)))).f9))), .ref 454, .ref 455, .ref 456, .ref 457, .ref 458])), (1136, some (.nst 5 38 [(4, 2, 188)] (((((nnW s ((toLedger x)))).f2).f1).map d38) [])), (1137, some (.row 2 165 ((((nnW s ((toLedger x)))).f3).map d165) false true)), (1138, some (.row 14 72 ((((nnW s ((toLedger x)))).f4).map d72) false true)), (1139, some (.row 1 9 (((((nnW s ((toLedger x)))).f7).f2).map dS) false true)), (1140, some (.row 1 9 (((((nnW s ((toLedger x)))).f8).f1).map dS) false true)), (1141, some (.row 1 3 (((((nnW s ((toLedger x)))).f8).f2).map dI) false true)), (1142, some (.row 3 177 ((((nnW s ((toLedger x)))).f10).map d177) false true)), (1143, some (.row 3 180 ((((nnW s ((toLedger x)))).f11).map d180) false true)), (1144, some (.row 1 3 ((((nnW s ((toLedger x)))).f12).map dI) false true)), (1145, some (.row 5 35 ((((nnW s ((toLedger x)))).f13).map d35) false true)), (1146, some (.row 5 183 ((((nnW s ((toLedger x)))).f14).map d183) false true)), (1152, some (.box [.d (.v (.string (((nnW s ((toLedger x)))).f0))), .d (.v (.int .i64 (((nnW s ((toLedger x)))).f1))), .d (.v (.int .i64 ((((nnW s ((toLedger x)))).f2).f0))), .ref 1136, .ref 1137, .ref 1138, .d (.v (.int .i64 (((nnW s ((toLedger x)))).f5))), .d (.v (.int .i64 (((nnW s ((toLedger x)))).f6))), .d (.v (.int .i64 ((((nnW s ((toLedger x)))).f7).f0))), .d (.v (.int .i64 ((((nnW s ((toLedger x)))).f7).f1))), .ref 1139, .d (.v (.int .i64 ((((nnW s ((toLedger x)))).f8).f0))), .ref 1140, .ref 1141, .d (.v (.int .i64 (((nnW s ((toLedger x)))).f9))), .ref 1142, .ref 1143, .ref 1144, .ref 1145, .ref 1146]))], 1184⟩ ?_
        refine X.seq ?_
        refine X.seq (rs 2 ?_)
        obtain ⟨r71, hr73, hf72⟩ := l_eqNode ((nnW s ((toLedger x)))) ((nnW s ((toLedger x)))) (by rfl) (by first | assumption | exact hns1) (by first | assumption | omega) (by assumption)
        replace hr73 := hr73.symm; subst hr73
        refine ca hf72 Try.func37 ?_
        refine go 1 ?_
        refine ek ⟨[(8, .pt 464 0 0), (10, iV r44), (68, bV false)], [(448, some (.nst 5 38 [(4, 2, 188)] (q45.map d38) [])), (449, some (.row 2 165 (q46.map d165) false true)), (450, some (.row 14 72 (q47.map d72) false true)), (451, some (.row 1 9 (q48.map dS) false true)), (452, some (.row 1 9 (q49.map dS) false true)), (453, some (.row 1 3 (q50.map dI) false true)), (454, some (.row 3 177 (q51.map d177) false true)), (455, some (.row 3 180 (q52.map d180) false true)), (456, some (.row 1 3 (q53.map dI) false true)), (457, some (.row 5 35 (q54.map d35) false true)), (458, some (.row 5 183 (q55.map d183) false true)), (464, some (.box [.d (.v (.string (((nnW s ((toLedger x)))).f0))), .d (.v (.int .i64 (((nnW s ((toLedger x)))).f1))), .d (.v (.int .i64 ((((nnW s ((toLedger x)))).f2).f0))), .ref 448, .ref 449, .ref 450, .d (.v (.int .i64 (((nnW s ((toLedger x)))).f5))), .d (.v (.int .i64 (((nnW s ((toLedger x)))).f6))), .d (.v (.int .i64 ((((nnW s ((toLedger x)))).f7).f0))), .d (.v (.int .i64 ((((nnW s ((toLedger x)))).f7).f1))), .ref 451, .d (.v (.int .i64 ((((nnW s ((toLedger x)))).f8).f0))), .ref 452, .ref 453, .d (.v (.int .i64 (((nnW s ((toLedger x)))).f9))), .ref 454, .ref 455, .ref 456, .ref 457, .ref 458]))], 1248⟩ ?_
        refine X.ifF (by kernel_rfl) ?_
        refine X.skip ?_
        refine sk ⟨[(8, .pt 464 0 0), (10, iV r44), (11, iV 1)], [(448, some (.nst 5 38 [(4, 2, 188)] (q45.map d38) [])), (449, some (.row 2 165 (q46.map d165) false true)), (450, some (.row 14 72 (q47.map d72) false true)), (451, some (.row 1 9 (q48.map dS) false true)), (452, some (.row 1 9 (q49.map dS) false true)), (453, some (.row 1 3 (q50.map dI) false true)), (454, some (.row 3 177 (q51.map d177) false true)), (455, some (.row 3 180 (q52.map d180) false true)), (456, some (.row 1 3 (q53.map dI) false true)), (457, some (.row 5 35 (q54.map d35) false true)), (458, some (.row 5 183 (q55.map d183) false true)), (464, some (.box [.d (.v (.string (((nnW s ((toLedger x)))).f0))), .d (.v (.int .i64 (((nnW s ((toLedger x)))).f1))), .d (.v (.int .i64 ((((nnW s ((toLedger x)))).f2).f0))), .ref 448, .ref 449, .ref 450, .d (.v (.int .i64 (((nnW s ((toLedger x)))).f5))), .d (.v (.int .i64 (((nnW s ((toLedger x)))).f6))), .d (.v (.int .i64 ((((nnW s ((toLedger x)))).f7).f0))), .d (.v (.int .i64 ((((nnW s ((toLedger x)))).f7).f1))), .ref 451, .d (.v (.int .i64 ((((nnW s ((toLedger x)))).f8).f0))), .ref 452, .ref 453, .d (.v (.int .i64 (((nnW s ((toLedger x)))).f9))), .ref 454, .ref 455, .ref 456, .ref 457, .ref 458]))], 1264⟩ ?_
        refine X.seq (rs 2 ?_)
        obtain ⟨r75, hr77, hf76⟩ := l_heldNode (⟨((nnW s ((toLedger x)))).f0, ((nnW s ((toLedger x)))).f1, (⟨(((nnW s ((toLedger x)))).f2).f0, q45⟩ : S27), q46, q47, ((nnW s ((toLedger x)))).f5, ((nnW s ((toLedger x)))).f6, (⟨(((nnW s ((toLedger x)))).f7).f0, (((nnW s ((toLedger x)))).f7).f1, q48⟩ : S68), (⟨(((nnW s ((toLedger x)))).f8).f0, q49, q50⟩ : S69), ((nnW s ((toLedger x)))).f9, q51, q52, q53, q54, q55⟩ : S83) 1 (by first | assumption | (dsimp only; omega)) (by first | assumption | (dsimp only; omega)) (by first | assumption | (dsimp only; omega)) (by first | assumption | (dsimp only; omega)) (by first | assumption | exact nqe)
        obtain ⟨nhb, nhd⟩ := hr77
        refine ca hf76 Try.func39 ?_
        refine go 1 ?_
        refine ek ⟨[(10, iV r44), (11, iV r75)], [], 1328⟩ ?_
        refine X.seq ?_
        refine X.seq ?_
        have hh := nhd ⟨by dsimp only; rw [nq0]; exact nqa, by dsimp only; rw [nq0, nqt, nq1]; exact nqv⟩
        dsimp only at hh
        refine rk ⟨[(10, iV r44), (11, iV r75), (73, bV (decide ((r75 : Int) < 0)))], [], 1360⟩ ?_
        refine if_ (b := decide ((r75 : Int) < 0)) (fun hb78 => ?_) (fun hb78 => ?_)
        ·replace hb78 := of_decide_eq_true (hb78)
         refine sk ⟨[(4, bV false)], [], 1376⟩ ?_
         refine X.ret ?_
         exact ⟨trivial, _, _, ⟨false, (by first | exact rfl | exact (by exfalso; omega) | exact (tf (allEq_self _) ‹_›) | exact (tf (eqV_self _) ‹_›) | exact (absurd rfl ‹_›) | exact (by simp_all)), rfl, rfl⟩, mkr⟩
        ·replace hb78 := of_decide_eq_false (hb78)
         refine X.skip ?_
         refine X.seq ?_
         refine sk ⟨[(76, bV (r75 != r44))], [], 1408⟩ ?_
         refine if_ (b := (r75 != r44)) (fun hb79 => ?_) (fun hb79 => ?_)
         ·replace hb79 := bne_iff_ne.1 (hb79)
          refine sk ⟨[(4, bV false)], [], 1424⟩ ?_
          refine X.ret ?_
          exact ⟨trivial, _, _, ⟨false, (by first | exact rfl | exact (by exfalso; omega) | exact (tf (allEq_self _) ‹_›) | exact (tf (eqV_self _) ‹_›) | exact (absurd rfl ‹_›) | exact (by simp_all)), rfl, rfl⟩, mkr⟩
         ·replace hb79 := bne_eq_false_iff_eq.1 (hb79)
          refine X.skip ?_
          refine sk ⟨[(4, bV true)], [], 1424⟩ ?_
          refine X.ret ?_
          exact ⟨trivial, _, _, ⟨true, (by first | exact rfl | exact (by exfalso; omega) | exact (tf (allEq_self _) ‹_›) | exact (tf (eqV_self _) ‹_›) | exact (absurd rfl ‹_›) | exact (by simp_all)), rfl, rfl⟩, mkr⟩
 obtain ⟨_, _, ⟨r0, h1_, rfl, rfl⟩, hf⟩ := key
 exact ⟨r0, h1_, hf⟩
end Go.Proofs.Ytggmeldoecnkaaa.Av
