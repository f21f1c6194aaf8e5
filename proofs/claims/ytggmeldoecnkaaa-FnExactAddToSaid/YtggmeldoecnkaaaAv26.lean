/-
make of a slice: a row of zero values.
Conditions: none beside those that each theorem names.
-/
import Derived.Test.YtggmeldoecnkaaaAv23
import Derived.Deep.OwnRows
set_option linter.unusedVariables false
set_option linter.unusedSimpArgs false
namespace Go.Proofs.Ytggmeldoecnkaaa.Av
open Go.RowKit Go.Proofs.YtggmeldoecnkaaaW.PrintLast

def zD : Value → D
  | .slice none 0 0 => .sl []
  | v => .v v
theorem zD_TR {w : World} {ok : Nat → Prop} {v : Value} (h : v.oneCell' = true) : TR w ok (zD v) v := by
  unfold zD
  split
  · exact .nil none 0
  · exact .v _ h
section
variable {P : Program} {N : Nat} {o : Oper} {T : Tm} {H : Hp}
theorem g_mks {t id n : Nat} {l c : Operand} {i j : TI} (hN : dstOk N o.dst = true) (ho : o.op = .makeSlice t l c) (ht : TyP P t i) (h1 : Nat.beq i.kd 1 = true) (hj : TyP P i.el j) (hl : (evO T l).bind sc = some (.int .i64 (n : Int))) (hc : (evO T c).bind sc = some (.int .i64 (n : Int)))
    (hb : j.bys * n ≤ 281474976710656) (h63 : n ≤ 9223372036854775807) (hz : (j.zero.all fun v => v.oneCell') = true) (hzl : Nat.beq j.zero.length j.sz = true) :
    GoodW P N o ⟨.e (.c (.ref id)), [(id, some (.row j.sz i.el (List.replicate n (j.zero.map zD)) false true))], [], [id]⟩ T H := by
  intro T' H' hT hH hF κ w0 S ι a w hr Q K hK
  have h1 : i.kd = 1 := Nat.eq_of_beq_eq_true h1
  have hzl : j.zero.length = j.sz := Nat.eq_of_beq_eq_true hzl
  obtain ⟨xl, e1, e2⟩ := Option.bind_eq_some_iff.1 hl
  obtain ⟨xc, f1, f2⟩ := Option.bind_eq_some_iff.1 hc
  have hlv := (sc_ok (evO_ok hr ((evO_agree hT (by simp [ho, Op.operands])).trans e1)) e2).1
  have hcv := (sc_ok (evO_ok hr ((evO_agree hT (by simp [ho, Op.operands])).trans f1)) f2).1
  obtain ⟨d, inf, hd, _, _, _, _, hk, _⟩ := ht
  cases d <;> simp [KdOk, h1] at hk
  rename_i el
  subst hk
  obtain ⟨dj, fj, hdj, hij, hsj, hbj, hzj, hkj, hpos⟩ := hj
  obtain ⟨z, hz1, hz2⟩ := Option.map_eq_some_iff.1 hzj
  have hzs : z.cells.size = j.sz := by rw [← hzl, ← hz2, Array.length_toList]
  have hrun : (Instr.makeSlice t (a.eval l) (a.eval c)).run P w = .ok (.slice (some ⟨w.heap.size, 0, none⟩) n n) (w.alloc (.cells (madeCells z.cells (n * j.sz)) i.el)) := by
    rw [hlv, hcv]
    have hb' : (fj.bytes : Int) * (n : Int) ≤ 281474976710656 := by
      have h : ((fj.bytes * n : Nat) : Int) ≤ 281474976710656 := by rw [hbj]; omega
      rwa [Int.natCast_mul] at h
    have h := run_make (P := P) w t i.el fj z hd hij hz1 .i64 .i64 n n (by omega) (Int.le_refl _) hb' (by omega)
    simp only [Int.toNat_natCast, hsj] at h
    exact h
  have hn := (hr.alloc (hF id (by simp)) (.cells (madeCells z.cells (n * j.sz)) i.el) (.row j.sz i.el (List.replicate n (j.zero.map zD)) false true) rfl (cp n) fun hok => by
    refine ⟨hpos, fun m r hm => ?_, madeCells z.cells (n * j.sz), heap_alloc_new w _, by rw [List.length_replicate]; exact Nat.le_refl _, by (show n ≤ maxLen); simp only [maxLen]; omega, by simp [madeCells, cp], fun _ => hr.new _ hr.kept.size, fun m r q d hm hq => ?_⟩
    · obtain rfl := (List.mem_replicate.1 (List.mem_of_getElem? hm)).2
      rw [List.length_map, hzl]
    · have hml : m < n := by have := (List.getElem?_eq_some_iff.1 hm).1; simpa using this
      obtain rfl := (List.mem_replicate.1 (List.mem_of_getElem? hm)).2
      rw [List.getElem?_map] at hq
      obtain ⟨u, hu, rfl⟩ := Option.map_eq_some_iff.1 hq
      have hql : q < j.sz := by have := (List.getElem?_eq_some_iff.1 hu).1; omega
      have hlt : m * j.sz + q < n * j.sz := by
        have : (m + 1) * j.sz ≤ n * j.sz := Nat.mul_le_mul_right _ hml
        rw [Nat.add_mul, Nat.one_mul] at this
        omega
      refine ⟨u, ?_, zD_TR (List.all_eq_true.1 hz u (List.mem_of_getElem? hu))⟩
      rw [← hz2] at hu
      have hmod : (m * j.sz + q) % j.sz = q := by rw [Nat.mul_comm, Nat.mul_add_mod, Nat.mod_eq_of_lt hql]
      have hu : z.cells[q]? = some u := by simpa using hu
      simp only [madeCells, Array.getElem?_map, Array.getElem?_range, if_pos hlt, Option.map_some, hzs, hmod]
      rw [getElem!_def, hu]).1
  unfold Oper.wp execOp
  rw [ho]
  simp only [Sem.run_bind, hrun, Result.andThen_ok, Sem.run_pure, Oper.upon_value]
  refine hK _ _ _ (hn.putD hN (x := .e (.c (.ref id))) fun B hB => ?_)
  have : B = .row j.sz i.el (List.replicate n (j.zero.map zD)) false true := by simpa [Hp.put, appL] using hB.symm
  subst this
  refine ⟨j.sz, n, by simp [Blk.shape], ?_⟩
  simp [Nm.put, RefV, key, cp]
end
/-! ### as a step -/
def mksA (τ : Ty) (T : Tm) : Op → Option (Value × Value × Nat)
  | .makeSlice t l c => match (evO T l).bind sc, (evO T c).bind sc, τ t with
    | some x, some y, some i => match τ i.el with
      | some j => some (x, y, j.bys)
      | none => none
    | _, _, _ => none
  | _ => none
def mksR (τ : Ty) (id n : Nat) : Op → Option Rec
  | .makeSlice t l c => match τ t with
    | some i => match τ i.el with
      | some j => match Nat.beq i.kd 1 && ((j.zero.all fun v => v.oneCell') && Nat.beq j.zero.length j.sz) with
        | true => some ⟨.e (.c (.ref id)), [(id, some (.row j.sz i.el (List.replicate n (j.zero.map zD)) false true))], [], [id]⟩
        | false => none
      | none => none
    | none => none
  | _ => none
section
variable {c : Cn} {ops : Array Oper} {K : List (Oper × Rec) → St → Prop} {m : Cf} {τ : Ty}
/-- make([]T, n): a row of n zero values. -/
theorem CH.mks (hτ : Tys c.P τ) {n bys : Nat} (h64 : Nat.ble 64 m.s.nx = true) (e : ((hdO c.N ops m).bind fun o => mksA τ m.s.tm o.op) = some (.int .i64 (n : Int), .int .i64 (n : Int), bys)) (hbd : bys * n ≤ 281474976710656) (h63 : n ≤ 9223372036854775807)
    (hb : okR m ((hdO c.N ops m).bind fun o => mksR τ m.id n o.op) = true) (k : CH c ops K (advO ((hdO c.N ops m).bind fun o => mksR τ m.id n o.op) m)) : CH c ops K m := by
  obtain ⟨o, ho, e⟩ := Option.bind_eq_some_iff.1 e
  rw [ho] at hb k
  simp only [Option.bind_some] at hb k
  cases hR : mksR τ m.id n o.op with
  | none => rw [hR] at hb; cases hb
  | some R =>
    refine CH.use h64 ho hR (fun hN => ?_) hb k
    generalize hop : o.op = op at e hR
    cases op with
    | makeSlice t l cc =>
      simp only [mksA] at e
      simp only [mksR] at hR
      split at e
      · rename_i x y i q1 q2 q3
        split at e
        · rename_i j q4
          cases e
          simp only [q3, q4] at hR
          split at hR
          · rename_i hc
            simp only [Bool.and_eq_true] at hc
            cases hR
            exact g_mks hN hop (hτ t i q3) hc.1 (hτ _ j q4) q1 q2 hbd h63 hc.2.1 hc.2.2
          · cases hR
        · cases e
      · cases e
    | _ => simp [mksA] at e
end
end Go.Proofs.Ytggmeldoecnkaaa.Av
