/-
slices.Insert of one element, elements of 14 cells: the library's own text walked.
Conditions: none beside those that each theorem names.
-/
import Derived.Test.YtggmeldoecnkaaaAv24
import Derived.Test.YtggmeldoecnkaaaAvT
set_option linter.unusedVariables false
set_option linter.unusedSimpArgs false
namespace Go.Proofs.Ytggmeldoecnkaaa.Av
open Go.RowKit Go.Lib Go.Proofs

set_option maxHeartbeats 4000000 in
set_option maxRecDepth 100000 in
theorem ins70_room (w : World) (b n c i vb voff vc : Nat) (cur vcur : Array Value) (vty : TypeId) (vfr : Nat × Nat) (news : List Value) (hi : i < n) (hroom : n + 1 ≤ c) (hc : c ≤ 9223372036854775807) (hb : w.heap[b]? = some (.cells cur 72 (0, 0))) (hcs : cur.size = c * 14) (h1c : ∀ v ∈ cur.toList.take (n * 14), v.oneCell' = true)
    (hv : w.heap[vb]? = some (.cells vcur vty vfr)) (hne : vb ≠ b) (hnl : news.length = 14) (hvs : ∀ j v, news[j]? = some v → w.cell? ((⟨vb, voff, none⟩ : Addr).add j) = some v) (h1v : ∀ v ∈ news, v.oneCell' = true) :
    Calls Try.prog 70 #[.slice (some ⟨b, 0, none⟩) n c, .int .i64 i, .slice (some ⟨vb, voff, none⟩) 1 vc] w fun e w' => ∃ cs : Array Value,
      e = .returned (.slice (some ⟨b, 0, none⟩) (n + 1) c) ∧ AtRow w b 72 cs w' ∧ cs.size = cur.size ∧ cs.toList.take ((n + 1) * 14) = (cur.toList.take (n * 14)).take (i * 14) ++ news ++ (cur.toList.take (n * 14)).drop (i * 14) := by
  have hvz : vcur.size ≠ 0 := fun e => by
    have h := hvs 0 _ (List.getElem?_eq_getElem (show 0 < news.length by omega))
    rw [Addr.add_lit] at h
    unfold World.cell? at h
    simp only [hv] at h
    have := (Array.getElem?_eq_some_iff.1 h).1
    omega
  have hov : ∀ (W : World) (cur1 : Array Value), AtRow w b 72 cur1 W → cur1.size = cur.size → ∀ o lb cb, (callFunc 134 #[.slice (some ⟨vb, voff, none⟩) 1 vc, .slice (some ⟨b, o, none⟩) lb cb]).run Try.prog W = .ok (.value (.bool false)) W := fun W cur1 hW hz o lb cb => by
    rw [run_callFunc_extern Try.func134 (by kernel_rfl) (by kernel_rfl) (by kernel_rfl) (e := Extern.SlicesOverlaps.overlaps #[64, 64] #[4]) (by kernel_rfl),
      run_overlaps_free W 64 4 72 Try.underlying64 14 (fun w => by rfl) ⟨vb, voff, none⟩ ⟨b, o, none⟩ 1 vc lb cb hne rfl rfl ((hW.block vb ((Array.getElem?_eq_some_iff.1 hv).1) hne).trans hv) hW.row hvz (by rw [hz]; omega)]
    rfl
  have hz : (Try.prog.info? 72).map (·.size) = some 14 := by kernel_rfl
  obtain ⟨mid, hmid⟩ : ∃ mid, mid = (cur.toList.take (n * 14)).drop (i * 14) := ⟨_, rfl⟩
  have hml : mid.length = (n - i) * 14 := by rw [hmid]; simp only [List.length_drop, List.length_take, Array.length_toList]; omega
  obtain ⟨A, hA⟩ : ∃ A : Array Value, A = (cur.toList.take (i * 14 + 14) ++ mid ++ cur.toList.drop (i * 14 + 14 + mid.length)).toArray := ⟨_, rfl⟩
  have hAz : A.size = cur.size := by rw [hA]; simp only [List.size_toArray, List.length_append, List.length_take, List.length_drop, Array.length_toList]; omega
  have hmg : ∀ (j : Nat) (v : Value), mid[j]? = some v → cur[i * 14 + j]? = some v := fun j v hj => by
    rw [hmid, List.getElem?_drop, List.getElem?_take] at hj
    split at hj
    · simpa using hj
    · cases hj
  have hcp1 : ∀ (W : World), AtRow w b 72 cur W → ∀ ty dc sc, (Builtin.copy_ #[64, 64] ty #[.slice (some ⟨b, (i + 1) * 14, none⟩) (n - i) dc, .slice (some ⟨b, i * 14, none⟩) (n + 1 - i) sc]).run Try.prog W = .ok (goInt (Nat.min (n + 1 - i) (n - i))) (W.setRow b A) := fun W hW ty dc sc => by
    rw [hA]
    have h := hW.copy (P := Try.prog) Try.underlying64 hz ty (o := (i + 1) * 14) (dLen := n - i) (dCap := dc) (a := ⟨b, i * 14, none⟩) (sLen := n + 1 - i) (sCap := sc) mid (by rw [hml, show Nat.min (n + 1 - i) (n - i) = n - i from Nat.min_eq_right (by omega)])
      (fun j v hj => by rw [Addr.add_lit]; simp [World.cell?, hW.row]; exact hmg j v hj) (by omega) (fun v hv => h1c v (by rw [hmid] at hv; exact List.mem_of_mem_drop hv))
    rw [show (i + 1) * 14 = i * 14 + 14 by omega] at h ⊢
    exact h
  have hcp2 : ∀ (W : World), AtRow w b 72 A W → ∀ ty dc, (Builtin.copy_ #[64, 64] ty #[.slice (some ⟨b, i * 14, none⟩) (n + 1 - i) dc, .slice (some ⟨vb, voff, none⟩) 1 vc]).run Try.prog W = .ok (goInt (Nat.min 1 (n + 1 - i))) (W.setRow b (A.toList.take (i * 14) ++ news ++ A.toList.drop (i * 14 + news.length)).toArray) := fun W hW ty dc =>
    hW.copy Try.underlying64 hz ty news (by rw [hnl, show Nat.min 1 (n + 1 - i) = 1 from Nat.min_eq_left (by omega)]) (fun j v hj => (World.cell?_of_block (w := w) (w' := W) (a := (⟨vb, voff, none⟩ : Addr).add j) (by rw [Addr.add_lit]; exact hW.block vb ((Array.getElem?_eq_some_iff.1 hv).1) hne)).trans (hvs j v hj)) (by omega) h1v
  have HA : PLift (A = _) := ⟨hA⟩
  have HM : PLift (mid = _) := ⟨hmid⟩
  clear hA hmid hmg
  have hov0 := hov w cur (.here hb) rfl
  have hn0 : ¬ ((i : Int) = (n : Int)) := by omega
  have mixed := hmix
  have hw1 : IntKind.i64.wrap ((i : Int) + 1) = (i : Int) + 1 := by rw [IntKind.wrap_i64]; omega
  have hb1 : (0 : Int) ≤ (i : Int) + 1 := by omega
  have htn : ((i : Int) + 1).toNat = i + 1 := by omega
  have hb2 : ¬ (c = i + 1) := by omega
  have hb3 : (i : Int) ≤ (n : Int) + 1 := by omega
  have hb4 : ¬ (c = i) := by omega
  have hb5 : (i : Int) + 1 ≤ (n : Int) + 1 := by omega
  have hb6 : i ≤ n + 1 := by omega
  go_enter Try.func70, Try.ntmps70
  go_wp2_with (simp only [hov0])
  go_region_law_o (refine step_copy_runI rfl _ _ 64 64 rfl (.slice (some ⟨b, (i + 1) * 14, none⟩) (n - i) (c - (i + 1))) (.slice (some ⟨b, i * 14, none⟩) (n + 1 - i) (c - i)) (by simp [Act.eval, Act.put]) (by simp [Act.eval, Act.put]) (hcp1 _ (AtRow.here hb).drew 3 (c - (i + 1)) (c - i)) ?_)
  have hcp3 := hcp2 _ ((AtRow.here hb).drew.set A)
  go_wp2_with (simp only [hcp3])
  go_ret
  refine ⟨_, rfl, ((AtRow.here hb).drew.set _).set _, ?_, ?_⟩
  · simp only [List.size_toArray, List.length_append, List.length_take, List.length_drop, Array.length_toList]; omega
  · have h := ins_room cur.toList news (i * 14) (n * 14) 14 (by omega) (by rw [Array.length_toList]; omega) hnl
    rw [show (n + 1) * 14 = n * 14 + 14 by omega, HA.down, HM.down]
    rw [hnl] at h
    simp only [List.append_assoc] at h ⊢
    exact h

set_option maxHeartbeats 4000000 in
set_option maxRecDepth 100000 in
theorem ins70_grow (w : World) (b n c i vb voff vc : Nat) (cur vcur : Array Value) (vty : TypeId) (vfr : Nat × Nat) (news : List Value) (hi : i < n) (hroom : c < n + 1) (hnc : n ≤ c) (hbig : (n + 1) * 208 ≤ 140737488355328) (hb : w.heap[b]? = some (.cells cur 72 (0, 0))) (hcs : cur.size = c * 14) (h1c : ∀ v ∈ cur.toList.take (n * 14), v.oneCell' = true)
    (hv : w.heap[vb]? = some (.cells vcur vty vfr)) (hnl : news.length = 14) (hvs : ∀ j v, news[j]? = some v → w.cell? ((⟨vb, voff, none⟩ : Addr).add j) = some v) (h1v : ∀ v ∈ news, v.oneCell' = true) :
    Calls Try.prog 70 #[.slice (some ⟨b, 0, none⟩) n c, .int .i64 i, .slice (some ⟨vb, voff, none⟩) 1 vc] w fun e w' => ∃ (G : Nat) (cs : Array Value),
      e = .returned (.slice (some ⟨w.heap.size, 0, none⟩) (n + 1) G) ∧ n + 1 ≤ G ∧ G ≤ maxLen ∧ AtRow w w.heap.size 72 cs w' ∧ cs.size = G * 14 ∧ cs.toList.take ((n + 1) * 14) = (cur.toList.take (n * 14)).take (i * 14) ++ news ++ (cur.toList.take (n * 14)).drop (i * 14) := by
  obtain ⟨dj, i0, hdj, hi0, hzs, hzb, hzj, _, _⟩ := ty72
  obtain ⟨z, hz0, hz2⟩ := Option.map_eq_some_iff.1 hzj
  have hzc : z.cells.size = 14 := by
    have := congrArg List.length hz2
    rw [Array.length_toList] at this
    rw [this]
    rfl
  have hzs : i0.size = 14 := hzs
  have hzb : i0.bytes = 208 := hzb
  have hz : (Try.prog.info? 72).map (·.size) = some 14 := by kernel_rfl
  have hkk : (n : Int) + 1 - (i : Int) = ((n + 1 - i : Nat) : Int) := by omega
  have hik : i + (n + 1 - i) = n + 1 := by omega
  obtain ⟨xs, hxs⟩ : ∃ xs, xs = cur.toList.take (n * 14) := ⟨_, rfl⟩
  have hxl : xs.length = n * 14 := by rw [hxs]; simp only [List.length_take, Array.length_toList]; omega
  have hxg : ∀ (j : Nat) (v : Value), xs[j]? = some v → cur[j]? = some v := fun j v hj => by
    rw [hxs, List.getElem?_take] at hj
    split at hj
    · simpa using hj
    · cases hj
  have hbw : b < w.heap.size := (Array.getElem?_eq_some_iff.1 hb).1
  have hvw : vb < w.heap.size := (Array.getElem?_eq_some_iff.1 hv).1
  have hold : (Builtin.firstCells i0.size i (.slice (some ⟨b, 0, none⟩) i c)).run Try.prog w.drew = .ok (xs.take (i * 14)).toArray w.drew := by
    rw [hzs]
    exact run_firstCells_some w.drew 14 i ⟨b, 0, none⟩ i c (xs.take (i * 14)) (by rw [List.length_take]; omega) (fun j v hj => by
      rw [Addr.add_lit, Nat.zero_add]
      rw [List.getElem?_take] at hj
      split at hj
      · have := hxg j v hj
        have hq : w.drew.cell? ⟨b, j, none⟩ = w.cell? ⟨b, j, none⟩ := rfl
        rw [hq]
        simp [World.cell?, hb, this]
      · cases hj)
  have hrz : ∀ ty, (Builtin.append_ #[64, 3] ty #[.slice (some ⟨b, 0, none⟩) i c, .int .i64 ((n : Int) + 1 - (i : Int))]).run Try.prog w =
      .ok (.slice (some ⟨w.heap.size, 0, none⟩) (n + 1) (grownCap w (n + 1) c 72)) (w.drew.alloc (.cells ((xs.take (i * 14)).toArray ++ Builtin.zeroCells z.cells (n + 1 - i) ++ Builtin.zeroCells z.cells (grownCap w (n + 1) c 72 - (n + 1))) 72)) := fun ty => by
    have h := Lib.run_append_grow_zeros w 64 3 ty 72 i0 z .i64 .i64 Try.underlying64 Try.underlying3 hi0 hz0 (some ⟨b, 0, none⟩) i c (xs.take (i * 14)) hold (n + 1 - i) (by omega) (by omega) (by omega) (by omega) (by rw [hzb]; omega) (by rw [hzb, hik]; exact growslice_fits hroom hbig)
    rw [hik] at h
    rw [hkk]
    exact h
  obtain ⟨G, hG⟩ : ∃ G, G = grownCap w (n + 1) c 72 := ⟨_, rfl⟩
  have hGn : n + 1 ≤ G := by rw [hG]; exact grownCap_ge w _ _ _
  have hGm : G ≤ maxLen := by rw [hG]; exact grownCap_le_maxLen w (n + 1) c 72 (by have : maxLen = 9223372036854775807 := rfl; omega)
  have hG63 : G ≤ 9223372036854775807 := by have : maxLen = 9223372036854775807 := rfl; omega
  obtain ⟨Z, hZ⟩ : ∃ Z : List Value, Z = (Builtin.zeroCells z.cells (n + 1 - i) ++ Builtin.zeroCells z.cells (G - (n + 1))).toList := ⟨_, rfl⟩
  have hZl : Z.length = (G - i) * 14 := by
    rw [hZ, Array.length_toList, Array.size_append]
    simp [Builtin.zeroCells, hzc]
    omega
  obtain ⟨ROW, hROW⟩ : ∃ ROW : Array Value, ROW = (xs.take (i * 14)).toArray ++ Builtin.zeroCells z.cells (n + 1 - i) ++ Builtin.zeroCells z.cells (G - (n + 1)) := ⟨_, rfl⟩
  rw [← hG] at hrz
  rw [← hROW] at hrz
  have hRl : ROW.toList = xs.take (i * 14) ++ Z := by rw [hROW, hZ]; simp
  have hRz : ROW.size = G * 14 := by
    rw [← Array.length_toList, hRl, List.length_append, hZl, List.length_take]; omega
  obtain ⟨A, hA⟩ : ∃ A : Array Value, A = (ROW.toList.take (i * 14) ++ news ++ ROW.toList.drop (i * 14 + news.length)).toArray := ⟨_, rfl⟩
  have hAz : A.size = ROW.size := by rw [hA]; simp only [List.size_toArray, List.length_append, List.length_take, List.length_drop, Array.length_toList]; omega
  have hcpA : ∀ (W : World), AtRow w w.heap.size 72 ROW W → ∀ ty dc, (Builtin.copy_ #[64, 64] ty #[.slice (some ⟨w.heap.size, i * 14, none⟩) (n + 1 - i) dc, .slice (some ⟨vb, voff, none⟩) 1 vc]).run Try.prog W = .ok (goInt (Nat.min 1 (n + 1 - i))) (W.setRow w.heap.size A) := fun W hW ty dc => by
    rw [hA]
    exact hW.copy Try.underlying64 hz ty news (by rw [hnl, show Nat.min 1 (n + 1 - i) = 1 from Nat.min_eq_left (by omega)]) (fun j v hj => (World.cell?_of_block (w := w) (w' := W) (a := (⟨vb, voff, none⟩ : Addr).add j) (by rw [Addr.add_lit]; exact hW.block vb hvw (by omega))).trans (hvs j v hj)) (by omega) h1v
  have hcpB : ∀ (W : World), AtRow w w.heap.size 72 A W → ∀ ty dc sc, (Builtin.copy_ #[64, 64] ty #[.slice (some ⟨w.heap.size, (i + 1) * 14, none⟩) (n - i) dc, .slice (some ⟨b, i * 14, none⟩) (n - i) sc]).run Try.prog W = .ok (goInt (Nat.min (n - i) (n - i))) (W.setRow w.heap.size (A.toList.take (i * 14 + 14) ++ xs.drop (i * 14) ++ A.toList.drop (i * 14 + 14 + (xs.drop (i * 14)).length)).toArray) := fun W hW ty dc sc => by
    have h := hW.copy (P := Try.prog) Try.underlying64 hz ty (o := (i + 1) * 14) (dLen := n - i) (dCap := dc) (a := ⟨b, i * 14, none⟩) (sLen := n - i) (sCap := sc) (xs.drop (i * 14)) (by rw [show Nat.min (n - i) (n - i) = n - i from Nat.min_self _, List.length_drop, hxl]; omega)
      (fun j v hj => (World.cell?_of_block (w := w) (w' := W) (a := (⟨b, i * 14, none⟩ : Addr).add j) (by rw [Addr.add_lit]; exact hW.block b hbw (by omega))).trans (by
        rw [List.getElem?_drop] at hj
        have := hxg _ v hj
        rw [Addr.add_lit]
        simp [World.cell?, hb, this])) (by rw [List.length_drop, hxl]; omega) (fun v hv => h1c v (by rw [← hxs]; exact List.mem_of_mem_drop hv))
    rw [show (i + 1) * 14 = i * 14 + 14 by omega] at h ⊢
    exact h
  have HA : PLift (A = _) := ⟨hA⟩
  have HX : PLift (xs = _) := ⟨hxs⟩
  have HR : PLift (ROW.toList = _) := ⟨hRl⟩
  clear hA hxs hxg hRl hZ hROW hold hkk hik hG
  have hnw : AtRow w w.heap.size 72 ROW (w.alloc (.cells ROW 72)).drew := AtRow.new w 72 ROW
  have hcp3 := hcpA _ hnw
  have hn0 : ¬ ((i : Int) = (n : Int)) := by omega
  have hn3 : (c : Int) < (n : Int) + 1 := by omega
  have mixed := hmix
  have hw1 : IntKind.i64.wrap ((i : Int) + 1) = (i : Int) + 1 := by rw [IntKind.wrap_i64]; omega
  have hb1 : (0 : Int) ≤ (i : Int) + 1 := by omega
  have htn : ((i : Int) + 1).toNat = i + 1 := by omega
  have hGi : ¬ (G = i) := by omega
  have hGim : ¬ (G = i + 1) := by omega
  have hci : ¬ (c = i) := by omega
  have hb3 : (i : Int) ≤ (n : Int) := by omega
  have hb5 : (i : Int) + 1 ≤ (n : Int) + 1 := by omega
  have hb6 : i ≤ n + 1 := by omega
  have hb7 : i ≤ n := by omega
  go_enter Try.func70, Try.ntmps70
  go_wp2_with (first
    | (at_builtin; refine Lib.wpList_append_run _ rfl _ _ _ _ rfl _ _ rfl rfl _ _ (hrz _) ?_)
    | (simp only [hcp3]))
  go_region_law_o (refine step_copy_runI rfl _ _ 64 64 rfl (.slice (some ⟨w.heap.size, (i + 1) * 14, none⟩) (n - i) (G - (i + 1))) (.slice (some ⟨b, i * 14, none⟩) (n - i) (c - i)) (by simp [Act.eval, Act.put]) (by simp [Act.eval, Act.put]) (hcpB _ (hnw.set A).drew 3 (G - (i + 1)) (c - i)) ?_)
  go_wp2
  go_ret
  refine ⟨_, _, rfl, hGn, hGm, (hnw.set A).drew.set _, ?_, ?_⟩
  · simp only [List.size_toArray, List.length_append, List.length_take, List.length_drop, Array.length_toList]; omega
  · have h := ins_grow xs Z news (i * 14) (n * 14) 14 (by omega) hxl (by omega) hnl
    rw [show (n + 1) * 14 = n * 14 + 14 by omega, HA.down, HR.down, ← HX.down]
    simp only [List.append_assoc, List.length_drop, hxl] at h ⊢
    exact h

set_option maxHeartbeats 4000000 in
set_option maxRecDepth 100000 in
theorem ins70_end (w : World) (v : Value) (n vb voff vc : Nat) (xs : List Value) (news : List Value) (hown : w.ownsRow 0 72 14 v n xs) (hbig : (n + 1) * 208 ≤ 140737488355328)
    (hnl : news.length = 14) (hvs : ∀ j v, news[j]? = some v → w.cell? ((⟨vb, voff, none⟩ : Addr).add j) = some v) (h1v : ∀ v ∈ news, v.oneCell' = true) :
    Calls Try.prog 70 #[v, .int .i64 n, .slice (some ⟨vb, voff, none⟩) 1 vc] w fun e w' => ∃ v',
      e = .returned v' ∧ w'.ownsRow 0 72 14 v' (n + 1) (xs ++ news) ∧ w.grownBy w' v.ownBlock ∧ (v'.ownBlock = v.ownBlock ∨ v'.ownBlock = some w.heap.size) := by
  obtain ⟨dj, i0, hdj, hi0, hzs, hzb, hzj, _, _⟩ := ty72
  obtain ⟨z, hz0, hz2⟩ := Option.map_eq_some_iff.1 hzj
  have hzc : z.cells.size = 14 := by
    have := congrArg List.length hz2
    rw [Array.length_toList] at this
    rw [this]
    rfl
  have hr : ∀ ty, ∃ v' w', (Builtin.append_ #[64, 64] ty #[v, .slice (some ⟨vb, voff, none⟩) 1 vc]).run Try.prog w = .ok v' w' ∧ w'.ownsRow 0 72 14 v' (n + 1) (xs ++ news) ∧ w.grownBy w' v.ownBlock ∧ (v' = .slice none 0 0 ↔ v = .slice none 0 0 ∧ 1 = 0) ∧ (v'.ownBlock = v.ownBlock ∨ v'.ownBlock = some w.heap.size) := fun ty =>
    run_append_own_at (P := Try.prog) w 0 64 ty 72 i0 z 14 208 Try.underlying64 hi0 hz0 hzs hzb hzc (by omega) v n xs hown ⟨vb, voff, none⟩ 1 vc news (by omega) hvs h1v (by have : maxLen = 9223372036854775807 := rfl; omega) hbig (Nat.zero_le _)
  obtain ⟨v', w', hrun, r1, r2, _, r3⟩ := hr 64
  clear hr
  have R1 : PLift _ := ⟨r1⟩
  have R2 : PLift _ := ⟨r2⟩
  have R3 : PLift _ := ⟨r3⟩
  clear r1 r2 r3
  rcases hown.2 with ⟨rfl, rfl⟩ | ⟨g, cap, cur, rfl, _, hg, hnc, hcm, _, _⟩
  · go_enter Try.func70, Try.ntmps70
    go_wp2_with (at_builtin; refine Lib.wpList_append_run _ rfl _ _ _ _ rfl _ _ rfl rfl _ _ hrun ?_)
    go_ret
    exact ⟨_, rfl, R1.down, R2.down, R3.down⟩
  · have hc63 : cap ≤ 9223372036854775807 := by have : maxLen = 9223372036854775807 := rfl; omega
    clear hown hcm
    go_enter Try.func70, Try.ntmps70
    go_wp2_with (at_builtin; refine Lib.wpList_append_run _ rfl _ _ _ _ rfl _ _ rfl rfl _ _ hrun ?_)
    all_goals (go_ret; exact ⟨_, rfl, R1.down, R2.down, R3.down⟩)
/-- slices.Insert of one element. -/
theorem ins70 : InsP Try.prog 70 72 14 208 := by
  intro w v n i vb voff vc xs news vcur vty vfr hown hi hbig h1c hv hne hnl hvs h1v
  rcases Nat.lt_or_ge i n with hlt | hge
  · rcases hown.2 with ⟨rfl, rfl⟩ | ⟨b, c, cur, rfl, _, hb, hnc, hcm, hcs, hx⟩
    · omega
    · subst hx
      have hn0 : (cur.toList.take (n * 14)).length = n * 14 := hown.1
      rcases Nat.lt_or_ge n c with hr | hr
      · refine (ins70_room w b n c i vb voff vc cur vcur vty vfr news hlt hr (by have : maxLen = 9223372036854775807 := rfl; omega) hb hcs h1c hv (fun e => hne (by rw [e]; rfl)) hnl hvs h1v).mono fun e w' ⟨cs, e1, e2, e3, e4⟩ => ?_
        refine ⟨_, e1, ⟨?_, .inr ⟨b, c, cs, rfl, Nat.zero_le _, e2.row, hr, hcm, by rw [e3, hcs], e4⟩⟩, ⟨e2.os, e2.tape, e2.output, e2.size, fun k hk hn => e2.block k hk fun e => hn (by rw [e]; rfl)⟩, .inl rfl⟩
        simp only [List.length_append, List.length_take, List.length_drop] at hn0 ⊢
        omega
      · refine (ins70_grow w b n c i vb voff vc cur vcur vty vfr news hlt (by omega) hnc hbig hb hcs h1c hv hnl hvs h1v).mono fun e w' ⟨G, cs, e1, g1, g2, e2, e3, e4⟩ => ?_
        refine ⟨_, e1, ⟨?_, .inr ⟨_, G, cs, rfl, Nat.zero_le _, e2.row, g1, g2, e3, e4⟩⟩, ⟨e2.os, e2.tape, e2.output, e2.size, fun k hk hn => e2.block k hk fun e => by omega⟩, .inr rfl⟩
        simp only [List.length_append, List.length_take, List.length_drop] at hn0 ⊢
        omega
  · obtain rfl : i = n := by omega
    refine (ins70_end w v i vb voff vc xs news hown hbig hnl hvs h1v).mono fun e w' ⟨v', e1, e2, e3, e4⟩ => ⟨v', e1, ?_, e3, e4⟩
    rw [List.take_of_length_le (by have := hown.1; omega), List.drop_eq_nil_of_le (by have := hown.1; omega), List.append_nil]
    exact e2
end Go.Proofs.Ytggmeldoecnkaaa.Av
