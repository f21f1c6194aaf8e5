/-
What functions of the program come to, walked one by one.
Conditions: none beside those that each theorem names.
-/
import Derived.Test.YtnieghbgcjbnhaaAvL
set_option linter.unusedVariables false
set_option linter.unusedSimpArgs false
namespace Go.Proofs.Ytnieghbgcjbnhaa.Av
open Go.RowKit
set_option maxRecDepth 20000
set_option maxHeartbeats 4000000
theorem s_l2K  : ∃ r0 : List Int, (r0.length = 64) ∧ Fn Try.prog 192 [] (lookH []) (rV 64) (lookH [(64, some (.row 1 3 (r0.map dI) false true))]) := by
  have key : ∃ x' h', ((fun x' h' => ∃ r0 : List Int, (r0.length = 64) ∧ x' = rV 64 ∧ h' = [(64, some (.row 1 3 (r0.map dI) false true))])) x' h' ∧ Fn Try.prog 192 [] (lookH []) x' (lookH h') := by
    refine Fn.bodyX (N := 2) hτ Try.func192 rfl rfl rfl rfl ?_
    refine X.seq ?_
    refine X.rk ⟨[], [], 80⟩ hτ hmix (by kernel_rfl) (by kernel_rfl) rfl ?_
    refine X.seq ?_
    refine X.rk ⟨[(0, rV 80)], [(80, some (.row 1 3 (([1116352408, 1899447441, 3049323471, 3921009573, 961987163, 1508970993, 2453635748, 2870763221, 3624381080, 310598401, 607225278, 1426881987, 1925078388, 2162078206, 2614888103, 3248222580, 3835390401, 4022224774, 264347078, 604807628, 770255983, 1249150122, 1555081692, 1996064986, 2554220882, 2821834349, 2952996808, 3210313671, 3336571891, 3584528711, 113926993, 338241895, 666307205, 773529912, 1294757372, 1396182291, 1695183700, 1986661051, 2177026350, 2456956037, 2730485921, 2820302411, 3259730800, 3345764771, 3516065817, 3600352804, 4094571909, 275423344, 430227734, 506948616, 659060556, 883997877, 958139571, 1322822218, 1537002063, 1747873779, 1955562222, 2024104815, 2227730452, 2361852424, 2428436474, 2756734187, 3204031479, 3329325298] : List Int).map dI) false true))], 112⟩ hτ hmix (by kernel_rfl) (by kernel_rfl) rfl ?_
    refine X.ret ?_
    exact ⟨trivial, _, _, ⟨([1116352408, 1899447441, 3049323471, 3921009573, 961987163, 1508970993, 2453635748, 2870763221, 3624381080, 310598401, 607225278, 1426881987, 1925078388, 2162078206, 2614888103, 3248222580, 3835390401, 4022224774, 264347078, 604807628, 770255983, 1249150122, 1555081692, 1996064986, 2554220882, 2821834349, 2952996808, 3210313671, 3336571891, 3584528711, 113926993, 338241895, 666307205, 773529912, 1294757372, 1396182291, 1695183700, 1986661051, 2177026350, 2456956037, 2730485921, 2820302411, 3259730800, 3345764771, 3516065817, 3600352804, 4094571909, 275423344, 430227734, 506948616, 659060556, 883997877, 958139571, 1322822218, 1537002063, 1747873779, 1955562222, 2024104815, 2227730452, 2361852424, 2428436474, 2756734187, 3204031479, 3329325298] : List Int), rfl, rfl, rfl⟩, .inl (Ret.mk' [(64, 80)] (by kernel_rfl) (by kernel_rfl) (by kernel_rfl))⟩
  obtain ⟨_, _, ⟨r0, q1, rfl, rfl⟩, hf⟩ := key
  exact ⟨r0, q1, hf⟩

theorem s_l2Turn (x : Int) (n : Int) : ∃ r0 : Int, (True) ∧ Fn Try.prog 210 [iV x, iV n] (lookH []) (iV r0) (lookH []) := by
  have key : ∃ x' h', ((fun x' h' => ∃ r0 : Int, (True) ∧ x' = iV r0 ∧ h' = [])) x' h' ∧ Fn Try.prog 210 [iV x, iV n] (lookH []) x' (lookH h') := by
    refine Fn.bodyX (N := 16) hτ Try.func210 rfl rfl rfl rfl ?_
    refine X.seq ?_
    refine X.rk ⟨[(0, iV x), (1, iV n)], [], 80⟩ hτ hmix (by kernel_rfl) (by kernel_rfl) rfl ?_
    refine X.seq ?_
    refine X.rs 3 hτ hmix (by kernel_rfl) ?_
    obtain ⟨m1, hm1⟩ := ofN0 (n := wr .u64 (n)) (by first | exact u64_nn _ | omega)
    refine CH.alt 7 (sV (.int .u64 (wr .u64 (n)))) (sV (.int .u64 (Int.ofNat m1))) (by kernel_rfl) (by rw [hm1]) ?_
    refine CH.go 5 hτ (by kernel_rfl) ?_
    obtain ⟨m2, hm2⟩ := ofN0 (n := wr .u64 (wrap64 (32 - n))) (by first | exact u64_nn _ | omega)
    refine CH.alt 12 (sV (.int .u64 (wr .u64 (wrap64 (32 - n))))) (sV (.int .u64 (Int.ofNat m2))) (by kernel_rfl) (by rw [hm2]) ?_
    refine CH.go 4 hτ (by kernel_rfl) ?_
    have fa3 := and_le (wr .i64 ((BitVec.ofInt 64 (x / 2 ^ min (Int.toNat (Int.ofNat m1)) 64) ||| BitVec.ofInt 64 (wr .i64 (x * 2 ^ min (Int.toNat (Int.ofNat m2)) 64))).toNat)) 4294967295 32 rfl (by decide)
    refine CH.endk ⟨[(4, iV (wr .i64 ((BitVec.ofInt 64 (wr .i64 ((BitVec.ofInt 64 (x / 2 ^ min (Int.toNat (Int.ofNat m1)) 64) ||| BitVec.ofInt 64 (wr .i64 (x * 2 ^ min (Int.toNat (Int.ofNat m2)) 64))).toNat)) &&& BitVec.ofInt 64 4294967295).toNat)))], [], 272⟩ (by kernel_rfl) (by kernel_rfl) rfl ?_
    refine X.gen (fun n4 : Int => ⟨[(4, iV n4)], [], 272⟩) (wr .i64 ((BitVec.ofInt 64 (wr .i64 ((BitVec.ofInt 64 (x / 2 ^ min (Int.toNat (Int.ofNat m1)) 64) ||| BitVec.ofInt 64 (wr .i64 (x * 2 ^ min (Int.toNat (Int.ofNat m2)) 64))).toNat)) &&& BitVec.ofInt 64 4294967295).toNat)) (fun n4 hn4 => ?_)
    refine X.ret ?_
    exact ⟨trivial, _, _, ⟨n4, trivial, rfl, rfl⟩, .inl (Ret.mk' [] (by kernel_rfl) (by kernel_rfl) (by kernel_rfl))⟩
  obtain ⟨_, _, ⟨r0, q1, rfl, rfl⟩, hf⟩ := key
  exact ⟨r0, q1, hf⟩

theorem s_l2Words (b : List Int) (hb : b.length = 64) : ∃ r0 : List Int, (r0.length = 64) ∧ Fn Try.prog 209 [lV (b.map dB)] (lookH []) (rV 64) (lookH [(64, some (.row 1 3 (r0.map dI) false true))]) := by
  have key : ∃ x' h', ((fun x' h' => ∃ r0 : List Int, (r0.length = 64) ∧ x' = rV 64 ∧ h' = [(64, some (.row 1 3 (r0.map dI) false true))])) x' h' ∧ Fn Try.prog 209 [lV (b.map dB)] (lookH []) x' (lookH h') := by
    refine Fn.bodyX (N := 101) hτ Try.func209 rfl rfl rfl rfl ?_
    refine X.seq ?_
    refine X.rk ⟨[(0, lV (b.map dB))], [], 80⟩ hτ hmix (by kernel_rfl) (by kernel_rfl) rfl ?_
    refine X.seq ?_
    refine X.rk ⟨[(0, lV (b.map dB)), (3, rV 80)], [(80, some (.row 1 3 [] false true))], 112⟩ hτ hmix (by kernel_rfl) (by kernel_rfl) rfl ?_
    refine X.seq ?_
    refine X.seq ?_
    refine X.rk ⟨[(0, lV (b.map dB)), (3, rV 80), (4, iV 0)], [(80, some (.row 1 3 [] false true))], 128⟩ hτ hmix (by kernel_rfl) (by kernel_rfl) rfl ?_
    refine X.block ?_
    -- 3: Lv3 : List Int, v4 : Int
    refine X.loop (σ := { g : (List Int) × Int // (fun (Lv3 : List Int) (v4 : Int) => 0 ≤ v4 ∧ v4 ≤ 16 ∧ Lv3.length = v4) g.1 g.2 }) (fun g => (fun (Lv3 : List Int) (v4 : Int) => ⟨[(0, lV (b.map dB)), (3, rV 80), (4, iV v4)], [(80, some (.row 1 3 (Lv3.map dI) false true))], 128⟩) g.1.1 g.1.2) (fun g => (fun (Lv3 : List Int) (v4 : Int) => (16 - v4).toNat) g.1.1 g.1.2) ⟨([], 0), by first | exact rfl | omega | (dsimp only; omega) | (simp only [List.length_append, List.length_cons, List.length_nil, List.length_set]; omega) | (simp; done) | (simp; omega)⟩ (Wk.less (by kernel_rfl)) (fun g => ?_)
    obtain ⟨⟨Lv3, v4⟩, hg2⟩ := g
    have hg2 : 0 ≤ v4 ∧ v4 ≤ 16 ∧ Lv3.length = v4 := hg2
    obtain ⟨_, _, _⟩ := hg2
    refine X.seq ?_
    refine X.seq ?_
    refine X.rk ⟨[(0, lV (b.map dB)), (3, rV 80), (4, iV v4), (12, bV (decide ((v4 : Int) < 16)))], [(80, some (.row 1 3 (Lv3.map dI) false true))], 160⟩ hτ hmix (by kernel_rfl) (by kernel_rfl) rfl ?_
    refine X.if_ (b := decide ((v4 : Int) < 16)) (by kernel_rfl) (fun hb3 => ?_) (fun hb3 => ?_)
    · replace hb3 := of_decide_eq_true (hb3)
      refine X.skip ?_
      refine X.seq ?_
      refine X.block ?_
      refine X.rs 4 hτ hmix (by kernel_rfl) ?_
      obtain ⟨x4, hx4⟩ : ∃ x, b[Int.toNat (4 * v4)]? = some x := ⟨_, List.getElem?_eq_getElem (by first | omega | (simp; done) | (simp; omega))⟩
      refine CH.alt 18 (sV (.int .i64 (wrap64 (4 * v4)))) (sV (.int .i64 ((4 * v4)))) (by kernel_rfl) (by rw [w64 (n := (4 * v4)) (by omega) (by omega)]) ?_
      refine CH.idx hτ (dB x4) (rows := (b.map dB)) (n := (4 * v4)) (sz := 1) (by kernel_rfl) (by kernel_rfl) (by first | omega | (simp; done) | (simp; omega)) (by rw [List.getElem?_map, hx4]; rfl) (by kernel_rfl) ?_
      refine CH.go 7 hτ (by kernel_rfl) ?_
      obtain ⟨x5, hx5⟩ : ∃ x, b[Int.toNat (((4 * v4)) + 1)]? = some x := ⟨_, List.getElem?_eq_getElem (by first | omega | (simp; done) | (simp; omega))⟩
      refine CH.alt 26 (sV (.int .i64 (wrap64 ((wrap64 (4 * v4)) + 1)))) (sV (.int .i64 ((((4 * v4)) + 1)))) (by kernel_rfl) (by rw [w64 (n := (4 * v4)) (by omega) (by omega), w64 (n := (((4 * v4)) + 1)) (by omega) (by omega)]) ?_
      refine CH.idx hτ (dB x5) (rows := (b.map dB)) (n := (((4 * v4)) + 1)) (sz := 1) (by kernel_rfl) (by kernel_rfl) (by first | omega | (simp; done) | (simp; omega)) (by rw [List.getElem?_map, hx5]; rfl) (by kernel_rfl) ?_
      refine CH.go 8 hτ (by kernel_rfl) ?_
      obtain ⟨x6, hx6⟩ : ∃ x, b[Int.toNat (((4 * v4)) + 2)]? = some x := ⟨_, List.getElem?_eq_getElem (by first | omega | (simp; done) | (simp; omega))⟩
      refine CH.alt 35 (sV (.int .i64 (wrap64 ((wrap64 (4 * v4)) + 2)))) (sV (.int .i64 ((((4 * v4)) + 2)))) (by kernel_rfl) (by rw [w64 (n := (4 * v4)) (by omega) (by omega), w64 (n := (((4 * v4)) + 2)) (by omega) (by omega)]) ?_
      refine CH.idx hτ (dB x6) (rows := (b.map dB)) (n := (((4 * v4)) + 2)) (sz := 1) (by kernel_rfl) (by kernel_rfl) (by first | omega | (simp; done) | (simp; omega)) (by rw [List.getElem?_map, hx6]; rfl) (by kernel_rfl) ?_
      refine CH.go 8 hτ (by kernel_rfl) ?_
      obtain ⟨x7, hx7⟩ : ∃ x, b[Int.toNat (((4 * v4)) + 3)]? = some x := ⟨_, List.getElem?_eq_getElem (by first | omega | (simp; done) | (simp; omega))⟩
      refine CH.alt 44 (sV (.int .i64 (wrap64 ((wrap64 (4 * v4)) + 3)))) (sV (.int .i64 ((((4 * v4)) + 3)))) (by kernel_rfl) (by rw [w64 (n := (4 * v4)) (by omega) (by omega), w64 (n := (((4 * v4)) + 3)) (by omega) (by omega)]) ?_
      refine CH.idx hτ (dB x7) (rows := (b.map dB)) (n := (((4 * v4)) + 3)) (sz := 1) (by kernel_rfl) (by kernel_rfl) (by first | omega | (simp; done) | (simp; omega)) (by rw [List.getElem?_map, hx7]; rfl) (by kernel_rfl) ?_
      refine CH.go 4 hτ (by kernel_rfl) ?_
      have el8 : (Lv3.map dI).length = Lv3.length := List.length_map ..
      have el9 : (([wr .i64 ((BitVec.ofInt 64 (wr .i64 ((BitVec.ofInt 64 (wr .i64 ((BitVec.ofInt 64 (wr .i64 ((wr .i64 (x4)) * 2 ^ min (Int.toNat 24) 64)) ||| BitVec.ofInt 64 (wr .i64 ((wr .i64 (x5)) * 2 ^ min (Int.toNat 16) 64))).toNat)) ||| BitVec.ofInt 64 (wr .i64 ((wr .i64 (x6)) * 2 ^ min (Int.toNat 8) 64))).toNat)) ||| BitVec.ofInt 64 (wr .i64 (x7))).toNat)] : List Int).map dI).length = ([wr .i64 ((BitVec.ofInt 64 (wr .i64 ((BitVec.ofInt 64 (wr .i64 ((BitVec.ofInt 64 (wr .i64 ((wr .i64 (x4)) * 2 ^ min (Int.toNat 24) 64)) ||| BitVec.ofInt 64 (wr .i64 ((wr .i64 (x5)) * 2 ^ min (Int.toNat 16) 64))).toNat)) ||| BitVec.ofInt 64 (wr .i64 ((wr .i64 (x6)) * 2 ^ min (Int.toNat 8) 64))).toNat)) ||| BitVec.ofInt 64 (wr .i64 (x7))).toNat)] : List Int).length := List.length_map ..
      have el10 : ([wr .i64 ((BitVec.ofInt 64 (wr .i64 ((BitVec.ofInt 64 (wr .i64 ((BitVec.ofInt 64 (wr .i64 ((wr .i64 (x4)) * 2 ^ min (Int.toNat 24) 64)) ||| BitVec.ofInt 64 (wr .i64 ((wr .i64 (x5)) * 2 ^ min (Int.toNat 16) 64))).toNat)) ||| BitVec.ofInt 64 (wr .i64 ((wr .i64 (x6)) * 2 ^ min (Int.toNat 8) 64))).toNat)) ||| BitVec.ofInt 64 (wr .i64 (x7))).toNat)] : List Int).length = 1 := rfl
      refine CH.app hτ (rows := (Lv3.map dI)) (rows2 := (([wr .i64 ((BitVec.ofInt 64 (wr .i64 ((BitVec.ofInt 64 (wr .i64 ((BitVec.ofInt 64 (wr .i64 ((wr .i64 (x4)) * 2 ^ min (Int.toNat 24) 64)) ||| BitVec.ofInt 64 (wr .i64 ((wr .i64 (x5)) * 2 ^ min (Int.toNat 16) 64))).toNat)) ||| BitVec.ofInt 64 (wr .i64 ((wr .i64 (x6)) * 2 ^ min (Int.toNat 8) 64))).toNat)) ||| BitVec.ofInt 64 (wr .i64 (x7))).toNat)] : List Int).map dI)) (sz := 1) (bys := 8) true (by kernel_rfl) (by kernel_rfl) (fun _ => flat_d dI (fun x => rfl)) (flat_ok (f := dI) (fun x => rfl)) (by simp only [List.length_map] <;> (first | done | omega | (simp; done) | (simp; omega))) (by kernel_rfl) ?_
      refine CH.go 1 hτ (by kernel_rfl) ?_
      refine CH.endk ⟨[(0, lV (b.map dB)), (3, rV 720), (4, iV v4)], [(720, some (.row 1 3 ((Lv3.map dI) ++ (([wr .i64 ((BitVec.ofInt 64 (wr .i64 ((BitVec.ofInt 64 (wr .i64 ((BitVec.ofInt 64 (wr .i64 ((wr .i64 (x4)) * 2 ^ min (Int.toNat 24) 64)) ||| BitVec.ofInt 64 (wr .i64 ((wr .i64 (x5)) * 2 ^ min (Int.toNat 16) 64))).toNat)) ||| BitVec.ofInt 64 (wr .i64 ((wr .i64 (x6)) * 2 ^ min (Int.toNat 8) 64))).toNat)) ||| BitVec.ofInt 64 (wr .i64 (x7))).toNat)] : List Int).map dI)) false true))], 752⟩ (by kernel_rfl) (by kernel_rfl) (s2 := ⟨[(0, lV (b.map dB)), (3, rV 720), (4, iV v4)], [(720, some (.row 1 3 ((Lv3 ++ ([wr .i64 ((BitVec.ofInt 64 (wr .i64 ((BitVec.ofInt 64 (wr .i64 ((BitVec.ofInt 64 (wr .i64 ((wr .i64 (x4)) * 2 ^ min (Int.toNat 24) 64)) ||| BitVec.ofInt 64 (wr .i64 ((wr .i64 (x5)) * 2 ^ min (Int.toNat 16) 64))).toNat)) ||| BitVec.ofInt 64 (wr .i64 ((wr .i64 (x6)) * 2 ^ min (Int.toNat 8) 64))).toNat)) ||| BitVec.ofInt 64 (wr .i64 (x7))).toNat)] : List Int)).map dI) false true))], 752⟩) (congrArg (fun z : List (List D) => (⟨[(0, lV (b.map dB)), (3, rV 720), (4, iV v4)], [(720, some (.row 1 3 z false true))], 752⟩ : St)) (show (Lv3.map dI) ++ (([wr .i64 ((BitVec.ofInt 64 (wr .i64 ((BitVec.ofInt 64 (wr .i64 ((BitVec.ofInt 64 (wr .i64 ((wr .i64 (x4)) * 2 ^ min (Int.toNat 24) 64)) ||| BitVec.ofInt 64 (wr .i64 ((wr .i64 (x5)) * 2 ^ min (Int.toNat 16) 64))).toNat)) ||| BitVec.ofInt 64 (wr .i64 ((wr .i64 (x6)) * 2 ^ min (Int.toNat 8) 64))).toNat)) ||| BitVec.ofInt 64 (wr .i64 (x7))).toNat)] : List Int).map dI) = ((Lv3 ++ ([wr .i64 ((BitVec.ofInt 64 (wr .i64 ((BitVec.ofInt 64 (wr .i64 ((BitVec.ofInt 64 (wr .i64 ((wr .i64 (x4)) * 2 ^ min (Int.toNat 24) 64)) ||| BitVec.ofInt 64 (wr .i64 ((wr .i64 (x5)) * 2 ^ min (Int.toNat 16) 64))).toNat)) ||| BitVec.ofInt 64 (wr .i64 ((wr .i64 (x6)) * 2 ^ min (Int.toNat 8) 64))).toNat)) ||| BitVec.ofInt 64 (wr .i64 (x7))).toNat)] : List Int)).map dI) from List.map_append.symm)) ?_
      refine X.rk ⟨[(0, lV (b.map dB)), (3, rV 720), (4, iV (wrap64 (v4 + 1)))], [(720, some (.row 1 3 ((Lv3 ++ ([wr .i64 ((BitVec.ofInt 64 (wr .i64 ((BitVec.ofInt 64 (wr .i64 ((BitVec.ofInt 64 (wr .i64 ((wr .i64 (x4)) * 2 ^ min (Int.toNat 24) 64)) ||| BitVec.ofInt 64 (wr .i64 ((wr .i64 (x5)) * 2 ^ min (Int.toNat 16) 64))).toNat)) ||| BitVec.ofInt 64 (wr .i64 ((wr .i64 (x6)) * 2 ^ min (Int.toNat 8) 64))).toNat)) ||| BitVec.ofInt 64 (wr .i64 (x7))).toNat)] : List Int)).map dI) false true))], 800⟩ hτ hmix (by kernel_rfl) (by kernel_rfl) (s2 := ⟨[(0, lV (b.map dB)), (3, rV 720), (4, iV (v4 + 1))], [(720, some (.row 1 3 ((Lv3 ++ ([wr .i64 ((BitVec.ofInt 64 (wr .i64 ((BitVec.ofInt 64 (wr .i64 ((BitVec.ofInt 64 (wr .i64 ((wr .i64 (x4)) * 2 ^ min (Int.toNat 24) 64)) ||| BitVec.ofInt 64 (wr .i64 ((wr .i64 (x5)) * 2 ^ min (Int.toNat 16) 64))).toNat)) ||| BitVec.ofInt 64 (wr .i64 ((wr .i64 (x6)) * 2 ^ min (Int.toNat 8) 64))).toNat)) ||| BitVec.ofInt 64 (wr .i64 (x7))).toNat)] : List Int)).map dI) false true))], 800⟩) (congrArg (fun z : Int => (⟨[(0, lV (b.map dB)), (3, rV 720), (4, iV z)], [(720, some (.row 1 3 ((Lv3 ++ ([wr .i64 ((BitVec.ofInt 64 (wr .i64 ((BitVec.ofInt 64 (wr .i64 ((BitVec.ofInt 64 (wr .i64 ((wr .i64 (x4)) * 2 ^ min (Int.toNat 24) 64)) ||| BitVec.ofInt 64 (wr .i64 ((wr .i64 (x5)) * 2 ^ min (Int.toNat 16) 64))).toNat)) ||| BitVec.ofInt 64 (wr .i64 ((wr .i64 (x6)) * 2 ^ min (Int.toNat 8) 64))).toNat)) ||| BitVec.ofInt 64 (wr .i64 (x7))).toNat)] : List Int)).map dI) false true))], 800⟩ : St)) (show wrap64 (v4 + 1) = (v4 + 1) by rw [w64 (n := (v4 + 1)) (by omega) (by omega)])) ?_
      refine ⟨⟨((Lv3 ++ ([wr .i64 ((BitVec.ofInt 64 (wr .i64 ((BitVec.ofInt 64 (wr .i64 ((BitVec.ofInt 64 (wr .i64 ((wr .i64 (x4)) * 2 ^ min (Int.toNat 24) 64)) ||| BitVec.ofInt 64 (wr .i64 ((wr .i64 (x5)) * 2 ^ min (Int.toNat 16) 64))).toNat)) ||| BitVec.ofInt 64 (wr .i64 ((wr .i64 (x6)) * 2 ^ min (Int.toNat 8) 64))).toNat)) ||| BitVec.ofInt 64 (wr .i64 (x7))).toNat)] : List Int)), (v4 + 1)), by first | exact rfl | omega | (dsimp only; omega) | (simp only [List.length_append, List.length_cons, List.length_nil, List.length_set]; omega) | (simp; done) | (simp; omega)⟩, by first | exact rfl | omega | (dsimp only; omega) | (simp only [List.length_append, List.length_cons, List.length_nil, List.length_set]; omega) | (simp; done) | (simp; omega), Wk.mk' [(80, 720)] (by kernel_rfl) (by kernel_rfl) (by kernel_rfl)⟩
    · replace hb3 := of_decide_eq_false (hb3)
      refine X.exit ?_
      refine X.seq ?_
      refine X.seq ?_
      refine X.rk ⟨[(3, rV 80), (5, iV 16)], [(80, some (.row 1 3 (Lv3.map dI) false true))], 176⟩ hτ hmix (by kernel_rfl) (by kernel_rfl) rfl ?_
      refine X.block ?_
      -- 7: Lv3 : List Int, v5 : Int
      refine X.loop (σ := { g : (List Int) × Int // (fun (Lv3 : List Int) (v5 : Int) => 16 ≤ v5 ∧ v5 ≤ 64 ∧ Lv3.length = v5) g.1 g.2 }) (fun g => (fun (Lv3 : List Int) (v5 : Int) => ⟨[(3, rV 80), (5, iV v5)], [(80, some (.row 1 3 (Lv3.map dI) false true))], 176⟩) g.1.1 g.1.2) (fun g => (fun (Lv3 : List Int) (v5 : Int) => (64 - v5).toNat) g.1.1 g.1.2) ⟨(Lv3, 16), by first | exact rfl | omega | (dsimp only; omega) | (simp only [List.length_append, List.length_cons, List.length_nil, List.length_set]; omega) | (simp; done) | (simp; omega)⟩ (Wk.less (by kernel_rfl)) (fun g => ?_)
      obtain ⟨⟨Lv3, v5⟩, hg12⟩ := g
      have hg12 : 16 ≤ v5 ∧ v5 ≤ 64 ∧ Lv3.length = v5 := hg12
      obtain ⟨_, _, _⟩ := hg12
      refine X.seq ?_
      refine X.seq ?_
      refine X.rk ⟨[(3, rV 80), (5, iV v5), (52, bV (decide ((v5 : Int) < 64)))], [(80, some (.row 1 3 (Lv3.map dI) false true))], 208⟩ hτ hmix (by kernel_rfl) (by kernel_rfl) rfl ?_
      refine X.if_ (b := decide ((v5 : Int) < 64)) (by kernel_rfl) (fun hb13 => ?_) (fun hb13 => ?_)
      · replace hb13 := of_decide_eq_true (hb13)
        refine X.skip ?_
        refine X.seq ?_
        refine X.block ?_
        refine X.seq ?_
        refine X.rs 3 hτ hmix (by kernel_rfl) ?_
        refine CH.alt 57 (sV (.int .i64 (wrap64 (v5 - 15)))) (sV (.int .i64 ((v5 - 15)))) (by kernel_rfl) (by rw [w64 (n := (v5 - 15)) (by omega) (by omega)]) ?_
        refine CH.idxR hτ (rows := (Lv3.map dI)) (n := (v5 - 15)) (b := 80) (by kernel_rfl) (by kernel_rfl) (by first | omega | (simp; done) | (simp; omega)) (by simp only [List.length_map, List.length_set]; first | omega | (simp; done) | (simp; omega)) (by kernel_rfl) ?_
        obtain ⟨x14, hx14⟩ : ∃ x, Lv3[Int.toNat (v5 - 15)]? = some x := ⟨_, List.getElem?_eq_getElem (by first | omega | (simp; done) | (simp; omega))⟩
        refine CH.row hτ (dI x14) (by kernel_rfl) (by kernel_rfl) (by rw [List.getElem?_map, hx14]; rfl) (by kernel_rfl) ?_
        refine CH.go 1 hτ (by kernel_rfl) ?_
        refine CH.endk ⟨[(3, rV 80), (5, iV v5), (6, .e (.c (.f (.v (.int .i64 x14)))))], [(80, some (.row 1 3 (Lv3.map dI) false true))], 304⟩ (by kernel_rfl) (by kernel_rfl) rfl ?_
        refine X.seq ?_
        refine X.rs 3 hτ hmix (by kernel_rfl) ?_
        refine CH.alt 62 (sV (.int .i64 (wrap64 (v5 - 2)))) (sV (.int .i64 ((v5 - 2)))) (by kernel_rfl) (by rw [w64 (n := (v5 - 2)) (by omega) (by omega)]) ?_
        refine CH.idxR hτ (rows := (Lv3.map dI)) (n := (v5 - 2)) (b := 80) (by kernel_rfl) (by kernel_rfl) (by first | omega | (simp; done) | (simp; omega)) (by simp only [List.length_map, List.length_set]; first | omega | (simp; done) | (simp; omega)) (by kernel_rfl) ?_
        obtain ⟨x15, hx15⟩ : ∃ x, Lv3[Int.toNat (v5 - 2)]? = some x := ⟨_, List.getElem?_eq_getElem (by first | omega | (simp; done) | (simp; omega))⟩
        refine CH.row hτ (dI x15) (by kernel_rfl) (by kernel_rfl) (by rw [List.getElem?_map, hx15]; rfl) (by kernel_rfl) ?_
        refine CH.go 1 hτ (by kernel_rfl) ?_
        refine CH.endk ⟨[(3, rV 80), (5, iV v5), (6, .e (.c (.f (.v (.int .i64 x14))))), (7, .e (.c (.f (.v (.int .i64 x15)))))], [(80, some (.row 1 3 (Lv3.map dI) false true))], 400⟩ (by kernel_rfl) (by kernel_rfl) rfl ?_
        refine X.seq ?_
        refine X.rs 1 hτ hmix (by kernel_rfl) ?_
        obtain ⟨r16, hr18, hf17⟩ := s_l2Turn x14 7
        refine CH.call hf17 Try.func210 ⟨rfl, rfl⟩ [] (by kernel_rfl) (by kernel_rfl) (by kernel_rfl) (by kernel_rfl) ?_
        refine CH.go 1 hτ (by kernel_rfl) ?_
        obtain ⟨r19, hr21, hf20⟩ := s_l2Turn x14 18
        refine CH.call hf20 Try.func210 ⟨rfl, rfl⟩ [] (by kernel_rfl) (by kernel_rfl) (by kernel_rfl) (by kernel_rfl) ?_
        refine CH.go 5 hτ (by kernel_rfl) ?_
        refine CH.endk ⟨[(3, rV 80), (5, iV v5), (7, .e (.c (.f (.v (.int .i64 x15))))), (8, iV (wr .i64 ((BitVec.ofInt 64 (wr .i64 ((BitVec.ofInt 64 r16 ^^^ BitVec.ofInt 64 r19).toNat)) ^^^ BitVec.ofInt 64 (x14 / 2 ^ min (Int.toNat 3) 64)).toNat)))], [(80, some (.row 1 3 (Lv3.map dI) false true))], 544⟩ (by kernel_rfl) (by kernel_rfl) rfl ?_
        refine X.gen (fun n22 : Int => ⟨[(3, rV 80), (5, iV v5), (7, .e (.c (.f (.v (.int .i64 x15))))), (8, iV n22)], [(80, some (.row 1 3 (Lv3.map dI) false true))], 544⟩) (wr .i64 ((BitVec.ofInt 64 (wr .i64 ((BitVec.ofInt 64 r16 ^^^ BitVec.ofInt 64 r19).toNat)) ^^^ BitVec.ofInt 64 (x14 / 2 ^ min (Int.toNat 3) 64)).toNat)) (fun n22 hn22 => ?_)
        refine X.seq ?_
        refine X.rs 1 hτ hmix (by kernel_rfl) ?_
        obtain ⟨r23, hr25, hf24⟩ := s_l2Turn x15 17
        refine CH.call hf24 Try.func210 ⟨rfl, rfl⟩ [] (by kernel_rfl) (by kernel_rfl) (by kernel_rfl) (by kernel_rfl) ?_
        refine CH.go 1 hτ (by kernel_rfl) ?_
        obtain ⟨r26, hr28, hf27⟩ := s_l2Turn x15 19
        refine CH.call hf27 Try.func210 ⟨rfl, rfl⟩ [] (by kernel_rfl) (by kernel_rfl) (by kernel_rfl) (by kernel_rfl) ?_
        refine CH.go 5 hτ (by kernel_rfl) ?_
        refine CH.endk ⟨[(3, rV 80), (5, iV v5), (8, iV n22), (9, iV (wr .i64 ((BitVec.ofInt 64 (wr .i64 ((BitVec.ofInt 64 r23 ^^^ BitVec.ofInt 64 r26).toNat)) ^^^ BitVec.ofInt 64 (x15 / 2 ^ min (Int.toNat 10) 64)).toNat)))], [(80, some (.row 1 3 (Lv3.map dI) false true))], 688⟩ (by kernel_rfl) (by kernel_rfl) rfl ?_
        refine X.gen (fun n29 : Int => ⟨[(3, rV 80), (5, iV v5), (8, iV n22), (9, iV n29)], [(80, some (.row 1 3 (Lv3.map dI) false true))], 688⟩) (wr .i64 ((BitVec.ofInt 64 (wr .i64 ((BitVec.ofInt 64 r23 ^^^ BitVec.ofInt 64 r26).toNat)) ^^^ BitVec.ofInt 64 (x15 / 2 ^ min (Int.toNat 10) 64)).toNat)) (fun n29 hn29 => ?_)
        refine X.rs 4 hτ hmix (by kernel_rfl) ?_
        refine CH.alt 84 (sV (.int .i64 (wrap64 (v5 - 16)))) (sV (.int .i64 ((v5 - 16)))) (by kernel_rfl) (by rw [w64 (n := (v5 - 16)) (by omega) (by omega)]) ?_
        refine CH.idxR hτ (rows := (Lv3.map dI)) (n := (v5 - 16)) (b := 80) (by kernel_rfl) (by kernel_rfl) (by first | omega | (simp; done) | (simp; omega)) (by simp only [List.length_map, List.length_set]; first | omega | (simp; done) | (simp; omega)) (by kernel_rfl) ?_
        obtain ⟨x30, hx30⟩ : ∃ x, Lv3[Int.toNat (v5 - 16)]? = some x := ⟨_, List.getElem?_eq_getElem (by first | omega | (simp; done) | (simp; omega))⟩
        refine CH.row hτ (dI x30) (by kernel_rfl) (by kernel_rfl) (by rw [List.getElem?_map, hx30]; rfl) (by kernel_rfl) ?_
        refine CH.go 5 hτ (by kernel_rfl) ?_
        refine CH.alt 91 (sV (.int .i64 (wrap64 (v5 - 7)))) (sV (.int .i64 ((v5 - 7)))) (by kernel_rfl) (by rw [w64 (n := (v5 - 7)) (by omega) (by omega)]) ?_
        refine CH.idxR hτ (rows := (Lv3.map dI)) (n := (v5 - 7)) (b := 80) (by kernel_rfl) (by kernel_rfl) (by first | omega | (simp; done) | (simp; omega)) (by simp only [List.length_map, List.length_set]; first | omega | (simp; done) | (simp; omega)) (by kernel_rfl) ?_
        obtain ⟨x31, hx31⟩ : ∃ x, Lv3[Int.toNat (v5 - 7)]? = some x := ⟨_, List.getElem?_eq_getElem (by first | omega | (simp; done) | (simp; omega))⟩
        refine CH.row hτ (dI x31) (by kernel_rfl) (by kernel_rfl) (by rw [List.getElem?_map, hx31]; rfl) (by kernel_rfl) ?_
        refine CH.go 5 hτ (by kernel_rfl) ?_
        have fa32 := and_le (wr .i64 ((wr .i64 ((wr .i64 (x30 + n22)) + x31)) + n29)) 4294967295 32 rfl (by decide)
        have el33 : (Lv3.map dI).length = Lv3.length := List.length_map ..
        have el34 : (([wr .i64 ((BitVec.ofInt 64 (wr .i64 ((wr .i64 ((wr .i64 (x30 + n22)) + x31)) + n29)) &&& BitVec.ofInt 64 4294967295).toNat)] : List Int).map dI).length = ([wr .i64 ((BitVec.ofInt 64 (wr .i64 ((wr .i64 ((wr .i64 (x30 + n22)) + x31)) + n29)) &&& BitVec.ofInt 64 4294967295).toNat)] : List Int).length := List.length_map ..
        have el35 : ([wr .i64 ((BitVec.ofInt 64 (wr .i64 ((wr .i64 ((wr .i64 (x30 + n22)) + x31)) + n29)) &&& BitVec.ofInt 64 4294967295).toNat)] : List Int).length = 1 := rfl
        refine CH.app hτ (rows := (Lv3.map dI)) (rows2 := (([wr .i64 ((BitVec.ofInt 64 (wr .i64 ((wr .i64 ((wr .i64 (x30 + n22)) + x31)) + n29)) &&& BitVec.ofInt 64 4294967295).toNat)] : List Int).map dI)) (sz := 1) (bys := 8) true (by kernel_rfl) (by kernel_rfl) (fun _ => flat_d dI (fun x => rfl)) (flat_ok (f := dI) (fun x => rfl)) (by simp only [List.length_map] <;> (first | done | omega | (simp; done) | (simp; omega))) (by kernel_rfl) ?_
        refine CH.go 1 hτ (by kernel_rfl) ?_
        refine CH.endk ⟨[(3, rV 976), (5, iV v5)], [(976, some (.row 1 3 ((Lv3.map dI) ++ (([wr .i64 ((BitVec.ofInt 64 (wr .i64 ((wr .i64 ((wr .i64 (x30 + n22)) + x31)) + n29)) &&& BitVec.ofInt 64 4294967295).toNat)] : List Int).map dI)) false true))], 1008⟩ (by kernel_rfl) (by kernel_rfl) (s2 := ⟨[(3, rV 976), (5, iV v5)], [(976, some (.row 1 3 ((Lv3 ++ ([wr .i64 ((BitVec.ofInt 64 (wr .i64 ((wr .i64 ((wr .i64 (x30 + n22)) + x31)) + n29)) &&& BitVec.ofInt 64 4294967295).toNat)] : List Int)).map dI) false true))], 1008⟩) (congrArg (fun z : List (List D) => (⟨[(3, rV 976), (5, iV v5)], [(976, some (.row 1 3 z false true))], 1008⟩ : St)) (show (Lv3.map dI) ++ (([wr .i64 ((BitVec.ofInt 64 (wr .i64 ((wr .i64 ((wr .i64 (x30 + n22)) + x31)) + n29)) &&& BitVec.ofInt 64 4294967295).toNat)] : List Int).map dI) = ((Lv3 ++ ([wr .i64 ((BitVec.ofInt 64 (wr .i64 ((wr .i64 ((wr .i64 (x30 + n22)) + x31)) + n29)) &&& BitVec.ofInt 64 4294967295).toNat)] : List Int)).map dI) from List.map_append.symm)) ?_
        refine X.rk ⟨[(3, rV 976), (5, iV (wrap64 (v5 + 1)))], [(976, some (.row 1 3 ((Lv3 ++ ([wr .i64 ((BitVec.ofInt 64 (wr .i64 ((wr .i64 ((wr .i64 (x30 + n22)) + x31)) + n29)) &&& BitVec.ofInt 64 4294967295).toNat)] : List Int)).map dI) false true))], 1056⟩ hτ hmix (by kernel_rfl) (by kernel_rfl) (s2 := ⟨[(3, rV 976), (5, iV (v5 + 1))], [(976, some (.row 1 3 ((Lv3 ++ ([wr .i64 ((BitVec.ofInt 64 (wr .i64 ((wr .i64 ((wr .i64 (x30 + n22)) + x31)) + n29)) &&& BitVec.ofInt 64 4294967295).toNat)] : List Int)).map dI) false true))], 1056⟩) (congrArg (fun z : Int => (⟨[(3, rV 976), (5, iV z)], [(976, some (.row 1 3 ((Lv3 ++ ([wr .i64 ((BitVec.ofInt 64 (wr .i64 ((wr .i64 ((wr .i64 (x30 + n22)) + x31)) + n29)) &&& BitVec.ofInt 64 4294967295).toNat)] : List Int)).map dI) false true))], 1056⟩ : St)) (show wrap64 (v5 + 1) = (v5 + 1) by rw [w64 (n := (v5 + 1)) (by omega) (by omega)])) ?_
        refine ⟨⟨((Lv3 ++ ([wr .i64 ((BitVec.ofInt 64 (wr .i64 ((wr .i64 ((wr .i64 (x30 + n22)) + x31)) + n29)) &&& BitVec.ofInt 64 4294967295).toNat)] : List Int)), (v5 + 1)), by first | exact rfl | omega | (dsimp only; omega) | (simp only [List.length_append, List.length_cons, List.length_nil, List.length_set]; omega) | (simp; done) | (simp; omega)⟩, by first | exact rfl | omega | (dsimp only; omega) | (simp only [List.length_append, List.length_cons, List.length_nil, List.length_set]; omega) | (simp; done) | (simp; omega), Wk.mk' [(80, 976)] (by kernel_rfl) (by kernel_rfl) (by kernel_rfl)⟩
      · replace hb13 := of_decide_eq_false (hb13)
        refine X.exit ?_
        refine X.seq ?_
        refine X.rk ⟨[(2, rV 80)], [(80, some (.row 1 3 (Lv3.map dI) false true))], 240⟩ hτ hmix (by kernel_rfl) (by kernel_rfl) rfl ?_
        refine X.ret ?_
        exact ⟨trivial, _, _, ⟨Lv3, by first | exact rfl | omega | (dsimp only; omega) | (simp only [List.length_append, List.length_cons, List.length_nil, List.length_set]; omega) | (simp; done) | (simp; omega), rfl, rfl⟩, .inl (Ret.mk' [(64, 80)] (by kernel_rfl) (by kernel_rfl) (by kernel_rfl))⟩
  obtain ⟨_, _, ⟨r0, q1, rfl, rfl⟩, hf⟩ := key
  exact ⟨r0, q1, hf⟩

theorem s_l2Block (h : List Int) (b : List Int) (k : List Int) (hh : h.length = 8) (hb : b.length = 64) (hk : k.length = 64) : ∃ r0 : List Int, (r0.length = 8) ∧ Fn Try.prog 193 [lV (h.map dI), lV (b.map dB), lV (k.map dI)] (lookH []) (rV 64) (lookH [(64, some (.row 1 3 (r0.map dI) false true))]) := by
  have key : ∃ x' h', ((fun x' h' => ∃ r0 : List Int, (r0.length = 8) ∧ x' = rV 64 ∧ h' = [(64, some (.row 1 3 (r0.map dI) false true))])) x' h' ∧ Fn Try.prog 193 [lV (h.map dI), lV (b.map dB), lV (k.map dI)] (lookH []) x' (lookH h') := by
    refine Fn.bodyX (N := 144) hτ Try.func193 rfl rfl rfl rfl ?_
    refine X.seq ?_
    refine X.rk ⟨[(0, lV (h.map dI)), (1, lV (b.map dB)), (2, lV (k.map dI))], [], 80⟩ hτ hmix (by kernel_rfl) (by kernel_rfl) rfl ?_
    refine X.seq ?_
    refine X.rs 1 hτ hmix (by kernel_rfl) ?_
    obtain ⟨r1, hr3, hf2⟩ := s_l2Words b (by omega)
    have hw := hr3
    refine CH.call hf2 Try.func209 ⟨rfl, rfl⟩ [] (by kernel_rfl) (by kernel_rfl) (by kernel_rfl) (by kernel_rfl) ?_
    refine CH.go 1 hτ (by kernel_rfl) ?_
    refine CH.endk ⟨[(0, lV (h.map dI)), (2, lV (k.map dI)), (7, rV 96)], [(96, some (.row 1 3 (r1.map dI) false true))], 128⟩ (by kernel_rfl) (by kernel_rfl) rfl ?_
    refine X.seq ?_
    refine X.rs 2 hτ hmix (by kernel_rfl) ?_
    have el4 : (h.map dI).length = h.length := List.length_map ..
    refine CH.app hτ (rows := []) (rows2 := (h.map dI)) (sz := 1) (bys := 8) true (by kernel_rfl) (by kernel_rfl) (fun _ => flat_d dI (fun x => rfl)) (flat_ok (f := dI) (fun x => rfl)) (by simp only [List.length_map] <;> (first | done | omega | (simp; done) | (simp; omega))) (by kernel_rfl) ?_
    refine CH.go 1 hτ (by kernel_rfl) ?_
    refine CH.endk ⟨[(0, lV (h.map dI)), (2, lV (k.map dI)), (7, rV 96), (8, rV 160)], [(96, some (.row 1 3 (r1.map dI) false true)), (160, some (.row 1 3 (h.map dI) false true))], 192⟩ (by kernel_rfl) (by kernel_rfl) rfl ?_
    refine X.seq ?_
    refine X.seq ?_
    refine X.rk ⟨[(0, lV (h.map dI)), (2, lV (k.map dI)), (7, rV 96), (8, rV 160), (9, iV 0)], [(96, some (.row 1 3 (r1.map dI) false true)), (160, some (.row 1 3 (h.map dI) false true))], 208⟩ hτ hmix (by kernel_rfl) (by kernel_rfl) rfl ?_
    refine X.block ?_
    -- 4: Lv8 : List Int, v9 : Int
    refine X.loop (σ := { g : (List Int) × Int // (fun (Lv8 : List Int) (v9 : Int) => 0 ≤ v9 ∧ v9 ≤ 64 ∧ Lv8.length = 8) g.1 g.2 }) (fun g => (fun (Lv8 : List Int) (v9 : Int) => ⟨[(0, lV (h.map dI)), (2, lV (k.map dI)), (7, rV 96), (8, rV 160), (9, iV v9)], [(96, some (.row 1 3 (r1.map dI) false true)), (160, some (.row 1 3 (Lv8.map dI) false true))], 208⟩) g.1.1 g.1.2) (fun g => (fun (Lv8 : List Int) (v9 : Int) => (64 - v9).toNat) g.1.1 g.1.2) ⟨(h, 0), by first | exact rfl | omega | (dsimp only; omega) | (simp only [List.length_append, List.length_cons, List.length_nil, List.length_set]; omega) | (simp; done) | (simp; omega)⟩ (Wk.less (by kernel_rfl)) (fun g => ?_)
    obtain ⟨⟨Lv8, v9⟩, hg6⟩ := g
    have hg6 : 0 ≤ v9 ∧ v9 ≤ 64 ∧ Lv8.length = 8 := hg6
    obtain ⟨_, _, _⟩ := hg6
    refine X.seq ?_
    refine X.seq ?_
    refine X.rk ⟨[(0, lV (h.map dI)), (2, lV (k.map dI)), (7, rV 96), (8, rV 160), (9, iV v9), (25, bV (decide ((v9 : Int) < 64)))], [(96, some (.row 1 3 (r1.map dI) false true)), (160, some (.row 1 3 (Lv8.map dI) false true))], 240⟩ hτ hmix (by kernel_rfl) (by kernel_rfl) rfl ?_
    refine X.if_ (b := decide ((v9 : Int) < 64)) (by kernel_rfl) (fun hb7 => ?_) (fun hb7 => ?_)
    · replace hb7 := of_decide_eq_true (hb7)
      refine X.skip ?_
      refine X.seq ?_
      refine X.block ?_
      refine X.seq ?_
      refine X.rs 1 hτ hmix (by kernel_rfl) ?_
      refine CH.idxR hτ (rows := (Lv8.map dI)) (n := 4) (b := 160) (by kernel_rfl) (by kernel_rfl) (by first | omega | (simp; done) | (simp; omega)) (by simp only [List.length_map, List.length_set]; first | omega | (simp; done) | (simp; omega)) (by kernel_rfl) ?_
      obtain ⟨x8, hx8⟩ : ∃ x, Lv8[4]? = some x := ⟨_, List.getElem?_eq_getElem (by first | omega | (simp; done) | (simp; omega))⟩
      refine CH.row hτ (dI x8) (by kernel_rfl) (by kernel_rfl) (by rw [List.getElem?_map, hx8]; rfl) (by kernel_rfl) ?_
      refine CH.go 1 hτ (by kernel_rfl) ?_
      refine CH.endk ⟨[(0, lV (h.map dI)), (2, lV (k.map dI)), (7, rV 96), (8, rV 160), (9, iV v9), (10, .e (.c (.f (.v (.int .i64 x8)))))], [(96, some (.row 1 3 (r1.map dI) false true)), (160, some (.row 1 3 (Lv8.map dI) false true))], 304⟩ (by kernel_rfl) (by kernel_rfl) rfl ?_
      refine X.seq ?_
      refine X.rs 1 hτ hmix (by kernel_rfl) ?_
      obtain ⟨r9, hr11, hf10⟩ := s_l2Turn x8 6
      refine CH.call hf10 Try.func210 ⟨rfl, rfl⟩ [] (by kernel_rfl) (by kernel_rfl) (by kernel_rfl) (by kernel_rfl) ?_
      refine CH.go 1 hτ (by kernel_rfl) ?_
      obtain ⟨r12, hr14, hf13⟩ := s_l2Turn x8 11
      refine CH.call hf13 Try.func210 ⟨rfl, rfl⟩ [] (by kernel_rfl) (by kernel_rfl) (by kernel_rfl) (by kernel_rfl) ?_
      refine CH.go 2 hτ (by kernel_rfl) ?_
      obtain ⟨r15, hr17, hf16⟩ := s_l2Turn x8 25
      refine CH.call hf16 Try.func210 ⟨rfl, rfl⟩ [] (by kernel_rfl) (by kernel_rfl) (by kernel_rfl) (by kernel_rfl) ?_
      refine CH.go 2 hτ (by kernel_rfl) ?_
      refine CH.endk ⟨[(0, lV (h.map dI)), (2, lV (k.map dI)), (7, rV 96), (8, rV 160), (9, iV v9), (10, .e (.c (.f (.v (.int .i64 x8))))), (11, iV (wr .i64 ((BitVec.ofInt 64 (wr .i64 ((BitVec.ofInt 64 r9 ^^^ BitVec.ofInt 64 r12).toNat)) ^^^ BitVec.ofInt 64 r15).toNat)))], [(96, some (.row 1 3 (r1.map dI) false true)), (160, some (.row 1 3 (Lv8.map dI) false true))], 448⟩ (by kernel_rfl) (by kernel_rfl) rfl ?_
      refine X.gen (fun n18 : Int => ⟨[(0, lV (h.map dI)), (2, lV (k.map dI)), (7, rV 96), (8, rV 160), (9, iV v9), (10, .e (.c (.f (.v (.int .i64 x8))))), (11, iV n18)], [(96, some (.row 1 3 (r1.map dI) false true)), (160, some (.row 1 3 (Lv8.map dI) false true))], 448⟩) (wr .i64 ((BitVec.ofInt 64 (wr .i64 ((BitVec.ofInt 64 r9 ^^^ BitVec.ofInt 64 r12).toNat)) ^^^ BitVec.ofInt 64 r15).toNat)) (fun n18 hn18 => ?_)
      refine X.seq ?_
      refine X.rs 2 hτ hmix (by kernel_rfl) ?_
      refine CH.idxR hτ (rows := (Lv8.map dI)) (n := 5) (b := 160) (by kernel_rfl) (by kernel_rfl) (by first | omega | (simp; done) | (simp; omega)) (by simp only [List.length_map, List.length_set]; first | omega | (simp; done) | (simp; omega)) (by kernel_rfl) ?_
      obtain ⟨x19, hx19⟩ : ∃ x, Lv8[5]? = some x := ⟨_, List.getElem?_eq_getElem (by first | omega | (simp; done) | (simp; omega))⟩
      refine CH.row hτ (dI x19) (by kernel_rfl) (by kernel_rfl) (by rw [List.getElem?_map, hx19]; rfl) (by kernel_rfl) ?_
      refine CH.go 4 hτ (by kernel_rfl) ?_
      refine CH.idxR hτ (rows := (Lv8.map dI)) (n := 6) (b := 160) (by kernel_rfl) (by kernel_rfl) (by first | omega | (simp; done) | (simp; omega)) (by simp only [List.length_map, List.length_set]; first | omega | (simp; done) | (simp; omega)) (by kernel_rfl) ?_
      obtain ⟨x20, hx20⟩ : ∃ x, Lv8[6]? = some x := ⟨_, List.getElem?_eq_getElem (by first | omega | (simp; done) | (simp; omega))⟩
      refine CH.row hτ (dI x20) (by kernel_rfl) (by kernel_rfl) (by rw [List.getElem?_map, hx20]; rfl) (by kernel_rfl) ?_
      refine CH.go 3 hτ (by kernel_rfl) ?_
      refine CH.endk ⟨[(0, lV (h.map dI)), (2, lV (k.map dI)), (7, rV 96), (8, rV 160), (9, iV v9), (10, .e (.c (.f (.v (.int .i64 x8))))), (11, iV n18), (12, iV (wr .i64 ((BitVec.ofInt 64 (wr .i64 ((BitVec.ofInt 64 x8 &&& BitVec.ofInt 64 x19).toNat)) ^^^ BitVec.ofInt 64 (wr .i64 ((BitVec.ofInt 64 (wr .i64 ((BitVec.ofInt 64 4294967295 ^^^ BitVec.ofInt 64 x8).toNat)) &&& BitVec.ofInt 64 x20).toNat))).toNat)))], [(96, some (.row 1 3 (r1.map dI) false true)), (160, some (.row 1 3 (Lv8.map dI) false true))], 656⟩ (by kernel_rfl) (by kernel_rfl) rfl ?_
      refine X.gen (fun n21 : Int => ⟨[(0, lV (h.map dI)), (2, lV (k.map dI)), (7, rV 96), (8, rV 160), (9, iV v9), (10, .e (.c (.f (.v (.int .i64 x8))))), (11, iV n18), (12, iV n21)], [(96, some (.row 1 3 (r1.map dI) false true)), (160, some (.row 1 3 (Lv8.map dI) false true))], 656⟩) (wr .i64 ((BitVec.ofInt 64 (wr .i64 ((BitVec.ofInt 64 x8 &&& BitVec.ofInt 64 x19).toNat)) ^^^ BitVec.ofInt 64 (wr .i64 ((BitVec.ofInt 64 (wr .i64 ((BitVec.ofInt 64 4294967295 ^^^ BitVec.ofInt 64 x8).toNat)) &&& BitVec.ofInt 64 x20).toNat))).toNat)) (fun n21 hn21 => ?_)
      refine X.seq ?_
      refine X.rs 1 hτ hmix (by kernel_rfl) ?_
      refine CH.idxR hτ (rows := (Lv8.map dI)) (n := 7) (b := 160) (by kernel_rfl) (by kernel_rfl) (by first | omega | (simp; done) | (simp; omega)) (by simp only [List.length_map, List.length_set]; first | omega | (simp; done) | (simp; omega)) (by kernel_rfl) ?_
      obtain ⟨x22, hx22⟩ : ∃ x, Lv8[7]? = some x := ⟨_, List.getElem?_eq_getElem (by first | omega | (simp; done) | (simp; omega))⟩
      refine CH.row hτ (dI x22) (by kernel_rfl) (by kernel_rfl) (by rw [List.getElem?_map, hx22]; rfl) (by kernel_rfl) ?_
      refine CH.go 6 hτ (by kernel_rfl) ?_
      obtain ⟨x23, hx23⟩ : ∃ x, k[Int.toNat v9]? = some x := ⟨_, List.getElem?_eq_getElem (by first | omega | (simp; done) | (simp; omega))⟩
      refine CH.idx hτ (dI x23) (rows := (k.map dI)) (n := v9) (sz := 1) (by kernel_rfl) (by kernel_rfl) (by first | omega | (simp; done) | (simp; omega)) (by rw [List.getElem?_map, hx23]; rfl) (by kernel_rfl) ?_
      refine CH.go 4 hτ (by kernel_rfl) ?_
      refine CH.idxR hτ (rows := (r1.map dI)) (n := v9) (b := 96) (by kernel_rfl) (by kernel_rfl) (by first | omega | (simp; done) | (simp; omega)) (by simp only [List.length_map, List.length_set]; first | omega | (simp; done) | (simp; omega)) (by kernel_rfl) ?_
      obtain ⟨x24, hx24⟩ : ∃ x, r1[Int.toNat v9]? = some x := ⟨_, List.getElem?_eq_getElem (by first | omega | (simp; done) | (simp; omega))⟩
      refine CH.row hτ (dI x24) (by kernel_rfl) (by kernel_rfl) (by rw [List.getElem?_map, hx24]; rfl) (by kernel_rfl) ?_
      refine CH.go 2 hτ (by kernel_rfl) ?_
      refine CH.endk ⟨[(0, lV (h.map dI)), (2, lV (k.map dI)), (7, rV 96), (8, rV 160), (9, iV v9), (10, .e (.c (.f (.v (.int .i64 x8))))), (13, iV (wr .i64 ((wr .i64 ((wr .i64 ((wr .i64 (x22 + n18)) + n21)) + x23)) + x24)))], [(96, some (.row 1 3 (r1.map dI) false true)), (160, some (.row 1 3 (Lv8.map dI) false true))], 944⟩ (by kernel_rfl) (by kernel_rfl) rfl ?_
      refine X.gen (fun n25 : Int => ⟨[(0, lV (h.map dI)), (2, lV (k.map dI)), (7, rV 96), (8, rV 160), (9, iV v9), (10, .e (.c (.f (.v (.int .i64 x8))))), (13, iV n25)], [(96, some (.row 1 3 (r1.map dI) false true)), (160, some (.row 1 3 (Lv8.map dI) false true))], 944⟩) (wr .i64 ((wr .i64 ((wr .i64 ((wr .i64 (x22 + n18)) + n21)) + x23)) + x24)) (fun n25 hn25 => ?_)
      refine X.seq ?_
      refine X.rs 1 hτ hmix (by kernel_rfl) ?_
      refine CH.idxR hτ (rows := (Lv8.map dI)) (n := 0) (b := 160) (by kernel_rfl) (by kernel_rfl) (by first | omega | (simp; done) | (simp; omega)) (by simp only [List.length_map, List.length_set]; first | omega | (simp; done) | (simp; omega)) (by kernel_rfl) ?_
      obtain ⟨x26, hx26⟩ : ∃ x, Lv8[0]? = some x := ⟨_, List.getElem?_eq_getElem (by first | omega | (simp; done) | (simp; omega))⟩
      refine CH.row hτ (dI x26) (by kernel_rfl) (by kernel_rfl) (by rw [List.getElem?_map, hx26]; rfl) (by kernel_rfl) ?_
      refine CH.go 1 hτ (by kernel_rfl) ?_
      refine CH.endk ⟨[(0, lV (h.map dI)), (2, lV (k.map dI)), (7, rV 96), (8, rV 160), (9, iV v9), (10, .e (.c (.f (.v (.int .i64 x8))))), (13, iV n25), (14, .e (.c (.f (.v (.int .i64 x26)))))], [(96, some (.row 1 3 (r1.map dI) false true)), (160, some (.row 1 3 (Lv8.map dI) false true))], 1008⟩ (by kernel_rfl) (by kernel_rfl) rfl ?_
      refine X.seq ?_
      refine X.rs 1 hτ hmix (by kernel_rfl) ?_
      obtain ⟨r27, hr29, hf28⟩ := s_l2Turn x26 2
      refine CH.call hf28 Try.func210 ⟨rfl, rfl⟩ [] (by kernel_rfl) (by kernel_rfl) (by kernel_rfl) (by kernel_rfl) ?_
      refine CH.go 1 hτ (by kernel_rfl) ?_
      obtain ⟨r30, hr32, hf31⟩ := s_l2Turn x26 13
      refine CH.call hf31 Try.func210 ⟨rfl, rfl⟩ [] (by kernel_rfl) (by kernel_rfl) (by kernel_rfl) (by kernel_rfl) ?_
      refine CH.go 2 hτ (by kernel_rfl) ?_
      obtain ⟨r33, hr35, hf34⟩ := s_l2Turn x26 22
      refine CH.call hf34 Try.func210 ⟨rfl, rfl⟩ [] (by kernel_rfl) (by kernel_rfl) (by kernel_rfl) (by kernel_rfl) ?_
      refine CH.go 2 hτ (by kernel_rfl) ?_
      refine CH.endk ⟨[(0, lV (h.map dI)), (2, lV (k.map dI)), (7, rV 96), (8, rV 160), (9, iV v9), (10, .e (.c (.f (.v (.int .i64 x8))))), (13, iV n25), (14, .e (.c (.f (.v (.int .i64 x26))))), (15, iV (wr .i64 ((BitVec.ofInt 64 (wr .i64 ((BitVec.ofInt 64 r27 ^^^ BitVec.ofInt 64 r30).toNat)) ^^^ BitVec.ofInt 64 r33).toNat)))], [(96, some (.row 1 3 (r1.map dI) false true)), (160, some (.row 1 3 (Lv8.map dI) false true))], 1152⟩ (by kernel_rfl) (by kernel_rfl) rfl ?_
      refine X.gen (fun n36 : Int => ⟨[(0, lV (h.map dI)), (2, lV (k.map dI)), (7, rV 96), (8, rV 160), (9, iV v9), (10, .e (.c (.f (.v (.int .i64 x8))))), (13, iV n25), (14, .e (.c (.f (.v (.int .i64 x26))))), (15, iV n36)], [(96, some (.row 1 3 (r1.map dI) false true)), (160, some (.row 1 3 (Lv8.map dI) false true))], 1152⟩) (wr .i64 ((BitVec.ofInt 64 (wr .i64 ((BitVec.ofInt 64 r27 ^^^ BitVec.ofInt 64 r30).toNat)) ^^^ BitVec.ofInt 64 r33).toNat)) (fun n36 hn36 => ?_)
      refine X.seq ?_
      refine X.rs 2 hτ hmix (by kernel_rfl) ?_
      refine CH.idxR hτ (rows := (Lv8.map dI)) (n := 1) (b := 160) (by kernel_rfl) (by kernel_rfl) (by first | omega | (simp; done) | (simp; omega)) (by simp only [List.length_map, List.length_set]; first | omega | (simp; done) | (simp; omega)) (by kernel_rfl) ?_
      obtain ⟨x37, hx37⟩ : ∃ x, Lv8[1]? = some x := ⟨_, List.getElem?_eq_getElem (by first | omega | (simp; done) | (simp; omega))⟩
      refine CH.row hτ (dI x37) (by kernel_rfl) (by kernel_rfl) (by rw [List.getElem?_map, hx37]; rfl) (by kernel_rfl) ?_
      refine CH.go 3 hτ (by kernel_rfl) ?_
      refine CH.idxR hτ (rows := (Lv8.map dI)) (n := 2) (b := 160) (by kernel_rfl) (by kernel_rfl) (by first | omega | (simp; done) | (simp; omega)) (by simp only [List.length_map, List.length_set]; first | omega | (simp; done) | (simp; omega)) (by kernel_rfl) ?_
      obtain ⟨x38, hx38⟩ : ∃ x, Lv8[2]? = some x := ⟨_, List.getElem?_eq_getElem (by first | omega | (simp; done) | (simp; omega))⟩
      refine CH.row hτ (dI x38) (by kernel_rfl) (by kernel_rfl) (by rw [List.getElem?_map, hx38]; rfl) (by kernel_rfl) ?_
      refine CH.go 3 hτ (by kernel_rfl) ?_
      refine CH.idxR hτ (rows := (Lv8.map dI)) (n := 1) (b := 160) (by kernel_rfl) (by kernel_rfl) (by first | omega | (simp; done) | (simp; omega)) (by simp only [List.length_map, List.length_set]; first | omega | (simp; done) | (simp; omega)) (by kernel_rfl) ?_
      refine CH.row hτ (dI x37) (by kernel_rfl) (by kernel_rfl) (by rw [List.getElem?_map, hx37]; rfl) (by kernel_rfl) ?_
      refine CH.go 1 hτ (by kernel_rfl) ?_
      refine CH.idxR hτ (rows := (Lv8.map dI)) (n := 2) (b := 160) (by kernel_rfl) (by kernel_rfl) (by first | omega | (simp; done) | (simp; omega)) (by simp only [List.length_map, List.length_set]; first | omega | (simp; done) | (simp; omega)) (by kernel_rfl) ?_
      refine CH.row hτ (dI x38) (by kernel_rfl) (by kernel_rfl) (by rw [List.getElem?_map, hx38]; rfl) (by kernel_rfl) ?_
      refine CH.go 3 hτ (by kernel_rfl) ?_
      refine CH.endk ⟨[(0, lV (h.map dI)), (2, lV (k.map dI)), (7, rV 96), (8, rV 160), (9, iV v9), (10, .e (.c (.f (.v (.int .i64 x8))))), (13, iV n25), (14, .e (.c (.f (.v (.int .i64 x26))))), (15, iV n36), (16, iV (wr .i64 ((BitVec.ofInt 64 (wr .i64 ((BitVec.ofInt 64 (wr .i64 ((BitVec.ofInt 64 x26 &&& BitVec.ofInt 64 x37).toNat)) ^^^ BitVec.ofInt 64 (wr .i64 ((BitVec.ofInt 64 x26 &&& BitVec.ofInt 64 x38).toNat))).toNat)) ^^^ BitVec.ofInt 64 (wr .i64 ((BitVec.ofInt 64 x37 &&& BitVec.ofInt 64 x38).toNat))).toNat)))], [(96, some (.row 1 3 (r1.map dI) false true)), (160, some (.row 1 3 (Lv8.map dI) false true))], 1472⟩ (by kernel_rfl) (by kernel_rfl) rfl ?_
      refine X.gen (fun n39 : Int => ⟨[(0, lV (h.map dI)), (2, lV (k.map dI)), (7, rV 96), (8, rV 160), (9, iV v9), (10, .e (.c (.f (.v (.int .i64 x8))))), (13, iV n25), (14, .e (.c (.f (.v (.int .i64 x26))))), (15, iV n36), (16, iV n39)], [(96, some (.row 1 3 (r1.map dI) false true)), (160, some (.row 1 3 (Lv8.map dI) false true))], 1472⟩) (wr .i64 ((BitVec.ofInt 64 (wr .i64 ((BitVec.ofInt 64 (wr .i64 ((BitVec.ofInt 64 x26 &&& BitVec.ofInt 64 x37).toNat)) ^^^ BitVec.ofInt 64 (wr .i64 ((BitVec.ofInt 64 x26 &&& BitVec.ofInt 64 x38).toNat))).toNat)) ^^^ BitVec.ofInt 64 (wr .i64 ((BitVec.ofInt 64 x37 &&& BitVec.ofInt 64 x38).toNat))).toNat)) (fun n39 hn39 => ?_)
      refine X.seq ?_
      refine X.rk ⟨[(0, lV (h.map dI)), (2, lV (k.map dI)), (7, rV 96), (8, rV 160), (9, iV v9), (10, .e (.c (.f (.v (.int .i64 x8))))), (13, iV n25), (14, .e (.c (.f (.v (.int .i64 x26))))), (17, iV (wr .i64 (n36 + n39)))], [(96, some (.row 1 3 (r1.map dI) false true)), (160, some (.row 1 3 (Lv8.map dI) false true))], 1536⟩ hτ hmix (by kernel_rfl) (by kernel_rfl) rfl ?_
      have fa40 := and_le (wr .i64 (n25 + (wr .i64 (n36 + n39)))) 4294967295 32 rfl (by decide)
      refine X.rs 6 hτ hmix (by kernel_rfl) ?_
      refine CH.idxR hτ (rows := (Lv8.map dI)) (n := 1) (b := 160) (by kernel_rfl) (by kernel_rfl) (by first | omega | (simp; done) | (simp; omega)) (by simp only [List.length_map, List.length_set]; first | omega | (simp; done) | (simp; omega)) (by kernel_rfl) ?_
      refine CH.row hτ (dI x37) (by kernel_rfl) (by kernel_rfl) (by rw [List.getElem?_map, hx37]; rfl) (by kernel_rfl) ?_
      refine CH.go 1 hτ (by kernel_rfl) ?_
      refine CH.idxR hτ (rows := (Lv8.map dI)) (n := 2) (b := 160) (by kernel_rfl) (by kernel_rfl) (by first | omega | (simp; done) | (simp; omega)) (by simp only [List.length_map, List.length_set]; first | omega | (simp; done) | (simp; omega)) (by kernel_rfl) ?_
      refine CH.row hτ (dI x38) (by kernel_rfl) (by kernel_rfl) (by rw [List.getElem?_map, hx38]; rfl) (by kernel_rfl) ?_
      refine CH.go 1 hτ (by kernel_rfl) ?_
      refine CH.idxR hτ (rows := (Lv8.map dI)) (n := 3) (b := 160) (by kernel_rfl) (by kernel_rfl) (by first | omega | (simp; done) | (simp; omega)) (by simp only [List.length_map, List.length_set]; first | omega | (simp; done) | (simp; omega)) (by kernel_rfl) ?_
      obtain ⟨x41, hx41⟩ : ∃ x, Lv8[3]? = some x := ⟨_, List.getElem?_eq_getElem (by first | omega | (simp; done) | (simp; omega))⟩
      refine CH.row hτ (dI x41) (by kernel_rfl) (by kernel_rfl) (by rw [List.getElem?_map, hx41]; rfl) (by kernel_rfl) ?_
      refine CH.go 5 hτ (by kernel_rfl) ?_
      have fa42 := and_le (wr .i64 (x41 + n25)) 4294967295 32 rfl (by decide)
      refine CH.idxR hτ (rows := (Lv8.map dI)) (n := 5) (b := 160) (by kernel_rfl) (by kernel_rfl) (by first | omega | (simp; done) | (simp; omega)) (by simp only [List.length_map, List.length_set]; first | omega | (simp; done) | (simp; omega)) (by kernel_rfl) ?_
      refine CH.row hτ (dI x19) (by kernel_rfl) (by kernel_rfl) (by rw [List.getElem?_map, hx19]; rfl) (by kernel_rfl) ?_
      refine CH.go 1 hτ (by kernel_rfl) ?_
      refine CH.idxR hτ (rows := (Lv8.map dI)) (n := 6) (b := 160) (by kernel_rfl) (by kernel_rfl) (by first | omega | (simp; done) | (simp; omega)) (by simp only [List.length_map, List.length_set]; first | omega | (simp; done) | (simp; omega)) (by kernel_rfl) ?_
      refine CH.row hτ (dI x20) (by kernel_rfl) (by kernel_rfl) (by rw [List.getElem?_map, hx20]; rfl) (by kernel_rfl) ?_
      refine CH.go 2 hτ (by kernel_rfl) ?_
      refine CH.endk ⟨[(0, lV (h.map dI)), (2, lV (k.map dI)), (7, rV 96), (8, rV 1920), (9, iV v9)], [(96, some (.row 1 3 (r1.map dI) false true)), (1920, some (.row 1 3 (([wr .i64 ((BitVec.ofInt 64 (wr .i64 (n25 + (wr .i64 (n36 + n39)))) &&& BitVec.ofInt 64 4294967295).toNat), x26, x37, x38, wr .i64 ((BitVec.ofInt 64 (wr .i64 (x41 + n25)) &&& BitVec.ofInt 64 4294967295).toNat), x8, x19, x20] : List Int).map dI) false true))], 1952⟩ (by kernel_rfl) (by kernel_rfl) rfl ?_
      refine X.rk ⟨[(0, lV (h.map dI)), (2, lV (k.map dI)), (7, rV 96), (8, rV 1920), (9, iV (wrap64 (v9 + 1)))], [(96, some (.row 1 3 (r1.map dI) false true)), (1920, some (.row 1 3 (([wr .i64 ((BitVec.ofInt 64 (wr .i64 (n25 + (wr .i64 (n36 + n39)))) &&& BitVec.ofInt 64 4294967295).toNat), x26, x37, x38, wr .i64 ((BitVec.ofInt 64 (wr .i64 (x41 + n25)) &&& BitVec.ofInt 64 4294967295).toNat), x8, x19, x20] : List Int).map dI) false true))], 2000⟩ hτ hmix (by kernel_rfl) (by kernel_rfl) (s2 := ⟨[(0, lV (h.map dI)), (2, lV (k.map dI)), (7, rV 96), (8, rV 1920), (9, iV (v9 + 1))], [(96, some (.row 1 3 (r1.map dI) false true)), (1920, some (.row 1 3 (([wr .i64 ((BitVec.ofInt 64 (wr .i64 (n25 + (wr .i64 (n36 + n39)))) &&& BitVec.ofInt 64 4294967295).toNat), x26, x37, x38, wr .i64 ((BitVec.ofInt 64 (wr .i64 (x41 + n25)) &&& BitVec.ofInt 64 4294967295).toNat), x8, x19, x20] : List Int).map dI) false true))], 2000⟩) (congrArg (fun z : Int => (⟨[(0, lV (h.map dI)), (2, lV (k.map dI)), (7, rV 96), (8, rV 1920), (9, iV z)], [(96, some (.row 1 3 (r1.map dI) false true)), (1920, some (.row 1 3 (([wr .i64 ((BitVec.ofInt 64 (wr .i64 (n25 + (wr .i64 (n36 + n39)))) &&& BitVec.ofInt 64 4294967295).toNat), x26, x37, x38, wr .i64 ((BitVec.ofInt 64 (wr .i64 (x41 + n25)) &&& BitVec.ofInt 64 4294967295).toNat), x8, x19, x20] : List Int).map dI) false true))], 2000⟩ : St)) (show wrap64 (v9 + 1) = (v9 + 1) by rw [w64 (n := (v9 + 1)) (by omega) (by omega)])) ?_
      refine ⟨⟨(([wr .i64 ((BitVec.ofInt 64 (wr .i64 (n25 + (wr .i64 (n36 + n39)))) &&& BitVec.ofInt 64 4294967295).toNat), x26, x37, x38, wr .i64 ((BitVec.ofInt 64 (wr .i64 (x41 + n25)) &&& BitVec.ofInt 64 4294967295).toNat), x8, x19, x20] : List Int), (v9 + 1)), by first | exact rfl | omega | (dsimp only; omega) | (simp only [List.length_append, List.length_cons, List.length_nil, List.length_set]; omega) | (simp; done) | (simp; omega)⟩, by first | exact rfl | omega | (dsimp only; omega) | (simp only [List.length_append, List.length_cons, List.length_nil, List.length_set]; omega) | (simp; done) | (simp; omega), Wk.mk' [(96, 96), (160, 1920)] (by kernel_rfl) (by kernel_rfl) (by kernel_rfl)⟩
    · replace hb7 := of_decide_eq_false (hb7)
      refine X.exit ?_
      refine X.seq ?_
      refine X.seq ?_
      refine X.rk ⟨[(0, lV (h.map dI)), (8, rV 160), (18, iV 0)], [(160, some (.row 1 3 (Lv8.map dI) false true))], 256⟩ hτ hmix (by kernel_rfl) (by kernel_rfl) rfl ?_
      refine X.block ?_
      -- 16: Lv8 : List Int, v18 : Int
      refine X.loop (σ := { g : (List Int) × Int // (fun (Lv8 : List Int) (v18 : Int) => 0 ≤ v18 ∧ v18 ≤ 8 ∧ Lv8.length = 8) g.1 g.2 }) (fun g => (fun (Lv8 : List Int) (v18 : Int) => ⟨[(0, lV (h.map dI)), (8, rV 160), (18, iV v18)], [(160, some (.row 1 3 (Lv8.map dI) false true))], 256⟩) g.1.1 g.1.2) (fun g => (fun (Lv8 : List Int) (v18 : Int) => (8 - v18).toNat) g.1.1 g.1.2) ⟨(Lv8, 0), by first | exact rfl | omega | (dsimp only; omega) | (simp only [List.length_append, List.length_cons, List.length_nil, List.length_set]; omega) | (simp; done) | (simp; omega)⟩ (Wk.less (by kernel_rfl)) (fun g => ?_)
      obtain ⟨⟨Lv8, v18⟩, hg44⟩ := g
      have hg44 : 0 ≤ v18 ∧ v18 ≤ 8 ∧ Lv8.length = 8 := hg44
      obtain ⟨_, _, _⟩ := hg44
      refine X.seq ?_
      refine X.seq ?_
      refine X.rk ⟨[(0, lV (h.map dI)), (8, rV 160), (18, iV v18), (127, bV (decide ((v18 : Int) < 8)))], [(160, some (.row 1 3 (Lv8.map dI) false true))], 288⟩ hτ hmix (by kernel_rfl) (by kernel_rfl) rfl ?_
      refine X.if_ (b := decide ((v18 : Int) < 8)) (by kernel_rfl) (fun hb45 => ?_) (fun hb45 => ?_)
      · replace hb45 := of_decide_eq_true (hb45)
        refine X.skip ?_
        refine X.seq ?_
        refine X.block ?_
        refine X.rs 4 hτ hmix (by kernel_rfl) ?_
        refine CH.idxR hτ (rows := (Lv8.map dI)) (n := v18) (b := 160) (by kernel_rfl) (by kernel_rfl) (by first | omega | (simp; done) | (simp; omega)) (by simp only [List.length_map, List.length_set]; first | omega | (simp; done) | (simp; omega)) (by kernel_rfl) ?_
        obtain ⟨x46, hx46⟩ : ∃ x, Lv8[Int.toNat v18]? = some x := ⟨_, List.getElem?_eq_getElem (by first | omega | (simp; done) | (simp; omega))⟩
        refine CH.row hτ (dI x46) (by kernel_rfl) (by kernel_rfl) (by rw [List.getElem?_map, hx46]; rfl) (by kernel_rfl) ?_
        refine CH.go 2 hτ (by kernel_rfl) ?_
        obtain ⟨x47, hx47⟩ : ∃ x, h[Int.toNat v18]? = some x := ⟨_, List.getElem?_eq_getElem (by first | omega | (simp; done) | (simp; omega))⟩
        refine CH.idx hτ (dI x47) (rows := (h.map dI)) (n := v18) (sz := 1) (by kernel_rfl) (by kernel_rfl) (by first | omega | (simp; done) | (simp; omega)) (by rw [List.getElem?_map, hx47]; rfl) (by kernel_rfl) ?_
        refine CH.go 3 hτ (by kernel_rfl) ?_
        have fa48 := and_le (wr .i64 (x46 + x47)) 4294967295 32 rfl (by decide)
        refine CH.idxR hτ (rows := (Lv8.map dI)) (n := v18) (b := 160) (by kernel_rfl) (by kernel_rfl) (by first | omega | (simp; done) | (simp; omega)) (by simp only [List.length_map, List.length_set]; first | omega | (simp; done) | (simp; omega)) (by kernel_rfl) ?_
        refine CH.row hτ (dI x46) (by kernel_rfl) (by kernel_rfl) (by rw [List.getElem?_map, hx46]; rfl) (by kernel_rfl) ?_
        refine CH.endk ⟨[(0, lV (h.map dI)), (8, rV 160), (18, iV v18)], [(160, some (.row 1 3 ((Lv8.map dI).set (Int.toNat v18) (dI (wr .i64 ((BitVec.ofInt 64 (wr .i64 (x46 + x47)) &&& BitVec.ofInt 64 4294967295).toNat)))) false true))], 512⟩ (by kernel_rfl) (by kernel_rfl) (s2 := ⟨[(0, lV (h.map dI)), (8, rV 160), (18, iV v18)], [(160, some (.row 1 3 ((Lv8.set (Int.toNat v18) (wr .i64 ((BitVec.ofInt 64 (wr .i64 (x46 + x47)) &&& BitVec.ofInt 64 4294967295).toNat))).map dI) false true))], 512⟩) (congrArg (fun z : List (List D) => (⟨[(0, lV (h.map dI)), (8, rV 160), (18, iV v18)], [(160, some (.row 1 3 z false true))], 512⟩ : St)) (show ((Lv8.map dI).set (Int.toNat v18) (dI (wr .i64 ((BitVec.ofInt 64 (wr .i64 (x46 + x47)) &&& BitVec.ofInt 64 4294967295).toNat)))) = ((Lv8.set (Int.toNat v18) (wr .i64 ((BitVec.ofInt 64 (wr .i64 (x46 + x47)) &&& BitVec.ofInt 64 4294967295).toNat))).map dI) from List.map_set.symm)) ?_
        refine X.rk ⟨[(0, lV (h.map dI)), (8, rV 160), (18, iV (wrap64 (v18 + 1)))], [(160, some (.row 1 3 ((Lv8.set (Int.toNat v18) (wr .i64 ((BitVec.ofInt 64 (wr .i64 (x46 + x47)) &&& BitVec.ofInt 64 4294967295).toNat))).map dI) false true))], 560⟩ hτ hmix (by kernel_rfl) (by kernel_rfl) (s2 := ⟨[(0, lV (h.map dI)), (8, rV 160), (18, iV (v18 + 1))], [(160, some (.row 1 3 ((Lv8.set (Int.toNat v18) (wr .i64 ((BitVec.ofInt 64 (wr .i64 (x46 + x47)) &&& BitVec.ofInt 64 4294967295).toNat))).map dI) false true))], 560⟩) (congrArg (fun z : Int => (⟨[(0, lV (h.map dI)), (8, rV 160), (18, iV z)], [(160, some (.row 1 3 ((Lv8.set (Int.toNat v18) (wr .i64 ((BitVec.ofInt 64 (wr .i64 (x46 + x47)) &&& BitVec.ofInt 64 4294967295).toNat))).map dI) false true))], 560⟩ : St)) (show wrap64 (v18 + 1) = (v18 + 1) by rw [w64 (n := (v18 + 1)) (by omega) (by omega)])) ?_
        refine ⟨⟨((Lv8.set (Int.toNat v18) (wr .i64 ((BitVec.ofInt 64 (wr .i64 (x46 + x47)) &&& BitVec.ofInt 64 4294967295).toNat))), (v18 + 1)), by first | exact rfl | omega | (dsimp only; omega) | (simp only [List.length_append, List.length_cons, List.length_nil, List.length_set]; omega) | (simp; done) | (simp; omega)⟩, by first | exact rfl | omega | (dsimp only; omega) | (simp only [List.length_append, List.length_cons, List.length_nil, List.length_set]; omega) | (simp; done) | (simp; omega), Wk.mk' [(160, 160)] (by kernel_rfl) (by kernel_rfl) (by kernel_rfl)⟩
      · replace hb45 := of_decide_eq_false (hb45)
        refine X.exit ?_
        refine X.seq ?_
        refine X.rk ⟨[(6, rV 160)], [(160, some (.row 1 3 (Lv8.map dI) false true))], 320⟩ hτ hmix (by kernel_rfl) (by kernel_rfl) rfl ?_
        refine X.ret ?_
        exact ⟨trivial, _, _, ⟨Lv8, by first | exact rfl | omega | (dsimp only; omega) | (simp only [List.length_append, List.length_cons, List.length_nil, List.length_set]; omega) | (simp; done) | (simp; omega), rfl, rfl⟩, .inl (Ret.mk' [(64, 160)] (by kernel_rfl) (by kernel_rfl) (by kernel_rfl))⟩
  obtain ⟨_, _, ⟨r0, q1, rfl, rfl⟩, hf⟩ := key
  exact ⟨r0, q1, hf⟩

theorem s_Padded (b : List Int) (hb : b.length ≤ 1000000) : ∃ r0 : List Int, (r0.length % 64 = 0 ∧ r0.length ≤ 2000000) ∧ Fn Try.prog 191 [lV (b.map dB)] (lookH []) (rV 64) (lookH [(64, some (.row 1 5 (r0.map dB) false true))]) := by
  have key : ∃ x' h', ((fun x' h' => ∃ r0 : List Int, (r0.length % 64 = 0 ∧ r0.length ≤ 2000000) ∧ x' = rV 64 ∧ h' = [(64, some (.row 1 5 (r0.map dB) false true))])) x' h' ∧ Fn Try.prog 191 [lV (b.map dB)] (lookH []) x' (lookH h') := by
    refine Fn.bodyX (N := 34) hτ Try.func191 rfl rfl rfl rfl ?_
    refine X.seq ?_
    refine X.rk ⟨[(0, lV (b.map dB))], [], 80⟩ hτ hmix (by kernel_rfl) (by kernel_rfl) rfl ?_
    refine X.seq ?_
    refine X.rs 2 hτ hmix (by kernel_rfl) ?_
    have el1 : (b.map dB).length = b.length := List.length_map ..
    refine CH.app hτ (rows := []) (rows2 := (b.map dB)) (sz := 1) (bys := 1) true (by kernel_rfl) (by kernel_rfl) (fun _ => flat_d dB (fun x => rfl)) (flat_ok (f := dB) (fun x => rfl)) (by simp only [List.length_map] <;> (first | done | omega | (simp; done) | (simp; omega))) (by kernel_rfl) ?_
    refine CH.go 1 hτ (by kernel_rfl) ?_
    have el2 : (([128] : List Int).map dB).length = ([128] : List Int).length := List.length_map ..
    have el3 : ([128] : List Int).length = 1 := rfl
    refine CH.app hτ (rows := (b.map dB)) (rows2 := (([128] : List Int).map dB)) (sz := 1) (bys := 1) true (by kernel_rfl) (by kernel_rfl) (fun _ => flat_d dB (fun x => rfl)) (flat_ok (f := dB) (fun x => rfl)) (by simp only [List.length_map] <;> (first | done | omega | (simp; done) | (simp; omega))) (by kernel_rfl) ?_
    refine CH.go 1 hτ (by kernel_rfl) ?_
    refine CH.endk ⟨[(0, lV (b.map dB)), (3, rV 144)], [(144, some (.row 1 5 ((b.map dB) ++ (([128] : List Int).map dB)) false true))], 176⟩ (by kernel_rfl) (by kernel_rfl) (s2 := ⟨[(0, lV (b.map dB)), (3, rV 144)], [(144, some (.row 1 5 ((b ++ ([128] : List Int)).map dB) false true))], 176⟩) (congrArg (fun z : List (List D) => (⟨[(0, lV (b.map dB)), (3, rV 144)], [(144, some (.row 1 5 z false true))], 176⟩ : St)) (show (b.map dB) ++ (([128] : List Int).map dB) = ((b ++ ([128] : List Int)).map dB) from List.map_append.symm)) ?_
    refine X.seq ?_
    refine X.block ?_
    -- 2: Lv3 : List Int
    refine X.loop (σ := { g : (List Int) // (fun (Lv3 : List Int) => (Lv3.length : Int) + (120 - Lv3.length % 64) % 64 ≤ b.length + 65) g }) (fun g => (fun (Lv3 : List Int) => ⟨[(0, lV (b.map dB)), (3, rV 144)], [(144, some (.row 1 5 (Lv3.map dB) false true))], 176⟩) g.1) (fun g => (fun (Lv3 : List Int) => ((120 - (Lv3.length : Int) % 64) % 64).toNat) g.1) ⟨(b ++ ([128] : List Int)), by first | exact rfl | omega | (dsimp only; omega) | (simp only [List.length_append, List.length_cons, List.length_nil, List.length_set]; omega) | (simp; done) | (simp; omega)⟩ (Wk.less (by kernel_rfl)) (fun g => ?_)
    obtain ⟨Lv3, hg5⟩ := g
    have hg5 : (Lv3.length : Int) + (120 - Lv3.length % 64) % 64 ≤ b.length + 65 := hg5
    refine X.seq ?_
    refine X.seq ?_
    have el6 : (Lv3.map dB).length = Lv3.length := List.length_map ..
    have ft7 := tmod_lt ((Lv3.map dB).length : Int) 64 (by first | omega | (simp; done) | (simp; omega)) (by omega)
    have fe8 := Int.tmod_eq_emod_of_nonneg (a := ((Lv3.map dB).length : Int)) (b := 64) (by first | omega | (simp; done) | (simp; omega))
    refine X.rk ⟨[(0, lV (b.map dB)), (3, rV 144), (14, bV ((Int.tmod ((Lv3.map dB).length : Int) 64) != 56))], [(144, some (.row 1 5 (Lv3.map dB) false true))], 240⟩ hτ hmix (by kernel_rfl) (by kernel_rfl) rfl ?_
    refine X.if_ (b := ((Int.tmod ((Lv3.map dB).length : Int) 64) != 56)) (by kernel_rfl) (fun hb9 => ?_) (fun hb9 => ?_)
    · replace hb9 := bne_iff_ne.1 (hb9)
      refine X.skip ?_
      refine X.block ?_
      refine X.rs 2 hτ hmix (by kernel_rfl) ?_
      have el10 : (([0] : List Int).map dB).length = ([0] : List Int).length := List.length_map ..
      have el11 : ([0] : List Int).length = 1 := rfl
      refine CH.app hτ (rows := (Lv3.map dB)) (rows2 := (([0] : List Int).map dB)) (sz := 1) (bys := 1) true (by kernel_rfl) (by kernel_rfl) (fun _ => flat_d dB (fun x => rfl)) (flat_ok (f := dB) (fun x => rfl)) (by simp only [List.length_map] <;> (first | done | omega | (simp; done) | (simp; omega))) (by kernel_rfl) ?_
      refine CH.go 1 hτ (by kernel_rfl) ?_
      refine CH.endk ⟨[(0, lV (b.map dB)), (3, rV 272)], [(272, some (.row 1 5 ((Lv3.map dB) ++ (([0] : List Int).map dB)) false true))], 304⟩ (by kernel_rfl) (by kernel_rfl) (s2 := ⟨[(0, lV (b.map dB)), (3, rV 272)], [(272, some (.row 1 5 ((Lv3 ++ ([0] : List Int)).map dB) false true))], 304⟩) (congrArg (fun z : List (List D) => (⟨[(0, lV (b.map dB)), (3, rV 272)], [(272, some (.row 1 5 z false true))], 304⟩ : St)) (show (Lv3.map dB) ++ (([0] : List Int).map dB) = ((Lv3 ++ ([0] : List Int)).map dB) from List.map_append.symm)) ?_
      refine ⟨⟨(Lv3 ++ ([0] : List Int)), by first | exact rfl | omega | (dsimp only; omega) | (simp only [List.length_append, List.length_cons, List.length_nil, List.length_set]; omega) | (simp; done) | (simp; omega)⟩, by first | exact rfl | omega | (dsimp only; omega) | (simp only [List.length_append, List.length_cons, List.length_nil, List.length_set]; omega) | (simp; done) | (simp; omega), Wk.mk' [(144, 272)] (by kernel_rfl) (by kernel_rfl) (by kernel_rfl)⟩
    · replace hb9 := bne_eq_false_iff_eq.1 (hb9)
      refine X.exit ?_
      refine X.seq ?_
      refine X.rk ⟨[(3, rV 144), (4, iV (wrap64 (((b.map dB).length : Int) * 8)))], [(144, some (.row 1 5 (Lv3.map dB) false true))], 304⟩ hτ hmix (by kernel_rfl) (by kernel_rfl) (s2 := ⟨[(3, rV 144), (4, iV (((b.map dB).length : Int) * 8))], [(144, some (.row 1 5 (Lv3.map dB) false true))], 304⟩) (congrArg (fun z : Int => (⟨[(3, rV 144), (4, iV z)], [(144, some (.row 1 5 (Lv3.map dB) false true))], 304⟩ : St)) (show wrap64 (((b.map dB).length : Int) * 8) = (((b.map dB).length : Int) * 8) by rw [w64 (n := (((b.map dB).length : Int) * 8)) (by omega) (by omega)])) ?_
      refine X.seq ?_
      refine X.seq ?_
      refine X.rk ⟨[(3, rV 144), (4, iV (((b.map dB).length : Int) * 8)), (5, iV 56)], [(144, some (.row 1 5 (Lv3.map dB) false true))], 320⟩ hτ hmix (by kernel_rfl) (by kernel_rfl) rfl ?_
      refine X.block ?_
      -- 6: Lv3 : List Int, v5 : Int
      refine X.loop (σ := { g : (List Int) × Int // (fun (Lv3 : List Int) (v5 : Int) => -8 ≤ v5 ∧ v5 ≤ 56 ∧ (8 * (Lv3.length : Int) + v5) % 512 = 504 ∧ 8 * (Lv3.length : Int) + v5 ≤ 8 * (b.length + 65) + 56) g.1 g.2 }) (fun g => (fun (Lv3 : List Int) (v5 : Int) => ⟨[(3, rV 144), (4, iV (((b.map dB).length : Int) * 8)), (5, iV v5)], [(144, some (.row 1 5 (Lv3.map dB) false true))], 320⟩) g.1.1 g.1.2) (fun g => (fun (Lv3 : List Int) (v5 : Int) => (v5 + 8).toNat) g.1.1 g.1.2) ⟨(Lv3, 56), by first | exact rfl | omega | (dsimp only; omega) | (simp only [List.length_append, List.length_cons, List.length_nil, List.length_set]; omega) | (simp; done) | (simp; omega)⟩ (Wk.less (by kernel_rfl)) (fun g => ?_)
      obtain ⟨⟨Lv3, v5⟩, hg13⟩ := g
      have hg13 : -8 ≤ v5 ∧ v5 ≤ 56 ∧ (8 * (Lv3.length : Int) + v5) % 512 = 504 ∧ 8 * (Lv3.length : Int) + v5 ≤ 8 * (b.length + 65) + 56 := hg13
      obtain ⟨_, _, _, _⟩ := hg13
      refine X.seq ?_
      refine X.seq ?_
      refine X.rk ⟨[(3, rV 144), (4, iV (((b.map dB).length : Int) * 8)), (5, iV v5), (22, bV (decide ((v5 : Int) ≥ 0)))], [(144, some (.row 1 5 (Lv3.map dB) false true))], 352⟩ hτ hmix (by kernel_rfl) (by kernel_rfl) rfl ?_
      refine X.if_ (b := decide ((v5 : Int) ≥ 0)) (by kernel_rfl) (fun hb14 => ?_) (fun hb14 => ?_)
      · replace hb14 := of_decide_eq_true (hb14)
        refine X.skip ?_
        refine X.seq ?_
        refine X.block ?_
        refine X.rs 4 hτ hmix (by kernel_rfl) ?_
        obtain ⟨m15, hm15⟩ := ofN0 (n := wr .u64 (v5)) (by first | exact u64_nn _ | omega)
        refine CH.alt 28 (sV (.int .u64 (wr .u64 (v5)))) (sV (.int .u64 (Int.ofNat m15))) (by kernel_rfl) (by rw [hm15]) ?_
        refine CH.go 3 hτ (by kernel_rfl) ?_
        have el16 : (([wr .u8 ((((b.map dB).length : Int) * 8) / 2 ^ min (Int.toNat (Int.ofNat m15)) 64)] : List Int).map dB).length = ([wr .u8 ((((b.map dB).length : Int) * 8) / 2 ^ min (Int.toNat (Int.ofNat m15)) 64)] : List Int).length := List.length_map ..
        have el17 : ([wr .u8 ((((b.map dB).length : Int) * 8) / 2 ^ min (Int.toNat (Int.ofNat m15)) 64)] : List Int).length = 1 := rfl
        refine CH.app hτ (rows := (Lv3.map dB)) (rows2 := (([wr .u8 ((((b.map dB).length : Int) * 8) / 2 ^ min (Int.toNat (Int.ofNat m15)) 64)] : List Int).map dB)) (sz := 1) (bys := 1) true (by kernel_rfl) (by kernel_rfl) (fun _ => flat_d dB (fun x => rfl)) (flat_ok (f := dB) (fun x => rfl)) (by simp only [List.length_map] <;> (first | done | omega | (simp; done) | (simp; omega))) (by kernel_rfl) ?_
        refine CH.go 1 hτ (by kernel_rfl) ?_
        refine CH.endk ⟨[(3, rV 464), (4, iV (((b.map dB).length : Int) * 8)), (5, iV v5)], [(464, some (.row 1 5 ((Lv3.map dB) ++ (([wr .u8 ((((b.map dB).length : Int) * 8) / 2 ^ min (Int.toNat (Int.ofNat m15)) 64)] : List Int).map dB)) false true))], 496⟩ (by kernel_rfl) (by kernel_rfl) (s2 := ⟨[(3, rV 464), (4, iV (((b.map dB).length : Int) * 8)), (5, iV v5)], [(464, some (.row 1 5 ((Lv3 ++ ([wr .u8 ((((b.map dB).length : Int) * 8) / 2 ^ min (Int.toNat (Int.ofNat m15)) 64)] : List Int)).map dB) false true))], 496⟩) (congrArg (fun z : List (List D) => (⟨[(3, rV 464), (4, iV (((b.map dB).length : Int) * 8)), (5, iV v5)], [(464, some (.row 1 5 z false true))], 496⟩ : St)) (show (Lv3.map dB) ++ (([wr .u8 ((((b.map dB).length : Int) * 8) / 2 ^ min (Int.toNat (Int.ofNat m15)) 64)] : List Int).map dB) = ((Lv3 ++ ([wr .u8 ((((b.map dB).length : Int) * 8) / 2 ^ min (Int.toNat (Int.ofNat m15)) 64)] : List Int)).map dB) from List.map_append.symm)) ?_
        refine X.rk ⟨[(3, rV 464), (4, iV (((b.map dB).length : Int) * 8)), (5, iV (wrap64 (v5 - 8)))], [(464, some (.row 1 5 ((Lv3 ++ ([wr .u8 ((((b.map dB).length : Int) * 8) / 2 ^ min (Int.toNat (Int.ofNat m15)) 64)] : List Int)).map dB) false true))], 544⟩ hτ hmix (by kernel_rfl) (by kernel_rfl) (s2 := ⟨[(3, rV 464), (4, iV (((b.map dB).length : Int) * 8)), (5, iV (v5 - 8))], [(464, some (.row 1 5 ((Lv3 ++ ([wr .u8 ((((b.map dB).length : Int) * 8) / 2 ^ min (Int.toNat (Int.ofNat m15)) 64)] : List Int)).map dB) false true))], 544⟩) (congrArg (fun z : Int => (⟨[(3, rV 464), (4, iV (((b.map dB).length : Int) * 8)), (5, iV z)], [(464, some (.row 1 5 ((Lv3 ++ ([wr .u8 ((((b.map dB).length : Int) * 8) / 2 ^ min (Int.toNat (Int.ofNat m15)) 64)] : List Int)).map dB) false true))], 544⟩ : St)) (show wrap64 (v5 - 8) = (v5 - 8) by rw [w64 (n := (v5 - 8)) (by omega) (by omega)])) ?_
        refine ⟨⟨((Lv3 ++ ([wr .u8 ((((b.map dB).length : Int) * 8) / 2 ^ min (Int.toNat (Int.ofNat m15)) 64)] : List Int)), (v5 - 8)), by first | exact rfl | omega | (dsimp only; omega) | (simp only [List.length_append, List.length_cons, List.length_nil, List.length_set]; omega) | (simp; done) | (simp; omega)⟩, by first | exact rfl | omega | (dsimp only; omega) | (simp only [List.length_append, List.length_cons, List.length_nil, List.length_set]; omega) | (simp; done) | (simp; omega), Wk.mk' [(144, 464)] (by kernel_rfl) (by kernel_rfl) (by kernel_rfl)⟩
      · replace hb14 := of_decide_eq_false (hb14)
        refine X.exit ?_
        refine X.seq ?_
        refine X.rk ⟨[(2, rV 144)], [(144, some (.row 1 5 (Lv3.map dB) false true))], 384⟩ hτ hmix (by kernel_rfl) (by kernel_rfl) rfl ?_
        refine X.ret ?_
        exact ⟨trivial, _, _, ⟨Lv3, by first | exact rfl | omega | (dsimp only; omega) | (simp only [List.length_append, List.length_cons, List.length_nil, List.length_set]; omega) | (simp; done) | (simp; omega), rfl, rfl⟩, .inl (Ret.mk' [(64, 144)] (by kernel_rfl) (by kernel_rfl) (by kernel_rfl))⟩
  obtain ⟨_, _, ⟨r0, q1, rfl, rfl⟩, hf⟩ := key
  exact ⟨r0, q1, hf⟩

theorem s_Digest (b : List Int) (hb : b.length ≤ 1000000) : ∃ r0 : ByteArray, (SmS r0) ∧ Fn Try.prog 156 [lV (b.map dB)] (lookH []) (.e (.c (.d (.v (.string r0))))) (lookH []) := by
  have key : ∃ x' h', ((fun x' h' => ∃ r0 : ByteArray, (SmS r0) ∧ x' = .e (.c (.d (.v (.string r0)))) ∧ h' = [])) x' h' ∧ Fn Try.prog 156 [lV (b.map dB)] (lookH []) x' (lookH h') := by
    refine Fn.bodyX (N := 60) hτ Try.func156 rfl rfl rfl rfl ?_
    refine X.seq ?_
    refine X.rk ⟨[(0, lV (b.map dB))], [], 80⟩ hτ hmix (by kernel_rfl) (by kernel_rfl) rfl ?_
    refine X.seq ?_
    refine X.rs 1 hτ hmix (by kernel_rfl) ?_
    obtain ⟨r1, hr3, hf2⟩ := s_Padded b (by omega)
    obtain ⟨_, _⟩ := hr3
    refine CH.call hf2 Try.func191 ⟨rfl, rfl⟩ [] (by kernel_rfl) (by kernel_rfl) (by kernel_rfl) (by kernel_rfl) ?_
    refine CH.go 1 hτ (by kernel_rfl) ?_
    refine CH.endk ⟨[(3, rV 96)], [(96, some (.row 1 5 (r1.map dB) false true))], 128⟩ (by kernel_rfl) (by kernel_rfl) rfl ?_
    refine X.seq ?_
    refine X.rk ⟨[(3, rV 96), (4, rV 128)], [(96, some (.row 1 5 (r1.map dB) false true)), (128, some (.row 1 3 (([1779033703, 3144134277, 1013904242, 2773480762, 1359893119, 2600822924, 528734635, 1541459225] : List Int).map dI) false true))], 160⟩ hτ hmix (by kernel_rfl) (by kernel_rfl) rfl ?_
    refine X.seq ?_
    refine X.rs 0 hτ hmix (by kernel_rfl) ?_
    obtain ⟨r4, hr6, hf5⟩ := s_l2K 
    have hk := hr6
    refine CH.call hf5 Try.func192 ⟨rfl, rfl⟩ [] (by kernel_rfl) (by kernel_rfl) (by kernel_rfl) (by kernel_rfl) ?_
    refine CH.go 1 hτ (by kernel_rfl) ?_
    refine CH.endk ⟨[(3, rV 96), (4, rV 128), (5, rV 160)], [(96, some (.row 1 5 (r1.map dB) false true)), (128, some (.row 1 3 (([1779033703, 3144134277, 1013904242, 2773480762, 1359893119, 2600822924, 528734635, 1541459225] : List Int).map dI) false true)), (160, some (.row 1 3 (r4.map dI) false true))], 192⟩ (by kernel_rfl) (by kernel_rfl) rfl ?_
    refine X.seq ?_
    refine X.seq ?_
    refine X.weak (Wk.less (s1 := ⟨[(3, .e (.c (.f (.sl (r1.map dB))))), (4, rV 128), (5, rV 160)], [(96, some (.row 1 5 (r1.map dB) true true)), (128, some (.row 1 3 (([1779033703, 3144134277, 1013904242, 2773480762, 1359893119, 2600822924, 528734635, 1541459225] : List Int).map dI) false true)), (160, some (.row 1 3 (r4.map dI) false true))], 192⟩) (by kernel_rfl)) ?_
    refine X.rk ⟨[(3, .e (.c (.f (.sl (r1.map dB))))), (4, rV 128), (5, rV 160), (6, iV 0)], [(128, some (.row 1 3 (([1779033703, 3144134277, 1013904242, 2773480762, 1359893119, 2600822924, 528734635, 1541459225] : List Int).map dI) false true)), (160, some (.row 1 3 (r4.map dI) false true))], 208⟩ hτ hmix (by kernel_rfl) (by kernel_rfl) rfl ?_
    refine X.block ?_
    -- 5: Lv4 : List Int, v6 : Int
    refine X.loop (σ := { g : (List Int) × Int // (fun (Lv4 : List Int) (v6 : Int) => 0 ≤ v6 ∧ v6 % 64 = 0 ∧ Lv4.length = 8 ∧ v6 ≤ r1.length) g.1 g.2 }) (fun g => (fun (Lv4 : List Int) (v6 : Int) => ⟨[(3, .e (.c (.f (.sl (r1.map dB))))), (4, rV 128), (5, rV 160), (6, iV v6)], [(128, some (.row 1 3 (Lv4.map dI) false true)), (160, some (.row 1 3 (r4.map dI) false true))], 208⟩) g.1.1 g.1.2) (fun g => (fun (Lv4 : List Int) (v6 : Int) => (r1.length - v6).toNat) g.1.1 g.1.2) ⟨(([1779033703, 3144134277, 1013904242, 2773480762, 1359893119, 2600822924, 528734635, 1541459225] : List Int), 0), by first | exact rfl | omega | (dsimp only; omega) | (simp only [List.length_append, List.length_cons, List.length_nil, List.length_set]; omega) | (simp; done) | (simp; omega)⟩ (Wk.less (by kernel_rfl)) (fun g => ?_)
    obtain ⟨⟨Lv4, v6⟩, hg8⟩ := g
    have hg8 : 0 ≤ v6 ∧ v6 % 64 = 0 ∧ Lv4.length = 8 ∧ v6 ≤ r1.length := hg8
    obtain ⟨_, _, _, _⟩ := hg8
    refine X.seq ?_
    refine X.seq ?_
    have el9 : (r1.map dB).length = r1.length := List.length_map ..
    refine X.rk ⟨[(3, .e (.c (.f (.sl (r1.map dB))))), (4, rV 128), (5, rV 160), (6, iV v6), (16, bV (decide ((v6 : Int) < ((r1.map dB).length : Int))))], [(128, some (.row 1 3 (Lv4.map dI) false true)), (160, some (.row 1 3 (r4.map dI) false true))], 272⟩ hτ hmix (by kernel_rfl) (by kernel_rfl) rfl ?_
    refine X.if_ (b := decide ((v6 : Int) < ((r1.map dB).length : Int))) (by kernel_rfl) (fun hb10 => ?_) (fun hb10 => ?_)
    · replace hb10 := of_decide_eq_true (hb10)
      refine X.skip ?_
      refine X.seq ?_
      refine X.block ?_
      refine X.rs 5 hτ hmix (by kernel_rfl) ?_
      refine CH.alt 23 (sV (.int .i64 (wrap64 (v6 + 64)))) (sV (.int .i64 ((v6 + 64)))) (by kernel_rfl) (by rw [w64 (n := (v6 + 64)) (by omega) (by omega)]) ?_
      refine CH.cut hτ (cc := .f (.sl (r1.map dB))) (rows := (r1.map dB)) (sz := 1) (l := v6) (h := (v6 + 64)) (by kernel_rfl) (by kernel_rfl) (by first | omega | (simp; done) | (simp; omega)) (by first | omega | (simp; done) | (simp; omega)) (by first | omega | (simp only [List.length_map]; omega)) (flat_ok (f := dB) (fun x => rfl)) ?_
      refine CH.alt 24 (.e (.c (.f (.sl (((r1.map dB).drop (Int.toNat v6)).take (Int.toNat (v6 + 64) - Int.toNat v6)))))) (.e (.c (.f (.sl (((r1.drop (Int.toNat v6)).take (Int.toNat (v6 + 64) - Int.toNat v6)).map dB))))) (by kernel_rfl) (by rw [List.map_take, List.map_drop]) ?_
      refine CH.go 1 hτ (by kernel_rfl) ?_
      obtain ⟨r11, hr13, hf12⟩ := s_l2Block Lv4 ((r1.drop (Int.toNat v6)).take (Int.toNat (v6 + 64) - Int.toNat v6)) r4 (by omega) (by first | omega | (simp only [List.length_take, List.length_drop]; omega)) (by omega)
      have hv := hr13
      refine CH.call hf12 Try.func193 ⟨rfl, rfl⟩ [] (by kernel_rfl) (by kernel_rfl) (by kernel_rfl) (by kernel_rfl) ?_
      refine CH.go 1 hτ (by kernel_rfl) ?_
      refine CH.endk ⟨[(3, .e (.c (.f (.sl (r1.map dB))))), (4, rV 384), (5, rV 160), (6, iV v6)], [(160, some (.row 1 3 (r4.map dI) false true)), (384, some (.row 1 3 (r11.map dI) false true))], 416⟩ (by kernel_rfl) (by kernel_rfl) rfl ?_
      refine X.rk ⟨[(3, .e (.c (.f (.sl (r1.map dB))))), (4, rV 384), (5, rV 160), (6, iV (wrap64 (v6 + 64)))], [(160, some (.row 1 3 (r4.map dI) false true)), (384, some (.row 1 3 (r11.map dI) false true))], 464⟩ hτ hmix (by kernel_rfl) (by kernel_rfl) (s2 := ⟨[(3, .e (.c (.f (.sl (r1.map dB))))), (4, rV 384), (5, rV 160), (6, iV (v6 + 64))], [(160, some (.row 1 3 (r4.map dI) false true)), (384, some (.row 1 3 (r11.map dI) false true))], 464⟩) (congrArg (fun z : Int => (⟨[(3, .e (.c (.f (.sl (r1.map dB))))), (4, rV 384), (5, rV 160), (6, iV z)], [(160, some (.row 1 3 (r4.map dI) false true)), (384, some (.row 1 3 (r11.map dI) false true))], 464⟩ : St)) (show wrap64 (v6 + 64) = (v6 + 64) by rw [w64 (n := (v6 + 64)) (by omega) (by omega)])) ?_
      refine ⟨⟨(r11, (v6 + 64)), by first | exact rfl | omega | (dsimp only; omega) | (simp only [List.length_append, List.length_cons, List.length_nil, List.length_set]; omega) | (simp; done) | (simp; omega)⟩, by first | exact rfl | omega | (dsimp only; omega) | (simp only [List.length_append, List.length_cons, List.length_nil, List.length_set]; omega) | (simp; done) | (simp; omega), Wk.mk' [(128, 384), (160, 160)] (by kernel_rfl) (by kernel_rfl) (by kernel_rfl)⟩
    · replace hb10 := of_decide_eq_false (hb10)
      refine X.exit ?_
      refine X.seq ?_
      refine X.rk ⟨[(4, rV 128), (7, rV 272)], [(128, some (.row 1 3 (Lv4.map dI) false true)), (272, some (.row 1 5 [] false true))], 304⟩ hτ hmix (by kernel_rfl) (by kernel_rfl) rfl ?_
      refine X.seq ?_
      refine X.seq ?_
      refine X.rk ⟨[(4, rV 128), (7, rV 272), (8, iV 0)], [(128, some (.row 1 3 (Lv4.map dI) false true)), (272, some (.row 1 5 [] false true))], 320⟩ hτ hmix (by kernel_rfl) (by kernel_rfl) rfl ?_
      refine X.block ?_
      -- 10: Lv7 : List Int, v8 : Int
      refine X.loop (σ := { g : (List Int) × Int // (fun (Lv7 : List Int) (v8 : Int) => 0 ≤ v8 ∧ v8 ≤ 8 ∧ Lv7.length = 4 * v8) g.1 g.2 }) (fun g => (fun (Lv7 : List Int) (v8 : Int) => ⟨[(4, rV 128), (7, rV 272), (8, iV v8)], [(128, some (.row 1 3 (Lv4.map dI) false true)), (272, some (.row 1 5 (Lv7.map dB) false true))], 320⟩) g.1.1 g.1.2) (fun g => (fun (Lv7 : List Int) (v8 : Int) => (8 - v8).toNat) g.1.1 g.1.2) ⟨([], 0), by first | exact rfl | omega | (dsimp only; omega) | (simp only [List.length_append, List.length_cons, List.length_nil, List.length_set]; omega) | (simp; done) | (simp; omega)⟩ (Wk.less (by kernel_rfl)) (fun g => ?_)
      obtain ⟨⟨Lv7, v8⟩, hg15⟩ := g
      have hg15 : 0 ≤ v8 ∧ v8 ≤ 8 ∧ Lv7.length = 4 * v8 := hg15
      obtain ⟨_, _, _⟩ := hg15
      refine X.seq ?_
      refine X.seq ?_
      refine X.rk ⟨[(4, rV 128), (7, rV 272), (8, iV v8), (29, bV (decide ((v8 : Int) < 8)))], [(128, some (.row 1 3 (Lv4.map dI) false true)), (272, some (.row 1 5 (Lv7.map dB) false true))], 352⟩ hτ hmix (by kernel_rfl) (by kernel_rfl) rfl ?_
      refine X.if_ (b := decide ((v8 : Int) < 8)) (by kernel_rfl) (fun hb16 => ?_) (fun hb16 => ?_)
      · replace hb16 := of_decide_eq_true (hb16)
        refine X.skip ?_
        refine X.seq ?_
        refine X.block ?_
        refine X.rs 3 hτ hmix (by kernel_rfl) ?_
        refine CH.idxR hτ (rows := (Lv4.map dI)) (n := v8) (b := 128) (by kernel_rfl) (by kernel_rfl) (by first | omega | (simp; done) | (simp; omega)) (by simp only [List.length_map, List.length_set]; first | omega | (simp; done) | (simp; omega)) (by kernel_rfl) ?_
        obtain ⟨x17, hx17⟩ : ∃ x, Lv4[Int.toNat v8]? = some x := ⟨_, List.getElem?_eq_getElem (by first | omega | (simp; done) | (simp; omega))⟩
        refine CH.row hτ (dI x17) (by kernel_rfl) (by kernel_rfl) (by rw [List.getElem?_map, hx17]; rfl) (by kernel_rfl) ?_
        refine CH.go 4 hτ (by kernel_rfl) ?_
        refine CH.idxR hτ (rows := (Lv4.map dI)) (n := v8) (b := 128) (by kernel_rfl) (by kernel_rfl) (by first | omega | (simp; done) | (simp; omega)) (by simp only [List.length_map, List.length_set]; first | omega | (simp; done) | (simp; omega)) (by kernel_rfl) ?_
        refine CH.row hτ (dI x17) (by kernel_rfl) (by kernel_rfl) (by rw [List.getElem?_map, hx17]; rfl) (by kernel_rfl) ?_
        refine CH.go 4 hτ (by kernel_rfl) ?_
        refine CH.idxR hτ (rows := (Lv4.map dI)) (n := v8) (b := 128) (by kernel_rfl) (by kernel_rfl) (by first | omega | (simp; done) | (simp; omega)) (by simp only [List.length_map, List.length_set]; first | omega | (simp; done) | (simp; omega)) (by kernel_rfl) ?_
        refine CH.row hτ (dI x17) (by kernel_rfl) (by kernel_rfl) (by rw [List.getElem?_map, hx17]; rfl) (by kernel_rfl) ?_
        refine CH.go 4 hτ (by kernel_rfl) ?_
        refine CH.idxR hτ (rows := (Lv4.map dI)) (n := v8) (b := 128) (by kernel_rfl) (by kernel_rfl) (by first | omega | (simp; done) | (simp; omega)) (by simp only [List.length_map, List.length_set]; first | omega | (simp; done) | (simp; omega)) (by kernel_rfl) ?_
        refine CH.row hτ (dI x17) (by kernel_rfl) (by kernel_rfl) (by rw [List.getElem?_map, hx17]; rfl) (by kernel_rfl) ?_
        refine CH.go 2 hτ (by kernel_rfl) ?_
        have el18 : (Lv7.map dB).length = Lv7.length := List.length_map ..
        have el19 : (([wr .u8 (x17 / 2 ^ min (Int.toNat 24) 64), wr .u8 (x17 / 2 ^ min (Int.toNat 16) 64), wr .u8 (x17 / 2 ^ min (Int.toNat 8) 64), wr .u8 (x17)] : List Int).map dB).length = ([wr .u8 (x17 / 2 ^ min (Int.toNat 24) 64), wr .u8 (x17 / 2 ^ min (Int.toNat 16) 64), wr .u8 (x17 / 2 ^ min (Int.toNat 8) 64), wr .u8 (x17)] : List Int).length := List.length_map ..
        have el20 : ([wr .u8 (x17 / 2 ^ min (Int.toNat 24) 64), wr .u8 (x17 / 2 ^ min (Int.toNat 16) 64), wr .u8 (x17 / 2 ^ min (Int.toNat 8) 64), wr .u8 (x17)] : List Int).length = 4 := rfl
        refine CH.app hτ (rows := (Lv7.map dB)) (rows2 := (([wr .u8 (x17 / 2 ^ min (Int.toNat 24) 64), wr .u8 (x17 / 2 ^ min (Int.toNat 16) 64), wr .u8 (x17 / 2 ^ min (Int.toNat 8) 64), wr .u8 (x17)] : List Int).map dB)) (sz := 1) (bys := 1) true (by kernel_rfl) (by kernel_rfl) (fun _ => flat_d dB (fun x => rfl)) (flat_ok (f := dB) (fun x => rfl)) (by simp only [List.length_map] <;> (first | done | omega | (simp; done) | (simp; omega))) (by kernel_rfl) ?_
        refine CH.go 1 hτ (by kernel_rfl) ?_
        refine CH.endk ⟨[(4, rV 128), (7, rV 752), (8, iV v8)], [(128, some (.row 1 3 (Lv4.map dI) false true)), (752, some (.row 1 5 ((Lv7.map dB) ++ (([wr .u8 (x17 / 2 ^ min (Int.toNat 24) 64), wr .u8 (x17 / 2 ^ min (Int.toNat 16) 64), wr .u8 (x17 / 2 ^ min (Int.toNat 8) 64), wr .u8 (x17)] : List Int).map dB)) false true))], 784⟩ (by kernel_rfl) (by kernel_rfl) (s2 := ⟨[(4, rV 128), (7, rV 752), (8, iV v8)], [(128, some (.row 1 3 (Lv4.map dI) false true)), (752, some (.row 1 5 ((Lv7 ++ ([wr .u8 (x17 / 2 ^ min (Int.toNat 24) 64), wr .u8 (x17 / 2 ^ min (Int.toNat 16) 64), wr .u8 (x17 / 2 ^ min (Int.toNat 8) 64), wr .u8 (x17)] : List Int)).map dB) false true))], 784⟩) (congrArg (fun z : List (List D) => (⟨[(4, rV 128), (7, rV 752), (8, iV v8)], [(128, some (.row 1 3 (Lv4.map dI) false true)), (752, some (.row 1 5 z false true))], 784⟩ : St)) (show (Lv7.map dB) ++ (([wr .u8 (x17 / 2 ^ min (Int.toNat 24) 64), wr .u8 (x17 / 2 ^ min (Int.toNat 16) 64), wr .u8 (x17 / 2 ^ min (Int.toNat 8) 64), wr .u8 (x17)] : List Int).map dB) = ((Lv7 ++ ([wr .u8 (x17 / 2 ^ min (Int.toNat 24) 64), wr .u8 (x17 / 2 ^ min (Int.toNat 16) 64), wr .u8 (x17 / 2 ^ min (Int.toNat 8) 64), wr .u8 (x17)] : List Int)).map dB) from List.map_append.symm)) ?_
        refine X.rk ⟨[(4, rV 128), (7, rV 752), (8, iV (wrap64 (v8 + 1)))], [(128, some (.row 1 3 (Lv4.map dI) false true)), (752, some (.row 1 5 ((Lv7 ++ ([wr .u8 (x17 / 2 ^ min (Int.toNat 24) 64), wr .u8 (x17 / 2 ^ min (Int.toNat 16) 64), wr .u8 (x17 / 2 ^ min (Int.toNat 8) 64), wr .u8 (x17)] : List Int)).map dB) false true))], 832⟩ hτ hmix (by kernel_rfl) (by kernel_rfl) (s2 := ⟨[(4, rV 128), (7, rV 752), (8, iV (v8 + 1))], [(128, some (.row 1 3 (Lv4.map dI) false true)), (752, some (.row 1 5 ((Lv7 ++ ([wr .u8 (x17 / 2 ^ min (Int.toNat 24) 64), wr .u8 (x17 / 2 ^ min (Int.toNat 16) 64), wr .u8 (x17 / 2 ^ min (Int.toNat 8) 64), wr .u8 (x17)] : List Int)).map dB) false true))], 832⟩) (congrArg (fun z : Int => (⟨[(4, rV 128), (7, rV 752), (8, iV z)], [(128, some (.row 1 3 (Lv4.map dI) false true)), (752, some (.row 1 5 ((Lv7 ++ ([wr .u8 (x17 / 2 ^ min (Int.toNat 24) 64), wr .u8 (x17 / 2 ^ min (Int.toNat 16) 64), wr .u8 (x17 / 2 ^ min (Int.toNat 8) 64), wr .u8 (x17)] : List Int)).map dB) false true))], 832⟩ : St)) (show wrap64 (v8 + 1) = (v8 + 1) by rw [w64 (n := (v8 + 1)) (by omega) (by omega)])) ?_
        refine ⟨⟨((Lv7 ++ ([wr .u8 (x17 / 2 ^ min (Int.toNat 24) 64), wr .u8 (x17 / 2 ^ min (Int.toNat 16) 64), wr .u8 (x17 / 2 ^ min (Int.toNat 8) 64), wr .u8 (x17)] : List Int)), (v8 + 1)), by first | exact rfl | omega | (dsimp only; omega) | (simp only [List.length_append, List.length_cons, List.length_nil, List.length_set]; omega) | (simp; done) | (simp; omega)⟩, by first | exact rfl | omega | (dsimp only; omega) | (simp only [List.length_append, List.length_cons, List.length_nil, List.length_set]; omega) | (simp; done) | (simp; omega), Wk.mk' [(128, 128), (272, 752)] (by kernel_rfl) (by kernel_rfl) (by kernel_rfl)⟩
      · replace hb16 := of_decide_eq_false (hb16)
        refine X.exit ?_
        refine X.seq ?_
        refine X.rs 1 hτ hmix (by kernel_rfl) ?_
        refine CH.b2s hτ (cc := .ref 272) (ns := Lv7) (el := 5) (by kernel_rfl) (by kernel_rfl) Try.underlying5 ?_
        refine CH.go 1 hτ (by kernel_rfl) ?_
        refine CH.endk ⟨[(2, .e (.c (.d (.v (.string (strOf Lv7))))))], [], 400⟩ (by kernel_rfl) (by kernel_rfl) rfl ?_
        refine X.ret ?_
        exact ⟨trivial, _, _, ⟨(strOf Lv7), by show (strOf _).size ≤ 2000000; rw [strOf_size]; omega, rfl, rfl⟩, .inl (Ret.mk' [] (by kernel_rfl) (by kernel_rfl) (by kernel_rfl))⟩
  obtain ⟨_, _, ⟨r0, q1, rfl, rfl⟩, hf⟩ := key
  exact ⟨r0, q1, hf⟩

theorem l_big (c : List Int) (hl : c.length ≤ 4611686018427387904) : ∃ r0 : Bool, (True) ∧ Fn Try.prog 10 [lV (c.map dB)] (lookH []) (bV r0) (lookH []) := by
  have key : ∃ x' h', ((fun x' h' => ∃ r0 : Bool, (True) ∧ x' = bV r0 ∧ h' = [])) x' h' ∧ Fn Try.prog 10 [lV (c.map dB)] (lookH []) x' (lookH h') := by
    refine Fn.bodyX (N := 6) hτ Try.func10 rfl rfl rfl rfl ?_
    refine X.seq ?_
    refine X.rk ⟨[(0, lV (c.map dB))], [], 80⟩ hτ hmix (by kernel_rfl) (by kernel_rfl) rfl ?_
    refine X.seq ?_
    have el1 : (c.map dB).length = c.length := List.length_map ..
    refine X.rk ⟨[(2, bV (decide ((((c.map dB).length : Int) : Int) > 1048576)))], [], 144⟩ hτ hmix (by kernel_rfl) (by kernel_rfl) rfl ?_
    refine X.ret ?_
    exact ⟨trivial, _, _, ⟨decide ((((c.map dB).length : Int) : Int) > 1048576), trivial, rfl, rfl⟩, .inl (Ret.mk' [] (by kernel_rfl) (by kernel_rfl) (by kernel_rfl))⟩
  obtain ⟨_, _, ⟨r0, q1, rfl, rfl⟩, hf⟩ := key
  exact ⟨r0, q1, hf⟩
end Go.Proofs.Ytnieghbgcjbnhaa.Av
