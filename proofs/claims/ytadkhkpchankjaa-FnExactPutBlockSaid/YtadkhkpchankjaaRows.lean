/-
  No cell of these rows narrows 'for every input' (looked for: loops, veiled, ifaces, maps, wideKeys, modest, calm, conditions, laid).
  DERIVED. THE GIVEN ROWS OF THIS SEAT. 12 by the template 'for every input the law returns true; each argument reads behind the call as it read before'; 0 by the template 'total and deterministic' (their statements: YtadkhkpchankjaaTotals.lean).
  GIVEN WITH THE SEED: the statements are not yours to turn. If you find one false, say at which input.
  Laid BY PROGRAM, IN A SANDBOX (cutbox-rows.mjs): the forced cells as the released guide's own fill.sh prints them over the translation bfd524564b07735f… (all of the seat's roots in one cut). By AI agents, Wed Nov 11 2026. No macro, syntax, notation, axiom, sorry.
-/
import Derived.Test.YtadkhkpchankjaaChecked
import GoSem.Claim
import GoSem.ClaimJoined
import GoSem.ClaimMapViews
import Derived.JoinedTies
import Derived.KernelRfl
namespace Go.Proofs.Ytadkhkpchankjaa
/- THE CELL 'sum', in the pinned program and in every row, IS THE sha256 OF THE DUMP (.gsa) THAT YtadkhkpchankjaaProg.lean LOADS. Nothing in Lean hashes anything: it is a label: what it is worth is what the hold of that sum in a sandbox is worth. -/
noncomputable def Try.pinned : Pinned := { name := "ytadkhkpchankjaa", sum := "bfd524564b07735f7c59a79ba83eee4ca1a219c6a987d0a67a2a3f6f255ebb29", checked := Try.checked }
namespace Rows
def none {H : Type} : Left H := { results := [], args := [] }

/-- 'laws.FnLeaders': WHATEVER THE INPUT: true; the input reads as it did. -/
def fnLeadersSpec : ChangeSpec := { name := "fnLeaders", fn := fun _ => fun
  | [d] => { results := [.lit (.bool true)], args := [d] }
  | _ => none }
def fnLeadersRow : OpenClaim := { program := "ytadkhkpchankjaa", sum := "bfd524564b07735f7c59a79ba83eee4ca1a219c6a987d0a67a2a3f6f255ebb29", func := "loop.example/g00194/laws.FnLeaders", spec := "fnLeaders", apart := false }
def FnLeadersSaid : Prop := fnLeadersRow.holds Try.pinned (OpenSpec.ofChange fnLeadersSpec)

/-- ITS FALSE NEIGHBOUR: 'it returns false'. Refute it at one input. -/
def fnLeadersWrong : ChangeSpec := { name := "fnLeaders", fn := fun _ => fun
  | [d] => { results := [.lit (.bool false)], args := [d] }
  | _ => none }
def FnLeadersWrongFalsely : Prop := fnLeadersRow.holds Try.pinned (OpenSpec.ofChange fnLeadersWrong)

/-- 'laws.FnQuorums': WHATEVER THE INPUT: true; the input reads as it did. -/
def fnQuorumsSpec : ChangeSpec := { name := "fnQuorums", fn := fun _ => fun
  | [d] => { results := [.lit (.bool true)], args := [d] }
  | _ => none }
def fnQuorumsRow : OpenClaim := { program := "ytadkhkpchankjaa", sum := "bfd524564b07735f7c59a79ba83eee4ca1a219c6a987d0a67a2a3f6f255ebb29", func := "loop.example/g00194/laws.FnQuorums", spec := "fnQuorums", apart := false }
def FnQuorumsSaid : Prop := fnQuorumsRow.holds Try.pinned (OpenSpec.ofChange fnQuorumsSpec)

/-- ITS FALSE NEIGHBOUR: 'it returns false'. Refute it at one input. -/
def fnQuorumsWrong : ChangeSpec := { name := "fnQuorums", fn := fun _ => fun
  | [d] => { results := [.lit (.bool false)], args := [d] }
  | _ => none }
def FnQuorumsWrongFalsely : Prop := fnQuorumsRow.holds Try.pinned (OpenSpec.ofChange fnQuorumsWrong)

/-- 'laws.FnSets': WHATEVER THE INPUT: true; the input reads as it did. -/
def fnSetsSpec : ChangeSpec := { name := "fnSets", fn := fun _ => fun
  | [d] => { results := [.lit (.bool true)], args := [d] }
  | _ => none }
def fnSetsRow : OpenClaim := { program := "ytadkhkpchankjaa", sum := "bfd524564b07735f7c59a79ba83eee4ca1a219c6a987d0a67a2a3f6f255ebb29", func := "loop.example/g00194/laws.FnSets", spec := "fnSets", apart := false }
def FnSetsSaid : Prop := fnSetsRow.holds Try.pinned (OpenSpec.ofChange fnSetsSpec)

/-- ITS FALSE NEIGHBOUR: 'it returns false'. Refute it at one input. -/
def fnSetsWrong : ChangeSpec := { name := "fnSets", fn := fun _ => fun
  | [d] => { results := [.lit (.bool false)], args := [d] }
  | _ => none }
def FnSetsWrongFalsely : Prop := fnSetsRow.holds Try.pinned (OpenSpec.ofChange fnSetsWrong)

/-- 'laws.FnGathered': WHATEVER THE INPUT: true; the input reads as it did. -/
def fnGatheredSpec : ChangeSpec := { name := "fnGathered", fn := fun _ => fun
  | [d] => { results := [.lit (.bool true)], args := [d] }
  | _ => none }
def fnGatheredRow : OpenClaim := { program := "ytadkhkpchankjaa", sum := "bfd524564b07735f7c59a79ba83eee4ca1a219c6a987d0a67a2a3f6f255ebb29", func := "loop.example/g00194/laws.FnGathered", spec := "fnGathered", unfollowed := true, recurses := true, apart := false }
def FnGatheredSaid : Prop := fnGatheredRow.holds Try.pinned (OpenSpec.ofChange fnGatheredSpec)

/-- ITS FALSE NEIGHBOUR: 'it returns false'. Refute it at one input. -/
def fnGatheredWrong : ChangeSpec := { name := "fnGathered", fn := fun _ => fun
  | [d] => { results := [.lit (.bool false)], args := [d] }
  | _ => none }
def FnGatheredWrongFalsely : Prop := fnGatheredRow.holds Try.pinned (OpenSpec.ofChange fnGatheredWrong)

/-- 'laws.FnGone': WHATEVER THE INPUT: true; the input reads as it did. -/
def fnGoneSpec : ChangeSpec := { name := "fnGone", fn := fun _ => fun
  | [d] => { results := [.lit (.bool true)], args := [d] }
  | _ => none }
def fnGoneRow : OpenClaim := { program := "ytadkhkpchankjaa", sum := "bfd524564b07735f7c59a79ba83eee4ca1a219c6a987d0a67a2a3f6f255ebb29", func := "loop.example/g00194/laws.FnGone", spec := "fnGone", unfollowed := true, recurses := true, apart := false }
def FnGoneSaid : Prop := fnGoneRow.holds Try.pinned (OpenSpec.ofChange fnGoneSpec)

/-- ITS FALSE NEIGHBOUR: 'it returns false'. Refute it at one input. -/
def fnGoneWrong : ChangeSpec := { name := "fnGone", fn := fun _ => fun
  | [d] => { results := [.lit (.bool false)], args := [d] }
  | _ => none }
def FnGoneWrongFalsely : Prop := fnGoneRow.holds Try.pinned (OpenSpec.ofChange fnGoneWrong)

/-- 'laws.FnExactSetOf': WHATEVER THE INPUT: true; the input reads as it did. -/
def fnExactSetOfSpec : ChangeSpec := { name := "fnExactSetOf", fn := fun _ => fun
  | [d] => { results := [.lit (.bool true)], args := [d] }
  | _ => none }
def fnExactSetOfRow : OpenClaim := { program := "ytadkhkpchankjaa", sum := "bfd524564b07735f7c59a79ba83eee4ca1a219c6a987d0a67a2a3f6f255ebb29", func := "loop.example/g00194/laws.FnExactSetOf", spec := "fnExactSetOf", apart := false }
def FnExactSetOfSaid : Prop := fnExactSetOfRow.holds Try.pinned (OpenSpec.ofChange fnExactSetOfSpec)

/-- ITS FALSE NEIGHBOUR: 'it returns false'. Refute it at one input. -/
def fnExactSetOfWrong : ChangeSpec := { name := "fnExactSetOf", fn := fun _ => fun
  | [d] => { results := [.lit (.bool false)], args := [d] }
  | _ => none }
def FnExactSetOfWrongFalsely : Prop := fnExactSetOfRow.holds Try.pinned (OpenSpec.ofChange fnExactSetOfWrong)

/-- 'laws.FnExactGatherQc': WHATEVER THE INPUT: true; the input reads as it did. -/
def fnExactGatherQcSpec : ChangeSpec := { name := "fnExactGatherQc", fn := fun _ => fun
  | [d1, d2, d3, d4] => { results := [.lit (.bool true)], args := [d1, d2, d3, d4] }
  | _ => none }
def fnExactGatherQcRow : OpenClaim := { program := "ytadkhkpchankjaa", sum := "bfd524564b07735f7c59a79ba83eee4ca1a219c6a987d0a67a2a3f6f255ebb29", func := "loop.example/g00194/laws.FnExactGatherQc", spec := "fnExactGatherQc", unfollowed := true, recurses := true, apart := false }
def FnExactGatherQcSaid : Prop := fnExactGatherQcRow.holds Try.pinned (OpenSpec.ofChange fnExactGatherQcSpec)

/-- ITS FALSE NEIGHBOUR: 'it returns false'. Refute it at one input. -/
def fnExactGatherQcWrong : ChangeSpec := { name := "fnExactGatherQc", fn := fun _ => fun
  | [d1, d2, d3, d4] => { results := [.lit (.bool false)], args := [d1, d2, d3, d4] }
  | _ => none }
def FnExactGatherQcWrongFalsely : Prop := fnExactGatherQcRow.holds Try.pinned (OpenSpec.ofChange fnExactGatherQcWrong)

/-- 'laws.FnExactGatherTc': WHATEVER THE INPUT: true; the input reads as it did. -/
def fnExactGatherTcSpec : ChangeSpec := { name := "fnExactGatherTc", fn := fun _ => fun
  | [d1, d2, d3] => { results := [.lit (.bool true)], args := [d1, d2, d3] }
  | _ => none }
def fnExactGatherTcRow : OpenClaim := { program := "ytadkhkpchankjaa", sum := "bfd524564b07735f7c59a79ba83eee4ca1a219c6a987d0a67a2a3f6f255ebb29", func := "loop.example/g00194/laws.FnExactGatherTc", spec := "fnExactGatherTc", unfollowed := true, recurses := true, apart := false }
def FnExactGatherTcSaid : Prop := fnExactGatherTcRow.holds Try.pinned (OpenSpec.ofChange fnExactGatherTcSpec)

/-- ITS FALSE NEIGHBOUR: 'it returns false'. Refute it at one input. -/
def fnExactGatherTcWrong : ChangeSpec := { name := "fnExactGatherTc", fn := fun _ => fun
  | [d1, d2, d3] => { results := [.lit (.bool false)], args := [d1, d2, d3] }
  | _ => none }
def FnExactGatherTcWrongFalsely : Prop := fnExactGatherTcRow.holds Try.pinned (OpenSpec.ofChange fnExactGatherTcWrong)

/-- 'laws.FnExactNodeNew': WHATEVER THE INPUT: true; the input reads as it did. -/
def fnExactNodeNewSpec : ChangeSpec := { name := "fnExactNodeNew", fn := fun _ => fun
  | [d1, d2] => { results := [.lit (.bool true)], args := [d1, d2] }
  | _ => none }
def fnExactNodeNewRow : OpenClaim := { program := "ytadkhkpchankjaa", sum := "bfd524564b07735f7c59a79ba83eee4ca1a219c6a987d0a67a2a3f6f255ebb29", func := "loop.example/g00194/laws.FnExactNodeNew", spec := "fnExactNodeNew", apart := false }
def FnExactNodeNewSaid : Prop := fnExactNodeNewRow.holds Try.pinned (OpenSpec.ofChange fnExactNodeNewSpec)

/-- ITS FALSE NEIGHBOUR: 'it returns false'. Refute it at one input. -/
def fnExactNodeNewWrong : ChangeSpec := { name := "fnExactNodeNew", fn := fun _ => fun
  | [d1, d2] => { results := [.lit (.bool false)], args := [d1, d2] }
  | _ => none }
def FnExactNodeNewWrongFalsely : Prop := fnExactNodeNewRow.holds Try.pinned (OpenSpec.ofChange fnExactNodeNewWrong)

/-- 'laws.FnExactPutBlock': WHATEVER THE INPUT: true; the input reads as it did. -/
def fnExactPutBlockSpec : ChangeSpec := { name := "fnExactPutBlock", fn := fun _ => fun
  | [d] => { results := [.lit (.bool true)], args := [d] }
  | _ => none }
def fnExactPutBlockRow : OpenClaim := { program := "ytadkhkpchankjaa", sum := "bfd524564b07735f7c59a79ba83eee4ca1a219c6a987d0a67a2a3f6f255ebb29", func := "loop.example/g00194/laws.FnExactPutBlock", spec := "fnExactPutBlock", apart := false }
def FnExactPutBlockSaid : Prop := fnExactPutBlockRow.holds Try.pinned (OpenSpec.ofChange fnExactPutBlockSpec)

/-- ITS FALSE NEIGHBOUR: 'it returns false'. Refute it at one input. -/
def fnExactPutBlockWrong : ChangeSpec := { name := "fnExactPutBlock", fn := fun _ => fun
  | [d] => { results := [.lit (.bool false)], args := [d] }
  | _ => none }
def FnExactPutBlockWrongFalsely : Prop := fnExactPutBlockRow.holds Try.pinned (OpenSpec.ofChange fnExactPutBlockWrong)

/-- 'laws.FnExactBlockAt': WHATEVER THE INPUT: true; the input reads as it did. -/
def fnExactBlockAtSpec : ChangeSpec := { name := "fnExactBlockAt", fn := fun _ => fun
  | [d1, d2] => { results := [.lit (.bool true)], args := [d1, d2] }
  | _ => none }
def fnExactBlockAtRow : OpenClaim := { program := "ytadkhkpchankjaa", sum := "bfd524564b07735f7c59a79ba83eee4ca1a219c6a987d0a67a2a3f6f255ebb29", func := "loop.example/g00194/laws.FnExactBlockAt", spec := "fnExactBlockAt", unfollowed := true, recurses := true, apart := false }
def FnExactBlockAtSaid : Prop := fnExactBlockAtRow.holds Try.pinned (OpenSpec.ofChange fnExactBlockAtSpec)

/-- ITS FALSE NEIGHBOUR: 'it returns false'. Refute it at one input. -/
def fnExactBlockAtWrong : ChangeSpec := { name := "fnExactBlockAt", fn := fun _ => fun
  | [d1, d2] => { results := [.lit (.bool false)], args := [d1, d2] }
  | _ => none }
def FnExactBlockAtWrongFalsely : Prop := fnExactBlockAtRow.holds Try.pinned (OpenSpec.ofChange fnExactBlockAtWrong)

/-- 'laws.FnExactPoolDrop': WHATEVER THE INPUT: true; the input reads as it did. -/
def fnExactPoolDropSpec : ChangeSpec := { name := "fnExactPoolDrop", fn := fun _ => fun
  | [d1, d2] => { results := [.lit (.bool true)], args := [d1, d2] }
  | _ => none }
def fnExactPoolDropRow : OpenClaim := { program := "ytadkhkpchankjaa", sum := "bfd524564b07735f7c59a79ba83eee4ca1a219c6a987d0a67a2a3f6f255ebb29", func := "loop.example/g00194/laws.FnExactPoolDrop", spec := "fnExactPoolDrop", unfollowed := true, recurses := true, apart := false }
def FnExactPoolDropSaid : Prop := fnExactPoolDropRow.holds Try.pinned (OpenSpec.ofChange fnExactPoolDropSpec)

/-- ITS FALSE NEIGHBOUR: 'it returns false'. Refute it at one input. -/
def fnExactPoolDropWrong : ChangeSpec := { name := "fnExactPoolDrop", fn := fun _ => fun
  | [d1, d2] => { results := [.lit (.bool false)], args := [d1, d2] }
  | _ => none }
def FnExactPoolDropWrongFalsely : Prop := fnExactPoolDropRow.holds Try.pinned (OpenSpec.ofChange fnExactPoolDropWrong)

/- THE SECOND FORM. 'bulk': how many values and letters a reading holds, each counted each time it is reached (what is shared counts as often as it is met; a slice's spare places count too). A statement '..UptoSaid' is the law's where the arguments, and the package variables that the reading takes, are together of bulk at most 1048576: NARROWER than '..Said'. Prove '..Said' where nothing that the law and all that it calls make is longer than what came in: it says more and counts as full. Else prove '..UptoSaid'. A law counts once. -/
mutual
def uptoBulk {H : Type} : DataW H → Nat
  | .lit (.string bytes) => bytes.length + 1
  | .lit _ => 1
  | .nil => 1
  | .ptr d => uptoBulk d + 1
  | .slice elems spare => uptoBulkAll elems + uptoBulkAll spare + 1
  | .agg parts => uptoBulkAll parts + 1
  | .iface _ d => uptoBulk d + 1
  | .map entries => uptoBulkEntries entries + 1
  | .held _ => 1
def uptoBulkAll {H : Type} : List (DataW H) → Nat
  | [] => 0
  | d :: r => uptoBulk d + uptoBulkAll r
def uptoBulkEntries {H : Type} : List (Lit × DataW H) → Nat
  | [] => 0
  | x :: r => uptoBulkEntry x + uptoBulkEntries r
def uptoBulkEntry {H : Type} : Lit × DataW H → Nat
  | (.string bytes, d) => bytes.length + uptoBulk d + 1
  | (_, d) => uptoBulk d + 1
 end
def uptoSmall : (H : Type) → List (DataW H) → Bool := fun _ ds => decide (uptoBulkAll ds ≤ 1048576)
def OpenSpec.upto (s : _root_.Go.ChangeSpec) : _root_.Go.OpenSpec := { _root_.Go.OpenSpec.ofChange s with cond := some uptoSmall }

/-- 'laws.FnLeaders', WHERE WHAT IT READS IS OF BULK AT MOST 1048576: true; the input reads as it did. -/
def fnLeadersUptoRow : OpenClaim := { program := "ytadkhkpchankjaa", sum := "bfd524564b07735f7c59a79ba83eee4ca1a219c6a987d0a67a2a3f6f255ebb29", func := "loop.example/g00194/laws.FnLeaders", spec := "fnLeaders", apart := false, narrowed := true }
def FnLeadersUptoSaid : Prop := fnLeadersUptoRow.holds Try.pinned (OpenSpec.upto fnLeadersSpec)

/-- 'laws.FnQuorums', WHERE WHAT IT READS IS OF BULK AT MOST 1048576: true; the input reads as it did. -/
def fnQuorumsUptoRow : OpenClaim := { program := "ytadkhkpchankjaa", sum := "bfd524564b07735f7c59a79ba83eee4ca1a219c6a987d0a67a2a3f6f255ebb29", func := "loop.example/g00194/laws.FnQuorums", spec := "fnQuorums", apart := false, narrowed := true }
def FnQuorumsUptoSaid : Prop := fnQuorumsUptoRow.holds Try.pinned (OpenSpec.upto fnQuorumsSpec)

/-- 'laws.FnSets', WHERE WHAT IT READS IS OF BULK AT MOST 1048576: true; the input reads as it did. -/
def fnSetsUptoRow : OpenClaim := { program := "ytadkhkpchankjaa", sum := "bfd524564b07735f7c59a79ba83eee4ca1a219c6a987d0a67a2a3f6f255ebb29", func := "loop.example/g00194/laws.FnSets", spec := "fnSets", apart := false, narrowed := true }
def FnSetsUptoSaid : Prop := fnSetsUptoRow.holds Try.pinned (OpenSpec.upto fnSetsSpec)

/-- 'laws.FnGathered', WHERE WHAT IT READS IS OF BULK AT MOST 1048576: true; the input reads as it did. -/
def fnGatheredUptoRow : OpenClaim := { program := "ytadkhkpchankjaa", sum := "bfd524564b07735f7c59a79ba83eee4ca1a219c6a987d0a67a2a3f6f255ebb29", func := "loop.example/g00194/laws.FnGathered", spec := "fnGathered", unfollowed := true, recurses := true, apart := false, narrowed := true }
def FnGatheredUptoSaid : Prop := fnGatheredUptoRow.holds Try.pinned (OpenSpec.upto fnGatheredSpec)

/-- 'laws.FnGone', WHERE WHAT IT READS IS OF BULK AT MOST 1048576: true; the input reads as it did. -/
def fnGoneUptoRow : OpenClaim := { program := "ytadkhkpchankjaa", sum := "bfd524564b07735f7c59a79ba83eee4ca1a219c6a987d0a67a2a3f6f255ebb29", func := "loop.example/g00194/laws.FnGone", spec := "fnGone", unfollowed := true, recurses := true, apart := false, narrowed := true }
def FnGoneUptoSaid : Prop := fnGoneUptoRow.holds Try.pinned (OpenSpec.upto fnGoneSpec)

/-- 'laws.FnExactSetOf', WHERE WHAT IT READS IS OF BULK AT MOST 1048576: true; the input reads as it did. -/
def fnExactSetOfUptoRow : OpenClaim := { program := "ytadkhkpchankjaa", sum := "bfd524564b07735f7c59a79ba83eee4ca1a219c6a987d0a67a2a3f6f255ebb29", func := "loop.example/g00194/laws.FnExactSetOf", spec := "fnExactSetOf", apart := false, narrowed := true }
def FnExactSetOfUptoSaid : Prop := fnExactSetOfUptoRow.holds Try.pinned (OpenSpec.upto fnExactSetOfSpec)

/-- 'laws.FnExactGatherQc', WHERE WHAT IT READS IS OF BULK AT MOST 1048576: true; the input reads as it did. -/
def fnExactGatherQcUptoRow : OpenClaim := { program := "ytadkhkpchankjaa", sum := "bfd524564b07735f7c59a79ba83eee4ca1a219c6a987d0a67a2a3f6f255ebb29", func := "loop.example/g00194/laws.FnExactGatherQc", spec := "fnExactGatherQc", unfollowed := true, recurses := true, apart := false, narrowed := true }
def FnExactGatherQcUptoSaid : Prop := fnExactGatherQcUptoRow.holds Try.pinned (OpenSpec.upto fnExactGatherQcSpec)

/-- 'laws.FnExactGatherTc', WHERE WHAT IT READS IS OF BULK AT MOST 1048576: true; the input reads as it did. -/
def fnExactGatherTcUptoRow : OpenClaim := { program := "ytadkhkpchankjaa", sum := "bfd524564b07735f7c59a79ba83eee4ca1a219c6a987d0a67a2a3f6f255ebb29", func := "loop.example/g00194/laws.FnExactGatherTc", spec := "fnExactGatherTc", unfollowed := true, recurses := true, apart := false, narrowed := true }
def FnExactGatherTcUptoSaid : Prop := fnExactGatherTcUptoRow.holds Try.pinned (OpenSpec.upto fnExactGatherTcSpec)

/-- 'laws.FnExactNodeNew', WHERE WHAT IT READS IS OF BULK AT MOST 1048576: true; the input reads as it did. -/
def fnExactNodeNewUptoRow : OpenClaim := { program := "ytadkhkpchankjaa", sum := "bfd524564b07735f7c59a79ba83eee4ca1a219c6a987d0a67a2a3f6f255ebb29", func := "loop.example/g00194/laws.FnExactNodeNew", spec := "fnExactNodeNew", apart := false, narrowed := true }
def FnExactNodeNewUptoSaid : Prop := fnExactNodeNewUptoRow.holds Try.pinned (OpenSpec.upto fnExactNodeNewSpec)

/-- 'laws.FnExactPutBlock', WHERE WHAT IT READS IS OF BULK AT MOST 1048576: true; the input reads as it did. -/
def fnExactPutBlockUptoRow : OpenClaim := { program := "ytadkhkpchankjaa", sum := "bfd524564b07735f7c59a79ba83eee4ca1a219c6a987d0a67a2a3f6f255ebb29", func := "loop.example/g00194/laws.FnExactPutBlock", spec := "fnExactPutBlock", apart := false, narrowed := true }
def FnExactPutBlockUptoSaid : Prop := fnExactPutBlockUptoRow.holds Try.pinned (OpenSpec.upto fnExactPutBlockSpec)

/-- 'laws.FnExactBlockAt', WHERE WHAT IT READS IS OF BULK AT MOST 1048576: true; the input reads as it did. -/
def fnExactBlockAtUptoRow : OpenClaim := { program := "ytadkhkpchankjaa", sum := "bfd524564b07735f7c59a79ba83eee4ca1a219c6a987d0a67a2a3f6f255ebb29", func := "loop.example/g00194/laws.FnExactBlockAt", spec := "fnExactBlockAt", unfollowed := true, recurses := true, apart := false, narrowed := true }
def FnExactBlockAtUptoSaid : Prop := fnExactBlockAtUptoRow.holds Try.pinned (OpenSpec.upto fnExactBlockAtSpec)

/-- 'laws.FnExactPoolDrop', WHERE WHAT IT READS IS OF BULK AT MOST 1048576: true; the input reads as it did. -/
def fnExactPoolDropUptoRow : OpenClaim := { program := "ytadkhkpchankjaa", sum := "bfd524564b07735f7c59a79ba83eee4ca1a219c6a987d0a67a2a3f6f255ebb29", func := "loop.example/g00194/laws.FnExactPoolDrop", spec := "fnExactPoolDrop", unfollowed := true, recurses := true, apart := false, narrowed := true }
def FnExactPoolDropUptoSaid : Prop := fnExactPoolDropUptoRow.holds Try.pinned (OpenSpec.upto fnExactPoolDropSpec)

end Rows
end Go.Proofs.Ytadkhkpchankjaa
