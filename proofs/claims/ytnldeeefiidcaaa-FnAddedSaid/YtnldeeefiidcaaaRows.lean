/-
  No cell of these rows narrows 'for every input' (looked for: loops, veiled, ifaces, maps, wideKeys, modest, calm, conditions, laid).
  DERIVED. THE GIVEN ROWS OF THIS SEAT. 10 by the template 'for every input the law returns true; each argument reads behind the call as it read before'; 0 by the template 'total and deterministic' (their statements: YtnldeeefiidcaaaTotals.lean).
  GIVEN WITH THE SEED: the statements are not yours to turn. If you find one false, say at which input.
  Laid BY PROGRAM, IN A SANDBOX (cutbox-rows.mjs): the forced cells as the released guide's own fill.sh prints them over the translation 98f351ee6298e0c6… (all of the seat's roots in one cut). By AI agents, Wed Nov 11 2026. No macro, syntax, notation, axiom, sorry.
-/
import Derived.Test.YtnldeeefiidcaaaChecked
import GoSem.Claim
import GoSem.ClaimJoined
import GoSem.ClaimMapViews
import Derived.JoinedTies
import Derived.KernelRfl
namespace Go.Proofs.Ytnldeeefiidcaaa
/- THE CELL 'sum', in the pinned program and in every row, IS THE sha256 OF THE DUMP (.gsa) THAT YtnldeeefiidcaaaProg.lean LOADS. Nothing in Lean hashes anything: it is a label: what it is worth is what the hold of that sum in a sandbox is worth. -/
noncomputable def Try.pinned : Pinned := { name := "ytnldeeefiidcaaa", sum := "98f351ee6298e0c649ac123be0f05a27deeaa0be20c01d4b89f19b6826f3ce37", checked := Try.checked }
namespace Rows
def none {H : Type} : Left H := { results := [], args := [] }

/-- 'laws.FnExactCommitOf': WHATEVER THE INPUT: true; the input reads as it did. -/
def fnExactCommitOfSpec : ChangeSpec := { name := "fnExactCommitOf", fn := fun _ => fun
  | [d1, d2] => { results := [.lit (.bool true)], args := [d1, d2] }
  | _ => none }
def fnExactCommitOfRow : OpenClaim := { program := "ytnldeeefiidcaaa", sum := "98f351ee6298e0c649ac123be0f05a27deeaa0be20c01d4b89f19b6826f3ce37", func := "loop.example/g00194/laws.FnExactCommitOf", spec := "fnExactCommitOf", unfollowed := true, recurses := true, apart := false }
def FnExactCommitOfSaid : Prop := fnExactCommitOfRow.holds Try.pinned (OpenSpec.ofChange fnExactCommitOfSpec)

/-- ITS FALSE NEIGHBOUR: 'it returns false'. Refute it at one input. -/
def fnExactCommitOfWrong : ChangeSpec := { name := "fnExactCommitOf", fn := fun _ => fun
  | [d1, d2] => { results := [.lit (.bool false)], args := [d1, d2] }
  | _ => none }
def FnExactCommitOfWrongFalsely : Prop := fnExactCommitOfRow.holds Try.pinned (OpenSpec.ofChange fnExactCommitOfWrong)

/-- 'laws.FnExactTreeOk': WHATEVER THE INPUT: true; the input reads as it did. -/
def fnExactTreeOkSpec : ChangeSpec := { name := "fnExactTreeOk", fn := fun _ => fun
  | [d] => { results := [.lit (.bool true)], args := [d] }
  | _ => none }
def fnExactTreeOkRow : OpenClaim := { program := "ytnldeeefiidcaaa", sum := "98f351ee6298e0c649ac123be0f05a27deeaa0be20c01d4b89f19b6826f3ce37", func := "loop.example/g00194/laws.FnExactTreeOk", spec := "fnExactTreeOk", unfollowed := true, recurses := true, apart := false }
def FnExactTreeOkSaid : Prop := fnExactTreeOkRow.holds Try.pinned (OpenSpec.ofChange fnExactTreeOkSpec)

/-- ITS FALSE NEIGHBOUR: 'it returns false'. Refute it at one input. -/
def fnExactTreeOkWrong : ChangeSpec := { name := "fnExactTreeOk", fn := fun _ => fun
  | [d] => { results := [.lit (.bool false)], args := [d] }
  | _ => none }
def FnExactTreeOkWrongFalsely : Prop := fnExactTreeOkRow.holds Try.pinned (OpenSpec.ofChange fnExactTreeOkWrong)

/-- 'laws.FnExactExtends': WHATEVER THE INPUT: true; the input reads as it did. -/
def fnExactExtendsSpec : ChangeSpec := { name := "fnExactExtends", fn := fun _ => fun
  | [d1, d2, d3] => { results := [.lit (.bool true)], args := [d1, d2, d3] }
  | _ => none }
def fnExactExtendsRow : OpenClaim := { program := "ytnldeeefiidcaaa", sum := "98f351ee6298e0c649ac123be0f05a27deeaa0be20c01d4b89f19b6826f3ce37", func := "loop.example/g00194/laws.FnExactExtends", spec := "fnExactExtends", unfollowed := true, recurses := true, apart := false }
def FnExactExtendsSaid : Prop := fnExactExtendsRow.holds Try.pinned (OpenSpec.ofChange fnExactExtendsSpec)

/-- ITS FALSE NEIGHBOUR: 'it returns false'. Refute it at one input. -/
def fnExactExtendsWrong : ChangeSpec := { name := "fnExactExtends", fn := fun _ => fun
  | [d1, d2, d3] => { results := [.lit (.bool false)], args := [d1, d2, d3] }
  | _ => none }
def FnExactExtendsWrongFalsely : Prop := fnExactExtendsRow.holds Try.pinned (OpenSpec.ofChange fnExactExtendsWrong)

/-- 'laws.FnExactChainOf': WHATEVER THE INPUT: true; the input reads as it did. -/
def fnExactChainOfSpec : ChangeSpec := { name := "fnExactChainOf", fn := fun _ => fun
  | [d1, d2] => { results := [.lit (.bool true)], args := [d1, d2] }
  | _ => none }
def fnExactChainOfRow : OpenClaim := { program := "ytnldeeefiidcaaa", sum := "98f351ee6298e0c649ac123be0f05a27deeaa0be20c01d4b89f19b6826f3ce37", func := "loop.example/g00194/laws.FnExactChainOf", spec := "fnExactChainOf", unfollowed := true, recurses := true, apart := false }
def FnExactChainOfSaid : Prop := fnExactChainOfRow.holds Try.pinned (OpenSpec.ofChange fnExactChainOfSpec)

/-- ITS FALSE NEIGHBOUR: 'it returns false'. Refute it at one input. -/
def fnExactChainOfWrong : ChangeSpec := { name := "fnExactChainOf", fn := fun _ => fun
  | [d1, d2] => { results := [.lit (.bool false)], args := [d1, d2] }
  | _ => none }
def FnExactChainOfWrongFalsely : Prop := fnExactChainOfRow.holds Try.pinned (OpenSpec.ofChange fnExactChainOfWrong)

/-- 'laws.FnExactAddTo': WHATEVER THE INPUT: true; the input reads as it did. -/
def fnExactAddToSpec : ChangeSpec := { name := "fnExactAddTo", fn := fun _ => fun
  | [d1, d2] => { results := [.lit (.bool true)], args := [d1, d2] }
  | _ => none }
def fnExactAddToRow : OpenClaim := { program := "ytnldeeefiidcaaa", sum := "98f351ee6298e0c649ac123be0f05a27deeaa0be20c01d4b89f19b6826f3ce37", func := "loop.example/g00194/laws.FnExactAddTo", spec := "fnExactAddTo", inPlace := ["slices.overlaps[loop.example/g00194/impl.Block]"], unfollowed := true, recurses := true, apart := false }
def FnExactAddToSaid : Prop := fnExactAddToRow.holds Try.pinned (OpenSpec.ofChange fnExactAddToSpec)

/-- ITS FALSE NEIGHBOUR: 'it returns false'. Refute it at one input. -/
def fnExactAddToWrong : ChangeSpec := { name := "fnExactAddTo", fn := fun _ => fun
  | [d1, d2] => { results := [.lit (.bool false)], args := [d1, d2] }
  | _ => none }
def FnExactAddToWrongFalsely : Prop := fnExactAddToRow.holds Try.pinned (OpenSpec.ofChange fnExactAddToWrong)

/-- 'laws.FnExactEnded': WHATEVER THE INPUT: true; the input reads as it did. -/
def fnExactEndedSpec : ChangeSpec := { name := "fnExactEnded", fn := fun _ => fun
  | [d1, d2] => { results := [.lit (.bool true)], args := [d1, d2] }
  | _ => none }
def fnExactEndedRow : OpenClaim := { program := "ytnldeeefiidcaaa", sum := "98f351ee6298e0c649ac123be0f05a27deeaa0be20c01d4b89f19b6826f3ce37", func := "loop.example/g00194/laws.FnExactEnded", spec := "fnExactEnded", unfollowed := true, recurses := true, apart := false }
def FnExactEndedSaid : Prop := fnExactEndedRow.holds Try.pinned (OpenSpec.ofChange fnExactEndedSpec)

/-- ITS FALSE NEIGHBOUR: 'it returns false'. Refute it at one input. -/
def fnExactEndedWrong : ChangeSpec := { name := "fnExactEnded", fn := fun _ => fun
  | [d1, d2] => { results := [.lit (.bool false)], args := [d1, d2] }
  | _ => none }
def FnExactEndedWrongFalsely : Prop := fnExactEndedRow.holds Try.pinned (OpenSpec.ofChange fnExactEndedWrong)

/-- 'laws.FnChains': WHATEVER THE INPUT: true; the input reads as it did. -/
def fnChainsSpec : ChangeSpec := { name := "fnChains", fn := fun _ => fun
  | [d] => { results := [.lit (.bool true)], args := [d] }
  | _ => none }
def fnChainsRow : OpenClaim := { program := "ytnldeeefiidcaaa", sum := "98f351ee6298e0c649ac123be0f05a27deeaa0be20c01d4b89f19b6826f3ce37", func := "loop.example/g00194/laws.FnChains", spec := "fnChains", unfollowed := true, recurses := true, apart := false }
def FnChainsSaid : Prop := fnChainsRow.holds Try.pinned (OpenSpec.ofChange fnChainsSpec)

/-- ITS FALSE NEIGHBOUR: 'it returns false'. Refute it at one input. -/
def fnChainsWrong : ChangeSpec := { name := "fnChains", fn := fun _ => fun
  | [d] => { results := [.lit (.bool false)], args := [d] }
  | _ => none }
def FnChainsWrongFalsely : Prop := fnChainsRow.holds Try.pinned (OpenSpec.ofChange fnChainsWrong)

/-- 'laws.FnAdded': WHATEVER THE INPUT: true; the input reads as it did. -/
def fnAddedSpec : ChangeSpec := { name := "fnAdded", fn := fun _ => fun
  | [d] => { results := [.lit (.bool true)], args := [d] }
  | _ => none }
def fnAddedRow : OpenClaim := { program := "ytnldeeefiidcaaa", sum := "98f351ee6298e0c649ac123be0f05a27deeaa0be20c01d4b89f19b6826f3ce37", func := "loop.example/g00194/laws.FnAdded", spec := "fnAdded", inPlace := ["slices.overlaps[loop.example/g00194/impl.Block]"], unfollowed := true, recurses := true, apart := false }
def FnAddedSaid : Prop := fnAddedRow.holds Try.pinned (OpenSpec.ofChange fnAddedSpec)

/-- ITS FALSE NEIGHBOUR: 'it returns false'. Refute it at one input. -/
def fnAddedWrong : ChangeSpec := { name := "fnAdded", fn := fun _ => fun
  | [d] => { results := [.lit (.bool false)], args := [d] }
  | _ => none }
def FnAddedWrongFalsely : Prop := fnAddedRow.holds Try.pinned (OpenSpec.ofChange fnAddedWrong)

/-- 'laws.FnCertain': WHATEVER THE INPUT: true; the input reads as it did. -/
def fnCertainSpec : ChangeSpec := { name := "fnCertain", fn := fun _ => fun
  | [d] => { results := [.lit (.bool true)], args := [d] }
  | _ => none }
def fnCertainRow : OpenClaim := { program := "ytnldeeefiidcaaa", sum := "98f351ee6298e0c649ac123be0f05a27deeaa0be20c01d4b89f19b6826f3ce37", func := "loop.example/g00194/laws.FnCertain", spec := "fnCertain", unfollowed := true, recurses := true, apart := false }
def FnCertainSaid : Prop := fnCertainRow.holds Try.pinned (OpenSpec.ofChange fnCertainSpec)

/-- ITS FALSE NEIGHBOUR: 'it returns false'. Refute it at one input. -/
def fnCertainWrong : ChangeSpec := { name := "fnCertain", fn := fun _ => fun
  | [d] => { results := [.lit (.bool false)], args := [d] }
  | _ => none }
def FnCertainWrongFalsely : Prop := fnCertainRow.holds Try.pinned (OpenSpec.ofChange fnCertainWrong)

/-- 'laws.FnSigned': WHATEVER THE INPUT: true; the input reads as it did. -/
def fnSignedSpec : ChangeSpec := { name := "fnSigned", fn := fun _ => fun
  | [d] => { results := [.lit (.bool true)], args := [d] }
  | _ => none }
def fnSignedRow : OpenClaim := { program := "ytnldeeefiidcaaa", sum := "98f351ee6298e0c649ac123be0f05a27deeaa0be20c01d4b89f19b6826f3ce37", func := "loop.example/g00194/laws.FnSigned", spec := "fnSigned", apart := false }
def FnSignedSaid : Prop := fnSignedRow.holds Try.pinned (OpenSpec.ofChange fnSignedSpec)

/-- ITS FALSE NEIGHBOUR: 'it returns false'. Refute it at one input. -/
def fnSignedWrong : ChangeSpec := { name := "fnSigned", fn := fun _ => fun
  | [d] => { results := [.lit (.bool false)], args := [d] }
  | _ => none }
def FnSignedWrongFalsely : Prop := fnSignedRow.holds Try.pinned (OpenSpec.ofChange fnSignedWrong)

/- THE SECOND FORM. 'bulk': how many values and letters a reading holds, each counted each time it is reached (what is shared counts as often as it is met; a slice's spare places count too). A statement '..UptoSaid' is the law's where the arguments, and the package variables that the reading takes, are together of bulk at most 1048576: NARROWER than '..Said'. Prove '..Said' where nothing that the law and all that it calls make is longer than what came in: it says more and counts as full. Else prove '..UptoSaid'. A law counts once. -/
mutual
def uptoBulk {H : Type} : DataW H → Nat
  | .lit (.string bytes) => bytes.length + 1
  | .lit _ => 1
  | .nil => 1
  | .ptr d => uptoBulk d + 1
  | .slice elems spare => uptoBulkAll elems + uptoBulkAll spare + 1
  | .agg parts => uptoBulkAll parts + 1
  | .iface _ d => uptoBulk d + 1
  | .map entries => uptoBulkEntries entries + 1
  | .held _ => 1
def uptoBulkAll {H : Type} : List (DataW H) → Nat
  | [] => 0
  | d :: r => uptoBulk d + uptoBulkAll r
def uptoBulkEntries {H : Type} : List (Lit × DataW H) → Nat
  | [] => 0
  | x :: r => uptoBulkEntry x + uptoBulkEntries r
def uptoBulkEntry {H : Type} : Lit × DataW H → Nat
  | (.string bytes, d) => bytes.length + uptoBulk d + 1
  | (_, d) => uptoBulk d + 1
 end
def uptoSmall : (H : Type) → List (DataW H) → Bool := fun _ ds => decide (uptoBulkAll ds ≤ 1048576)
def OpenSpec.upto (s : _root_.Go.ChangeSpec) : _root_.Go.OpenSpec := { _root_.Go.OpenSpec.ofChange s with cond := some uptoSmall }

/-- 'laws.FnExactCommitOf', WHERE WHAT IT READS IS OF BULK AT MOST 1048576: true; the input reads as it did. -/
def fnExactCommitOfUptoRow : OpenClaim := { program := "ytnldeeefiidcaaa", sum := "98f351ee6298e0c649ac123be0f05a27deeaa0be20c01d4b89f19b6826f3ce37", func := "loop.example/g00194/laws.FnExactCommitOf", spec := "fnExactCommitOf", unfollowed := true, recurses := true, apart := false, narrowed := true }
def FnExactCommitOfUptoSaid : Prop := fnExactCommitOfUptoRow.holds Try.pinned (OpenSpec.upto fnExactCommitOfSpec)

/-- 'laws.FnExactTreeOk', WHERE WHAT IT READS IS OF BULK AT MOST 1048576: true; the input reads as it did. -/
def fnExactTreeOkUptoRow : OpenClaim := { program := "ytnldeeefiidcaaa", sum := "98f351ee6298e0c649ac123be0f05a27deeaa0be20c01d4b89f19b6826f3ce37", func := "loop.example/g00194/laws.FnExactTreeOk", spec := "fnExactTreeOk", unfollowed := true, recurses := true, apart := false, narrowed := true }
def FnExactTreeOkUptoSaid : Prop := fnExactTreeOkUptoRow.holds Try.pinned (OpenSpec.upto fnExactTreeOkSpec)

/-- 'laws.FnExactExtends', WHERE WHAT IT READS IS OF BULK AT MOST 1048576: true; the input reads as it did. -/
def fnExactExtendsUptoRow : OpenClaim := { program := "ytnldeeefiidcaaa", sum := "98f351ee6298e0c649ac123be0f05a27deeaa0be20c01d4b89f19b6826f3ce37", func := "loop.example/g00194/laws.FnExactExtends", spec := "fnExactExtends", unfollowed := true, recurses := true, apart := false, narrowed := true }
def FnExactExtendsUptoSaid : Prop := fnExactExtendsUptoRow.holds Try.pinned (OpenSpec.upto fnExactExtendsSpec)

/-- 'laws.FnExactChainOf', WHERE WHAT IT READS IS OF BULK AT MOST 1048576: true; the input reads as it did. -/
def fnExactChainOfUptoRow : OpenClaim := { program := "ytnldeeefiidcaaa", sum := "98f351ee6298e0c649ac123be0f05a27deeaa0be20c01d4b89f19b6826f3ce37", func := "loop.example/g00194/laws.FnExactChainOf", spec := "fnExactChainOf", unfollowed := true, recurses := true, apart := false, narrowed := true }
def FnExactChainOfUptoSaid : Prop := fnExactChainOfUptoRow.holds Try.pinned (OpenSpec.upto fnExactChainOfSpec)

/-- 'laws.FnExactAddTo', WHERE WHAT IT READS IS OF BULK AT MOST 1048576: true; the input reads as it did. -/
def fnExactAddToUptoRow : OpenClaim := { program := "ytnldeeefiidcaaa", sum := "98f351ee6298e0c649ac123be0f05a27deeaa0be20c01d4b89f19b6826f3ce37", func := "loop.example/g00194/laws.FnExactAddTo", spec := "fnExactAddTo", inPlace := ["slices.overlaps[loop.example/g00194/impl.Block]"], unfollowed := true, recurses := true, apart := false, narrowed := true }
def FnExactAddToUptoSaid : Prop := fnExactAddToUptoRow.holds Try.pinned (OpenSpec.upto fnExactAddToSpec)

/-- 'laws.FnExactEnded', WHERE WHAT IT READS IS OF BULK AT MOST 1048576: true; the input reads as it did. -/
def fnExactEndedUptoRow : OpenClaim := { program := "ytnldeeefiidcaaa", sum := "98f351ee6298e0c649ac123be0f05a27deeaa0be20c01d4b89f19b6826f3ce37", func := "loop.example/g00194/laws.FnExactEnded", spec := "fnExactEnded", unfollowed := true, recurses := true, apart := false, narrowed := true }
def FnExactEndedUptoSaid : Prop := fnExactEndedUptoRow.holds Try.pinned (OpenSpec.upto fnExactEndedSpec)

/-- 'laws.FnChains', WHERE WHAT IT READS IS OF BULK AT MOST 1048576: true; the input reads as it did. -/
def fnChainsUptoRow : OpenClaim := { program := "ytnldeeefiidcaaa", sum := "98f351ee6298e0c649ac123be0f05a27deeaa0be20c01d4b89f19b6826f3ce37", func := "loop.example/g00194/laws.FnChains", spec := "fnChains", unfollowed := true, recurses := true, apart := false, narrowed := true }
def FnChainsUptoSaid : Prop := fnChainsUptoRow.holds Try.pinned (OpenSpec.upto fnChainsSpec)

/-- 'laws.FnAdded', WHERE WHAT IT READS IS OF BULK AT MOST 1048576: true; the input reads as it did. -/
def fnAddedUptoRow : OpenClaim := { program := "ytnldeeefiidcaaa", sum := "98f351ee6298e0c649ac123be0f05a27deeaa0be20c01d4b89f19b6826f3ce37", func := "loop.example/g00194/laws.FnAdded", spec := "fnAdded", inPlace := ["slices.overlaps[loop.example/g00194/impl.Block]"], unfollowed := true, recurses := true, apart := false, narrowed := true }
def FnAddedUptoSaid : Prop := fnAddedUptoRow.holds Try.pinned (OpenSpec.upto fnAddedSpec)

/-- 'laws.FnCertain', WHERE WHAT IT READS IS OF BULK AT MOST 1048576: true; the input reads as it did. -/
def fnCertainUptoRow : OpenClaim := { program := "ytnldeeefiidcaaa", sum := "98f351ee6298e0c649ac123be0f05a27deeaa0be20c01d4b89f19b6826f3ce37", func := "loop.example/g00194/laws.FnCertain", spec := "fnCertain", unfollowed := true, recurses := true, apart := false, narrowed := true }
def FnCertainUptoSaid : Prop := fnCertainUptoRow.holds Try.pinned (OpenSpec.upto fnCertainSpec)

/-- 'laws.FnSigned', WHERE WHAT IT READS IS OF BULK AT MOST 1048576: true; the input reads as it did. -/
def fnSignedUptoRow : OpenClaim := { program := "ytnldeeefiidcaaa", sum := "98f351ee6298e0c649ac123be0f05a27deeaa0be20c01d4b89f19b6826f3ce37", func := "loop.example/g00194/laws.FnSigned", spec := "fnSigned", apart := false, narrowed := true }
def FnSignedUptoSaid : Prop := fnSignedUptoRow.holds Try.pinned (OpenSpec.upto fnSignedSpec)

end Rows
end Go.Proofs.Ytnldeeefiidcaaa
