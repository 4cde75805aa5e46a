/-
  No cell of these rows narrows 'for every input' (looked for: loops, veiled, ifaces, maps, wideKeys, modest, calm, conditions, laid).
  DERIVED. THE GIVEN ROWS OF THIS SEAT. 12 by the template 'for every input the law returns true; each argument reads behind the call as it read before'; 0 by the template 'total and deterministic' (their statements: YtlncpnefkpfojaaTotals.lean).
  GIVEN WITH THE SEED: the statements are not yours to turn. If you find one false, say at which input.
  Laid BY PROGRAM, IN A SANDBOX (cutbox-rows.mjs): the forced cells as the released guide's own fill.sh prints them over the translation 056c630afad4a089… (all of the seat's roots in one cut). By AI agents, Wed Nov 11 2026. No macro, syntax, notation, axiom, sorry.
-/
import Derived.Test.YtlncpnefkpfojaaChecked
import GoSem.Claim
import GoSem.ClaimJoined
import GoSem.ClaimMapViews
import Derived.JoinedTies
import Derived.KernelRfl
namespace Go.Proofs.Ytlncpnefkpfojaa
/- THE CELL 'sum', in the pinned program and in every row, IS THE sha256 OF THE DUMP (.gsa) THAT YtlncpnefkpfojaaProg.lean LOADS. Nothing in Lean hashes anything: it is a label: what it is worth is what the hold of that sum in a sandbox is worth. -/
noncomputable def Try.pinned : Pinned := { name := "ytlncpnefkpfojaa", sum := "056c630afad4a089b1f3faad5608f59cab12d9d2361be7d4dbe5382212c65fa8", checked := Try.checked }
namespace Rows
def none {H : Type} : Left H := { results := [], args := [] }

/-- 'laws.FnExactBusiestNode': WHATEVER THE INPUT: true; the input reads as it did. -/
def fnExactBusiestNodeSpec : ChangeSpec := { name := "fnExactBusiestNode", fn := fun _ => fun
  | [d] => { results := [.lit (.bool true)], args := [d] }
  | _ => none }
def fnExactBusiestNodeRow : OpenClaim := { program := "ytlncpnefkpfojaa", sum := "056c630afad4a089b1f3faad5608f59cab12d9d2361be7d4dbe5382212c65fa8", func := "loop.example/g01005/laws.FnExactBusiestNode", spec := "fnExactBusiestNode", apart := false }
def FnExactBusiestNodeSaid : Prop := fnExactBusiestNodeRow.holds Try.pinned (OpenSpec.ofChange fnExactBusiestNodeSpec)

/-- ITS FALSE NEIGHBOUR: 'it returns false'. Refute it at one input. -/
def fnExactBusiestNodeWrong : ChangeSpec := { name := "fnExactBusiestNode", fn := fun _ => fun
  | [d] => { results := [.lit (.bool false)], args := [d] }
  | _ => none }
def FnExactBusiestNodeWrongFalsely : Prop := fnExactBusiestNodeRow.holds Try.pinned (OpenSpec.ofChange fnExactBusiestNodeWrong)

/-- 'laws.FnExactGreedyRounds': WHATEVER THE INPUT: true; the input reads as it did. -/
def fnExactGreedyRoundsSpec : ChangeSpec := { name := "fnExactGreedyRounds", fn := fun _ => fun
  | [d] => { results := [.lit (.bool true)], args := [d] }
  | _ => none }
def fnExactGreedyRoundsRow : OpenClaim := { program := "ytlncpnefkpfojaa", sum := "056c630afad4a089b1f3faad5608f59cab12d9d2361be7d4dbe5382212c65fa8", func := "loop.example/g01005/laws.FnExactGreedyRounds", spec := "fnExactGreedyRounds", unfollowed := true, recurses := true, apart := false }
def FnExactGreedyRoundsSaid : Prop := fnExactGreedyRoundsRow.holds Try.pinned (OpenSpec.ofChange fnExactGreedyRoundsSpec)

/-- ITS FALSE NEIGHBOUR: 'it returns false'. Refute it at one input. -/
def fnExactGreedyRoundsWrong : ChangeSpec := { name := "fnExactGreedyRounds", fn := fun _ => fun
  | [d] => { results := [.lit (.bool false)], args := [d] }
  | _ => none }
def FnExactGreedyRoundsWrongFalsely : Prop := fnExactGreedyRoundsRow.holds Try.pinned (OpenSpec.ofChange fnExactGreedyRoundsWrong)

/-- 'laws.FnExactFewestRounds': WHATEVER THE INPUT: true; the input reads as it did. -/
def fnExactFewestRoundsSpec : ChangeSpec := { name := "fnExactFewestRounds", fn := fun _ => fun
  | [d1, d2] => { results := [.lit (.bool true)], args := [d1, d2] }
  | _ => none }
def fnExactFewestRoundsRow : OpenClaim := { program := "ytlncpnefkpfojaa", sum := "056c630afad4a089b1f3faad5608f59cab12d9d2361be7d4dbe5382212c65fa8", func := "loop.example/g01005/laws.FnExactFewestRounds", spec := "fnExactFewestRounds", unfollowed := true, recurses := true, apart := false }
def FnExactFewestRoundsSaid : Prop := fnExactFewestRoundsRow.holds Try.pinned (OpenSpec.ofChange fnExactFewestRoundsSpec)

/-- ITS FALSE NEIGHBOUR: 'it returns false'. Refute it at one input. -/
def fnExactFewestRoundsWrong : ChangeSpec := { name := "fnExactFewestRounds", fn := fun _ => fun
  | [d1, d2] => { results := [.lit (.bool false)], args := [d1, d2] }
  | _ => none }
def FnExactFewestRoundsWrongFalsely : Prop := fnExactFewestRoundsRow.holds Try.pinned (OpenSpec.ofChange fnExactFewestRoundsWrong)

/-- 'laws.FnExactValidRounds': WHATEVER THE INPUT: true; the input reads as it did. -/
def fnExactValidRoundsSpec : ChangeSpec := { name := "fnExactValidRounds", fn := fun _ => fun
  | [d1, d2] => { results := [.lit (.bool true)], args := [d1, d2] }
  | _ => none }
def fnExactValidRoundsRow : OpenClaim := { program := "ytlncpnefkpfojaa", sum := "056c630afad4a089b1f3faad5608f59cab12d9d2361be7d4dbe5382212c65fa8", func := "loop.example/g01005/laws.FnExactValidRounds", spec := "fnExactValidRounds", unfollowed := true, recurses := true, apart := false }
def FnExactValidRoundsSaid : Prop := fnExactValidRoundsRow.holds Try.pinned (OpenSpec.ofChange fnExactValidRoundsSpec)

/-- ITS FALSE NEIGHBOUR: 'it returns false'. Refute it at one input. -/
def fnExactValidRoundsWrong : ChangeSpec := { name := "fnExactValidRounds", fn := fun _ => fun
  | [d1, d2] => { results := [.lit (.bool false)], args := [d1, d2] }
  | _ => none }
def FnExactValidRoundsWrongFalsely : Prop := fnExactValidRoundsRow.holds Try.pinned (OpenSpec.ofChange fnExactValidRoundsWrong)

/-- 'laws.FnExactSortsAll': WHATEVER THE INPUT: true; the input reads as it did. -/
def fnExactSortsAllSpec : ChangeSpec := { name := "fnExactSortsAll", fn := fun _ => fun
  | [d1, d2, d3] => { results := [.lit (.bool true)], args := [d1, d2, d3] }
  | _ => none }
def fnExactSortsAllRow : OpenClaim := { program := "ytlncpnefkpfojaa", sum := "056c630afad4a089b1f3faad5608f59cab12d9d2361be7d4dbe5382212c65fa8", func := "loop.example/g01005/laws.FnExactSortsAll", spec := "fnExactSortsAll", unfollowed := true, recurses := true, apart := false }
def FnExactSortsAllSaid : Prop := fnExactSortsAllRow.holds Try.pinned (OpenSpec.ofChange fnExactSortsAllSpec)

/-- ITS FALSE NEIGHBOUR: 'it returns false'. Refute it at one input. -/
def fnExactSortsAllWrong : ChangeSpec := { name := "fnExactSortsAll", fn := fun _ => fun
  | [d1, d2, d3] => { results := [.lit (.bool false)], args := [d1, d2, d3] }
  | _ => none }
def FnExactSortsAllWrongFalsely : Prop := fnExactSortsAllRow.holds Try.pinned (OpenSpec.ofChange fnExactSortsAllWrong)

/-- 'laws.FnExactIdleNodes': WHATEVER THE INPUT: true; the input reads as it did. -/
def fnExactIdleNodesSpec : ChangeSpec := { name := "fnExactIdleNodes", fn := fun _ => fun
  | [d1, d2, d3] => { results := [.lit (.bool true)], args := [d1, d2, d3] }
  | _ => none }
def fnExactIdleNodesRow : OpenClaim := { program := "ytlncpnefkpfojaa", sum := "056c630afad4a089b1f3faad5608f59cab12d9d2361be7d4dbe5382212c65fa8", func := "loop.example/g01005/laws.FnExactIdleNodes", spec := "fnExactIdleNodes", unfollowed := true, recurses := true, apart := false }
def FnExactIdleNodesSaid : Prop := fnExactIdleNodesRow.holds Try.pinned (OpenSpec.ofChange fnExactIdleNodesSpec)

/-- ITS FALSE NEIGHBOUR: 'it returns false'. Refute it at one input. -/
def fnExactIdleNodesWrong : ChangeSpec := { name := "fnExactIdleNodes", fn := fun _ => fun
  | [d1, d2, d3] => { results := [.lit (.bool false)], args := [d1, d2, d3] }
  | _ => none }
def FnExactIdleNodesWrongFalsely : Prop := fnExactIdleNodesRow.holds Try.pinned (OpenSpec.ofChange fnExactIdleNodesWrong)

/-- 'laws.FnExactKnownAfter': WHATEVER THE INPUT: true; the input reads as it did. -/
def fnExactKnownAfterSpec : ChangeSpec := { name := "fnExactKnownAfter", fn := fun _ => fun
  | [d1, d2, d3, d4] => { results := [.lit (.bool true)], args := [d1, d2, d3, d4] }
  | _ => none }
def fnExactKnownAfterRow : OpenClaim := { program := "ytlncpnefkpfojaa", sum := "056c630afad4a089b1f3faad5608f59cab12d9d2361be7d4dbe5382212c65fa8", func := "loop.example/g01005/laws.FnExactKnownAfter", spec := "fnExactKnownAfter", unfollowed := true, recurses := true, apart := false }
def FnExactKnownAfterSaid : Prop := fnExactKnownAfterRow.holds Try.pinned (OpenSpec.ofChange fnExactKnownAfterSpec)

/-- ITS FALSE NEIGHBOUR: 'it returns false'. Refute it at one input. -/
def fnExactKnownAfterWrong : ChangeSpec := { name := "fnExactKnownAfter", fn := fun _ => fun
  | [d1, d2, d3, d4] => { results := [.lit (.bool false)], args := [d1, d2, d3, d4] }
  | _ => none }
def FnExactKnownAfterWrongFalsely : Prop := fnExactKnownAfterRow.holds Try.pinned (OpenSpec.ofChange fnExactKnownAfterWrong)

/-- 'laws.FnExactExchangeValues': WHATEVER THE INPUT: true; the input reads as it did. -/
def fnExactExchangeValuesSpec : ChangeSpec := { name := "fnExactExchangeValues", fn := fun _ => fun
  | [d1, d2, d3, d4] => { results := [.lit (.bool true)], args := [d1, d2, d3, d4] }
  | _ => none }
def fnExactExchangeValuesRow : OpenClaim := { program := "ytlncpnefkpfojaa", sum := "056c630afad4a089b1f3faad5608f59cab12d9d2361be7d4dbe5382212c65fa8", func := "loop.example/g01005/laws.FnExactExchangeValues", spec := "fnExactExchangeValues", unfollowed := true, recurses := true, apart := false }
def FnExactExchangeValuesSaid : Prop := fnExactExchangeValuesRow.holds Try.pinned (OpenSpec.ofChange fnExactExchangeValuesSpec)

/-- ITS FALSE NEIGHBOUR: 'it returns false'. Refute it at one input. -/
def fnExactExchangeValuesWrong : ChangeSpec := { name := "fnExactExchangeValues", fn := fun _ => fun
  | [d1, d2, d3, d4] => { results := [.lit (.bool false)], args := [d1, d2, d3, d4] }
  | _ => none }
def FnExactExchangeValuesWrongFalsely : Prop := fnExactExchangeValuesRow.holds Try.pinned (OpenSpec.ofChange fnExactExchangeValuesWrong)

/-- 'laws.FnExactTurnRounds': WHATEVER THE INPUT: true; the input reads as it did. -/
def fnExactTurnRoundsSpec : ChangeSpec := { name := "fnExactTurnRounds", fn := fun _ => fun
  | [d1, d2, d3] => { results := [.lit (.bool true)], args := [d1, d2, d3] }
  | _ => none }
def fnExactTurnRoundsRow : OpenClaim := { program := "ytlncpnefkpfojaa", sum := "056c630afad4a089b1f3faad5608f59cab12d9d2361be7d4dbe5382212c65fa8", func := "loop.example/g01005/laws.FnExactTurnRounds", spec := "fnExactTurnRounds", unfollowed := true, recurses := true, apart := false }
def FnExactTurnRoundsSaid : Prop := fnExactTurnRoundsRow.holds Try.pinned (OpenSpec.ofChange fnExactTurnRoundsSpec)

/-- ITS FALSE NEIGHBOUR: 'it returns false'. Refute it at one input. -/
def fnExactTurnRoundsWrong : ChangeSpec := { name := "fnExactTurnRounds", fn := fun _ => fun
  | [d1, d2, d3] => { results := [.lit (.bool false)], args := [d1, d2, d3] }
  | _ => none }
def FnExactTurnRoundsWrongFalsely : Prop := fnExactTurnRoundsRow.holds Try.pinned (OpenSpec.ofChange fnExactTurnRoundsWrong)

/-- 'laws.FnExactGossipTime': WHATEVER THE INPUT: true; the input reads as it did. -/
def fnExactGossipTimeSpec : ChangeSpec := { name := "fnExactGossipTime", fn := fun _ => fun
  | [d1, d2] => { results := [.lit (.bool true)], args := [d1, d2] }
  | _ => none }
def fnExactGossipTimeRow : OpenClaim := { program := "ytlncpnefkpfojaa", sum := "056c630afad4a089b1f3faad5608f59cab12d9d2361be7d4dbe5382212c65fa8", func := "loop.example/g01005/laws.FnExactGossipTime", spec := "fnExactGossipTime", unfollowed := true, recurses := true, apart := false }
def FnExactGossipTimeSaid : Prop := fnExactGossipTimeRow.holds Try.pinned (OpenSpec.ofChange fnExactGossipTimeSpec)

/-- ITS FALSE NEIGHBOUR: 'it returns false'. Refute it at one input. -/
def fnExactGossipTimeWrong : ChangeSpec := { name := "fnExactGossipTime", fn := fun _ => fun
  | [d1, d2] => { results := [.lit (.bool false)], args := [d1, d2] }
  | _ => none }
def FnExactGossipTimeWrongFalsely : Prop := fnExactGossipTimeRow.holds Try.pinned (OpenSpec.ofChange fnExactGossipTimeWrong)

/-- 'laws.FnExactBestTurn': WHATEVER THE INPUT: true; the input reads as it did. -/
def fnExactBestTurnSpec : ChangeSpec := { name := "fnExactBestTurn", fn := fun _ => fun
  | [d1, d2] => { results := [.lit (.bool true)], args := [d1, d2] }
  | _ => none }
def fnExactBestTurnRow : OpenClaim := { program := "ytlncpnefkpfojaa", sum := "056c630afad4a089b1f3faad5608f59cab12d9d2361be7d4dbe5382212c65fa8", func := "loop.example/g01005/laws.FnExactBestTurn", spec := "fnExactBestTurn", unfollowed := true, recurses := true, apart := false }
def FnExactBestTurnSaid : Prop := fnExactBestTurnRow.holds Try.pinned (OpenSpec.ofChange fnExactBestTurnSpec)

/-- ITS FALSE NEIGHBOUR: 'it returns false'. Refute it at one input. -/
def fnExactBestTurnWrong : ChangeSpec := { name := "fnExactBestTurn", fn := fun _ => fun
  | [d1, d2] => { results := [.lit (.bool false)], args := [d1, d2] }
  | _ => none }
def FnExactBestTurnWrongFalsely : Prop := fnExactBestTurnRow.holds Try.pinned (OpenSpec.ofChange fnExactBestTurnWrong)

/-- 'laws.FnSorting': WHATEVER THE INPUT: true; the input reads as it did. -/
def fnSortingSpec : ChangeSpec := { name := "fnSorting", fn := fun _ => fun
  | [d1, d2] => { results := [.lit (.bool true)], args := [d1, d2] }
  | _ => none }
def fnSortingRow : OpenClaim := { program := "ytlncpnefkpfojaa", sum := "056c630afad4a089b1f3faad5608f59cab12d9d2361be7d4dbe5382212c65fa8", func := "loop.example/g01005/laws.FnSorting", spec := "fnSorting", unfollowed := true, recurses := true, apart := false }
def FnSortingSaid : Prop := fnSortingRow.holds Try.pinned (OpenSpec.ofChange fnSortingSpec)

/-- ITS FALSE NEIGHBOUR: 'it returns false'. Refute it at one input. -/
def fnSortingWrong : ChangeSpec := { name := "fnSorting", fn := fun _ => fun
  | [d1, d2] => { results := [.lit (.bool false)], args := [d1, d2] }
  | _ => none }
def FnSortingWrongFalsely : Prop := fnSortingRow.holds Try.pinned (OpenSpec.ofChange fnSortingWrong)

/- THE SECOND FORM. 'bulk': how many values and letters a reading holds, each counted each time it is reached (what is shared counts as often as it is met; a slice's spare places count too). A statement '..UptoSaid' is the law's where the arguments, and the package variables that the reading takes, are together of bulk at most 1048576: NARROWER than '..Said'. Prove '..Said' where nothing that the law and all that it calls make is longer than what came in: it says more and counts as full. Else prove '..UptoSaid'. A law counts once. -/
mutual
def uptoBulk {H : Type} : DataW H → Nat
  | .lit (.string bytes) => bytes.length + 1
  | .lit _ => 1
  | .nil => 1
  | .ptr d => uptoBulk d + 1
  | .slice elems spare => uptoBulkAll elems + uptoBulkAll spare + 1
  | .agg parts => uptoBulkAll parts + 1
  | .iface _ d => uptoBulk d + 1
  | .map entries => uptoBulkEntries entries + 1
  | .held _ => 1
def uptoBulkAll {H : Type} : List (DataW H) → Nat
  | [] => 0
  | d :: r => uptoBulk d + uptoBulkAll r
def uptoBulkEntries {H : Type} : List (Lit × DataW H) → Nat
  | [] => 0
  | x :: r => uptoBulkEntry x + uptoBulkEntries r
def uptoBulkEntry {H : Type} : Lit × DataW H → Nat
  | (.string bytes, d) => bytes.length + uptoBulk d + 1
  | (_, d) => uptoBulk d + 1
 end
def uptoSmall : (H : Type) → List (DataW H) → Bool := fun _ ds => decide (uptoBulkAll ds ≤ 1048576)
def OpenSpec.upto (s : _root_.Go.ChangeSpec) : _root_.Go.OpenSpec := { _root_.Go.OpenSpec.ofChange s with cond := some uptoSmall }

/-- 'laws.FnExactBusiestNode', WHERE WHAT IT READS IS OF BULK AT MOST 1048576: true; the input reads as it did. -/
def fnExactBusiestNodeUptoRow : OpenClaim := { program := "ytlncpnefkpfojaa", sum := "056c630afad4a089b1f3faad5608f59cab12d9d2361be7d4dbe5382212c65fa8", func := "loop.example/g01005/laws.FnExactBusiestNode", spec := "fnExactBusiestNode", apart := false, narrowed := true }
def FnExactBusiestNodeUptoSaid : Prop := fnExactBusiestNodeUptoRow.holds Try.pinned (OpenSpec.upto fnExactBusiestNodeSpec)

/-- 'laws.FnExactGreedyRounds', WHERE WHAT IT READS IS OF BULK AT MOST 1048576: true; the input reads as it did. -/
def fnExactGreedyRoundsUptoRow : OpenClaim := { program := "ytlncpnefkpfojaa", sum := "056c630afad4a089b1f3faad5608f59cab12d9d2361be7d4dbe5382212c65fa8", func := "loop.example/g01005/laws.FnExactGreedyRounds", spec := "fnExactGreedyRounds", unfollowed := true, recurses := true, apart := false, narrowed := true }
def FnExactGreedyRoundsUptoSaid : Prop := fnExactGreedyRoundsUptoRow.holds Try.pinned (OpenSpec.upto fnExactGreedyRoundsSpec)

/-- 'laws.FnExactFewestRounds', WHERE WHAT IT READS IS OF BULK AT MOST 1048576: true; the input reads as it did. -/
def fnExactFewestRoundsUptoRow : OpenClaim := { program := "ytlncpnefkpfojaa", sum := "056c630afad4a089b1f3faad5608f59cab12d9d2361be7d4dbe5382212c65fa8", func := "loop.example/g01005/laws.FnExactFewestRounds", spec := "fnExactFewestRounds", unfollowed := true, recurses := true, apart := false, narrowed := true }
def FnExactFewestRoundsUptoSaid : Prop := fnExactFewestRoundsUptoRow.holds Try.pinned (OpenSpec.upto fnExactFewestRoundsSpec)

/-- 'laws.FnExactValidRounds', WHERE WHAT IT READS IS OF BULK AT MOST 1048576: true; the input reads as it did. -/
def fnExactValidRoundsUptoRow : OpenClaim := { program := "ytlncpnefkpfojaa", sum := "056c630afad4a089b1f3faad5608f59cab12d9d2361be7d4dbe5382212c65fa8", func := "loop.example/g01005/laws.FnExactValidRounds", spec := "fnExactValidRounds", unfollowed := true, recurses := true, apart := false, narrowed := true }
def FnExactValidRoundsUptoSaid : Prop := fnExactValidRoundsUptoRow.holds Try.pinned (OpenSpec.upto fnExactValidRoundsSpec)

/-- 'laws.FnExactSortsAll', WHERE WHAT IT READS IS OF BULK AT MOST 1048576: true; the input reads as it did. -/
def fnExactSortsAllUptoRow : OpenClaim := { program := "ytlncpnefkpfojaa", sum := "056c630afad4a089b1f3faad5608f59cab12d9d2361be7d4dbe5382212c65fa8", func := "loop.example/g01005/laws.FnExactSortsAll", spec := "fnExactSortsAll", unfollowed := true, recurses := true, apart := false, narrowed := true }
def FnExactSortsAllUptoSaid : Prop := fnExactSortsAllUptoRow.holds Try.pinned (OpenSpec.upto fnExactSortsAllSpec)

/-- 'laws.FnExactIdleNodes', WHERE WHAT IT READS IS OF BULK AT MOST 1048576: true; the input reads as it did. -/
def fnExactIdleNodesUptoRow : OpenClaim := { program := "ytlncpnefkpfojaa", sum := "056c630afad4a089b1f3faad5608f59cab12d9d2361be7d4dbe5382212c65fa8", func := "loop.example/g01005/laws.FnExactIdleNodes", spec := "fnExactIdleNodes", unfollowed := true, recurses := true, apart := false, narrowed := true }
def FnExactIdleNodesUptoSaid : Prop := fnExactIdleNodesUptoRow.holds Try.pinned (OpenSpec.upto fnExactIdleNodesSpec)

/-- 'laws.FnExactKnownAfter', WHERE WHAT IT READS IS OF BULK AT MOST 1048576: true; the input reads as it did. -/
def fnExactKnownAfterUptoRow : OpenClaim := { program := "ytlncpnefkpfojaa", sum := "056c630afad4a089b1f3faad5608f59cab12d9d2361be7d4dbe5382212c65fa8", func := "loop.example/g01005/laws.FnExactKnownAfter", spec := "fnExactKnownAfter", unfollowed := true, recurses := true, apart := false, narrowed := true }
def FnExactKnownAfterUptoSaid : Prop := fnExactKnownAfterUptoRow.holds Try.pinned (OpenSpec.upto fnExactKnownAfterSpec)

/-- 'laws.FnExactExchangeValues', WHERE WHAT IT READS IS OF BULK AT MOST 1048576: true; the input reads as it did. -/
def fnExactExchangeValuesUptoRow : OpenClaim := { program := "ytlncpnefkpfojaa", sum := "056c630afad4a089b1f3faad5608f59cab12d9d2361be7d4dbe5382212c65fa8", func := "loop.example/g01005/laws.FnExactExchangeValues", spec := "fnExactExchangeValues", unfollowed := true, recurses := true, apart := false, narrowed := true }
def FnExactExchangeValuesUptoSaid : Prop := fnExactExchangeValuesUptoRow.holds Try.pinned (OpenSpec.upto fnExactExchangeValuesSpec)

/-- 'laws.FnExactTurnRounds', WHERE WHAT IT READS IS OF BULK AT MOST 1048576: true; the input reads as it did. -/
def fnExactTurnRoundsUptoRow : OpenClaim := { program := "ytlncpnefkpfojaa", sum := "056c630afad4a089b1f3faad5608f59cab12d9d2361be7d4dbe5382212c65fa8", func := "loop.example/g01005/laws.FnExactTurnRounds", spec := "fnExactTurnRounds", unfollowed := true, recurses := true, apart := false, narrowed := true }
def FnExactTurnRoundsUptoSaid : Prop := fnExactTurnRoundsUptoRow.holds Try.pinned (OpenSpec.upto fnExactTurnRoundsSpec)

/-- 'laws.FnExactGossipTime', WHERE WHAT IT READS IS OF BULK AT MOST 1048576: true; the input reads as it did. -/
def fnExactGossipTimeUptoRow : OpenClaim := { program := "ytlncpnefkpfojaa", sum := "056c630afad4a089b1f3faad5608f59cab12d9d2361be7d4dbe5382212c65fa8", func := "loop.example/g01005/laws.FnExactGossipTime", spec := "fnExactGossipTime", unfollowed := true, recurses := true, apart := false, narrowed := true }
def FnExactGossipTimeUptoSaid : Prop := fnExactGossipTimeUptoRow.holds Try.pinned (OpenSpec.upto fnExactGossipTimeSpec)

/-- 'laws.FnExactBestTurn', WHERE WHAT IT READS IS OF BULK AT MOST 1048576: true; the input reads as it did. -/
def fnExactBestTurnUptoRow : OpenClaim := { program := "ytlncpnefkpfojaa", sum := "056c630afad4a089b1f3faad5608f59cab12d9d2361be7d4dbe5382212c65fa8", func := "loop.example/g01005/laws.FnExactBestTurn", spec := "fnExactBestTurn", unfollowed := true, recurses := true, apart := false, narrowed := true }
def FnExactBestTurnUptoSaid : Prop := fnExactBestTurnUptoRow.holds Try.pinned (OpenSpec.upto fnExactBestTurnSpec)

/-- 'laws.FnSorting', WHERE WHAT IT READS IS OF BULK AT MOST 1048576: true; the input reads as it did. -/
def fnSortingUptoRow : OpenClaim := { program := "ytlncpnefkpfojaa", sum := "056c630afad4a089b1f3faad5608f59cab12d9d2361be7d4dbe5382212c65fa8", func := "loop.example/g01005/laws.FnSorting", spec := "fnSorting", unfollowed := true, recurses := true, apart := false, narrowed := true }
def FnSortingUptoSaid : Prop := fnSortingUptoRow.holds Try.pinned (OpenSpec.upto fnSortingSpec)

end Rows
end Go.Proofs.Ytlncpnefkpfojaa
