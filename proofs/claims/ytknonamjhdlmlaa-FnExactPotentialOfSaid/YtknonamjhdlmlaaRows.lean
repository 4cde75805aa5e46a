/-
  No cell of these rows narrows 'for every input' (looked for: loops, veiled, ifaces, maps, wideKeys, modest, calm, conditions, laid).
  DERIVED. THE GIVEN ROWS OF THIS SEAT. 11 by the template 'for every input the law returns true; each argument reads behind the call as it read before'; 0 by the template 'total and deterministic' (their statements: YtknonamjhdlmlaaTotals.lean).
  GIVEN WITH THE SEED: the statements are not yours to turn. If you find one false, say at which input.
  Laid BY PROGRAM, IN A SANDBOX (cutbox-rows.mjs): the forced cells as the released guide's own fill.sh prints them over the translation 20f80eb70656e1ea… (all of the seat's roots in one cut). By AI agents, Wed Nov 11 2026. No macro, syntax, notation, axiom, sorry.
-/
import Derived.Test.YtknonamjhdlmlaaChecked
import GoSem.Claim
import GoSem.ClaimJoined
import GoSem.ClaimMapViews
import Derived.JoinedTies
import Derived.KernelRfl
namespace Go.Proofs.Ytknonamjhdlmlaa
/- THE CELL 'sum', in the pinned program and in every row, IS THE sha256 OF THE DUMP (.gsa) THAT YtknonamjhdlmlaaProg.lean LOADS. Nothing in Lean hashes anything: it is a label: what it is worth is what the hold of that sum in a sandbox is worth. -/
noncomputable def Try.pinned : Pinned := { name := "ytknonamjhdlmlaa", sum := "20f80eb70656e1ea42a3d35a8086a8c0b1d747f5d09cc7e0e4fc05b96b8827e9", checked := Try.checked }
namespace Rows
def none {H : Type} : Left H := { results := [], args := [] }

/-- 'laws.FnExactSamePhases': WHATEVER THE INPUT: true; the input reads as it did. -/
def fnExactSamePhasesSpec : ChangeSpec := { name := "fnExactSamePhases", fn := fun _ => fun
  | [d1, d2] => { results := [.lit (.bool true)], args := [d1, d2] }
  | _ => none }
def fnExactSamePhasesRow : OpenClaim := { program := "ytknonamjhdlmlaa", sum := "20f80eb70656e1ea42a3d35a8086a8c0b1d747f5d09cc7e0e4fc05b96b8827e9", func := "loop.example/g01005/laws.FnExactSamePhases", spec := "fnExactSamePhases", apart := false }
def FnExactSamePhasesSaid : Prop := fnExactSamePhasesRow.holds Try.pinned (OpenSpec.ofChange fnExactSamePhasesSpec)

/-- ITS FALSE NEIGHBOUR: 'it returns false'. Refute it at one input. -/
def fnExactSamePhasesWrong : ChangeSpec := { name := "fnExactSamePhases", fn := fun _ => fun
  | [d1, d2] => { results := [.lit (.bool false)], args := [d1, d2] }
  | _ => none }
def FnExactSamePhasesWrongFalsely : Prop := fnExactSamePhasesRow.holds Try.pinned (OpenSpec.ofChange fnExactSamePhasesWrong)

/-- 'laws.FnExactValidPhases': WHATEVER THE INPUT: true; the input reads as it did. -/
def fnExactValidPhasesSpec : ChangeSpec := { name := "fnExactValidPhases", fn := fun _ => fun
  | [d] => { results := [.lit (.bool true)], args := [d] }
  | _ => none }
def fnExactValidPhasesRow : OpenClaim := { program := "ytknonamjhdlmlaa", sum := "20f80eb70656e1ea42a3d35a8086a8c0b1d747f5d09cc7e0e4fc05b96b8827e9", func := "loop.example/g01005/laws.FnExactValidPhases", spec := "fnExactValidPhases", apart := false }
def FnExactValidPhasesSaid : Prop := fnExactValidPhasesRow.holds Try.pinned (OpenSpec.ofChange fnExactValidPhasesSpec)

/-- ITS FALSE NEIGHBOUR: 'it returns false'. Refute it at one input. -/
def fnExactValidPhasesWrong : ChangeSpec := { name := "fnExactValidPhases", fn := fun _ => fun
  | [d] => { results := [.lit (.bool false)], args := [d] }
  | _ => none }
def FnExactValidPhasesWrongFalsely : Prop := fnExactValidPhasesRow.holds Try.pinned (OpenSpec.ofChange fnExactValidPhasesWrong)

/-- 'laws.FnExactHolonomyOf': WHATEVER THE INPUT: true; the input reads as it did. -/
def fnExactHolonomyOfSpec : ChangeSpec := { name := "fnExactHolonomyOf", fn := fun _ => fun
  | [d1, d2] => { results := [.lit (.bool true)], args := [d1, d2] }
  | _ => none }
def fnExactHolonomyOfRow : OpenClaim := { program := "ytknonamjhdlmlaa", sum := "20f80eb70656e1ea42a3d35a8086a8c0b1d747f5d09cc7e0e4fc05b96b8827e9", func := "loop.example/g01005/laws.FnExactHolonomyOf", spec := "fnExactHolonomyOf", unfollowed := true, recurses := true, apart := false }
def FnExactHolonomyOfSaid : Prop := fnExactHolonomyOfRow.holds Try.pinned (OpenSpec.ofChange fnExactHolonomyOfSpec)

/-- ITS FALSE NEIGHBOUR: 'it returns false'. Refute it at one input. -/
def fnExactHolonomyOfWrong : ChangeSpec := { name := "fnExactHolonomyOf", fn := fun _ => fun
  | [d1, d2] => { results := [.lit (.bool false)], args := [d1, d2] }
  | _ => none }
def FnExactHolonomyOfWrongFalsely : Prop := fnExactHolonomyOfRow.holds Try.pinned (OpenSpec.ofChange fnExactHolonomyOfWrong)

/-- 'laws.FnExactIsPotential': WHATEVER THE INPUT: true; the input reads as it did. -/
def fnExactIsPotentialSpec : ChangeSpec := { name := "fnExactIsPotential", fn := fun _ => fun
  | [d1, d2] => { results := [.lit (.bool true)], args := [d1, d2] }
  | _ => none }
def fnExactIsPotentialRow : OpenClaim := { program := "ytknonamjhdlmlaa", sum := "20f80eb70656e1ea42a3d35a8086a8c0b1d747f5d09cc7e0e4fc05b96b8827e9", func := "loop.example/g01005/laws.FnExactIsPotential", spec := "fnExactIsPotential", unfollowed := true, recurses := true, apart := false }
def FnExactIsPotentialSaid : Prop := fnExactIsPotentialRow.holds Try.pinned (OpenSpec.ofChange fnExactIsPotentialSpec)

/-- ITS FALSE NEIGHBOUR: 'it returns false'. Refute it at one input. -/
def fnExactIsPotentialWrong : ChangeSpec := { name := "fnExactIsPotential", fn := fun _ => fun
  | [d1, d2] => { results := [.lit (.bool false)], args := [d1, d2] }
  | _ => none }
def FnExactIsPotentialWrongFalsely : Prop := fnExactIsPotentialRow.holds Try.pinned (OpenSpec.ofChange fnExactIsPotentialWrong)

/-- 'laws.FnExactErrorsOf': WHATEVER THE INPUT: true; the input reads as it did. -/
def fnExactErrorsOfSpec : ChangeSpec := { name := "fnExactErrorsOf", fn := fun _ => fun
  | [d1, d2] => { results := [.lit (.bool true)], args := [d1, d2] }
  | _ => none }
def fnExactErrorsOfRow : OpenClaim := { program := "ytknonamjhdlmlaa", sum := "20f80eb70656e1ea42a3d35a8086a8c0b1d747f5d09cc7e0e4fc05b96b8827e9", func := "loop.example/g01005/laws.FnExactErrorsOf", spec := "fnExactErrorsOf", unfollowed := true, recurses := true, apart := false }
def FnExactErrorsOfSaid : Prop := fnExactErrorsOfRow.holds Try.pinned (OpenSpec.ofChange fnExactErrorsOfSpec)

/-- ITS FALSE NEIGHBOUR: 'it returns false'. Refute it at one input. -/
def fnExactErrorsOfWrong : ChangeSpec := { name := "fnExactErrorsOf", fn := fun _ => fun
  | [d1, d2] => { results := [.lit (.bool false)], args := [d1, d2] }
  | _ => none }
def FnExactErrorsOfWrongFalsely : Prop := fnExactErrorsOfRow.holds Try.pinned (OpenSpec.ofChange fnExactErrorsOfWrong)

/-- 'laws.FnExactTurnPhases': WHATEVER THE INPUT: true; the input reads as it did. -/
def fnExactTurnPhasesSpec : ChangeSpec := { name := "fnExactTurnPhases", fn := fun _ => fun
  | [d1, d2] => { results := [.lit (.bool true)], args := [d1, d2] }
  | _ => none }
def fnExactTurnPhasesRow : OpenClaim := { program := "ytknonamjhdlmlaa", sum := "20f80eb70656e1ea42a3d35a8086a8c0b1d747f5d09cc7e0e4fc05b96b8827e9", func := "loop.example/g01005/laws.FnExactTurnPhases", spec := "fnExactTurnPhases", unfollowed := true, recurses := true, apart := false }
def FnExactTurnPhasesSaid : Prop := fnExactTurnPhasesRow.holds Try.pinned (OpenSpec.ofChange fnExactTurnPhasesSpec)

/-- ITS FALSE NEIGHBOUR: 'it returns false'. Refute it at one input. -/
def fnExactTurnPhasesWrong : ChangeSpec := { name := "fnExactTurnPhases", fn := fun _ => fun
  | [d1, d2] => { results := [.lit (.bool false)], args := [d1, d2] }
  | _ => none }
def FnExactTurnPhasesWrongFalsely : Prop := fnExactTurnPhasesRow.holds Try.pinned (OpenSpec.ofChange fnExactTurnPhasesWrong)

/-- 'laws.FnExactForestOf': WHATEVER THE INPUT: true; the input reads as it did. -/
def fnExactForestOfSpec : ChangeSpec := { name := "fnExactForestOf", fn := fun _ => fun
  | [d] => { results := [.lit (.bool true)], args := [d] }
  | _ => none }
def fnExactForestOfRow : OpenClaim := { program := "ytknonamjhdlmlaa", sum := "20f80eb70656e1ea42a3d35a8086a8c0b1d747f5d09cc7e0e4fc05b96b8827e9", func := "loop.example/g01005/laws.FnExactForestOf", spec := "fnExactForestOf", apart := false }
def FnExactForestOfSaid : Prop := fnExactForestOfRow.holds Try.pinned (OpenSpec.ofChange fnExactForestOfSpec)

/-- ITS FALSE NEIGHBOUR: 'it returns false'. Refute it at one input. -/
def fnExactForestOfWrong : ChangeSpec := { name := "fnExactForestOf", fn := fun _ => fun
  | [d] => { results := [.lit (.bool false)], args := [d] }
  | _ => none }
def FnExactForestOfWrongFalsely : Prop := fnExactForestOfRow.holds Try.pinned (OpenSpec.ofChange fnExactForestOfWrong)

/-- 'laws.FnExactPotentialOf': WHATEVER THE INPUT: true; the input reads as it did. -/
def fnExactPotentialOfSpec : ChangeSpec := { name := "fnExactPotentialOf", fn := fun _ => fun
  | [d] => { results := [.lit (.bool true)], args := [d] }
  | _ => none }
def fnExactPotentialOfRow : OpenClaim := { program := "ytknonamjhdlmlaa", sum := "20f80eb70656e1ea42a3d35a8086a8c0b1d747f5d09cc7e0e4fc05b96b8827e9", func := "loop.example/g01005/laws.FnExactPotentialOf", spec := "fnExactPotentialOf", unfollowed := true, recurses := true, apart := false }
def FnExactPotentialOfSaid : Prop := fnExactPotentialOfRow.holds Try.pinned (OpenSpec.ofChange fnExactPotentialOfSpec)

/-- ITS FALSE NEIGHBOUR: 'it returns false'. Refute it at one input. -/
def fnExactPotentialOfWrong : ChangeSpec := { name := "fnExactPotentialOf", fn := fun _ => fun
  | [d] => { results := [.lit (.bool false)], args := [d] }
  | _ => none }
def FnExactPotentialOfWrongFalsely : Prop := fnExactPotentialOfRow.holds Try.pinned (OpenSpec.ofChange fnExactPotentialOfWrong)

/-- 'laws.FnExactBadLoop': WHATEVER THE INPUT: true; the input reads as it did. -/
def fnExactBadLoopSpec : ChangeSpec := { name := "fnExactBadLoop", fn := fun _ => fun
  | [d] => { results := [.lit (.bool true)], args := [d] }
  | _ => none }
def fnExactBadLoopRow : OpenClaim := { program := "ytknonamjhdlmlaa", sum := "20f80eb70656e1ea42a3d35a8086a8c0b1d747f5d09cc7e0e4fc05b96b8827e9", func := "loop.example/g01005/laws.FnExactBadLoop", spec := "fnExactBadLoop", unfollowed := true, recurses := true, apart := false }
def FnExactBadLoopSaid : Prop := fnExactBadLoopRow.holds Try.pinned (OpenSpec.ofChange fnExactBadLoopSpec)

/-- ITS FALSE NEIGHBOUR: 'it returns false'. Refute it at one input. -/
def fnExactBadLoopWrong : ChangeSpec := { name := "fnExactBadLoop", fn := fun _ => fun
  | [d] => { results := [.lit (.bool false)], args := [d] }
  | _ => none }
def FnExactBadLoopWrongFalsely : Prop := fnExactBadLoopRow.holds Try.pinned (OpenSpec.ofChange fnExactBadLoopWrong)

/-- 'laws.FnExactLeastDrops': WHATEVER THE INPUT: true; the input reads as it did. -/
def fnExactLeastDropsSpec : ChangeSpec := { name := "fnExactLeastDrops", fn := fun _ => fun
  | [d1, d2] => { results := [.lit (.bool true)], args := [d1, d2] }
  | _ => none }
def fnExactLeastDropsRow : OpenClaim := { program := "ytknonamjhdlmlaa", sum := "20f80eb70656e1ea42a3d35a8086a8c0b1d747f5d09cc7e0e4fc05b96b8827e9", func := "loop.example/g01005/laws.FnExactLeastDrops", spec := "fnExactLeastDrops", unfollowed := true, recurses := true, apart := false }
def FnExactLeastDropsSaid : Prop := fnExactLeastDropsRow.holds Try.pinned (OpenSpec.ofChange fnExactLeastDropsSpec)

/-- ITS FALSE NEIGHBOUR: 'it returns false'. Refute it at one input. -/
def fnExactLeastDropsWrong : ChangeSpec := { name := "fnExactLeastDrops", fn := fun _ => fun
  | [d1, d2] => { results := [.lit (.bool false)], args := [d1, d2] }
  | _ => none }
def FnExactLeastDropsWrongFalsely : Prop := fnExactLeastDropsRow.holds Try.pinned (OpenSpec.ofChange fnExactLeastDropsWrong)

/-- 'laws.FnHolonomy': WHATEVER THE INPUT: true; the input reads as it did. -/
def fnHolonomySpec : ChangeSpec := { name := "fnHolonomy", fn := fun _ => fun
  | [d] => { results := [.lit (.bool true)], args := [d] }
  | _ => none }
def fnHolonomyRow : OpenClaim := { program := "ytknonamjhdlmlaa", sum := "20f80eb70656e1ea42a3d35a8086a8c0b1d747f5d09cc7e0e4fc05b96b8827e9", func := "loop.example/g01005/laws.FnHolonomy", spec := "fnHolonomy", unfollowed := true, recurses := true, apart := false }
def FnHolonomySaid : Prop := fnHolonomyRow.holds Try.pinned (OpenSpec.ofChange fnHolonomySpec)

/-- ITS FALSE NEIGHBOUR: 'it returns false'. Refute it at one input. -/
def fnHolonomyWrong : ChangeSpec := { name := "fnHolonomy", fn := fun _ => fun
  | [d] => { results := [.lit (.bool false)], args := [d] }
  | _ => none }
def FnHolonomyWrongFalsely : Prop := fnHolonomyRow.holds Try.pinned (OpenSpec.ofChange fnHolonomyWrong)

/- THE SECOND FORM. 'bulk': how many values and letters a reading holds, each counted each time it is reached (what is shared counts as often as it is met; a slice's spare places count too). A statement '..UptoSaid' is the law's where the arguments, and the package variables that the reading takes, are together of bulk at most 1048576: NARROWER than '..Said'. Prove '..Said' where nothing that the law and all that it calls make is longer than what came in: it says more and counts as full. Else prove '..UptoSaid'. A law counts once. -/
mutual
def uptoBulk {H : Type} : DataW H → Nat
  | .lit (.string bytes) => bytes.length + 1
  | .lit _ => 1
  | .nil => 1
  | .ptr d => uptoBulk d + 1
  | .slice elems spare => uptoBulkAll elems + uptoBulkAll spare + 1
  | .agg parts => uptoBulkAll parts + 1
  | .iface _ d => uptoBulk d + 1
  | .map entries => uptoBulkEntries entries + 1
  | .held _ => 1
def uptoBulkAll {H : Type} : List (DataW H) → Nat
  | [] => 0
  | d :: r => uptoBulk d + uptoBulkAll r
def uptoBulkEntries {H : Type} : List (Lit × DataW H) → Nat
  | [] => 0
  | x :: r => uptoBulkEntry x + uptoBulkEntries r
def uptoBulkEntry {H : Type} : Lit × DataW H → Nat
  | (.string bytes, d) => bytes.length + uptoBulk d + 1
  | (_, d) => uptoBulk d + 1
 end
def uptoSmall : (H : Type) → List (DataW H) → Bool := fun _ ds => decide (uptoBulkAll ds ≤ 1048576)
def OpenSpec.upto (s : _root_.Go.ChangeSpec) : _root_.Go.OpenSpec := { _root_.Go.OpenSpec.ofChange s with cond := some uptoSmall }

/-- 'laws.FnExactSamePhases', WHERE WHAT IT READS IS OF BULK AT MOST 1048576: true; the input reads as it did. -/
def fnExactSamePhasesUptoRow : OpenClaim := { program := "ytknonamjhdlmlaa", sum := "20f80eb70656e1ea42a3d35a8086a8c0b1d747f5d09cc7e0e4fc05b96b8827e9", func := "loop.example/g01005/laws.FnExactSamePhases", spec := "fnExactSamePhases", apart := false, narrowed := true }
def FnExactSamePhasesUptoSaid : Prop := fnExactSamePhasesUptoRow.holds Try.pinned (OpenSpec.upto fnExactSamePhasesSpec)

/-- 'laws.FnExactValidPhases', WHERE WHAT IT READS IS OF BULK AT MOST 1048576: true; the input reads as it did. -/
def fnExactValidPhasesUptoRow : OpenClaim := { program := "ytknonamjhdlmlaa", sum := "20f80eb70656e1ea42a3d35a8086a8c0b1d747f5d09cc7e0e4fc05b96b8827e9", func := "loop.example/g01005/laws.FnExactValidPhases", spec := "fnExactValidPhases", apart := false, narrowed := true }
def FnExactValidPhasesUptoSaid : Prop := fnExactValidPhasesUptoRow.holds Try.pinned (OpenSpec.upto fnExactValidPhasesSpec)

/-- 'laws.FnExactHolonomyOf', WHERE WHAT IT READS IS OF BULK AT MOST 1048576: true; the input reads as it did. -/
def fnExactHolonomyOfUptoRow : OpenClaim := { program := "ytknonamjhdlmlaa", sum := "20f80eb70656e1ea42a3d35a8086a8c0b1d747f5d09cc7e0e4fc05b96b8827e9", func := "loop.example/g01005/laws.FnExactHolonomyOf", spec := "fnExactHolonomyOf", unfollowed := true, recurses := true, apart := false, narrowed := true }
def FnExactHolonomyOfUptoSaid : Prop := fnExactHolonomyOfUptoRow.holds Try.pinned (OpenSpec.upto fnExactHolonomyOfSpec)

/-- 'laws.FnExactIsPotential', WHERE WHAT IT READS IS OF BULK AT MOST 1048576: true; the input reads as it did. -/
def fnExactIsPotentialUptoRow : OpenClaim := { program := "ytknonamjhdlmlaa", sum := "20f80eb70656e1ea42a3d35a8086a8c0b1d747f5d09cc7e0e4fc05b96b8827e9", func := "loop.example/g01005/laws.FnExactIsPotential", spec := "fnExactIsPotential", unfollowed := true, recurses := true, apart := false, narrowed := true }
def FnExactIsPotentialUptoSaid : Prop := fnExactIsPotentialUptoRow.holds Try.pinned (OpenSpec.upto fnExactIsPotentialSpec)

/-- 'laws.FnExactErrorsOf', WHERE WHAT IT READS IS OF BULK AT MOST 1048576: true; the input reads as it did. -/
def fnExactErrorsOfUptoRow : OpenClaim := { program := "ytknonamjhdlmlaa", sum := "20f80eb70656e1ea42a3d35a8086a8c0b1d747f5d09cc7e0e4fc05b96b8827e9", func := "loop.example/g01005/laws.FnExactErrorsOf", spec := "fnExactErrorsOf", unfollowed := true, recurses := true, apart := false, narrowed := true }
def FnExactErrorsOfUptoSaid : Prop := fnExactErrorsOfUptoRow.holds Try.pinned (OpenSpec.upto fnExactErrorsOfSpec)

/-- 'laws.FnExactTurnPhases', WHERE WHAT IT READS IS OF BULK AT MOST 1048576: true; the input reads as it did. -/
def fnExactTurnPhasesUptoRow : OpenClaim := { program := "ytknonamjhdlmlaa", sum := "20f80eb70656e1ea42a3d35a8086a8c0b1d747f5d09cc7e0e4fc05b96b8827e9", func := "loop.example/g01005/laws.FnExactTurnPhases", spec := "fnExactTurnPhases", unfollowed := true, recurses := true, apart := false, narrowed := true }
def FnExactTurnPhasesUptoSaid : Prop := fnExactTurnPhasesUptoRow.holds Try.pinned (OpenSpec.upto fnExactTurnPhasesSpec)

/-- 'laws.FnExactForestOf', WHERE WHAT IT READS IS OF BULK AT MOST 1048576: true; the input reads as it did. -/
def fnExactForestOfUptoRow : OpenClaim := { program := "ytknonamjhdlmlaa", sum := "20f80eb70656e1ea42a3d35a8086a8c0b1d747f5d09cc7e0e4fc05b96b8827e9", func := "loop.example/g01005/laws.FnExactForestOf", spec := "fnExactForestOf", apart := false, narrowed := true }
def FnExactForestOfUptoSaid : Prop := fnExactForestOfUptoRow.holds Try.pinned (OpenSpec.upto fnExactForestOfSpec)

/-- 'laws.FnExactPotentialOf', WHERE WHAT IT READS IS OF BULK AT MOST 1048576: true; the input reads as it did. -/
def fnExactPotentialOfUptoRow : OpenClaim := { program := "ytknonamjhdlmlaa", sum := "20f80eb70656e1ea42a3d35a8086a8c0b1d747f5d09cc7e0e4fc05b96b8827e9", func := "loop.example/g01005/laws.FnExactPotentialOf", spec := "fnExactPotentialOf", unfollowed := true, recurses := true, apart := false, narrowed := true }
def FnExactPotentialOfUptoSaid : Prop := fnExactPotentialOfUptoRow.holds Try.pinned (OpenSpec.upto fnExactPotentialOfSpec)

/-- 'laws.FnExactBadLoop', WHERE WHAT IT READS IS OF BULK AT MOST 1048576: true; the input reads as it did. -/
def fnExactBadLoopUptoRow : OpenClaim := { program := "ytknonamjhdlmlaa", sum := "20f80eb70656e1ea42a3d35a8086a8c0b1d747f5d09cc7e0e4fc05b96b8827e9", func := "loop.example/g01005/laws.FnExactBadLoop", spec := "fnExactBadLoop", unfollowed := true, recurses := true, apart := false, narrowed := true }
def FnExactBadLoopUptoSaid : Prop := fnExactBadLoopUptoRow.holds Try.pinned (OpenSpec.upto fnExactBadLoopSpec)

/-- 'laws.FnExactLeastDrops', WHERE WHAT IT READS IS OF BULK AT MOST 1048576: true; the input reads as it did. -/
def fnExactLeastDropsUptoRow : OpenClaim := { program := "ytknonamjhdlmlaa", sum := "20f80eb70656e1ea42a3d35a8086a8c0b1d747f5d09cc7e0e4fc05b96b8827e9", func := "loop.example/g01005/laws.FnExactLeastDrops", spec := "fnExactLeastDrops", unfollowed := true, recurses := true, apart := false, narrowed := true }
def FnExactLeastDropsUptoSaid : Prop := fnExactLeastDropsUptoRow.holds Try.pinned (OpenSpec.upto fnExactLeastDropsSpec)

/-- 'laws.FnHolonomy', WHERE WHAT IT READS IS OF BULK AT MOST 1048576: true; the input reads as it did. -/
def fnHolonomyUptoRow : OpenClaim := { program := "ytknonamjhdlmlaa", sum := "20f80eb70656e1ea42a3d35a8086a8c0b1d747f5d09cc7e0e4fc05b96b8827e9", func := "loop.example/g01005/laws.FnHolonomy", spec := "fnHolonomy", unfollowed := true, recurses := true, apart := false, narrowed := true }
def FnHolonomyUptoSaid : Prop := fnHolonomyUptoRow.holds Try.pinned (OpenSpec.upto fnHolonomySpec)

end Rows
end Go.Proofs.Ytknonamjhdlmlaa
