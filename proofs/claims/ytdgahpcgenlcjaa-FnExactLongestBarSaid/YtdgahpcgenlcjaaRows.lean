/-
  No cell of these rows narrows 'for every input' (looked for: loops, veiled, ifaces, maps, wideKeys, modest, calm, conditions, laid).
  DERIVED. THE GIVEN ROWS OF THIS SEAT. 6 by the template 'for every input the law returns true; each argument reads behind the call as it read before'; 0 by the template 'total and deterministic' (their statements: YtdgahpcgenlcjaaTotals.lean).
  GIVEN WITH THE SEED: the statements are not yours to turn. If you find one false, say at which input.
  Laid BY PROGRAM, IN A SANDBOX (cutbox-rows.mjs): the forced cells as the released guide's own fill.sh prints them over the translation 46496884d32bd813… (all of the seat's roots in one cut). By AI agents, Wed Nov 11 2026. No macro, syntax, notation, axiom, sorry.
-/
import Derived.Test.YtdgahpcgenlcjaaChecked
import GoSem.Claim
import GoSem.ClaimJoined
import GoSem.ClaimMapViews
import Derived.JoinedTies
import Derived.KernelRfl
namespace Go.Proofs.Ytdgahpcgenlcjaa
/- THE CELL 'sum', in the pinned program and in every row, IS THE sha256 OF THE DUMP (.gsa) THAT YtdgahpcgenlcjaaProg.lean LOADS. Nothing in Lean hashes anything: it is a label: what it is worth is what the hold of that sum in a sandbox is worth. -/
noncomputable def Try.pinned : Pinned := { name := "ytdgahpcgenlcjaa", sum := "46496884d32bd8131be2179cd1cd99e662934ccac5a07e6b3e921b42a1a63817", checked := Try.checked }
namespace Rows
def none {H : Type} : Left H := { results := [], args := [] }

/-- 'laws.FnExactValidBars': WHATEVER THE INPUT: true; the input reads as it did. -/
def fnExactValidBarsSpec : ChangeSpec := { name := "fnExactValidBars", fn := fun _ => fun
  | [d] => { results := [.lit (.bool true)], args := [d] }
  | _ => none }
def fnExactValidBarsRow : OpenClaim := { program := "ytdgahpcgenlcjaa", sum := "46496884d32bd8131be2179cd1cd99e662934ccac5a07e6b3e921b42a1a63817", func := "loop.example/g01005/laws.FnExactValidBars", spec := "fnExactValidBars", apart := false }
def FnExactValidBarsSaid : Prop := fnExactValidBarsRow.holds Try.pinned (OpenSpec.ofChange fnExactValidBarsSpec)

/-- ITS FALSE NEIGHBOUR: 'it returns false'. Refute it at one input. -/
def fnExactValidBarsWrong : ChangeSpec := { name := "fnExactValidBars", fn := fun _ => fun
  | [d] => { results := [.lit (.bool false)], args := [d] }
  | _ => none }
def FnExactValidBarsWrongFalsely : Prop := fnExactValidBarsRow.holds Try.pinned (OpenSpec.ofChange fnExactValidBarsWrong)

/-- 'laws.FnExactBarsAt': WHATEVER THE INPUT: true; the input reads as it did. -/
def fnExactBarsAtSpec : ChangeSpec := { name := "fnExactBarsAt", fn := fun _ => fun
  | [d1, d2, d3] => { results := [.lit (.bool true)], args := [d1, d2, d3] }
  | _ => none }
def fnExactBarsAtRow : OpenClaim := { program := "ytdgahpcgenlcjaa", sum := "46496884d32bd8131be2179cd1cd99e662934ccac5a07e6b3e921b42a1a63817", func := "loop.example/g01005/laws.FnExactBarsAt", spec := "fnExactBarsAt", unfollowed := true, recurses := true, apart := false }
def FnExactBarsAtSaid : Prop := fnExactBarsAtRow.holds Try.pinned (OpenSpec.ofChange fnExactBarsAtSpec)

/-- ITS FALSE NEIGHBOUR: 'it returns false'. Refute it at one input. -/
def fnExactBarsAtWrong : ChangeSpec := { name := "fnExactBarsAt", fn := fun _ => fun
  | [d1, d2, d3] => { results := [.lit (.bool false)], args := [d1, d2, d3] }
  | _ => none }
def FnExactBarsAtWrongFalsely : Prop := fnExactBarsAtRow.holds Try.pinned (OpenSpec.ofChange fnExactBarsAtWrong)

/-- 'laws.FnExactLongestBar': WHATEVER THE INPUT: true; the input reads as it did. -/
def fnExactLongestBarSpec : ChangeSpec := { name := "fnExactLongestBar", fn := fun _ => fun
  | [d1, d2] => { results := [.lit (.bool true)], args := [d1, d2] }
  | _ => none }
def fnExactLongestBarRow : OpenClaim := { program := "ytdgahpcgenlcjaa", sum := "46496884d32bd8131be2179cd1cd99e662934ccac5a07e6b3e921b42a1a63817", func := "loop.example/g01005/laws.FnExactLongestBar", spec := "fnExactLongestBar", unfollowed := true, recurses := true, apart := false }
def FnExactLongestBarSaid : Prop := fnExactLongestBarRow.holds Try.pinned (OpenSpec.ofChange fnExactLongestBarSpec)

/-- ITS FALSE NEIGHBOUR: 'it returns false'. Refute it at one input. -/
def fnExactLongestBarWrong : ChangeSpec := { name := "fnExactLongestBar", fn := fun _ => fun
  | [d1, d2] => { results := [.lit (.bool false)], args := [d1, d2] }
  | _ => none }
def FnExactLongestBarWrongFalsely : Prop := fnExactLongestBarRow.holds Try.pinned (OpenSpec.ofChange fnExactLongestBarWrong)

/-- 'laws.FnExactLongBars': WHATEVER THE INPUT: true; the input reads as it did. -/
def fnExactLongBarsSpec : ChangeSpec := { name := "fnExactLongBars", fn := fun _ => fun
  | [d1, d2] => { results := [.lit (.bool true)], args := [d1, d2] }
  | _ => none }
def fnExactLongBarsRow : OpenClaim := { program := "ytdgahpcgenlcjaa", sum := "46496884d32bd8131be2179cd1cd99e662934ccac5a07e6b3e921b42a1a63817", func := "loop.example/g01005/laws.FnExactLongBars", spec := "fnExactLongBars", unfollowed := true, recurses := true, apart := false }
def FnExactLongBarsSaid : Prop := fnExactLongBarsRow.holds Try.pinned (OpenSpec.ofChange fnExactLongBarsSpec)

/-- ITS FALSE NEIGHBOUR: 'it returns false'. Refute it at one input. -/
def fnExactLongBarsWrong : ChangeSpec := { name := "fnExactLongBars", fn := fun _ => fun
  | [d1, d2] => { results := [.lit (.bool false)], args := [d1, d2] }
  | _ => none }
def FnExactLongBarsWrongFalsely : Prop := fnExactLongBarsRow.holds Try.pinned (OpenSpec.ofChange fnExactLongBarsWrong)

/-- 'laws.FnExactMergeBars': WHATEVER THE INPUT: true; the input reads as it did. -/
def fnExactMergeBarsSpec : ChangeSpec := { name := "fnExactMergeBars", fn := fun _ => fun
  | [d1, d2] => { results := [.lit (.bool true)], args := [d1, d2] }
  | _ => none }
def fnExactMergeBarsRow : OpenClaim := { program := "ytdgahpcgenlcjaa", sum := "46496884d32bd8131be2179cd1cd99e662934ccac5a07e6b3e921b42a1a63817", func := "loop.example/g01005/laws.FnExactMergeBars", spec := "fnExactMergeBars", unfollowed := true, recurses := true, apart := false }
def FnExactMergeBarsSaid : Prop := fnExactMergeBarsRow.holds Try.pinned (OpenSpec.ofChange fnExactMergeBarsSpec)

/-- ITS FALSE NEIGHBOUR: 'it returns false'. Refute it at one input. -/
def fnExactMergeBarsWrong : ChangeSpec := { name := "fnExactMergeBars", fn := fun _ => fun
  | [d1, d2] => { results := [.lit (.bool false)], args := [d1, d2] }
  | _ => none }
def FnExactMergeBarsWrongFalsely : Prop := fnExactMergeBarsRow.holds Try.pinned (OpenSpec.ofChange fnExactMergeBarsWrong)

/-- 'laws.FnExactDistanceOf': WHATEVER THE INPUT: true; the input reads as it did. -/
def fnExactDistanceOfSpec : ChangeSpec := { name := "fnExactDistanceOf", fn := fun _ => fun
  | [d1, d2, d3] => { results := [.lit (.bool true)], args := [d1, d2, d3] }
  | _ => none }
def fnExactDistanceOfRow : OpenClaim := { program := "ytdgahpcgenlcjaa", sum := "46496884d32bd8131be2179cd1cd99e662934ccac5a07e6b3e921b42a1a63817", func := "loop.example/g01005/laws.FnExactDistanceOf", spec := "fnExactDistanceOf", unfollowed := true, recurses := true, apart := false }
def FnExactDistanceOfSaid : Prop := fnExactDistanceOfRow.holds Try.pinned (OpenSpec.ofChange fnExactDistanceOfSpec)

/-- ITS FALSE NEIGHBOUR: 'it returns false'. Refute it at one input. -/
def fnExactDistanceOfWrong : ChangeSpec := { name := "fnExactDistanceOf", fn := fun _ => fun
  | [d1, d2, d3] => { results := [.lit (.bool false)], args := [d1, d2, d3] }
  | _ => none }
def FnExactDistanceOfWrongFalsely : Prop := fnExactDistanceOfRow.holds Try.pinned (OpenSpec.ofChange fnExactDistanceOfWrong)

/- THE SECOND FORM. 'bulk': how many values and letters a reading holds, each counted each time it is reached (what is shared counts as often as it is met; a slice's spare places count too). A statement '..UptoSaid' is the law's where the arguments, and the package variables that the reading takes, are together of bulk at most 1048576: NARROWER than '..Said'. Prove '..Said' where nothing that the law and all that it calls make is longer than what came in: it says more and counts as full. Else prove '..UptoSaid'. A law counts once. -/
mutual
def uptoBulk {H : Type} : DataW H → Nat
  | .lit (.string bytes) => bytes.length + 1
  | .lit _ => 1
  | .nil => 1
  | .ptr d => uptoBulk d + 1
  | .slice elems spare => uptoBulkAll elems + uptoBulkAll spare + 1
  | .agg parts => uptoBulkAll parts + 1
  | .iface _ d => uptoBulk d + 1
  | .map entries => uptoBulkEntries entries + 1
  | .held _ => 1
def uptoBulkAll {H : Type} : List (DataW H) → Nat
  | [] => 0
  | d :: r => uptoBulk d + uptoBulkAll r
def uptoBulkEntries {H : Type} : List (Lit × DataW H) → Nat
  | [] => 0
  | x :: r => uptoBulkEntry x + uptoBulkEntries r
def uptoBulkEntry {H : Type} : Lit × DataW H → Nat
  | (.string bytes, d) => bytes.length + uptoBulk d + 1
  | (_, d) => uptoBulk d + 1
 end
def uptoSmall : (H : Type) → List (DataW H) → Bool := fun _ ds => decide (uptoBulkAll ds ≤ 1048576)
def OpenSpec.upto (s : _root_.Go.ChangeSpec) : _root_.Go.OpenSpec := { _root_.Go.OpenSpec.ofChange s with cond := some uptoSmall }

/-- 'laws.FnExactValidBars', WHERE WHAT IT READS IS OF BULK AT MOST 1048576: true; the input reads as it did. -/
def fnExactValidBarsUptoRow : OpenClaim := { program := "ytdgahpcgenlcjaa", sum := "46496884d32bd8131be2179cd1cd99e662934ccac5a07e6b3e921b42a1a63817", func := "loop.example/g01005/laws.FnExactValidBars", spec := "fnExactValidBars", apart := false, narrowed := true }
def FnExactValidBarsUptoSaid : Prop := fnExactValidBarsUptoRow.holds Try.pinned (OpenSpec.upto fnExactValidBarsSpec)

/-- 'laws.FnExactBarsAt', WHERE WHAT IT READS IS OF BULK AT MOST 1048576: true; the input reads as it did. -/
def fnExactBarsAtUptoRow : OpenClaim := { program := "ytdgahpcgenlcjaa", sum := "46496884d32bd8131be2179cd1cd99e662934ccac5a07e6b3e921b42a1a63817", func := "loop.example/g01005/laws.FnExactBarsAt", spec := "fnExactBarsAt", unfollowed := true, recurses := true, apart := false, narrowed := true }
def FnExactBarsAtUptoSaid : Prop := fnExactBarsAtUptoRow.holds Try.pinned (OpenSpec.upto fnExactBarsAtSpec)

/-- 'laws.FnExactLongestBar', WHERE WHAT IT READS IS OF BULK AT MOST 1048576: true; the input reads as it did. -/
def fnExactLongestBarUptoRow : OpenClaim := { program := "ytdgahpcgenlcjaa", sum := "46496884d32bd8131be2179cd1cd99e662934ccac5a07e6b3e921b42a1a63817", func := "loop.example/g01005/laws.FnExactLongestBar", spec := "fnExactLongestBar", unfollowed := true, recurses := true, apart := false, narrowed := true }
def FnExactLongestBarUptoSaid : Prop := fnExactLongestBarUptoRow.holds Try.pinned (OpenSpec.upto fnExactLongestBarSpec)

/-- 'laws.FnExactLongBars', WHERE WHAT IT READS IS OF BULK AT MOST 1048576: true; the input reads as it did. -/
def fnExactLongBarsUptoRow : OpenClaim := { program := "ytdgahpcgenlcjaa", sum := "46496884d32bd8131be2179cd1cd99e662934ccac5a07e6b3e921b42a1a63817", func := "loop.example/g01005/laws.FnExactLongBars", spec := "fnExactLongBars", unfollowed := true, recurses := true, apart := false, narrowed := true }
def FnExactLongBarsUptoSaid : Prop := fnExactLongBarsUptoRow.holds Try.pinned (OpenSpec.upto fnExactLongBarsSpec)

/-- 'laws.FnExactMergeBars', WHERE WHAT IT READS IS OF BULK AT MOST 1048576: true; the input reads as it did. -/
def fnExactMergeBarsUptoRow : OpenClaim := { program := "ytdgahpcgenlcjaa", sum := "46496884d32bd8131be2179cd1cd99e662934ccac5a07e6b3e921b42a1a63817", func := "loop.example/g01005/laws.FnExactMergeBars", spec := "fnExactMergeBars", unfollowed := true, recurses := true, apart := false, narrowed := true }
def FnExactMergeBarsUptoSaid : Prop := fnExactMergeBarsUptoRow.holds Try.pinned (OpenSpec.upto fnExactMergeBarsSpec)

/-- 'laws.FnExactDistanceOf', WHERE WHAT IT READS IS OF BULK AT MOST 1048576: true; the input reads as it did. -/
def fnExactDistanceOfUptoRow : OpenClaim := { program := "ytdgahpcgenlcjaa", sum := "46496884d32bd8131be2179cd1cd99e662934ccac5a07e6b3e921b42a1a63817", func := "loop.example/g01005/laws.FnExactDistanceOf", spec := "fnExactDistanceOf", unfollowed := true, recurses := true, apart := false, narrowed := true }
def FnExactDistanceOfUptoSaid : Prop := fnExactDistanceOfUptoRow.holds Try.pinned (OpenSpec.upto fnExactDistanceOfSpec)

end Rows
end Go.Proofs.Ytdgahpcgenlcjaa
