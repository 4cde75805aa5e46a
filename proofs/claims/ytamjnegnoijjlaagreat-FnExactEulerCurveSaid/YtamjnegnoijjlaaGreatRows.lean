/-
  No cell of these rows narrows 'for every input' (looked for: loops, veiled, ifaces, maps, wideKeys, modest, calm, conditions, laid).
  DERIVED. THE GIVEN ROWS OF THIS SEAT. 4 by the template 'for every input the law returns true; each argument reads behind the call as it read before'; 0 by the template 'total and deterministic' (their statements: YtamjnegnoijjlaaGreatTotals.lean).
  GIVEN WITH THE SEED: the statements are not yours to turn. If you find one false, say at which input.
  Laid BY PROGRAM, IN A SANDBOX (cutbox-rows.mjs): the forced cells as the released guide's own fill.sh prints them over the translation fde1d37b4852513a… (all of the seat's roots in one cut). By AI agents, Wed Nov 11 2026. No macro, syntax, notation, axiom, sorry.
-/
import Derived.Test.YtamjnegnoijjlaaGreatChecked
import GoSem.Claim
import GoSem.ClaimJoined
import GoSem.ClaimMapViews
import Derived.JoinedTies
import Derived.KernelRfl
namespace Go.Proofs.YtamjnegnoijjlaaGreat
/- THE CELL 'sum', in the pinned program and in every row, IS THE sha256 OF THE DUMP (.gsa) THAT YtamjnegnoijjlaaGreatProg.lean LOADS. Nothing in Lean hashes anything: it is a label: what it is worth is what the hold of that sum in a sandbox is worth. -/
noncomputable def Tryz.pinned : Pinned := { name := "ytamjnegnoijjlaagreat", sum := "fde1d37b4852513ab3d739599a5f5bde6f6c56d4012f10af333fe750db96fd69", checked := Tryz.checked }
namespace Rows
def none {H : Type} : Left H := { results := [], args := [] }

/-- 'laws.FnExactRaiseTime': WHATEVER THE INPUT: true; the input reads as it did. -/
def fnExactRaiseTimeSpec : ChangeSpec := { name := "fnExactRaiseTime", fn := fun _ => fun
  | [d1, d2, d3] => { results := [.lit (.bool true)], args := [d1, d2, d3] }
  | _ => none }
def fnExactRaiseTimeRow : OpenClaim := { program := "ytamjnegnoijjlaagreat", sum := "fde1d37b4852513ab3d739599a5f5bde6f6c56d4012f10af333fe750db96fd69", func := "loop.example/g01005/laws.FnExactRaiseTime", spec := "fnExactRaiseTime", unfollowed := true, recurses := true, apart := false }
def FnExactRaiseTimeSaid : Prop := fnExactRaiseTimeRow.holds Tryz.pinned (OpenSpec.ofChange fnExactRaiseTimeSpec)

/-- ITS FALSE NEIGHBOUR: 'it returns false'. Refute it at one input. -/
def fnExactRaiseTimeWrong : ChangeSpec := { name := "fnExactRaiseTime", fn := fun _ => fun
  | [d1, d2, d3] => { results := [.lit (.bool false)], args := [d1, d2, d3] }
  | _ => none }
def FnExactRaiseTimeWrongFalsely : Prop := fnExactRaiseTimeRow.holds Tryz.pinned (OpenSpec.ofChange fnExactRaiseTimeWrong)

/-- 'laws.FnExactLaterOf': WHATEVER THE INPUT: true; the input reads as it did. -/
def fnExactLaterOfSpec : ChangeSpec := { name := "fnExactLaterOf", fn := fun _ => fun
  | [d1, d2] => { results := [.lit (.bool true)], args := [d1, d2] }
  | _ => none }
def fnExactLaterOfRow : OpenClaim := { program := "ytamjnegnoijjlaagreat", sum := "fde1d37b4852513ab3d739599a5f5bde6f6c56d4012f10af333fe750db96fd69", func := "loop.example/g01005/laws.FnExactLaterOf", spec := "fnExactLaterOf", unfollowed := true, recurses := true, apart := false }
def FnExactLaterOfSaid : Prop := fnExactLaterOfRow.holds Tryz.pinned (OpenSpec.ofChange fnExactLaterOfSpec)

/-- ITS FALSE NEIGHBOUR: 'it returns false'. Refute it at one input. -/
def fnExactLaterOfWrong : ChangeSpec := { name := "fnExactLaterOf", fn := fun _ => fun
  | [d1, d2] => { results := [.lit (.bool false)], args := [d1, d2] }
  | _ => none }
def FnExactLaterOfWrongFalsely : Prop := fnExactLaterOfRow.holds Tryz.pinned (OpenSpec.ofChange fnExactLaterOfWrong)

/-- 'laws.FnExactEarlierOf': WHATEVER THE INPUT: true; the input reads as it did. -/
def fnExactEarlierOfSpec : ChangeSpec := { name := "fnExactEarlierOf", fn := fun _ => fun
  | [d1, d2] => { results := [.lit (.bool true)], args := [d1, d2] }
  | _ => none }
def fnExactEarlierOfRow : OpenClaim := { program := "ytamjnegnoijjlaagreat", sum := "fde1d37b4852513ab3d739599a5f5bde6f6c56d4012f10af333fe750db96fd69", func := "loop.example/g01005/laws.FnExactEarlierOf", spec := "fnExactEarlierOf", unfollowed := true, recurses := true, apart := false }
def FnExactEarlierOfSaid : Prop := fnExactEarlierOfRow.holds Tryz.pinned (OpenSpec.ofChange fnExactEarlierOfSpec)

/-- ITS FALSE NEIGHBOUR: 'it returns false'. Refute it at one input. -/
def fnExactEarlierOfWrong : ChangeSpec := { name := "fnExactEarlierOf", fn := fun _ => fun
  | [d1, d2] => { results := [.lit (.bool false)], args := [d1, d2] }
  | _ => none }
def FnExactEarlierOfWrongFalsely : Prop := fnExactEarlierOfRow.holds Tryz.pinned (OpenSpec.ofChange fnExactEarlierOfWrong)

/-- 'laws.FnExactEulerCurve': WHATEVER THE INPUT: true; the input reads as it did. -/
def fnExactEulerCurveSpec : ChangeSpec := { name := "fnExactEulerCurve", fn := fun _ => fun
  | [d] => { results := [.lit (.bool true)], args := [d] }
  | _ => none }
def fnExactEulerCurveRow : OpenClaim := { program := "ytamjnegnoijjlaagreat", sum := "fde1d37b4852513ab3d739599a5f5bde6f6c56d4012f10af333fe750db96fd69", func := "loop.example/g01005/laws.FnExactEulerCurve", spec := "fnExactEulerCurve", unfollowed := true, recurses := true, apart := false }
def FnExactEulerCurveSaid : Prop := fnExactEulerCurveRow.holds Tryz.pinned (OpenSpec.ofChange fnExactEulerCurveSpec)

/-- ITS FALSE NEIGHBOUR: 'it returns false'. Refute it at one input. -/
def fnExactEulerCurveWrong : ChangeSpec := { name := "fnExactEulerCurve", fn := fun _ => fun
  | [d] => { results := [.lit (.bool false)], args := [d] }
  | _ => none }
def FnExactEulerCurveWrongFalsely : Prop := fnExactEulerCurveRow.holds Tryz.pinned (OpenSpec.ofChange fnExactEulerCurveWrong)

/- THE SECOND FORM. 'bulk': how many values and letters a reading holds, each counted each time it is reached (what is shared counts as often as it is met; a slice's spare places count too). A statement '..UptoSaid' is the law's where the arguments, and the package variables that the reading takes, are together of bulk at most 1048576: NARROWER than '..Said'. Prove '..Said' where nothing that the law and all that it calls make is longer than what came in: it says more and counts as full. Else prove '..UptoSaid'. A law counts once. -/
mutual
def uptoBulk {H : Type} : DataW H → Nat
  | .lit (.string bytes) => bytes.length + 1
  | .lit _ => 1
  | .nil => 1
  | .ptr d => uptoBulk d + 1
  | .slice elems spare => uptoBulkAll elems + uptoBulkAll spare + 1
  | .agg parts => uptoBulkAll parts + 1
  | .iface _ d => uptoBulk d + 1
  | .map entries => uptoBulkEntries entries + 1
  | .held _ => 1
def uptoBulkAll {H : Type} : List (DataW H) → Nat
  | [] => 0
  | d :: r => uptoBulk d + uptoBulkAll r
def uptoBulkEntries {H : Type} : List (Lit × DataW H) → Nat
  | [] => 0
  | x :: r => uptoBulkEntry x + uptoBulkEntries r
def uptoBulkEntry {H : Type} : Lit × DataW H → Nat
  | (.string bytes, d) => bytes.length + uptoBulk d + 1
  | (_, d) => uptoBulk d + 1
 end
def uptoSmall : (H : Type) → List (DataW H) → Bool := fun _ ds => decide (uptoBulkAll ds ≤ 1048576)
def OpenSpec.upto (s : _root_.Go.ChangeSpec) : _root_.Go.OpenSpec := { _root_.Go.OpenSpec.ofChange s with cond := some uptoSmall }

/-- 'laws.FnExactRaiseTime', WHERE WHAT IT READS IS OF BULK AT MOST 1048576: true; the input reads as it did. -/
def fnExactRaiseTimeUptoRow : OpenClaim := { program := "ytamjnegnoijjlaagreat", sum := "fde1d37b4852513ab3d739599a5f5bde6f6c56d4012f10af333fe750db96fd69", func := "loop.example/g01005/laws.FnExactRaiseTime", spec := "fnExactRaiseTime", unfollowed := true, recurses := true, apart := false, narrowed := true }
def FnExactRaiseTimeUptoSaid : Prop := fnExactRaiseTimeUptoRow.holds Tryz.pinned (OpenSpec.upto fnExactRaiseTimeSpec)

/-- 'laws.FnExactLaterOf', WHERE WHAT IT READS IS OF BULK AT MOST 1048576: true; the input reads as it did. -/
def fnExactLaterOfUptoRow : OpenClaim := { program := "ytamjnegnoijjlaagreat", sum := "fde1d37b4852513ab3d739599a5f5bde6f6c56d4012f10af333fe750db96fd69", func := "loop.example/g01005/laws.FnExactLaterOf", spec := "fnExactLaterOf", unfollowed := true, recurses := true, apart := false, narrowed := true }
def FnExactLaterOfUptoSaid : Prop := fnExactLaterOfUptoRow.holds Tryz.pinned (OpenSpec.upto fnExactLaterOfSpec)

/-- 'laws.FnExactEarlierOf', WHERE WHAT IT READS IS OF BULK AT MOST 1048576: true; the input reads as it did. -/
def fnExactEarlierOfUptoRow : OpenClaim := { program := "ytamjnegnoijjlaagreat", sum := "fde1d37b4852513ab3d739599a5f5bde6f6c56d4012f10af333fe750db96fd69", func := "loop.example/g01005/laws.FnExactEarlierOf", spec := "fnExactEarlierOf", unfollowed := true, recurses := true, apart := false, narrowed := true }
def FnExactEarlierOfUptoSaid : Prop := fnExactEarlierOfUptoRow.holds Tryz.pinned (OpenSpec.upto fnExactEarlierOfSpec)

/-- 'laws.FnExactEulerCurve', WHERE WHAT IT READS IS OF BULK AT MOST 1048576: true; the input reads as it did. -/
def fnExactEulerCurveUptoRow : OpenClaim := { program := "ytamjnegnoijjlaagreat", sum := "fde1d37b4852513ab3d739599a5f5bde6f6c56d4012f10af333fe750db96fd69", func := "loop.example/g01005/laws.FnExactEulerCurve", spec := "fnExactEulerCurve", unfollowed := true, recurses := true, apart := false, narrowed := true }
def FnExactEulerCurveUptoSaid : Prop := fnExactEulerCurveUptoRow.holds Tryz.pinned (OpenSpec.upto fnExactEulerCurveSpec)

end Rows
end Go.Proofs.YtamjnegnoijjlaaGreat
