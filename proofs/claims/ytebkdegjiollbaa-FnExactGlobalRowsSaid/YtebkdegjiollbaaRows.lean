/-
  No cell of these rows narrows 'for every input' (looked for: loops, veiled, ifaces, maps, wideKeys, modest, calm, conditions, laid).
  DERIVED. THE GIVEN ROWS OF THIS SEAT. 5 by the template 'for every input the law returns true; each argument reads behind the call as it read before'; 0 by the template 'total and deterministic' (their statements: YtebkdegjiollbaaTotals.lean).
  GIVEN WITH THE SEED: the statements are not yours to turn. If you find one false, say at which input.
  Laid BY PROGRAM, IN A SANDBOX (cutbox-rows.mjs): the forced cells as the released guide's own fill.sh prints them over the translation 42e936042fbe1433… (all of the seat's roots in one cut). By AI agents, Wed Nov 11 2026. No macro, syntax, notation, axiom, sorry.
-/
import Derived.Test.YtebkdegjiollbaaChecked
import GoSem.Claim
import GoSem.ClaimJoined
import GoSem.ClaimMapViews
import Derived.JoinedTies
import Derived.KernelRfl
namespace Go.Proofs.Ytebkdegjiollbaa
/- THE CELL 'sum', in the pinned program and in every row, IS THE sha256 OF THE DUMP (.gsa) THAT YtebkdegjiollbaaProg.lean LOADS. Nothing in Lean hashes anything: it is a label: what it is worth is what the hold of that sum in a sandbox is worth. -/
noncomputable def Try.pinned : Pinned := { name := "ytebkdegjiollbaa", sum := "42e936042fbe1433d8a91597fe740905545b718b387ea584f2fc03f91fdaea04", checked := Try.checked }
namespace Rows
def none {H : Type} : Left H := { results := [], args := [] }

/-- 'laws.FnExactFewestRounds': WHATEVER THE INPUT: true; the input reads as it did. -/
def fnExactFewestRoundsSpec : ChangeSpec := { name := "fnExactFewestRounds", fn := fun _ => fun
  | [d1, d2] => { results := [.lit (.bool true)], args := [d1, d2] }
  | _ => none }
def fnExactFewestRoundsRow : OpenClaim := { program := "ytebkdegjiollbaa", sum := "42e936042fbe1433d8a91597fe740905545b718b387ea584f2fc03f91fdaea04", func := "loop.example/g01005/laws.FnExactFewestRounds", spec := "fnExactFewestRounds", unfollowed := true, recurses := true, apart := false }
def FnExactFewestRoundsSaid : Prop := fnExactFewestRoundsRow.holds Try.pinned (OpenSpec.ofChange fnExactFewestRoundsSpec)

/-- ITS FALSE NEIGHBOUR: 'it returns false'. Refute it at one input. -/
def fnExactFewestRoundsWrong : ChangeSpec := { name := "fnExactFewestRounds", fn := fun _ => fun
  | [d1, d2] => { results := [.lit (.bool false)], args := [d1, d2] }
  | _ => none }
def FnExactFewestRoundsWrongFalsely : Prop := fnExactFewestRoundsRow.holds Try.pinned (OpenSpec.ofChange fnExactFewestRoundsWrong)

/-- 'laws.FnExactCountMaps': WHATEVER THE INPUT: true; the input reads as it did. -/
def fnExactCountMapsSpec : ChangeSpec := { name := "fnExactCountMaps", fn := fun _ => fun
  | [d1, d2, d3] => { results := [.lit (.bool true)], args := [d1, d2, d3] }
  | _ => none }
def fnExactCountMapsRow : OpenClaim := { program := "ytebkdegjiollbaa", sum := "42e936042fbe1433d8a91597fe740905545b718b387ea584f2fc03f91fdaea04", func := "loop.example/g01005/laws.FnExactCountMaps", spec := "fnExactCountMaps", unfollowed := true, recurses := true, apart := false }
def FnExactCountMapsSaid : Prop := fnExactCountMapsRow.holds Try.pinned (OpenSpec.ofChange fnExactCountMapsSpec)

/-- ITS FALSE NEIGHBOUR: 'it returns false'. Refute it at one input. -/
def fnExactCountMapsWrong : ChangeSpec := { name := "fnExactCountMaps", fn := fun _ => fun
  | [d1, d2, d3] => { results := [.lit (.bool false)], args := [d1, d2, d3] }
  | _ => none }
def FnExactCountMapsWrongFalsely : Prop := fnExactCountMapsRow.holds Try.pinned (OpenSpec.ofChange fnExactCountMapsWrong)

/-- 'laws.FnExactGlobalRows': WHATEVER THE INPUT: true; the input reads as it did. -/
def fnExactGlobalRowsSpec : ChangeSpec := { name := "fnExactGlobalRows", fn := fun _ => fun
  | [d1, d2] => { results := [.lit (.bool true)], args := [d1, d2] }
  | _ => none }
def fnExactGlobalRowsRow : OpenClaim := { program := "ytebkdegjiollbaa", sum := "42e936042fbe1433d8a91597fe740905545b718b387ea584f2fc03f91fdaea04", func := "loop.example/g01005/laws.FnExactGlobalRows", spec := "fnExactGlobalRows", unfollowed := true, recurses := true, apart := false }
def FnExactGlobalRowsSaid : Prop := fnExactGlobalRowsRow.holds Try.pinned (OpenSpec.ofChange fnExactGlobalRowsSpec)

/-- ITS FALSE NEIGHBOUR: 'it returns false'. Refute it at one input. -/
def fnExactGlobalRowsWrong : ChangeSpec := { name := "fnExactGlobalRows", fn := fun _ => fun
  | [d1, d2] => { results := [.lit (.bool false)], args := [d1, d2] }
  | _ => none }
def FnExactGlobalRowsWrongFalsely : Prop := fnExactGlobalRowsRow.holds Try.pinned (OpenSpec.ofChange fnExactGlobalRowsWrong)

/-- 'laws.FnExactDistanceOf': WHATEVER THE INPUT: true; the input reads as it did. -/
def fnExactDistanceOfSpec : ChangeSpec := { name := "fnExactDistanceOf", fn := fun _ => fun
  | [d1, d2, d3] => { results := [.lit (.bool true)], args := [d1, d2, d3] }
  | _ => none }
def fnExactDistanceOfRow : OpenClaim := { program := "ytebkdegjiollbaa", sum := "42e936042fbe1433d8a91597fe740905545b718b387ea584f2fc03f91fdaea04", func := "loop.example/g01005/laws.FnExactDistanceOf", spec := "fnExactDistanceOf", unfollowed := true, recurses := true, apart := false }
def FnExactDistanceOfSaid : Prop := fnExactDistanceOfRow.holds Try.pinned (OpenSpec.ofChange fnExactDistanceOfSpec)

/-- ITS FALSE NEIGHBOUR: 'it returns false'. Refute it at one input. -/
def fnExactDistanceOfWrong : ChangeSpec := { name := "fnExactDistanceOf", fn := fun _ => fun
  | [d1, d2, d3] => { results := [.lit (.bool false)], args := [d1, d2, d3] }
  | _ => none }
def FnExactDistanceOfWrongFalsely : Prop := fnExactDistanceOfRow.holds Try.pinned (OpenSpec.ofChange fnExactDistanceOfWrong)

/-- 'laws.FnExactDistanceFiltration': WHATEVER THE INPUT: true; the input reads as it did. -/
def fnExactDistanceFiltrationSpec : ChangeSpec := { name := "fnExactDistanceFiltration", fn := fun _ => fun
  | [d1, d2] => { results := [.lit (.bool true)], args := [d1, d2] }
  | _ => none }
def fnExactDistanceFiltrationRow : OpenClaim := { program := "ytebkdegjiollbaa", sum := "42e936042fbe1433d8a91597fe740905545b718b387ea584f2fc03f91fdaea04", func := "loop.example/g01005/laws.FnExactDistanceFiltration", spec := "fnExactDistanceFiltration", recurses := true, apart := false }
def FnExactDistanceFiltrationSaid : Prop := fnExactDistanceFiltrationRow.holds Try.pinned (OpenSpec.ofChange fnExactDistanceFiltrationSpec)

/-- ITS FALSE NEIGHBOUR: 'it returns false'. Refute it at one input. -/
def fnExactDistanceFiltrationWrong : ChangeSpec := { name := "fnExactDistanceFiltration", fn := fun _ => fun
  | [d1, d2] => { results := [.lit (.bool false)], args := [d1, d2] }
  | _ => none }
def FnExactDistanceFiltrationWrongFalsely : Prop := fnExactDistanceFiltrationRow.holds Try.pinned (OpenSpec.ofChange fnExactDistanceFiltrationWrong)

/- THE SECOND FORM. 'bulk': how many values and letters a reading holds, each counted each time it is reached (what is shared counts as often as it is met; a slice's spare places count too). A statement '..UptoSaid' is the law's where the arguments, and the package variables that the reading takes, are together of bulk at most 1048576: NARROWER than '..Said'. Prove '..Said' where nothing that the law and all that it calls make is longer than what came in: it says more and counts as full. Else prove '..UptoSaid'. A law counts once. -/
mutual
def uptoBulk {H : Type} : DataW H → Nat
  | .lit (.string bytes) => bytes.length + 1
  | .lit _ => 1
  | .nil => 1
  | .ptr d => uptoBulk d + 1
  | .slice elems spare => uptoBulkAll elems + uptoBulkAll spare + 1
  | .agg parts => uptoBulkAll parts + 1
  | .iface _ d => uptoBulk d + 1
  | .map entries => uptoBulkEntries entries + 1
  | .held _ => 1
def uptoBulkAll {H : Type} : List (DataW H) → Nat
  | [] => 0
  | d :: r => uptoBulk d + uptoBulkAll r
def uptoBulkEntries {H : Type} : List (Lit × DataW H) → Nat
  | [] => 0
  | x :: r => uptoBulkEntry x + uptoBulkEntries r
def uptoBulkEntry {H : Type} : Lit × DataW H → Nat
  | (.string bytes, d) => bytes.length + uptoBulk d + 1
  | (_, d) => uptoBulk d + 1
 end
def uptoSmall : (H : Type) → List (DataW H) → Bool := fun _ ds => decide (uptoBulkAll ds ≤ 1048576)
def OpenSpec.upto (s : _root_.Go.ChangeSpec) : _root_.Go.OpenSpec := { _root_.Go.OpenSpec.ofChange s with cond := some uptoSmall }

/-- 'laws.FnExactFewestRounds', WHERE WHAT IT READS IS OF BULK AT MOST 1048576: true; the input reads as it did. -/
def fnExactFewestRoundsUptoRow : OpenClaim := { program := "ytebkdegjiollbaa", sum := "42e936042fbe1433d8a91597fe740905545b718b387ea584f2fc03f91fdaea04", func := "loop.example/g01005/laws.FnExactFewestRounds", spec := "fnExactFewestRounds", unfollowed := true, recurses := true, apart := false, narrowed := true }
def FnExactFewestRoundsUptoSaid : Prop := fnExactFewestRoundsUptoRow.holds Try.pinned (OpenSpec.upto fnExactFewestRoundsSpec)

/-- 'laws.FnExactCountMaps', WHERE WHAT IT READS IS OF BULK AT MOST 1048576: true; the input reads as it did. -/
def fnExactCountMapsUptoRow : OpenClaim := { program := "ytebkdegjiollbaa", sum := "42e936042fbe1433d8a91597fe740905545b718b387ea584f2fc03f91fdaea04", func := "loop.example/g01005/laws.FnExactCountMaps", spec := "fnExactCountMaps", unfollowed := true, recurses := true, apart := false, narrowed := true }
def FnExactCountMapsUptoSaid : Prop := fnExactCountMapsUptoRow.holds Try.pinned (OpenSpec.upto fnExactCountMapsSpec)

/-- 'laws.FnExactGlobalRows', WHERE WHAT IT READS IS OF BULK AT MOST 1048576: true; the input reads as it did. -/
def fnExactGlobalRowsUptoRow : OpenClaim := { program := "ytebkdegjiollbaa", sum := "42e936042fbe1433d8a91597fe740905545b718b387ea584f2fc03f91fdaea04", func := "loop.example/g01005/laws.FnExactGlobalRows", spec := "fnExactGlobalRows", unfollowed := true, recurses := true, apart := false, narrowed := true }
def FnExactGlobalRowsUptoSaid : Prop := fnExactGlobalRowsUptoRow.holds Try.pinned (OpenSpec.upto fnExactGlobalRowsSpec)

/-- 'laws.FnExactDistanceOf', WHERE WHAT IT READS IS OF BULK AT MOST 1048576: true; the input reads as it did. -/
def fnExactDistanceOfUptoRow : OpenClaim := { program := "ytebkdegjiollbaa", sum := "42e936042fbe1433d8a91597fe740905545b718b387ea584f2fc03f91fdaea04", func := "loop.example/g01005/laws.FnExactDistanceOf", spec := "fnExactDistanceOf", unfollowed := true, recurses := true, apart := false, narrowed := true }
def FnExactDistanceOfUptoSaid : Prop := fnExactDistanceOfUptoRow.holds Try.pinned (OpenSpec.upto fnExactDistanceOfSpec)

/-- 'laws.FnExactDistanceFiltration', WHERE WHAT IT READS IS OF BULK AT MOST 1048576: true; the input reads as it did. -/
def fnExactDistanceFiltrationUptoRow : OpenClaim := { program := "ytebkdegjiollbaa", sum := "42e936042fbe1433d8a91597fe740905545b718b387ea584f2fc03f91fdaea04", func := "loop.example/g01005/laws.FnExactDistanceFiltration", spec := "fnExactDistanceFiltration", recurses := true, apart := false, narrowed := true }
def FnExactDistanceFiltrationUptoSaid : Prop := fnExactDistanceFiltrationUptoRow.holds Try.pinned (OpenSpec.upto fnExactDistanceFiltrationSpec)

end Rows
end Go.Proofs.Ytebkdegjiollbaa
