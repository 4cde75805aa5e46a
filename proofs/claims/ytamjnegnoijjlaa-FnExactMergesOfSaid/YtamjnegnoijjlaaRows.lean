/-
  No cell of these rows narrows 'for every input' (looked for: loops, veiled, ifaces, maps, wideKeys, modest, calm, conditions, laid).
  DERIVED. THE GIVEN ROWS OF THIS SEAT. 10 by the template 'for every input the law returns true; each argument reads behind the call as it read before'; 0 by the template 'total and deterministic' (their statements: YtamjnegnoijjlaaTotals.lean).
  GIVEN WITH THE SEED: the statements are not yours to turn. If you find one false, say at which input.
  Laid BY PROGRAM, IN A SANDBOX (cutbox-rows.mjs): the forced cells as the released guide's own fill.sh prints them over the translation 205b27cb5d1e28c8… (all of the seat's roots in one cut). By AI agents, Wed Nov 11 2026. No macro, syntax, notation, axiom, sorry.
-/
import Derived.Test.YtamjnegnoijjlaaChecked
import GoSem.Claim
import GoSem.ClaimJoined
import GoSem.ClaimMapViews
import Derived.JoinedTies
import Derived.KernelRfl
namespace Go.Proofs.Ytamjnegnoijjlaa
/- THE CELL 'sum', in the pinned program and in every row, IS THE sha256 OF THE DUMP (.gsa) THAT YtamjnegnoijjlaaProg.lean LOADS. Nothing in Lean hashes anything: it is a label: what it is worth is what the hold of that sum in a sandbox is worth. -/
noncomputable def Try.pinned : Pinned := { name := "ytamjnegnoijjlaa", sum := "205b27cb5d1e28c8ef48099656fb58baff6aede5f7ce5085a1b71e1f1c25f85a", checked := Try.checked }
namespace Rows
def none {H : Type} : Left H := { results := [], args := [] }

/-- 'laws.FnExactValidFiltration': WHATEVER THE INPUT: true; the input reads as it did. -/
def fnExactValidFiltrationSpec : ChangeSpec := { name := "fnExactValidFiltration", fn := fun _ => fun
  | [d] => { results := [.lit (.bool true)], args := [d] }
  | _ => none }
def fnExactValidFiltrationRow : OpenClaim := { program := "ytamjnegnoijjlaa", sum := "205b27cb5d1e28c8ef48099656fb58baff6aede5f7ce5085a1b71e1f1c25f85a", func := "loop.example/g01005/laws.FnExactValidFiltration", spec := "fnExactValidFiltration", unfollowed := true, recurses := true, apart := false }
def FnExactValidFiltrationSaid : Prop := fnExactValidFiltrationRow.holds Try.pinned (OpenSpec.ofChange fnExactValidFiltrationSpec)

/-- ITS FALSE NEIGHBOUR: 'it returns false'. Refute it at one input. -/
def fnExactValidFiltrationWrong : ChangeSpec := { name := "fnExactValidFiltration", fn := fun _ => fun
  | [d] => { results := [.lit (.bool false)], args := [d] }
  | _ => none }
def FnExactValidFiltrationWrongFalsely : Prop := fnExactValidFiltrationRow.holds Try.pinned (OpenSpec.ofChange fnExactValidFiltrationWrong)

/-- 'laws.FnExactCriticalTimes': WHATEVER THE INPUT: true; the input reads as it did. -/
def fnExactCriticalTimesSpec : ChangeSpec := { name := "fnExactCriticalTimes", fn := fun _ => fun
  | [d] => { results := [.lit (.bool true)], args := [d] }
  | _ => none }
def fnExactCriticalTimesRow : OpenClaim := { program := "ytamjnegnoijjlaa", sum := "205b27cb5d1e28c8ef48099656fb58baff6aede5f7ce5085a1b71e1f1c25f85a", func := "loop.example/g01005/laws.FnExactCriticalTimes", spec := "fnExactCriticalTimes", unfollowed := true, recurses := true, apart := false }
def FnExactCriticalTimesSaid : Prop := fnExactCriticalTimesRow.holds Try.pinned (OpenSpec.ofChange fnExactCriticalTimesSpec)

/-- ITS FALSE NEIGHBOUR: 'it returns false'. Refute it at one input. -/
def fnExactCriticalTimesWrong : ChangeSpec := { name := "fnExactCriticalTimes", fn := fun _ => fun
  | [d] => { results := [.lit (.bool false)], args := [d] }
  | _ => none }
def FnExactCriticalTimesWrongFalsely : Prop := fnExactCriticalTimesRow.holds Try.pinned (OpenSpec.ofChange fnExactCriticalTimesWrong)

/-- 'laws.FnExactComplexAt': WHATEVER THE INPUT: true; the input reads as it did. -/
def fnExactComplexAtSpec : ChangeSpec := { name := "fnExactComplexAt", fn := fun _ => fun
  | [d1, d2] => { results := [.lit (.bool true)], args := [d1, d2] }
  | _ => none }
def fnExactComplexAtRow : OpenClaim := { program := "ytamjnegnoijjlaa", sum := "205b27cb5d1e28c8ef48099656fb58baff6aede5f7ce5085a1b71e1f1c25f85a", func := "loop.example/g01005/laws.FnExactComplexAt", spec := "fnExactComplexAt", unfollowed := true, recurses := true, apart := false }
def FnExactComplexAtSaid : Prop := fnExactComplexAtRow.holds Try.pinned (OpenSpec.ofChange fnExactComplexAtSpec)

/-- ITS FALSE NEIGHBOUR: 'it returns false'. Refute it at one input. -/
def fnExactComplexAtWrong : ChangeSpec := { name := "fnExactComplexAt", fn := fun _ => fun
  | [d1, d2] => { results := [.lit (.bool false)], args := [d1, d2] }
  | _ => none }
def FnExactComplexAtWrongFalsely : Prop := fnExactComplexAtRow.holds Try.pinned (OpenSpec.ofChange fnExactComplexAtWrong)

/-- 'laws.FnExactShiftFiltration': WHATEVER THE INPUT: true; the input reads as it did. -/
def fnExactShiftFiltrationSpec : ChangeSpec := { name := "fnExactShiftFiltration", fn := fun _ => fun
  | [d1, d2] => { results := [.lit (.bool true)], args := [d1, d2] }
  | _ => none }
def fnExactShiftFiltrationRow : OpenClaim := { program := "ytamjnegnoijjlaa", sum := "205b27cb5d1e28c8ef48099656fb58baff6aede5f7ce5085a1b71e1f1c25f85a", func := "loop.example/g01005/laws.FnExactShiftFiltration", spec := "fnExactShiftFiltration", unfollowed := true, recurses := true, apart := false }
def FnExactShiftFiltrationSaid : Prop := fnExactShiftFiltrationRow.holds Try.pinned (OpenSpec.ofChange fnExactShiftFiltrationSpec)

/-- ITS FALSE NEIGHBOUR: 'it returns false'. Refute it at one input. -/
def fnExactShiftFiltrationWrong : ChangeSpec := { name := "fnExactShiftFiltration", fn := fun _ => fun
  | [d1, d2] => { results := [.lit (.bool false)], args := [d1, d2] }
  | _ => none }
def FnExactShiftFiltrationWrongFalsely : Prop := fnExactShiftFiltrationRow.holds Try.pinned (OpenSpec.ofChange fnExactShiftFiltrationWrong)

/-- 'laws.FnExactRestrictFiltration': WHATEVER THE INPUT: true; the input reads as it did. -/
def fnExactRestrictFiltrationSpec : ChangeSpec := { name := "fnExactRestrictFiltration", fn := fun _ => fun
  | [d1, d2] => { results := [.lit (.bool true)], args := [d1, d2] }
  | _ => none }
def fnExactRestrictFiltrationRow : OpenClaim := { program := "ytamjnegnoijjlaa", sum := "205b27cb5d1e28c8ef48099656fb58baff6aede5f7ce5085a1b71e1f1c25f85a", func := "loop.example/g01005/laws.FnExactRestrictFiltration", spec := "fnExactRestrictFiltration", unfollowed := true, recurses := true, apart := false }
def FnExactRestrictFiltrationSaid : Prop := fnExactRestrictFiltrationRow.holds Try.pinned (OpenSpec.ofChange fnExactRestrictFiltrationSpec)

/-- ITS FALSE NEIGHBOUR: 'it returns false'. Refute it at one input. -/
def fnExactRestrictFiltrationWrong : ChangeSpec := { name := "fnExactRestrictFiltration", fn := fun _ => fun
  | [d1, d2] => { results := [.lit (.bool false)], args := [d1, d2] }
  | _ => none }
def FnExactRestrictFiltrationWrongFalsely : Prop := fnExactRestrictFiltrationRow.holds Try.pinned (OpenSpec.ofChange fnExactRestrictFiltrationWrong)

/-- 'laws.FnExactLowerFiltration': WHATEVER THE INPUT: true; the input reads as it did. -/
def fnExactLowerFiltrationSpec : ChangeSpec := { name := "fnExactLowerFiltration", fn := fun _ => fun
  | [d1, d2] => { results := [.lit (.bool true)], args := [d1, d2] }
  | _ => none }
def fnExactLowerFiltrationRow : OpenClaim := { program := "ytamjnegnoijjlaa", sum := "205b27cb5d1e28c8ef48099656fb58baff6aede5f7ce5085a1b71e1f1c25f85a", func := "loop.example/g01005/laws.FnExactLowerFiltration", spec := "fnExactLowerFiltration", unfollowed := true, recurses := true, apart := false }
def FnExactLowerFiltrationSaid : Prop := fnExactLowerFiltrationRow.holds Try.pinned (OpenSpec.ofChange fnExactLowerFiltrationSpec)

/-- ITS FALSE NEIGHBOUR: 'it returns false'. Refute it at one input. -/
def fnExactLowerFiltrationWrong : ChangeSpec := { name := "fnExactLowerFiltration", fn := fun _ => fun
  | [d1, d2] => { results := [.lit (.bool false)], args := [d1, d2] }
  | _ => none }
def FnExactLowerFiltrationWrongFalsely : Prop := fnExactLowerFiltrationRow.holds Try.pinned (OpenSpec.ofChange fnExactLowerFiltrationWrong)

/-- 'laws.FnExactPartsAt': WHATEVER THE INPUT: true; the input reads as it did. -/
def fnExactPartsAtSpec : ChangeSpec := { name := "fnExactPartsAt", fn := fun _ => fun
  | [d1, d2] => { results := [.lit (.bool true)], args := [d1, d2] }
  | _ => none }
def fnExactPartsAtRow : OpenClaim := { program := "ytamjnegnoijjlaa", sum := "205b27cb5d1e28c8ef48099656fb58baff6aede5f7ce5085a1b71e1f1c25f85a", func := "loop.example/g01005/laws.FnExactPartsAt", spec := "fnExactPartsAt", unfollowed := true, recurses := true, apart := false }
def FnExactPartsAtSaid : Prop := fnExactPartsAtRow.holds Try.pinned (OpenSpec.ofChange fnExactPartsAtSpec)

/-- ITS FALSE NEIGHBOUR: 'it returns false'. Refute it at one input. -/
def fnExactPartsAtWrong : ChangeSpec := { name := "fnExactPartsAt", fn := fun _ => fun
  | [d1, d2] => { results := [.lit (.bool false)], args := [d1, d2] }
  | _ => none }
def FnExactPartsAtWrongFalsely : Prop := fnExactPartsAtRow.holds Try.pinned (OpenSpec.ofChange fnExactPartsAtWrong)

/-- 'laws.FnExactComingOrder': WHATEVER THE INPUT: true; the input reads as it did. -/
def fnExactComingOrderSpec : ChangeSpec := { name := "fnExactComingOrder", fn := fun _ => fun
  | [d] => { results := [.lit (.bool true)], args := [d] }
  | _ => none }
def fnExactComingOrderRow : OpenClaim := { program := "ytamjnegnoijjlaa", sum := "205b27cb5d1e28c8ef48099656fb58baff6aede5f7ce5085a1b71e1f1c25f85a", func := "loop.example/g01005/laws.FnExactComingOrder", spec := "fnExactComingOrder", unfollowed := true, recurses := true, apart := false }
def FnExactComingOrderSaid : Prop := fnExactComingOrderRow.holds Try.pinned (OpenSpec.ofChange fnExactComingOrderSpec)

/-- ITS FALSE NEIGHBOUR: 'it returns false'. Refute it at one input. -/
def fnExactComingOrderWrong : ChangeSpec := { name := "fnExactComingOrder", fn := fun _ => fun
  | [d] => { results := [.lit (.bool false)], args := [d] }
  | _ => none }
def FnExactComingOrderWrongFalsely : Prop := fnExactComingOrderRow.holds Try.pinned (OpenSpec.ofChange fnExactComingOrderWrong)

/-- 'laws.FnExactMergesOf': WHATEVER THE INPUT: true; the input reads as it did. -/
def fnExactMergesOfSpec : ChangeSpec := { name := "fnExactMergesOf", fn := fun _ => fun
  | [d] => { results := [.lit (.bool true)], args := [d] }
  | _ => none }
def fnExactMergesOfRow : OpenClaim := { program := "ytamjnegnoijjlaa", sum := "205b27cb5d1e28c8ef48099656fb58baff6aede5f7ce5085a1b71e1f1c25f85a", func := "loop.example/g01005/laws.FnExactMergesOf", spec := "fnExactMergesOf", unfollowed := true, recurses := true, apart := false }
def FnExactMergesOfSaid : Prop := fnExactMergesOfRow.holds Try.pinned (OpenSpec.ofChange fnExactMergesOfSpec)

/-- ITS FALSE NEIGHBOUR: 'it returns false'. Refute it at one input. -/
def fnExactMergesOfWrong : ChangeSpec := { name := "fnExactMergesOf", fn := fun _ => fun
  | [d] => { results := [.lit (.bool false)], args := [d] }
  | _ => none }
def FnExactMergesOfWrongFalsely : Prop := fnExactMergesOfRow.holds Try.pinned (OpenSpec.ofChange fnExactMergesOfWrong)

/-- 'laws.FnExactDistanceFiltration': WHATEVER THE INPUT: true; the input reads as it did. -/
def fnExactDistanceFiltrationSpec : ChangeSpec := { name := "fnExactDistanceFiltration", fn := fun _ => fun
  | [d1, d2] => { results := [.lit (.bool true)], args := [d1, d2] }
  | _ => none }
def fnExactDistanceFiltrationRow : OpenClaim := { program := "ytamjnegnoijjlaa", sum := "205b27cb5d1e28c8ef48099656fb58baff6aede5f7ce5085a1b71e1f1c25f85a", func := "loop.example/g01005/laws.FnExactDistanceFiltration", spec := "fnExactDistanceFiltration", recurses := true, apart := false }
def FnExactDistanceFiltrationSaid : Prop := fnExactDistanceFiltrationRow.holds Try.pinned (OpenSpec.ofChange fnExactDistanceFiltrationSpec)

/-- ITS FALSE NEIGHBOUR: 'it returns false'. Refute it at one input. -/
def fnExactDistanceFiltrationWrong : ChangeSpec := { name := "fnExactDistanceFiltration", fn := fun _ => fun
  | [d1, d2] => { results := [.lit (.bool false)], args := [d1, d2] }
  | _ => none }
def FnExactDistanceFiltrationWrongFalsely : Prop := fnExactDistanceFiltrationRow.holds Try.pinned (OpenSpec.ofChange fnExactDistanceFiltrationWrong)

/- THE SECOND FORM. 'bulk': how many values and letters a reading holds, each counted each time it is reached (what is shared counts as often as it is met; a slice's spare places count too). A statement '..UptoSaid' is the law's where the arguments, and the package variables that the reading takes, are together of bulk at most 1048576: NARROWER than '..Said'. Prove '..Said' where nothing that the law and all that it calls make is longer than what came in: it says more and counts as full. Else prove '..UptoSaid'. A law counts once. -/
mutual
def uptoBulk {H : Type} : DataW H → Nat
  | .lit (.string bytes) => bytes.length + 1
  | .lit _ => 1
  | .nil => 1
  | .ptr d => uptoBulk d + 1
  | .slice elems spare => uptoBulkAll elems + uptoBulkAll spare + 1
  | .agg parts => uptoBulkAll parts + 1
  | .iface _ d => uptoBulk d + 1
  | .map entries => uptoBulkEntries entries + 1
  | .held _ => 1
def uptoBulkAll {H : Type} : List (DataW H) → Nat
  | [] => 0
  | d :: r => uptoBulk d + uptoBulkAll r
def uptoBulkEntries {H : Type} : List (Lit × DataW H) → Nat
  | [] => 0
  | x :: r => uptoBulkEntry x + uptoBulkEntries r
def uptoBulkEntry {H : Type} : Lit × DataW H → Nat
  | (.string bytes, d) => bytes.length + uptoBulk d + 1
  | (_, d) => uptoBulk d + 1
 end
def uptoSmall : (H : Type) → List (DataW H) → Bool := fun _ ds => decide (uptoBulkAll ds ≤ 1048576)
def OpenSpec.upto (s : _root_.Go.ChangeSpec) : _root_.Go.OpenSpec := { _root_.Go.OpenSpec.ofChange s with cond := some uptoSmall }

/-- 'laws.FnExactValidFiltration', WHERE WHAT IT READS IS OF BULK AT MOST 1048576: true; the input reads as it did. -/
def fnExactValidFiltrationUptoRow : OpenClaim := { program := "ytamjnegnoijjlaa", sum := "205b27cb5d1e28c8ef48099656fb58baff6aede5f7ce5085a1b71e1f1c25f85a", func := "loop.example/g01005/laws.FnExactValidFiltration", spec := "fnExactValidFiltration", unfollowed := true, recurses := true, apart := false, narrowed := true }
def FnExactValidFiltrationUptoSaid : Prop := fnExactValidFiltrationUptoRow.holds Try.pinned (OpenSpec.upto fnExactValidFiltrationSpec)

/-- 'laws.FnExactCriticalTimes', WHERE WHAT IT READS IS OF BULK AT MOST 1048576: true; the input reads as it did. -/
def fnExactCriticalTimesUptoRow : OpenClaim := { program := "ytamjnegnoijjlaa", sum := "205b27cb5d1e28c8ef48099656fb58baff6aede5f7ce5085a1b71e1f1c25f85a", func := "loop.example/g01005/laws.FnExactCriticalTimes", spec := "fnExactCriticalTimes", unfollowed := true, recurses := true, apart := false, narrowed := true }
def FnExactCriticalTimesUptoSaid : Prop := fnExactCriticalTimesUptoRow.holds Try.pinned (OpenSpec.upto fnExactCriticalTimesSpec)

/-- 'laws.FnExactComplexAt', WHERE WHAT IT READS IS OF BULK AT MOST 1048576: true; the input reads as it did. -/
def fnExactComplexAtUptoRow : OpenClaim := { program := "ytamjnegnoijjlaa", sum := "205b27cb5d1e28c8ef48099656fb58baff6aede5f7ce5085a1b71e1f1c25f85a", func := "loop.example/g01005/laws.FnExactComplexAt", spec := "fnExactComplexAt", unfollowed := true, recurses := true, apart := false, narrowed := true }
def FnExactComplexAtUptoSaid : Prop := fnExactComplexAtUptoRow.holds Try.pinned (OpenSpec.upto fnExactComplexAtSpec)

/-- 'laws.FnExactShiftFiltration', WHERE WHAT IT READS IS OF BULK AT MOST 1048576: true; the input reads as it did. -/
def fnExactShiftFiltrationUptoRow : OpenClaim := { program := "ytamjnegnoijjlaa", sum := "205b27cb5d1e28c8ef48099656fb58baff6aede5f7ce5085a1b71e1f1c25f85a", func := "loop.example/g01005/laws.FnExactShiftFiltration", spec := "fnExactShiftFiltration", unfollowed := true, recurses := true, apart := false, narrowed := true }
def FnExactShiftFiltrationUptoSaid : Prop := fnExactShiftFiltrationUptoRow.holds Try.pinned (OpenSpec.upto fnExactShiftFiltrationSpec)

/-- 'laws.FnExactRestrictFiltration', WHERE WHAT IT READS IS OF BULK AT MOST 1048576: true; the input reads as it did. -/
def fnExactRestrictFiltrationUptoRow : OpenClaim := { program := "ytamjnegnoijjlaa", sum := "205b27cb5d1e28c8ef48099656fb58baff6aede5f7ce5085a1b71e1f1c25f85a", func := "loop.example/g01005/laws.FnExactRestrictFiltration", spec := "fnExactRestrictFiltration", unfollowed := true, recurses := true, apart := false, narrowed := true }
def FnExactRestrictFiltrationUptoSaid : Prop := fnExactRestrictFiltrationUptoRow.holds Try.pinned (OpenSpec.upto fnExactRestrictFiltrationSpec)

/-- 'laws.FnExactLowerFiltration', WHERE WHAT IT READS IS OF BULK AT MOST 1048576: true; the input reads as it did. -/
def fnExactLowerFiltrationUptoRow : OpenClaim := { program := "ytamjnegnoijjlaa", sum := "205b27cb5d1e28c8ef48099656fb58baff6aede5f7ce5085a1b71e1f1c25f85a", func := "loop.example/g01005/laws.FnExactLowerFiltration", spec := "fnExactLowerFiltration", unfollowed := true, recurses := true, apart := false, narrowed := true }
def FnExactLowerFiltrationUptoSaid : Prop := fnExactLowerFiltrationUptoRow.holds Try.pinned (OpenSpec.upto fnExactLowerFiltrationSpec)

/-- 'laws.FnExactPartsAt', WHERE WHAT IT READS IS OF BULK AT MOST 1048576: true; the input reads as it did. -/
def fnExactPartsAtUptoRow : OpenClaim := { program := "ytamjnegnoijjlaa", sum := "205b27cb5d1e28c8ef48099656fb58baff6aede5f7ce5085a1b71e1f1c25f85a", func := "loop.example/g01005/laws.FnExactPartsAt", spec := "fnExactPartsAt", unfollowed := true, recurses := true, apart := false, narrowed := true }
def FnExactPartsAtUptoSaid : Prop := fnExactPartsAtUptoRow.holds Try.pinned (OpenSpec.upto fnExactPartsAtSpec)

/-- 'laws.FnExactComingOrder', WHERE WHAT IT READS IS OF BULK AT MOST 1048576: true; the input reads as it did. -/
def fnExactComingOrderUptoRow : OpenClaim := { program := "ytamjnegnoijjlaa", sum := "205b27cb5d1e28c8ef48099656fb58baff6aede5f7ce5085a1b71e1f1c25f85a", func := "loop.example/g01005/laws.FnExactComingOrder", spec := "fnExactComingOrder", unfollowed := true, recurses := true, apart := false, narrowed := true }
def FnExactComingOrderUptoSaid : Prop := fnExactComingOrderUptoRow.holds Try.pinned (OpenSpec.upto fnExactComingOrderSpec)

/-- 'laws.FnExactMergesOf', WHERE WHAT IT READS IS OF BULK AT MOST 1048576: true; the input reads as it did. -/
def fnExactMergesOfUptoRow : OpenClaim := { program := "ytamjnegnoijjlaa", sum := "205b27cb5d1e28c8ef48099656fb58baff6aede5f7ce5085a1b71e1f1c25f85a", func := "loop.example/g01005/laws.FnExactMergesOf", spec := "fnExactMergesOf", unfollowed := true, recurses := true, apart := false, narrowed := true }
def FnExactMergesOfUptoSaid : Prop := fnExactMergesOfUptoRow.holds Try.pinned (OpenSpec.upto fnExactMergesOfSpec)

/-- 'laws.FnExactDistanceFiltration', WHERE WHAT IT READS IS OF BULK AT MOST 1048576: true; the input reads as it did. -/
def fnExactDistanceFiltrationUptoRow : OpenClaim := { program := "ytamjnegnoijjlaa", sum := "205b27cb5d1e28c8ef48099656fb58baff6aede5f7ce5085a1b71e1f1c25f85a", func := "loop.example/g01005/laws.FnExactDistanceFiltration", spec := "fnExactDistanceFiltration", recurses := true, apart := false, narrowed := true }
def FnExactDistanceFiltrationUptoSaid : Prop := fnExactDistanceFiltrationUptoRow.holds Try.pinned (OpenSpec.upto fnExactDistanceFiltrationSpec)

end Rows
end Go.Proofs.Ytamjnegnoijjlaa
