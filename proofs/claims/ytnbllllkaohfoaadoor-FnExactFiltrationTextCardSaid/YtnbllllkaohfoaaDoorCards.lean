/-
  DERIVED. GIVEN WITH THE SEED: THE CARDS: each row of YtnbllllkaohfoaaDoorRows.lean that lists a variable, with what it lists TIED to the program's text (the seventh form; the later family's looks); each row that meets fmt, with fmt's text TOLD by the authors' own Lean function (tested against real Go, not proved from fmt's source: count such statements apart). THE CARD IS WHAT COUNTS. Prove the row's statement (the work); the ties are given (YtnbllllkaohfoaaDoorTie.lean); close each card by the builder's one call (the guide's Derived/Test/ToyasCard.lean, 'card_holds'). Laid BY PROGRAM, IN A SANDBOX (cutbox-door.mjs). By AI agents, Wed Nov 11 2026. No macro, syntax, notation, axiom, sorry.
-/
import Derived.Test.YtnbllllkaohfoaaDoorRows
import GoSem.ClaimSeven
namespace Go.Proofs.YtnbllllkaohfoaaDoor
namespace Rows

/-- THE TIED CARD OF 'laws.FnExactRoundsText'. -/
def fnExactRoundsTextCard : Claim7 := { stood := { row := fnExactRoundsTextRow, standIns := [], harness := (true, "a1d33aee8b531a4f8af15697465241e6ebd90f373fd34e139fee28588575376a"), looks := false }, kinds := [], alts := [], laidByText := true, laidKinds := [.data, .data, .data], laidTests := true, laidLooks := .later }
def FnExactRoundsTextCardSaid : Prop := Claim7.holds Tryd.pinned (.plain (OpenSpec.ofChange fnExactRoundsTextSpec)) fnExactRoundsTextCard

/-- THE TIED CARD OF 'laws.FnExactBarsText'. -/
def fnExactBarsTextCard : Claim7 := { stood := { row := fnExactBarsTextRow, standIns := [], harness := (true, "a1d33aee8b531a4f8af15697465241e6ebd90f373fd34e139fee28588575376a"), looks := false }, kinds := [], alts := [], laidByText := true, laidKinds := [.data, .data, .data], laidTests := true, laidLooks := .later }
def FnExactBarsTextCardSaid : Prop := Claim7.holds Tryd.pinned (.plain (OpenSpec.ofChange fnExactBarsTextSpec)) fnExactBarsTextCard

/-- THE TIED CARD OF 'laws.FnExactPhasesText'. -/
def fnExactPhasesTextCard : Claim7 := { stood := { row := fnExactPhasesTextRow, standIns := [], harness := (true, "a1d33aee8b531a4f8af15697465241e6ebd90f373fd34e139fee28588575376a"), looks := false }, kinds := [], alts := [], laidByText := true, laidKinds := [.data, .data, .data], laidTests := true, laidLooks := .later }
def FnExactPhasesTextCardSaid : Prop := Claim7.holds Tryd.pinned (.plain (OpenSpec.ofChange fnExactPhasesTextSpec)) fnExactPhasesTextCard

/-- THE TIED CARD OF 'laws.FnExactFiltrationText'. -/
def fnExactFiltrationTextCard : Claim7 := { stood := { row := fnExactFiltrationTextRow, standIns := [], harness := (true, "a1d33aee8b531a4f8af15697465241e6ebd90f373fd34e139fee28588575376a"), looks := false }, kinds := [], alts := [], laidByText := true, laidKinds := [.data, .data, .data], laidTests := true, laidLooks := .later }
def FnExactFiltrationTextCardSaid : Prop := Claim7.holds Tryd.pinned (.plain (OpenSpec.ofChange fnExactFiltrationTextSpec)) fnExactFiltrationTextCard

/-- THE SECOND FORM's CARD OF 'laws.FnExactRoundsText'. -/
def fnExactRoundsTextUptoCard : Claim7 := { stood := { row := fnExactRoundsTextUptoRow, standIns := [], harness := (true, "a1d33aee8b531a4f8af15697465241e6ebd90f373fd34e139fee28588575376a"), looks := false }, kinds := [], alts := [], laidByText := true, laidKinds := [.data, .data, .data], laidTests := true, laidLooks := .later }
def FnExactRoundsTextUptoCardSaid : Prop := Claim7.holds Tryd.pinned (.plain (OpenSpec.upto fnExactRoundsTextSpec)) fnExactRoundsTextUptoCard

/-- THE SECOND FORM's CARD OF 'laws.FnExactBarsText'. -/
def fnExactBarsTextUptoCard : Claim7 := { stood := { row := fnExactBarsTextUptoRow, standIns := [], harness := (true, "a1d33aee8b531a4f8af15697465241e6ebd90f373fd34e139fee28588575376a"), looks := false }, kinds := [], alts := [], laidByText := true, laidKinds := [.data, .data, .data], laidTests := true, laidLooks := .later }
def FnExactBarsTextUptoCardSaid : Prop := Claim7.holds Tryd.pinned (.plain (OpenSpec.upto fnExactBarsTextSpec)) fnExactBarsTextUptoCard

/-- THE SECOND FORM's CARD OF 'laws.FnExactPhasesText'. -/
def fnExactPhasesTextUptoCard : Claim7 := { stood := { row := fnExactPhasesTextUptoRow, standIns := [], harness := (true, "a1d33aee8b531a4f8af15697465241e6ebd90f373fd34e139fee28588575376a"), looks := false }, kinds := [], alts := [], laidByText := true, laidKinds := [.data, .data, .data], laidTests := true, laidLooks := .later }
def FnExactPhasesTextUptoCardSaid : Prop := Claim7.holds Tryd.pinned (.plain (OpenSpec.upto fnExactPhasesTextSpec)) fnExactPhasesTextUptoCard

/-- THE SECOND FORM's CARD OF 'laws.FnExactFiltrationText'. -/
def fnExactFiltrationTextUptoCard : Claim7 := { stood := { row := fnExactFiltrationTextUptoRow, standIns := [], harness := (true, "a1d33aee8b531a4f8af15697465241e6ebd90f373fd34e139fee28588575376a"), looks := false }, kinds := [], alts := [], laidByText := true, laidKinds := [.data, .data, .data], laidTests := true, laidLooks := .later }
def FnExactFiltrationTextUptoCardSaid : Prop := Claim7.holds Tryd.pinned (.plain (OpenSpec.upto fnExactFiltrationTextSpec)) fnExactFiltrationTextUptoCard
end Rows
end Go.Proofs.YtnbllllkaohfoaaDoor
