/-
  DERIVED. GIVEN WITH THE SEED: THE CARDS: each row of YtiahlbbljmngnaaDoorRows.lean that lists a variable, with what it lists TIED to the program's text (the seventh form; the later family's looks); each row that meets fmt, with fmt's text TOLD by the authors' own Lean function (tested against real Go, not proved from fmt's source: count such statements apart). THE CARD IS WHAT COUNTS. Prove the row's statement (the work); the ties are given (YtiahlbbljmngnaaDoorTie.lean); close each card by the builder's one call (the guide's Derived/Test/ToyasCard.lean, 'card_holds'). Laid BY PROGRAM, IN A SANDBOX (cutbox-door.mjs). By AI agents, Wed Nov 11 2026. No macro, syntax, notation, axiom, sorry.
-/
import Derived.Test.YtiahlbbljmngnaaDoorRows
import GoSem.ClaimSeven
namespace Go.Proofs.YtiahlbbljmngnaaDoor
namespace Rows

/-- THE TIED CARD OF 'laws.FnExactReadBars'. -/
def fnExactReadBarsCard : Claim7 := { stood := { row := fnExactReadBarsRow, standIns := [], harness := (true, "0c684e6581d654650bf3a975225cbe9b43cbe917b594a060106fcf06850daef5"), looks := true }, kinds := [], alts := [], laidByText := true, laidKinds := [.data, .data, .data, .data, .sentinel, .sentinel, .pinned], laidTests := true, laidLooks := .later }
def FnExactReadBarsCardSaid : Prop := Claim7.holds Tryd.pinned (.plain (OpenSpec.ofChange fnExactReadBarsSpec)) fnExactReadBarsCard

/-- THE TIED CARD OF 'laws.FnExactReadPhases'. -/
def fnExactReadPhasesCard : Claim7 := { stood := { row := fnExactReadPhasesRow, standIns := [], harness := (true, "0c684e6581d654650bf3a975225cbe9b43cbe917b594a060106fcf06850daef5"), looks := true }, kinds := [], alts := [], laidByText := true, laidKinds := [.data, .data, .data, .data, .sentinel, .sentinel, .pinned], laidTests := true, laidLooks := .later }
def FnExactReadPhasesCardSaid : Prop := Claim7.holds Tryd.pinned (.plain (OpenSpec.ofChange fnExactReadPhasesSpec)) fnExactReadPhasesCard

/-- THE SECOND FORM's CARD OF 'laws.FnExactReadBars'. -/
def fnExactReadBarsUptoCard : Claim7 := { stood := { row := fnExactReadBarsUptoRow, standIns := [], harness := (true, "0c684e6581d654650bf3a975225cbe9b43cbe917b594a060106fcf06850daef5"), looks := true }, kinds := [], alts := [], laidByText := true, laidKinds := [.data, .data, .data, .data, .sentinel, .sentinel, .pinned], laidTests := true, laidLooks := .later }
def FnExactReadBarsUptoCardSaid : Prop := Claim7.holds Tryd.pinned (.plain (OpenSpec.upto fnExactReadBarsSpec)) fnExactReadBarsUptoCard

/-- THE SECOND FORM's CARD OF 'laws.FnExactReadPhases'. -/
def fnExactReadPhasesUptoCard : Claim7 := { stood := { row := fnExactReadPhasesUptoRow, standIns := [], harness := (true, "0c684e6581d654650bf3a975225cbe9b43cbe917b594a060106fcf06850daef5"), looks := true }, kinds := [], alts := [], laidByText := true, laidKinds := [.data, .data, .data, .data, .sentinel, .sentinel, .pinned], laidTests := true, laidLooks := .later }
def FnExactReadPhasesUptoCardSaid : Prop := Claim7.holds Tryd.pinned (.plain (OpenSpec.upto fnExactReadPhasesSpec)) fnExactReadPhasesUptoCard
end Rows
end Go.Proofs.YtiahlbbljmngnaaDoor
