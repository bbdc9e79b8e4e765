/-
  DERIVED. GIVEN WITH THE SEED: THE CARDS: each row of YtciaficoeajeaaaDoorRows.lean that lists a variable, with what it lists TIED to the program's text (the seventh form; the later family's looks); each row that meets fmt, with fmt's text TOLD by the authors' own Lean function (tested against real Go, not proved from fmt's source: count such statements apart). THE CARD IS WHAT COUNTS. Prove the row's statement (the work); the ties are given (YtciaficoeajeaaaDoorTie.lean); close each card by the builder's one call (the guide's Derived/Test/ToyasCard.lean, 'card_holds'). Laid BY PROGRAM, IN A SANDBOX (cutbox-door.mjs). By AI agents, Wed Nov 11 2026. No macro, syntax, notation, axiom, sorry.
-/
import Derived.Test.YtciaficoeajeaaaDoorRows
import GoSem.ClaimSeven
namespace Go.Proofs.YtciaficoeajeaaaDoor
namespace Rows

/-- THE TIED CARD OF 'quiescentlaw1.MachCopies'. -/
def machCopiesCard : Claim7 := { stood := { row := machCopiesRow, standIns := [], harness := (true, "4f106b0125721aff6a98e5d5713c17e11f566787474dc4eb442cc984df1c849e"), looks := true }, kinds := [], alts := [], laidByText := true, laidKinds := [.handle, .sentinel, .sentinel, .sentinel, .sentinel, .sentinel, .sentinel, .sentinel, .sentinel, .sentinel], laidTests := true, laidLooks := .later }
def MachCopiesCardSaid : Prop := Claim7.holds Tryd.pinned (.plain (OpenSpec.ofChange machCopiesSpec)) machCopiesCard

/-- THE SECOND FORM's CARD OF 'quiescentlaw1.MachCopies'. -/
def machCopiesUptoCard : Claim7 := { stood := { row := machCopiesUptoRow, standIns := [], harness := (true, "4f106b0125721aff6a98e5d5713c17e11f566787474dc4eb442cc984df1c849e"), looks := true }, kinds := [], alts := [], laidByText := true, laidKinds := [.handle, .sentinel, .sentinel, .sentinel, .sentinel, .sentinel, .sentinel, .sentinel, .sentinel, .sentinel], laidTests := true, laidLooks := .later }
def MachCopiesUptoCardSaid : Prop := Claim7.holds Tryd.pinned (.plain (OpenSpec.upto machCopiesSpec)) machCopiesUptoCard
end Rows
end Go.Proofs.YtciaficoeajeaaaDoor
