/-
  DERIVED. GIVEN WITH THE SEED: THE CARDS: each row of YtciaficoeajeaaaGreatDoorRows.lean that lists a variable, with what it lists TIED to the program's text (the seventh form; the later family's looks); each row that meets fmt, with fmt's text TOLD by the authors' own Lean function (tested against real Go, not proved from fmt's source: count such statements apart). THE CARD IS WHAT COUNTS. Prove the row's statement (the work); the ties are given (YtciaficoeajeaaaGreatDoorTie.lean); close each card by the builder's one call (the guide's Derived/Test/ToyasCard.lean, 'card_holds'). Laid BY PROGRAM, IN A SANDBOX (cutbox-door.mjs). By AI agents, Wed Nov 11 2026. No macro, syntax, notation, axiom, sorry.
-/
import Derived.Test.YtciaficoeajeaaaGreatDoorRows
import GoSem.ClaimSeven
namespace Go.Proofs.YtciaficoeajeaaaGreatDoor
namespace Rows

/-- THE TIED CARD OF 'quiescentlaw1.MachSteps'. -/
def machStepsCard : Claim7 := { stood := { row := machStepsRow, standIns := [], harness := (true, "f3f0b699d4c0f6d830ceaaad620d2c695ac369f0019a723d93969ca32a1cb32c"), looks := true }, kinds := [], alts := [], laidByText := true, laidKinds := [.handle, .sentinel, .sentinel, .sentinel, .sentinel, .sentinel, .sentinel, .sentinel, .sentinel, .sentinel], laidTests := true, laidLooks := .later }
def MachStepsCardSaid : Prop := Claim7.holds Tryz.pinned (.plain (OpenSpec.ofChange machStepsSpec)) machStepsCard

/-- THE TIED CARD OF 'quiescentlaw1.MachRuns'. -/
def machRunsCard : Claim7 := { stood := { row := machRunsRow, standIns := [], harness := (true, "f3f0b699d4c0f6d830ceaaad620d2c695ac369f0019a723d93969ca32a1cb32c"), looks := true }, kinds := [], alts := [], laidByText := true, laidKinds := [.handle, .sentinel, .sentinel, .sentinel, .sentinel, .sentinel, .sentinel, .sentinel, .sentinel, .sentinel], laidTests := true, laidLooks := .later }
def MachRunsCardSaid : Prop := Claim7.holds Tryz.pinned (.plain (OpenSpec.ofChange machRunsSpec)) machRunsCard

/-- THE TIED CARD OF 'quiescentlaw1.WalkAll'. -/
def walkAllCard : Claim7 := { stood := { row := walkAllRow, standIns := [], harness := (true, "f3f0b699d4c0f6d830ceaaad620d2c695ac369f0019a723d93969ca32a1cb32c"), looks := true }, kinds := [], alts := [], laidByText := true, laidKinds := [.handle, .sentinel, .sentinel, .sentinel, .sentinel, .sentinel, .sentinel, .sentinel, .sentinel, .sentinel], laidTests := true, laidLooks := .later }
def WalkAllCardSaid : Prop := Claim7.holds Tryz.pinned (.plain (OpenSpec.ofChange walkAllSpec)) walkAllCard

/-- THE TIED CARD OF 'quiescentlaw1.WalkFaults'. -/
def walkFaultsCard : Claim7 := { stood := { row := walkFaultsRow, standIns := [], harness := (true, "f3f0b699d4c0f6d830ceaaad620d2c695ac369f0019a723d93969ca32a1cb32c"), looks := true }, kinds := [], alts := [], laidByText := true, laidKinds := [.handle, .sentinel, .sentinel, .sentinel, .sentinel, .sentinel, .sentinel, .sentinel], laidTests := true, laidLooks := .later }
def WalkFaultsCardSaid : Prop := Claim7.holds Tryz.pinned (.plain (OpenSpec.ofChange walkFaultsSpec)) walkFaultsCard

/-- THE TIED CARD OF 'quiescentlaw1.WalkSees'. -/
def walkSeesCard : Claim7 := { stood := { row := walkSeesRow, standIns := [], harness := (true, "f3f0b699d4c0f6d830ceaaad620d2c695ac369f0019a723d93969ca32a1cb32c"), looks := true }, kinds := [], alts := [], laidByText := true, laidKinds := [.handle, .sentinel, .sentinel, .sentinel, .sentinel, .sentinel, .sentinel, .sentinel], laidTests := true, laidLooks := .later }
def WalkSeesCardSaid : Prop := Claim7.holds Tryz.pinned (.plain (OpenSpec.ofChange walkSeesSpec)) walkSeesCard

/-- THE SECOND FORM's CARD OF 'quiescentlaw1.MachSteps'. -/
def machStepsUptoCard : Claim7 := { stood := { row := machStepsUptoRow, standIns := [], harness := (true, "f3f0b699d4c0f6d830ceaaad620d2c695ac369f0019a723d93969ca32a1cb32c"), looks := true }, kinds := [], alts := [], laidByText := true, laidKinds := [.handle, .sentinel, .sentinel, .sentinel, .sentinel, .sentinel, .sentinel, .sentinel, .sentinel, .sentinel], laidTests := true, laidLooks := .later }
def MachStepsUptoCardSaid : Prop := Claim7.holds Tryz.pinned (.plain (OpenSpec.upto machStepsSpec)) machStepsUptoCard

/-- THE SECOND FORM's CARD OF 'quiescentlaw1.MachRuns'. -/
def machRunsUptoCard : Claim7 := { stood := { row := machRunsUptoRow, standIns := [], harness := (true, "f3f0b699d4c0f6d830ceaaad620d2c695ac369f0019a723d93969ca32a1cb32c"), looks := true }, kinds := [], alts := [], laidByText := true, laidKinds := [.handle, .sentinel, .sentinel, .sentinel, .sentinel, .sentinel, .sentinel, .sentinel, .sentinel, .sentinel], laidTests := true, laidLooks := .later }
def MachRunsUptoCardSaid : Prop := Claim7.holds Tryz.pinned (.plain (OpenSpec.upto machRunsSpec)) machRunsUptoCard

/-- THE SECOND FORM's CARD OF 'quiescentlaw1.WalkAll'. -/
def walkAllUptoCard : Claim7 := { stood := { row := walkAllUptoRow, standIns := [], harness := (true, "f3f0b699d4c0f6d830ceaaad620d2c695ac369f0019a723d93969ca32a1cb32c"), looks := true }, kinds := [], alts := [], laidByText := true, laidKinds := [.handle, .sentinel, .sentinel, .sentinel, .sentinel, .sentinel, .sentinel, .sentinel, .sentinel, .sentinel], laidTests := true, laidLooks := .later }
def WalkAllUptoCardSaid : Prop := Claim7.holds Tryz.pinned (.plain (OpenSpec.upto walkAllSpec)) walkAllUptoCard

/-- THE SECOND FORM's CARD OF 'quiescentlaw1.WalkFaults'. -/
def walkFaultsUptoCard : Claim7 := { stood := { row := walkFaultsUptoRow, standIns := [], harness := (true, "f3f0b699d4c0f6d830ceaaad620d2c695ac369f0019a723d93969ca32a1cb32c"), looks := true }, kinds := [], alts := [], laidByText := true, laidKinds := [.handle, .sentinel, .sentinel, .sentinel, .sentinel, .sentinel, .sentinel, .sentinel], laidTests := true, laidLooks := .later }
def WalkFaultsUptoCardSaid : Prop := Claim7.holds Tryz.pinned (.plain (OpenSpec.upto walkFaultsSpec)) walkFaultsUptoCard

/-- THE SECOND FORM's CARD OF 'quiescentlaw1.WalkSees'. -/
def walkSeesUptoCard : Claim7 := { stood := { row := walkSeesUptoRow, standIns := [], harness := (true, "f3f0b699d4c0f6d830ceaaad620d2c695ac369f0019a723d93969ca32a1cb32c"), looks := true }, kinds := [], alts := [], laidByText := true, laidKinds := [.handle, .sentinel, .sentinel, .sentinel, .sentinel, .sentinel, .sentinel, .sentinel], laidTests := true, laidLooks := .later }
def WalkSeesUptoCardSaid : Prop := Claim7.holds Tryz.pinned (.plain (OpenSpec.upto walkSeesSpec)) walkSeesUptoCard
end Rows
end Go.Proofs.YtciaficoeajeaaaGreatDoor
