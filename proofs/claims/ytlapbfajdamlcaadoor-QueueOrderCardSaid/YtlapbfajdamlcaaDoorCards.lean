/-
  DERIVED. GIVEN WITH THE SEED: THE CARDS: each row of YtlapbfajdamlcaaDoorRows.lean that lists a variable, with what it lists TIED to the program's text (the seventh form; the later family's looks); each row that meets fmt, with fmt's text TOLD by the authors' own Lean function (tested against real Go, not proved from fmt's source: count such statements apart). THE CARD IS WHAT COUNTS. Prove the row's statement (the work); the ties are given (YtlapbfajdamlcaaDoorTie.lean); close each card by the builder's one call (the guide's Derived/Test/ToyasCard.lean, 'card_holds'). Laid BY PROGRAM, IN A SANDBOX (cutbox-door.mjs). By AI agents, Wed Nov 11 2026. No macro, syntax, notation, axiom, sorry.
-/
import Derived.Test.YtlapbfajdamlcaaDoorRows
import GoSem.ClaimSeven
namespace Go.Proofs.YtlapbfajdamlcaaDoor
namespace Rows

/-- THE TIED CARD OF 'quiescentlaw3.QueueOrder'. -/
def queueOrderCard : Claim7 := { stood := { row := queueOrderRow, standIns := [], harness := (true, "0be9fdb045fd8fe8847982782635fc00edfbe0a04ae8d53a75384ad0e1861a59"), looks := true }, kinds := [], alts := [], laidByText := true, laidKinds := [.data, .data, .data, .sentinel, .sentinel, .sentinel], laidTests := true, laidLooks := .later }
def QueueOrderCardSaid : Prop := Claim7.holds Tryd.pinned (.plain (OpenSpec.ofChange queueOrderSpec)) queueOrderCard

/-- THE TIED CARD OF 'quiescentlaw3.QueueSafe'. -/
def queueSafeCard : Claim7 := { stood := { row := queueSafeRow, standIns := [], harness := (true, "0be9fdb045fd8fe8847982782635fc00edfbe0a04ae8d53a75384ad0e1861a59"), looks := true }, kinds := [], alts := [], laidByText := true, laidKinds := [.data, .data, .data, .sentinel, .sentinel, .sentinel], laidTests := true, laidLooks := .later }
def QueueSafeCardSaid : Prop := Claim7.holds Tryd.pinned (.plain (OpenSpec.ofChange queueSafeSpec)) queueSafeCard

/-- THE TIED CARD OF 'quiescentlaw3.QueueBuilds'. -/
def queueBuildsCard : Claim7 := { stood := { row := queueBuildsRow, standIns := [], harness := (true, "0be9fdb045fd8fe8847982782635fc00edfbe0a04ae8d53a75384ad0e1861a59"), looks := true }, kinds := [], alts := [], laidByText := true, laidKinds := [.data, .data, .data, .handle, .sentinel, .sentinel, .sentinel, .sentinel, .sentinel, .sentinel, .sentinel, .sentinel, .sentinel], laidTests := true, laidLooks := .later }
def QueueBuildsCardSaid : Prop := Claim7.holds Tryd.pinned (.plain (OpenSpec.ofChange queueBuildsSpec)) queueBuildsCard

/-- THE TIED CARD OF 'quiescentlaw3.StackAlone'. -/
def stackAloneCard : Claim7 := { stood := { row := stackAloneRow, standIns := [], harness := (true, "0be9fdb045fd8fe8847982782635fc00edfbe0a04ae8d53a75384ad0e1861a59"), looks := true }, kinds := [], alts := [], laidByText := true, laidKinds := [.data, .data, .data, .sentinel, .sentinel, .sentinel], laidTests := true, laidLooks := .later }
def StackAloneCardSaid : Prop := Claim7.holds Tryd.pinned (.plain (OpenSpec.ofChange stackAloneSpec)) stackAloneCard

/-- THE TIED CARD OF 'quiescentlaw2.ClientOne'. -/
def clientOneCard : Claim7 := { stood := { row := clientOneRow, standIns := [], harness := (true, "0be9fdb045fd8fe8847982782635fc00edfbe0a04ae8d53a75384ad0e1861a59"), looks := true }, kinds := [], alts := [], laidByText := true, laidKinds := [.data, .data, .data, .sentinel, .sentinel, .sentinel, .sentinel, .sentinel, .widerDeep], laidTests := true, laidLooks := .later }
def ClientOneCardSaid : Prop := Claim7.holds Tryd.pinned (.plain (OpenSpec.ofChange clientOneSpec)) clientOneCard

/-- THE TIED CARD OF 'quiescentlaw1.MachCopies'. -/
def machCopiesCard : Claim7 := { stood := { row := machCopiesRow, standIns := [], harness := (true, "0be9fdb045fd8fe8847982782635fc00edfbe0a04ae8d53a75384ad0e1861a59"), looks := true }, kinds := [], alts := [], laidByText := true, laidKinds := [.handle, .sentinel, .sentinel, .sentinel, .sentinel, .sentinel, .sentinel, .sentinel, .sentinel, .sentinel], laidTests := true, laidLooks := .later }
def MachCopiesCardSaid : Prop := Claim7.holds Tryd.pinned (.plain (OpenSpec.ofChange machCopiesSpec)) machCopiesCard

/-- THE SECOND FORM's CARD OF 'quiescentlaw3.QueueOrder'. -/
def queueOrderUptoCard : Claim7 := { stood := { row := queueOrderUptoRow, standIns := [], harness := (true, "0be9fdb045fd8fe8847982782635fc00edfbe0a04ae8d53a75384ad0e1861a59"), looks := true }, kinds := [], alts := [], laidByText := true, laidKinds := [.data, .data, .data, .sentinel, .sentinel, .sentinel], laidTests := true, laidLooks := .later }
def QueueOrderUptoCardSaid : Prop := Claim7.holds Tryd.pinned (.plain (OpenSpec.upto queueOrderSpec)) queueOrderUptoCard

/-- THE SECOND FORM's CARD OF 'quiescentlaw3.QueueSafe'. -/
def queueSafeUptoCard : Claim7 := { stood := { row := queueSafeUptoRow, standIns := [], harness := (true, "0be9fdb045fd8fe8847982782635fc00edfbe0a04ae8d53a75384ad0e1861a59"), looks := true }, kinds := [], alts := [], laidByText := true, laidKinds := [.data, .data, .data, .sentinel, .sentinel, .sentinel], laidTests := true, laidLooks := .later }
def QueueSafeUptoCardSaid : Prop := Claim7.holds Tryd.pinned (.plain (OpenSpec.upto queueSafeSpec)) queueSafeUptoCard

/-- THE SECOND FORM's CARD OF 'quiescentlaw3.QueueBuilds'. -/
def queueBuildsUptoCard : Claim7 := { stood := { row := queueBuildsUptoRow, standIns := [], harness := (true, "0be9fdb045fd8fe8847982782635fc00edfbe0a04ae8d53a75384ad0e1861a59"), looks := true }, kinds := [], alts := [], laidByText := true, laidKinds := [.data, .data, .data, .handle, .sentinel, .sentinel, .sentinel, .sentinel, .sentinel, .sentinel, .sentinel, .sentinel, .sentinel], laidTests := true, laidLooks := .later }
def QueueBuildsUptoCardSaid : Prop := Claim7.holds Tryd.pinned (.plain (OpenSpec.upto queueBuildsSpec)) queueBuildsUptoCard

/-- THE SECOND FORM's CARD OF 'quiescentlaw3.StackAlone'. -/
def stackAloneUptoCard : Claim7 := { stood := { row := stackAloneUptoRow, standIns := [], harness := (true, "0be9fdb045fd8fe8847982782635fc00edfbe0a04ae8d53a75384ad0e1861a59"), looks := true }, kinds := [], alts := [], laidByText := true, laidKinds := [.data, .data, .data, .sentinel, .sentinel, .sentinel], laidTests := true, laidLooks := .later }
def StackAloneUptoCardSaid : Prop := Claim7.holds Tryd.pinned (.plain (OpenSpec.upto stackAloneSpec)) stackAloneUptoCard

/-- THE SECOND FORM's CARD OF 'quiescentlaw2.ClientOne'. -/
def clientOneUptoCard : Claim7 := { stood := { row := clientOneUptoRow, standIns := [], harness := (true, "0be9fdb045fd8fe8847982782635fc00edfbe0a04ae8d53a75384ad0e1861a59"), looks := true }, kinds := [], alts := [], laidByText := true, laidKinds := [.data, .data, .data, .sentinel, .sentinel, .sentinel, .sentinel, .sentinel, .widerDeep], laidTests := true, laidLooks := .later }
def ClientOneUptoCardSaid : Prop := Claim7.holds Tryd.pinned (.plain (OpenSpec.upto clientOneSpec)) clientOneUptoCard

/-- THE SECOND FORM's CARD OF 'quiescentlaw1.MachCopies'. -/
def machCopiesUptoCard : Claim7 := { stood := { row := machCopiesUptoRow, standIns := [], harness := (true, "0be9fdb045fd8fe8847982782635fc00edfbe0a04ae8d53a75384ad0e1861a59"), looks := true }, kinds := [], alts := [], laidByText := true, laidKinds := [.handle, .sentinel, .sentinel, .sentinel, .sentinel, .sentinel, .sentinel, .sentinel, .sentinel, .sentinel], laidTests := true, laidLooks := .later }
def MachCopiesUptoCardSaid : Prop := Claim7.holds Tryd.pinned (.plain (OpenSpec.upto machCopiesSpec)) machCopiesUptoCard
end Rows
end Go.Proofs.YtlapbfajdamlcaaDoor
