/-
  DERIVED. GIVEN WITH THE SEED: THE CARDS: each row of YtppihkneeolomaaDoorRows.lean that lists a variable, with what it lists TIED to the program's text (the seventh form; the later family's looks); each row that meets fmt, with fmt's text TOLD by the authors' own Lean function (tested against real Go, not proved from fmt's source: count such statements apart). THE CARD IS WHAT COUNTS. Prove the row's statement (the work); the ties are given (YtppihkneeolomaaDoorTie.lean); close each card by the builder's one call (the guide's Derived/Test/ToyasCard.lean, 'card_holds'). Laid BY PROGRAM, IN A SANDBOX (cutbox-door.mjs). By AI agents, Wed Nov 11 2026. No macro, syntax, notation, axiom, sorry.
-/
import Derived.Test.YtppihkneeolomaaDoorRows
import GoSem.ClaimSeven
namespace Go.Proofs.YtppihkneeolomaaDoor
namespace Rows

/-- THE TIED CARD OF 'quiescentlaw3.QueueSafe'. -/
def queueSafeCard : Claim7 := { stood := { row := queueSafeRow, standIns := [], harness := (true, "dc2d514fe0b85a83f756c3c0b8fa754428ba376abef63c3610072487699a5f0c"), looks := true }, kinds := [], alts := [], laidByText := true, laidKinds := [.data, .data, .data, .sentinel, .sentinel, .sentinel], laidTests := true, laidLooks := .later }
def QueueSafeCardSaid : Prop := Claim7.holds Tryd.pinned (.plain (OpenSpec.ofChange queueSafeSpec)) queueSafeCard

/-- THE TIED CARD OF 'quiescentlaw3.QueueBuilds'. -/
def queueBuildsCard : Claim7 := { stood := { row := queueBuildsRow, standIns := [], harness := (true, "dc2d514fe0b85a83f756c3c0b8fa754428ba376abef63c3610072487699a5f0c"), looks := true }, kinds := [], alts := [], laidByText := true, laidKinds := [.data, .data, .data, .handle, .sentinel, .sentinel, .sentinel, .sentinel, .sentinel, .sentinel, .sentinel, .sentinel, .sentinel], laidTests := true, laidLooks := .later }
def QueueBuildsCardSaid : Prop := Claim7.holds Tryd.pinned (.plain (OpenSpec.ofChange queueBuildsSpec)) queueBuildsCard

/-- THE TIED CARD OF 'quiescentlaw3.StackAlone'. -/
def stackAloneCard : Claim7 := { stood := { row := stackAloneRow, standIns := [], harness := (true, "dc2d514fe0b85a83f756c3c0b8fa754428ba376abef63c3610072487699a5f0c"), looks := true }, kinds := [], alts := [], laidByText := true, laidKinds := [.data, .data, .data, .sentinel, .sentinel, .sentinel], laidTests := true, laidLooks := .later }
def StackAloneCardSaid : Prop := Claim7.holds Tryd.pinned (.plain (OpenSpec.ofChange stackAloneSpec)) stackAloneCard

/-- THE TIED CARD OF 'quiescentlaw2.ClientOne'. -/
def clientOneCard : Claim7 := { stood := { row := clientOneRow, standIns := [], harness := (true, "dc2d514fe0b85a83f756c3c0b8fa754428ba376abef63c3610072487699a5f0c"), looks := true }, kinds := [], alts := [], laidByText := true, laidKinds := [.data, .data, .data, .sentinel, .sentinel, .sentinel, .sentinel, .sentinel, .widerDeep], laidTests := true, laidLooks := .later }
def ClientOneCardSaid : Prop := Claim7.holds Tryd.pinned (.plain (OpenSpec.ofChange clientOneSpec)) clientOneCard

/-- THE SECOND FORM's CARD OF 'quiescentlaw3.QueueSafe'. -/
def queueSafeUptoCard : Claim7 := { stood := { row := queueSafeUptoRow, standIns := [], harness := (true, "dc2d514fe0b85a83f756c3c0b8fa754428ba376abef63c3610072487699a5f0c"), looks := true }, kinds := [], alts := [], laidByText := true, laidKinds := [.data, .data, .data, .sentinel, .sentinel, .sentinel], laidTests := true, laidLooks := .later }
def QueueSafeUptoCardSaid : Prop := Claim7.holds Tryd.pinned (.plain (OpenSpec.upto queueSafeSpec)) queueSafeUptoCard

/-- THE SECOND FORM's CARD OF 'quiescentlaw3.QueueBuilds'. -/
def queueBuildsUptoCard : Claim7 := { stood := { row := queueBuildsUptoRow, standIns := [], harness := (true, "dc2d514fe0b85a83f756c3c0b8fa754428ba376abef63c3610072487699a5f0c"), looks := true }, kinds := [], alts := [], laidByText := true, laidKinds := [.data, .data, .data, .handle, .sentinel, .sentinel, .sentinel, .sentinel, .sentinel, .sentinel, .sentinel, .sentinel, .sentinel], laidTests := true, laidLooks := .later }
def QueueBuildsUptoCardSaid : Prop := Claim7.holds Tryd.pinned (.plain (OpenSpec.upto queueBuildsSpec)) queueBuildsUptoCard

/-- THE SECOND FORM's CARD OF 'quiescentlaw3.StackAlone'. -/
def stackAloneUptoCard : Claim7 := { stood := { row := stackAloneUptoRow, standIns := [], harness := (true, "dc2d514fe0b85a83f756c3c0b8fa754428ba376abef63c3610072487699a5f0c"), looks := true }, kinds := [], alts := [], laidByText := true, laidKinds := [.data, .data, .data, .sentinel, .sentinel, .sentinel], laidTests := true, laidLooks := .later }
def StackAloneUptoCardSaid : Prop := Claim7.holds Tryd.pinned (.plain (OpenSpec.upto stackAloneSpec)) stackAloneUptoCard

/-- THE SECOND FORM's CARD OF 'quiescentlaw2.ClientOne'. -/
def clientOneUptoCard : Claim7 := { stood := { row := clientOneUptoRow, standIns := [], harness := (true, "dc2d514fe0b85a83f756c3c0b8fa754428ba376abef63c3610072487699a5f0c"), looks := true }, kinds := [], alts := [], laidByText := true, laidKinds := [.data, .data, .data, .sentinel, .sentinel, .sentinel, .sentinel, .sentinel, .widerDeep], laidTests := true, laidLooks := .later }
def ClientOneUptoCardSaid : Prop := Claim7.holds Tryd.pinned (.plain (OpenSpec.upto clientOneSpec)) clientOneUptoCard
end Rows
end Go.Proofs.YtppihkneeolomaaDoor
