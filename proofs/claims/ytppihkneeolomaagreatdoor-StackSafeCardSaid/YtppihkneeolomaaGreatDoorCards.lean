/-
  DERIVED. GIVEN WITH THE SEED: THE CARDS: each row of YtppihkneeolomaaGreatDoorRows.lean that lists a variable, with what it lists TIED to the program's text (the seventh form; the later family's looks); each row that meets fmt, with fmt's text TOLD by the authors' own Lean function (tested against real Go, not proved from fmt's source: count such statements apart). THE CARD IS WHAT COUNTS. Prove the row's statement (the work); the ties are given (YtppihkneeolomaaGreatDoorTie.lean); close each card by the builder's one call (the guide's Derived/Test/ToyasCard.lean, 'card_holds'). Laid BY PROGRAM, IN A SANDBOX (cutbox-door.mjs). By AI agents, Wed Nov 11 2026. No macro, syntax, notation, axiom, sorry.
-/
import Derived.Test.YtppihkneeolomaaGreatDoorRows
import GoSem.ClaimSeven
namespace Go.Proofs.YtppihkneeolomaaGreatDoor
namespace Rows

/-- THE TIED CARD OF 'quiescentlaw3.StackSafe'. -/
def stackSafeCard : Claim7 := { stood := { row := stackSafeRow, standIns := [], harness := (true, "e8a94b9b707579927fe11eacfcf8b017beebb29064060a7a3843226d2001e800"), looks := true }, kinds := [], alts := [], laidByText := true, laidKinds := [.data, .data, .data, .sentinel, .sentinel, .sentinel], laidTests := true, laidLooks := .later }
def StackSafeCardSaid : Prop := Claim7.holds Tryz.pinned (.plain (OpenSpec.ofChange stackSafeSpec)) stackSafeCard

/-- THE TIED CARD OF 'quiescentlaw2.ClientSafe'. -/
def clientSafeCard : Claim7 := { stood := { row := clientSafeRow, standIns := [], harness := (true, "e8a94b9b707579927fe11eacfcf8b017beebb29064060a7a3843226d2001e800"), looks := true }, kinds := [], alts := [], laidByText := true, laidKinds := [.data, .data, .data, .sentinel, .sentinel, .sentinel, .sentinel, .sentinel, .widerDeep], laidTests := true, laidLooks := .later }
def ClientSafeCardSaid : Prop := Claim7.holds Tryz.pinned (.plain (OpenSpec.ofChange clientSafeSpec)) clientSafeCard

/-- THE TIED CARD OF 'quiescentlaw3.StackBuilds'. -/
def stackBuildsCard : Claim7 := { stood := { row := stackBuildsRow, standIns := [], harness := (true, "e8a94b9b707579927fe11eacfcf8b017beebb29064060a7a3843226d2001e800"), looks := true }, kinds := [], alts := [], laidByText := true, laidKinds := [.data, .data, .data, .handle, .sentinel, .sentinel, .sentinel, .sentinel, .sentinel, .sentinel, .sentinel, .sentinel, .sentinel], laidTests := true, laidLooks := .later }
def StackBuildsCardSaid : Prop := Claim7.holds Tryz.pinned (.plain (OpenSpec.ofChange stackBuildsSpec)) stackBuildsCard

/-- THE TIED CARD OF 'quiescentlaw2.ClientBuilds'. -/
def clientBuildsCard : Claim7 := { stood := { row := clientBuildsRow, standIns := [], harness := (true, "e8a94b9b707579927fe11eacfcf8b017beebb29064060a7a3843226d2001e800"), looks := true }, kinds := [], alts := [], laidByText := true, laidKinds := [.data, .data, .data, .handle, .sentinel, .sentinel, .sentinel, .sentinel, .sentinel, .sentinel, .sentinel, .sentinel, .sentinel, .widerDeep], laidTests := true, laidLooks := .later }
def ClientBuildsCardSaid : Prop := Claim7.holds Tryz.pinned (.plain (OpenSpec.ofChange clientBuildsSpec)) clientBuildsCard

/-- THE TIED CARD OF 'quiescentlaw2.ClientChecks'. -/
def clientChecksCard : Claim7 := { stood := { row := clientChecksRow, standIns := [], harness := (true, "e8a94b9b707579927fe11eacfcf8b017beebb29064060a7a3843226d2001e800"), looks := true }, kinds := [], alts := [], laidByText := true, laidKinds := [.data, .data, .data, .handle, .sentinel, .sentinel, .sentinel, .sentinel, .sentinel, .sentinel, .sentinel, .sentinel, .sentinel, .widerDeep], laidTests := true, laidLooks := .later }
def ClientChecksCardSaid : Prop := Claim7.holds Tryz.pinned (.plain (OpenSpec.ofChange clientChecksSpec)) clientChecksCard

/-- THE SECOND FORM's CARD OF 'quiescentlaw3.StackSafe'. -/
def stackSafeUptoCard : Claim7 := { stood := { row := stackSafeUptoRow, standIns := [], harness := (true, "e8a94b9b707579927fe11eacfcf8b017beebb29064060a7a3843226d2001e800"), looks := true }, kinds := [], alts := [], laidByText := true, laidKinds := [.data, .data, .data, .sentinel, .sentinel, .sentinel], laidTests := true, laidLooks := .later }
def StackSafeUptoCardSaid : Prop := Claim7.holds Tryz.pinned (.plain (OpenSpec.upto stackSafeSpec)) stackSafeUptoCard

/-- THE SECOND FORM's CARD OF 'quiescentlaw2.ClientSafe'. -/
def clientSafeUptoCard : Claim7 := { stood := { row := clientSafeUptoRow, standIns := [], harness := (true, "e8a94b9b707579927fe11eacfcf8b017beebb29064060a7a3843226d2001e800"), looks := true }, kinds := [], alts := [], laidByText := true, laidKinds := [.data, .data, .data, .sentinel, .sentinel, .sentinel, .sentinel, .sentinel, .widerDeep], laidTests := true, laidLooks := .later }
def ClientSafeUptoCardSaid : Prop := Claim7.holds Tryz.pinned (.plain (OpenSpec.upto clientSafeSpec)) clientSafeUptoCard

/-- THE SECOND FORM's CARD OF 'quiescentlaw3.StackBuilds'. -/
def stackBuildsUptoCard : Claim7 := { stood := { row := stackBuildsUptoRow, standIns := [], harness := (true, "e8a94b9b707579927fe11eacfcf8b017beebb29064060a7a3843226d2001e800"), looks := true }, kinds := [], alts := [], laidByText := true, laidKinds := [.data, .data, .data, .handle, .sentinel, .sentinel, .sentinel, .sentinel, .sentinel, .sentinel, .sentinel, .sentinel, .sentinel], laidTests := true, laidLooks := .later }
def StackBuildsUptoCardSaid : Prop := Claim7.holds Tryz.pinned (.plain (OpenSpec.upto stackBuildsSpec)) stackBuildsUptoCard

/-- THE SECOND FORM's CARD OF 'quiescentlaw2.ClientBuilds'. -/
def clientBuildsUptoCard : Claim7 := { stood := { row := clientBuildsUptoRow, standIns := [], harness := (true, "e8a94b9b707579927fe11eacfcf8b017beebb29064060a7a3843226d2001e800"), looks := true }, kinds := [], alts := [], laidByText := true, laidKinds := [.data, .data, .data, .handle, .sentinel, .sentinel, .sentinel, .sentinel, .sentinel, .sentinel, .sentinel, .sentinel, .sentinel, .widerDeep], laidTests := true, laidLooks := .later }
def ClientBuildsUptoCardSaid : Prop := Claim7.holds Tryz.pinned (.plain (OpenSpec.upto clientBuildsSpec)) clientBuildsUptoCard

/-- THE SECOND FORM's CARD OF 'quiescentlaw2.ClientChecks'. -/
def clientChecksUptoCard : Claim7 := { stood := { row := clientChecksUptoRow, standIns := [], harness := (true, "e8a94b9b707579927fe11eacfcf8b017beebb29064060a7a3843226d2001e800"), looks := true }, kinds := [], alts := [], laidByText := true, laidKinds := [.data, .data, .data, .handle, .sentinel, .sentinel, .sentinel, .sentinel, .sentinel, .sentinel, .sentinel, .sentinel, .sentinel, .widerDeep], laidTests := true, laidLooks := .later }
def ClientChecksUptoCardSaid : Prop := Claim7.holds Tryz.pinned (.plain (OpenSpec.upto clientChecksSpec)) clientChecksUptoCard
end Rows
end Go.Proofs.YtppihkneeolomaaGreatDoor
