/-
  DERIVED. GIVEN WITH THE SEED: THE CARDS: each row of YtamfbfajlfbooaaDoorRows.lean that lists a variable, with what it lists TIED to the program's text (the seventh form; the later family's looks); each row that meets fmt, with fmt's text TOLD by the authors' own Lean function (tested against real Go, not proved from fmt's source: count such statements apart). THE CARD IS WHAT COUNTS. Prove the row's statement (the work); the ties are given (YtamfbfajlfbooaaDoorTie.lean); close each card by the builder's one call (the guide's Derived/Test/ToyasCard.lean, 'card_holds'). Laid BY PROGRAM, IN A SANDBOX (cutbox-door.mjs). By AI agents, Wed Nov 11 2026. No macro, syntax, notation, axiom, sorry.
-/
import Derived.Test.YtamfbfajlfbooaaDoorRows
import GoSem.ClaimSeven
namespace Go.Proofs.YtamfbfajlfbooaaDoor
namespace Rows

/-- THE TIED CARD OF 'quiescentlaw2.SpinEnds'. -/
def spinEndsCard : Claim7 := { stood := { row := spinEndsRow, standIns := [], harness := (true, "c78d9768c950c5411273d3df1dce0e675f5ac73a2e1506b9ff11d1e46d704fb5"), looks := true }, kinds := [], alts := [], laidByText := true, laidKinds := [.sentinel, .sentinel], laidTests := true, laidLooks := .later }
def SpinEndsCardSaid : Prop := Claim7.holds Tryd.pinned (.plain (OpenSpec.ofChange spinEndsSpec)) spinEndsCard

/-- THE TIED CARD OF 'quiescentlaw2.SpinSafe'. -/
def spinSafeCard : Claim7 := { stood := { row := spinSafeRow, standIns := [], harness := (true, "c78d9768c950c5411273d3df1dce0e675f5ac73a2e1506b9ff11d1e46d704fb5"), looks := true }, kinds := [], alts := [], laidByText := true, laidKinds := [.sentinel, .sentinel], laidTests := true, laidLooks := .later }
def SpinSafeCardSaid : Prop := Claim7.holds Tryd.pinned (.plain (OpenSpec.ofChange spinSafeSpec)) spinSafeCard

/-- THE TIED CARD OF 'quiescentlaw1.MemoryAlone'. -/
def memoryAloneCard : Claim7 := { stood := { row := memoryAloneRow, standIns := [], harness := (true, "c78d9768c950c5411273d3df1dce0e675f5ac73a2e1506b9ff11d1e46d704fb5"), looks := true }, kinds := [], alts := [], laidByText := true, laidKinds := [.sentinel, .sentinel, .sentinel, .sentinel], laidTests := true, laidLooks := .later }
def MemoryAloneCardSaid : Prop := Claim7.holds Tryd.pinned (.plain (OpenSpec.ofChange memoryAloneSpec)) memoryAloneCard

/-- THE TIED CARD OF 'quiescentlaw1.Names'. -/
def namesCard : Claim7 := { stood := { row := namesRow, standIns := [], harness := (true, "c78d9768c950c5411273d3df1dce0e675f5ac73a2e1506b9ff11d1e46d704fb5"), looks := true }, kinds := [], alts := [], laidByText := true, laidKinds := [.handle, .sentinel, .sentinel, .sentinel, .sentinel, .sentinel, .sentinel, .sentinel, .sentinel, .sentinel], laidTests := true, laidLooks := .later }
def NamesCardSaid : Prop := Claim7.holds Tryd.pinned (.plain (OpenSpec.ofChange namesSpec)) namesCard

/-- THE TIED CARD OF 'quiescentlaw2.GraceBursts'. -/
def graceBurstsCard : Claim7 := { stood := { row := graceBurstsRow, standIns := [], harness := (true, "c78d9768c950c5411273d3df1dce0e675f5ac73a2e1506b9ff11d1e46d704fb5"), looks := true }, kinds := [], alts := [], laidByText := true, laidKinds := [.sentinel, .sentinel], laidTests := true, laidLooks := .later }
def GraceBurstsCardSaid : Prop := Claim7.holds Tryd.pinned (.plain (OpenSpec.ofChange graceBurstsSpec)) graceBurstsCard

/-- THE TIED CARD OF 'quiescentlaw2.GraceEnds'. -/
def graceEndsCard : Claim7 := { stood := { row := graceEndsRow, standIns := [], harness := (true, "c78d9768c950c5411273d3df1dce0e675f5ac73a2e1506b9ff11d1e46d704fb5"), looks := true }, kinds := [], alts := [], laidByText := true, laidKinds := [.sentinel, .sentinel], laidTests := true, laidLooks := .later }
def GraceEndsCardSaid : Prop := Claim7.holds Tryd.pinned (.plain (OpenSpec.ofChange graceEndsSpec)) graceEndsCard

/-- THE TIED CARD OF 'quiescentlaw2.GraceNone'. -/
def graceNoneCard : Claim7 := { stood := { row := graceNoneRow, standIns := [], harness := (true, "c78d9768c950c5411273d3df1dce0e675f5ac73a2e1506b9ff11d1e46d704fb5"), looks := true }, kinds := [], alts := [], laidByText := true, laidKinds := [.sentinel, .sentinel], laidTests := true, laidLooks := .later }
def GraceNoneCardSaid : Prop := Claim7.holds Tryd.pinned (.plain (OpenSpec.ofChange graceNoneSpec)) graceNoneCard

/-- THE TIED CARD OF 'quiescentlaw2.GraceSafe'. -/
def graceSafeCard : Claim7 := { stood := { row := graceSafeRow, standIns := [], harness := (true, "c78d9768c950c5411273d3df1dce0e675f5ac73a2e1506b9ff11d1e46d704fb5"), looks := true }, kinds := [], alts := [], laidByText := true, laidKinds := [.sentinel, .sentinel], laidTests := true, laidLooks := .later }
def GraceSafeCardSaid : Prop := Claim7.holds Tryd.pinned (.plain (OpenSpec.ofChange graceSafeSpec)) graceSafeCard

/-- THE TIED CARD OF 'quiescentlaw1.ArenaWords'. -/
def arenaWordsCard : Claim7 := { stood := { row := arenaWordsRow, standIns := [], harness := (true, "c78d9768c950c5411273d3df1dce0e675f5ac73a2e1506b9ff11d1e46d704fb5"), looks := true }, kinds := [], alts := [], laidByText := true, laidKinds := [.handle, .sentinel, .sentinel, .sentinel, .sentinel, .sentinel, .sentinel, .sentinel, .sentinel, .sentinel], laidTests := true, laidLooks := .later }
def ArenaWordsCardSaid : Prop := Claim7.holds Tryd.pinned (.plain (OpenSpec.ofChange arenaWordsSpec)) arenaWordsCard

/-- THE TIED CARD OF 'quiescentlaw3.StackCode'. -/
def stackCodeCard : Claim7 := { stood := { row := stackCodeRow, standIns := [], harness := (true, "c78d9768c950c5411273d3df1dce0e675f5ac73a2e1506b9ff11d1e46d704fb5"), looks := true }, kinds := [], alts := [], laidByText := true, laidKinds := [.handle, .sentinel, .sentinel, .sentinel, .sentinel, .sentinel, .sentinel, .sentinel, .sentinel, .sentinel], laidTests := true, laidLooks := .later }
def StackCodeCardSaid : Prop := Claim7.holds Tryd.pinned (.plain (OpenSpec.ofChange stackCodeSpec)) stackCodeCard

/-- THE TIED CARD OF 'quiescentlaw2.SpinCode'. -/
def spinCodeCard : Claim7 := { stood := { row := spinCodeRow, standIns := [], harness := (true, "c78d9768c950c5411273d3df1dce0e675f5ac73a2e1506b9ff11d1e46d704fb5"), looks := true }, kinds := [], alts := [], laidByText := true, laidKinds := [.handle, .sentinel, .sentinel, .sentinel, .sentinel, .sentinel, .sentinel, .sentinel, .sentinel, .sentinel], laidTests := true, laidLooks := .later }
def SpinCodeCardSaid : Prop := Claim7.holds Tryd.pinned (.plain (OpenSpec.ofChange spinCodeSpec)) spinCodeCard

/-- THE TIED CARD OF 'quiescentlaw1.ArenaStale'. -/
def arenaStaleCard : Claim7 := { stood := { row := arenaStaleRow, standIns := [], harness := (true, "c78d9768c950c5411273d3df1dce0e675f5ac73a2e1506b9ff11d1e46d704fb5"), looks := true }, kinds := [], alts := [], laidByText := true, laidKinds := [.handle, .sentinel, .sentinel, .sentinel, .sentinel, .sentinel, .sentinel, .sentinel, .sentinel, .sentinel], laidTests := true, laidLooks := .later }
def ArenaStaleCardSaid : Prop := Claim7.holds Tryd.pinned (.plain (OpenSpec.ofChange arenaStaleSpec)) arenaStaleCard

/-- THE TIED CARD OF 'quiescentlaw1.ArenaActs'. -/
def arenaActsCard : Claim7 := { stood := { row := arenaActsRow, standIns := [], harness := (true, "c78d9768c950c5411273d3df1dce0e675f5ac73a2e1506b9ff11d1e46d704fb5"), looks := true }, kinds := [], alts := [], laidByText := true, laidKinds := [.handle, .sentinel, .sentinel, .sentinel, .sentinel, .sentinel, .sentinel, .sentinel, .sentinel, .sentinel], laidTests := true, laidLooks := .later }
def ArenaActsCardSaid : Prop := Claim7.holds Tryd.pinned (.plain (OpenSpec.ofChange arenaActsSpec)) arenaActsCard

/-- THE TIED CARD OF 'quiescentlaw2.SpinNamed'. -/
def spinNamedCard : Claim7 := { stood := { row := spinNamedRow, standIns := [], harness := (true, "c78d9768c950c5411273d3df1dce0e675f5ac73a2e1506b9ff11d1e46d704fb5"), looks := true }, kinds := [], alts := [], laidByText := true, laidKinds := [.handle, .sentinel, .sentinel, .sentinel, .sentinel, .sentinel, .sentinel, .sentinel, .sentinel, .sentinel], laidTests := true, laidLooks := .later }
def SpinNamedCardSaid : Prop := Claim7.holds Tryd.pinned (.plain (OpenSpec.ofChange spinNamedSpec)) spinNamedCard

/-- THE TIED CARD OF 'quiescentlaw3.QueueCode'. -/
def queueCodeCard : Claim7 := { stood := { row := queueCodeRow, standIns := [], harness := (true, "c78d9768c950c5411273d3df1dce0e675f5ac73a2e1506b9ff11d1e46d704fb5"), looks := true }, kinds := [], alts := [], laidByText := true, laidKinds := [.handle, .sentinel, .sentinel, .sentinel, .sentinel, .sentinel, .sentinel, .sentinel, .sentinel, .sentinel], laidTests := true, laidLooks := .later }
def QueueCodeCardSaid : Prop := Claim7.holds Tryd.pinned (.plain (OpenSpec.ofChange queueCodeSpec)) queueCodeCard

/-- THE TIED CARD OF 'quiescentlaw1.MemoryActs'. -/
def memoryActsCard : Claim7 := { stood := { row := memoryActsRow, standIns := [], harness := (true, "c78d9768c950c5411273d3df1dce0e675f5ac73a2e1506b9ff11d1e46d704fb5"), looks := true }, kinds := [], alts := [], laidByText := true, laidKinds := [.handle, .sentinel, .sentinel, .sentinel, .sentinel, .sentinel, .sentinel, .sentinel, .sentinel, .sentinel], laidTests := true, laidLooks := .later }
def MemoryActsCardSaid : Prop := Claim7.holds Tryd.pinned (.plain (OpenSpec.ofChange memoryActsSpec)) memoryActsCard

/-- THE TIED CARD OF 'quiescentlaw2.GraceCode'. -/
def graceCodeCard : Claim7 := { stood := { row := graceCodeRow, standIns := [], harness := (true, "c78d9768c950c5411273d3df1dce0e675f5ac73a2e1506b9ff11d1e46d704fb5"), looks := true }, kinds := [], alts := [], laidByText := true, laidKinds := [.handle, .sentinel, .sentinel, .sentinel, .sentinel, .sentinel, .sentinel, .sentinel, .sentinel, .sentinel], laidTests := true, laidLooks := .later }
def GraceCodeCardSaid : Prop := Claim7.holds Tryd.pinned (.plain (OpenSpec.ofChange graceCodeSpec)) graceCodeCard

/-- THE SECOND FORM's CARD OF 'quiescentlaw2.SpinEnds'. -/
def spinEndsUptoCard : Claim7 := { stood := { row := spinEndsUptoRow, standIns := [], harness := (true, "c78d9768c950c5411273d3df1dce0e675f5ac73a2e1506b9ff11d1e46d704fb5"), looks := true }, kinds := [], alts := [], laidByText := true, laidKinds := [.sentinel, .sentinel], laidTests := true, laidLooks := .later }
def SpinEndsUptoCardSaid : Prop := Claim7.holds Tryd.pinned (.plain (OpenSpec.upto spinEndsSpec)) spinEndsUptoCard

/-- THE SECOND FORM's CARD OF 'quiescentlaw2.SpinSafe'. -/
def spinSafeUptoCard : Claim7 := { stood := { row := spinSafeUptoRow, standIns := [], harness := (true, "c78d9768c950c5411273d3df1dce0e675f5ac73a2e1506b9ff11d1e46d704fb5"), looks := true }, kinds := [], alts := [], laidByText := true, laidKinds := [.sentinel, .sentinel], laidTests := true, laidLooks := .later }
def SpinSafeUptoCardSaid : Prop := Claim7.holds Tryd.pinned (.plain (OpenSpec.upto spinSafeSpec)) spinSafeUptoCard

/-- THE SECOND FORM's CARD OF 'quiescentlaw1.MemoryAlone'. -/
def memoryAloneUptoCard : Claim7 := { stood := { row := memoryAloneUptoRow, standIns := [], harness := (true, "c78d9768c950c5411273d3df1dce0e675f5ac73a2e1506b9ff11d1e46d704fb5"), looks := true }, kinds := [], alts := [], laidByText := true, laidKinds := [.sentinel, .sentinel, .sentinel, .sentinel], laidTests := true, laidLooks := .later }
def MemoryAloneUptoCardSaid : Prop := Claim7.holds Tryd.pinned (.plain (OpenSpec.upto memoryAloneSpec)) memoryAloneUptoCard

/-- THE SECOND FORM's CARD OF 'quiescentlaw1.Names'. -/
def namesUptoCard : Claim7 := { stood := { row := namesUptoRow, standIns := [], harness := (true, "c78d9768c950c5411273d3df1dce0e675f5ac73a2e1506b9ff11d1e46d704fb5"), looks := true }, kinds := [], alts := [], laidByText := true, laidKinds := [.handle, .sentinel, .sentinel, .sentinel, .sentinel, .sentinel, .sentinel, .sentinel, .sentinel, .sentinel], laidTests := true, laidLooks := .later }
def NamesUptoCardSaid : Prop := Claim7.holds Tryd.pinned (.plain (OpenSpec.upto namesSpec)) namesUptoCard

/-- THE SECOND FORM's CARD OF 'quiescentlaw2.GraceBursts'. -/
def graceBurstsUptoCard : Claim7 := { stood := { row := graceBurstsUptoRow, standIns := [], harness := (true, "c78d9768c950c5411273d3df1dce0e675f5ac73a2e1506b9ff11d1e46d704fb5"), looks := true }, kinds := [], alts := [], laidByText := true, laidKinds := [.sentinel, .sentinel], laidTests := true, laidLooks := .later }
def GraceBurstsUptoCardSaid : Prop := Claim7.holds Tryd.pinned (.plain (OpenSpec.upto graceBurstsSpec)) graceBurstsUptoCard

/-- THE SECOND FORM's CARD OF 'quiescentlaw2.GraceEnds'. -/
def graceEndsUptoCard : Claim7 := { stood := { row := graceEndsUptoRow, standIns := [], harness := (true, "c78d9768c950c5411273d3df1dce0e675f5ac73a2e1506b9ff11d1e46d704fb5"), looks := true }, kinds := [], alts := [], laidByText := true, laidKinds := [.sentinel, .sentinel], laidTests := true, laidLooks := .later }
def GraceEndsUptoCardSaid : Prop := Claim7.holds Tryd.pinned (.plain (OpenSpec.upto graceEndsSpec)) graceEndsUptoCard

/-- THE SECOND FORM's CARD OF 'quiescentlaw2.GraceNone'. -/
def graceNoneUptoCard : Claim7 := { stood := { row := graceNoneUptoRow, standIns := [], harness := (true, "c78d9768c950c5411273d3df1dce0e675f5ac73a2e1506b9ff11d1e46d704fb5"), looks := true }, kinds := [], alts := [], laidByText := true, laidKinds := [.sentinel, .sentinel], laidTests := true, laidLooks := .later }
def GraceNoneUptoCardSaid : Prop := Claim7.holds Tryd.pinned (.plain (OpenSpec.upto graceNoneSpec)) graceNoneUptoCard

/-- THE SECOND FORM's CARD OF 'quiescentlaw2.GraceSafe'. -/
def graceSafeUptoCard : Claim7 := { stood := { row := graceSafeUptoRow, standIns := [], harness := (true, "c78d9768c950c5411273d3df1dce0e675f5ac73a2e1506b9ff11d1e46d704fb5"), looks := true }, kinds := [], alts := [], laidByText := true, laidKinds := [.sentinel, .sentinel], laidTests := true, laidLooks := .later }
def GraceSafeUptoCardSaid : Prop := Claim7.holds Tryd.pinned (.plain (OpenSpec.upto graceSafeSpec)) graceSafeUptoCard

/-- THE SECOND FORM's CARD OF 'quiescentlaw1.ArenaWords'. -/
def arenaWordsUptoCard : Claim7 := { stood := { row := arenaWordsUptoRow, standIns := [], harness := (true, "c78d9768c950c5411273d3df1dce0e675f5ac73a2e1506b9ff11d1e46d704fb5"), looks := true }, kinds := [], alts := [], laidByText := true, laidKinds := [.handle, .sentinel, .sentinel, .sentinel, .sentinel, .sentinel, .sentinel, .sentinel, .sentinel, .sentinel], laidTests := true, laidLooks := .later }
def ArenaWordsUptoCardSaid : Prop := Claim7.holds Tryd.pinned (.plain (OpenSpec.upto arenaWordsSpec)) arenaWordsUptoCard

/-- THE SECOND FORM's CARD OF 'quiescentlaw3.StackCode'. -/
def stackCodeUptoCard : Claim7 := { stood := { row := stackCodeUptoRow, standIns := [], harness := (true, "c78d9768c950c5411273d3df1dce0e675f5ac73a2e1506b9ff11d1e46d704fb5"), looks := true }, kinds := [], alts := [], laidByText := true, laidKinds := [.handle, .sentinel, .sentinel, .sentinel, .sentinel, .sentinel, .sentinel, .sentinel, .sentinel, .sentinel], laidTests := true, laidLooks := .later }
def StackCodeUptoCardSaid : Prop := Claim7.holds Tryd.pinned (.plain (OpenSpec.upto stackCodeSpec)) stackCodeUptoCard

/-- THE SECOND FORM's CARD OF 'quiescentlaw2.SpinCode'. -/
def spinCodeUptoCard : Claim7 := { stood := { row := spinCodeUptoRow, standIns := [], harness := (true, "c78d9768c950c5411273d3df1dce0e675f5ac73a2e1506b9ff11d1e46d704fb5"), looks := true }, kinds := [], alts := [], laidByText := true, laidKinds := [.handle, .sentinel, .sentinel, .sentinel, .sentinel, .sentinel, .sentinel, .sentinel, .sentinel, .sentinel], laidTests := true, laidLooks := .later }
def SpinCodeUptoCardSaid : Prop := Claim7.holds Tryd.pinned (.plain (OpenSpec.upto spinCodeSpec)) spinCodeUptoCard

/-- THE SECOND FORM's CARD OF 'quiescentlaw1.ArenaStale'. -/
def arenaStaleUptoCard : Claim7 := { stood := { row := arenaStaleUptoRow, standIns := [], harness := (true, "c78d9768c950c5411273d3df1dce0e675f5ac73a2e1506b9ff11d1e46d704fb5"), looks := true }, kinds := [], alts := [], laidByText := true, laidKinds := [.handle, .sentinel, .sentinel, .sentinel, .sentinel, .sentinel, .sentinel, .sentinel, .sentinel, .sentinel], laidTests := true, laidLooks := .later }
def ArenaStaleUptoCardSaid : Prop := Claim7.holds Tryd.pinned (.plain (OpenSpec.upto arenaStaleSpec)) arenaStaleUptoCard

/-- THE SECOND FORM's CARD OF 'quiescentlaw1.ArenaActs'. -/
def arenaActsUptoCard : Claim7 := { stood := { row := arenaActsUptoRow, standIns := [], harness := (true, "c78d9768c950c5411273d3df1dce0e675f5ac73a2e1506b9ff11d1e46d704fb5"), looks := true }, kinds := [], alts := [], laidByText := true, laidKinds := [.handle, .sentinel, .sentinel, .sentinel, .sentinel, .sentinel, .sentinel, .sentinel, .sentinel, .sentinel], laidTests := true, laidLooks := .later }
def ArenaActsUptoCardSaid : Prop := Claim7.holds Tryd.pinned (.plain (OpenSpec.upto arenaActsSpec)) arenaActsUptoCard

/-- THE SECOND FORM's CARD OF 'quiescentlaw2.SpinNamed'. -/
def spinNamedUptoCard : Claim7 := { stood := { row := spinNamedUptoRow, standIns := [], harness := (true, "c78d9768c950c5411273d3df1dce0e675f5ac73a2e1506b9ff11d1e46d704fb5"), looks := true }, kinds := [], alts := [], laidByText := true, laidKinds := [.handle, .sentinel, .sentinel, .sentinel, .sentinel, .sentinel, .sentinel, .sentinel, .sentinel, .sentinel], laidTests := true, laidLooks := .later }
def SpinNamedUptoCardSaid : Prop := Claim7.holds Tryd.pinned (.plain (OpenSpec.upto spinNamedSpec)) spinNamedUptoCard

/-- THE SECOND FORM's CARD OF 'quiescentlaw3.QueueCode'. -/
def queueCodeUptoCard : Claim7 := { stood := { row := queueCodeUptoRow, standIns := [], harness := (true, "c78d9768c950c5411273d3df1dce0e675f5ac73a2e1506b9ff11d1e46d704fb5"), looks := true }, kinds := [], alts := [], laidByText := true, laidKinds := [.handle, .sentinel, .sentinel, .sentinel, .sentinel, .sentinel, .sentinel, .sentinel, .sentinel, .sentinel], laidTests := true, laidLooks := .later }
def QueueCodeUptoCardSaid : Prop := Claim7.holds Tryd.pinned (.plain (OpenSpec.upto queueCodeSpec)) queueCodeUptoCard

/-- THE SECOND FORM's CARD OF 'quiescentlaw1.MemoryActs'. -/
def memoryActsUptoCard : Claim7 := { stood := { row := memoryActsUptoRow, standIns := [], harness := (true, "c78d9768c950c5411273d3df1dce0e675f5ac73a2e1506b9ff11d1e46d704fb5"), looks := true }, kinds := [], alts := [], laidByText := true, laidKinds := [.handle, .sentinel, .sentinel, .sentinel, .sentinel, .sentinel, .sentinel, .sentinel, .sentinel, .sentinel], laidTests := true, laidLooks := .later }
def MemoryActsUptoCardSaid : Prop := Claim7.holds Tryd.pinned (.plain (OpenSpec.upto memoryActsSpec)) memoryActsUptoCard

/-- THE SECOND FORM's CARD OF 'quiescentlaw2.GraceCode'. -/
def graceCodeUptoCard : Claim7 := { stood := { row := graceCodeUptoRow, standIns := [], harness := (true, "c78d9768c950c5411273d3df1dce0e675f5ac73a2e1506b9ff11d1e46d704fb5"), looks := true }, kinds := [], alts := [], laidByText := true, laidKinds := [.handle, .sentinel, .sentinel, .sentinel, .sentinel, .sentinel, .sentinel, .sentinel, .sentinel, .sentinel], laidTests := true, laidLooks := .later }
def GraceCodeUptoCardSaid : Prop := Claim7.holds Tryd.pinned (.plain (OpenSpec.upto graceCodeSpec)) graceCodeUptoCard
end Rows
end Go.Proofs.YtamfbfajlfbooaaDoor
