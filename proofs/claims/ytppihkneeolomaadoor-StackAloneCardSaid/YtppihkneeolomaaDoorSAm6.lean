/- Texts that belong together, joined. -/
import Derived.Test.YtppihkneeolomaaDoorSAGraceB
import Derived.Test.YtppihkneeolomaaDoorSAm4
import Derived.Test.YtppihkneeolomaaDoorSAm1
import Derived.Test.YtppihkneeolomaaDoorSAm5
import Derived.Test.YtppihkneeolomaaDoorSAm3
import Derived.Deep.RegionHeld3
set_option linter.unusedVariables false
set_option linter.unusedSimpArgs false
set_option linter.unusedSectionVars false
/- The code of package grace, flavour by flavour, plain. -/
section
namespace Go.Proofs.YtppihkneeolomaaDoor
open Go.RowKit Qs Qh
variable {w0 w w1 : World} {b o : Nat} {v0 : Value} {l : List Instr} {br s : ByteArray} {fe jo co : Bool} {u : Value} {c : Nat}
def gc10 : List Instr := [⟨6, 0, 6, 0, []⟩, ⟨0, 1, 255, 0, []⟩, ⟨4, 1, 0, 1, []⟩, ⟨14, 1, 0, 0, [46, 97]⟩, ⟨0, 1, 1, 0, []⟩, ⟨2, 0, 0, 1, []⟩, ⟨7, 6, 0, 0, []⟩, ⟨16, 0, 0, 0, [46, 98]⟩, ⟨17, 0, 0, 0, [46, 97]⟩, ⟨6, 0, 7, 0, []⟩, ⟨7, 6, 0, 0, []⟩, ⟨12, 0, 0, 0, []⟩, ⟨17, 0, 0, 0, [46, 98]⟩]
def gc11 : List Instr := [⟨12, 0, 0, 0, []⟩, ⟨6, 0, 6, 0, []⟩, ⟨0, 1, 1, 0, []⟩, ⟨3, 0, 0, 1, []⟩, ⟨7, 6, 0, 0, []⟩]
def gc12 : List Instr := []
def gc13 : List Instr := []
def gc14 : List Instr := [⟨12, 0, 0, 0, []⟩, ⟨17, 0, 0, 0, [116, 46, 97]⟩, ⟨0, 0, 0, 0, []⟩, ⟨0, 1, 1, 0, []⟩, ⟨9, 7, 0, 1, []⟩, ⟨14, 0, 0, 0, [116, 46, 98]⟩, ⟨16, 0, 0, 0, [116, 46, 97]⟩, ⟨17, 0, 0, 0, [116, 46, 98]⟩, ⟨6, 0, 7, 0, []⟩, ⟨0, 1, 256, 0, []⟩, ⟨5, 0, 0, 1, []⟩, ⟨7, 7, 0, 0, []⟩, ⟨12, 0, 0, 0, []⟩, ⟨6, 2, 7, 2, []⟩, ⟨17, 0, 0, 0, [46, 120, 108]⟩, ⟨14, 2, 0, 0, [46, 120, 111]⟩, ⟨17, 0, 0, 0, [46, 120, 115]⟩, ⟨6, 0, 2, 0, []⟩, ⟨0, 1, 255, 0, []⟩, ⟨4, 1, 0, 1, []⟩, ⟨14, 1, 0, 0, [46, 120, 110]⟩, ⟨6, 1, 7, 0, []⟩, ⟨5, 1, 0, 1, []⟩, ⟨0, 0, 256, 0, []⟩, ⟨4, 1, 1, 0, []⟩, ⟨14, 1, 0, 0, [46, 120, 110]⟩, ⟨16, 0, 0, 0, [46, 120, 115]⟩, ⟨17, 0, 0, 0, [46, 120, 110]⟩, ⟨6, 2, 2, 1, []⟩, ⟨16, 0, 0, 0, [46, 120, 108]⟩, ⟨17, 0, 0, 0, [46, 120, 111]⟩, ⟨6, 0, 7, 0, []⟩, ⟨0, 1, 256, 0, []⟩, ⟨5, 0, 0, 1, []⟩, ⟨7, 7, 0, 0, []⟩, ⟨12, 0, 0, 0, []⟩, ⟨6, 2, 7, 2, []⟩, ⟨17, 0, 0, 0, [46, 121, 108]⟩, ⟨14, 2, 0, 0, [46, 121, 111]⟩, ⟨17, 0, 0, 0, [46, 121, 115]⟩, ⟨6, 0, 2, 0, []⟩, ⟨0, 1, 255, 0, []⟩, ⟨4, 1, 0, 1, []⟩, ⟨14, 1, 0, 0, [46, 121, 110]⟩, ⟨6, 1, 7, 0, []⟩, ⟨5, 1, 0, 1, []⟩, ⟨0, 0, 256, 0, []⟩, ⟨4, 1, 1, 0, []⟩, ⟨14, 1, 0, 0, [46, 121, 110]⟩, ⟨16, 0, 0, 0, [46, 121, 115]⟩, ⟨17, 0, 0, 0, [46, 121, 110]⟩, ⟨6, 2, 2, 1, []⟩, ⟨16, 0, 0, 0, [46, 121, 108]⟩, ⟨17, 0, 0, 0, [46, 121, 111]⟩, ⟨12, 0, 0, 0, []⟩, ⟨0, 0, 0, 0, []⟩, ⟨7, 7, 0, 1, []⟩, ⟨12, 0, 0, 0, []⟩]
def gc20 : List Instr := [⟨6, 0, 6, 0, []⟩, ⟨0, 1, 255, 0, []⟩, ⟨4, 1, 0, 1, []⟩, ⟨14, 1, 0, 0, [46, 97]⟩, ⟨0, 1, 1, 0, []⟩, ⟨2, 0, 0, 1, []⟩, ⟨7, 6, 0, 0, []⟩, ⟨16, 0, 0, 0, [46, 98]⟩, ⟨17, 0, 0, 0, [46, 97]⟩, ⟨6, 0, 7, 0, []⟩, ⟨7, 6, 0, 0, []⟩, ⟨17, 0, 0, 0, [46, 98]⟩]
def gc21 : List Instr := [⟨6, 0, 6, 0, []⟩, ⟨0, 1, 1, 0, []⟩, ⟨3, 0, 0, 1, []⟩, ⟨7, 6, 0, 0, []⟩]
def gc22 : List Instr := []
def gc23 : List Instr := []
def gc24 : List Instr := [⟨13, 0, 0, 0, []⟩, ⟨17, 0, 0, 0, [116, 46, 97]⟩, ⟨0, 0, 0, 0, []⟩, ⟨0, 1, 1, 0, []⟩, ⟨9, 7, 0, 1, []⟩, ⟨14, 0, 0, 0, [116, 46, 98]⟩, ⟨16, 0, 0, 0, [116, 46, 97]⟩, ⟨17, 0, 0, 0, [116, 46, 98]⟩, ⟨6, 0, 7, 0, []⟩, ⟨0, 1, 256, 0, []⟩, ⟨5, 0, 0, 1, []⟩, ⟨7, 7, 0, 0, []⟩, ⟨13, 0, 0, 0, []⟩, ⟨6, 2, 7, 2, []⟩, ⟨17, 0, 0, 0, [46, 120, 108]⟩, ⟨14, 2, 0, 0, [46, 120, 111]⟩, ⟨17, 0, 0, 0, [46, 120, 115]⟩, ⟨6, 0, 2, 0, []⟩, ⟨0, 1, 255, 0, []⟩, ⟨4, 1, 0, 1, []⟩, ⟨14, 1, 0, 0, [46, 120, 110]⟩, ⟨6, 1, 7, 0, []⟩, ⟨5, 1, 0, 1, []⟩, ⟨0, 0, 256, 0, []⟩, ⟨4, 1, 1, 0, []⟩, ⟨14, 1, 0, 0, [46, 120, 110]⟩, ⟨16, 0, 0, 0, [46, 120, 115]⟩, ⟨17, 0, 0, 0, [46, 120, 110]⟩, ⟨6, 2, 2, 1, []⟩, ⟨16, 0, 0, 0, [46, 120, 108]⟩, ⟨17, 0, 0, 0, [46, 120, 111]⟩, ⟨6, 0, 7, 0, []⟩, ⟨0, 1, 256, 0, []⟩, ⟨5, 0, 0, 1, []⟩, ⟨7, 7, 0, 0, []⟩, ⟨13, 0, 0, 0, []⟩, ⟨6, 2, 7, 2, []⟩, ⟨17, 0, 0, 0, [46, 121, 108]⟩, ⟨14, 2, 0, 0, [46, 121, 111]⟩, ⟨17, 0, 0, 0, [46, 121, 115]⟩, ⟨6, 0, 2, 0, []⟩, ⟨0, 1, 255, 0, []⟩, ⟨4, 1, 0, 1, []⟩, ⟨14, 1, 0, 0, [46, 121, 110]⟩, ⟨6, 1, 7, 0, []⟩, ⟨5, 1, 0, 1, []⟩, ⟨0, 0, 256, 0, []⟩, ⟨4, 1, 1, 0, []⟩, ⟨14, 1, 0, 0, [46, 121, 110]⟩, ⟨16, 0, 0, 0, [46, 121, 115]⟩, ⟨17, 0, 0, 0, [46, 121, 110]⟩, ⟨6, 2, 2, 1, []⟩, ⟨16, 0, 0, 0, [46, 121, 108]⟩, ⟨17, 0, 0, 0, [46, 121, 111]⟩, ⟨13, 0, 0, 0, []⟩, ⟨0, 0, 0, 0, []⟩, ⟨7, 7, 0, 1, []⟩, ⟨12, 0, 0, 0, []⟩]
def gc30 : List Instr := []
def gc31 : List Instr := []
def gc32 : List Instr := [⟨6, 0, 7, 0, []⟩, ⟨7, 6, 0, 0, []⟩, ⟨12, 0, 0, 0, []⟩]
def gc33 : List Instr := [⟨0, 0, 0, 0, []⟩, ⟨7, 6, 0, 0, []⟩, ⟨12, 0, 0, 0, []⟩]
def gc34 : List Instr := [⟨0, 0, 0, 0, []⟩, ⟨7, 6, 0, 0, []⟩, ⟨12, 0, 0, 0, []⟩, ⟨17, 0, 0, 0, [116, 46, 97]⟩, ⟨0, 0, 0, 0, []⟩, ⟨0, 1, 1, 0, []⟩, ⟨9, 7, 0, 1, []⟩, ⟨14, 0, 0, 0, [116, 46, 98]⟩, ⟨16, 0, 0, 0, [116, 46, 97]⟩, ⟨17, 0, 0, 0, [116, 46, 98]⟩, ⟨6, 0, 7, 0, []⟩, ⟨0, 1, 2, 0, []⟩, ⟨2, 0, 0, 1, []⟩, ⟨7, 7, 0, 0, []⟩, ⟨12, 0, 0, 0, []⟩, ⟨6, 2, 7, 2, []⟩, ⟨17, 0, 0, 0, [46, 120, 108]⟩, ⟨14, 2, 0, 0, [46, 120, 111]⟩, ⟨17, 0, 0, 0, [46, 120, 115]⟩, ⟨6, 0, 2, 0, []⟩, ⟨14, 0, 0, 0, [46, 120, 110]⟩, ⟨6, 1, 7, 0, []⟩, ⟨15, 0, 1, 0, [46, 120, 110]⟩, ⟨16, 0, 0, 0, [46, 120, 115]⟩, ⟨17, 0, 0, 0, [46, 120, 110]⟩, ⟨6, 2, 2, 1, []⟩, ⟨16, 0, 0, 0, [46, 120, 108]⟩, ⟨17, 0, 0, 0, [46, 120, 111]⟩, ⟨0, 0, 0, 0, []⟩, ⟨7, 7, 0, 1, []⟩, ⟨12, 0, 0, 0, []⟩, ⟨6, 0, 7, 0, []⟩, ⟨7, 6, 0, 0, []⟩, ⟨12, 0, 0, 0, []⟩]
def gc40 : List Instr := [⟨6, 0, 6, 2, []⟩, ⟨14, 0, 0, 0, [46, 106]⟩, ⟨16, 0, 0, 0, [46, 107]⟩, ⟨17, 0, 0, 0, [46, 106]⟩, ⟨17, 0, 0, 0, [116, 46, 97]⟩, ⟨0, 0, 0, 0, []⟩, ⟨0, 1, 1, 0, []⟩, ⟨9, 7, 0, 1, []⟩, ⟨14, 0, 0, 0, [116, 46, 98]⟩, ⟨16, 0, 0, 0, [116, 46, 97]⟩, ⟨17, 0, 0, 0, [116, 46, 98]⟩, ⟨6, 0, 7, 2, []⟩, ⟨7, 6, 0, 1, []⟩, ⟨7, 7, 6, 2, []⟩, ⟨0, 0, 1, 0, []⟩, ⟨7, 6, 0, 2, []⟩, ⟨0, 0, 0, 0, []⟩, ⟨7, 7, 0, 1, []⟩, ⟨12, 0, 0, 0, []⟩, ⟨17, 0, 0, 0, [46, 107]⟩, ⟨6, 0, 6, 0, []⟩, ⟨0, 1, 255, 0, []⟩, ⟨4, 1, 0, 1, []⟩, ⟨14, 1, 0, 0, [46, 97]⟩, ⟨0, 1, 1, 0, []⟩, ⟨2, 0, 0, 1, []⟩, ⟨7, 6, 0, 0, []⟩, ⟨16, 0, 0, 0, [46, 98]⟩, ⟨17, 0, 0, 0, [46, 97]⟩, ⟨6, 0, 7, 0, []⟩, ⟨7, 6, 0, 0, []⟩, ⟨12, 0, 0, 0, []⟩, ⟨17, 0, 0, 0, [46, 98]⟩]
def gc41 : List Instr := [⟨12, 0, 0, 0, []⟩, ⟨6, 0, 6, 0, []⟩, ⟨0, 1, 1, 0, []⟩, ⟨3, 0, 0, 1, []⟩, ⟨7, 6, 0, 0, []⟩]
def gc42 : List Instr := []
def gc43 : List Instr := []
def gc44 : List Instr := [⟨12, 0, 0, 0, []⟩, ⟨17, 0, 0, 0, [116, 46, 97]⟩, ⟨0, 0, 0, 0, []⟩, ⟨0, 1, 1, 0, []⟩, ⟨9, 7, 0, 1, []⟩, ⟨14, 0, 0, 0, [116, 46, 98]⟩, ⟨16, 0, 0, 0, [116, 46, 97]⟩, ⟨17, 0, 0, 0, [116, 46, 98]⟩, ⟨6, 0, 7, 0, []⟩, ⟨0, 1, 256, 0, []⟩, ⟨5, 0, 0, 1, []⟩, ⟨7, 7, 0, 0, []⟩, ⟨12, 0, 0, 0, []⟩, ⟨6, 2, 7, 2, []⟩, ⟨17, 0, 0, 0, [46, 120, 108]⟩, ⟨14, 2, 0, 0, [46, 120, 111]⟩, ⟨17, 0, 0, 0, [46, 120, 115]⟩, ⟨6, 0, 2, 0, []⟩, ⟨0, 1, 255, 0, []⟩, ⟨4, 1, 0, 1, []⟩, ⟨14, 1, 0, 0, [46, 120, 110]⟩, ⟨6, 1, 7, 0, []⟩, ⟨5, 1, 0, 1, []⟩, ⟨0, 0, 256, 0, []⟩, ⟨4, 1, 1, 0, []⟩, ⟨14, 1, 0, 0, [46, 120, 110]⟩, ⟨16, 0, 0, 0, [46, 120, 115]⟩, ⟨17, 0, 0, 0, [46, 120, 110]⟩, ⟨6, 2, 2, 1, []⟩, ⟨16, 0, 0, 0, [46, 120, 108]⟩, ⟨17, 0, 0, 0, [46, 120, 111]⟩, ⟨6, 0, 7, 0, []⟩, ⟨0, 1, 256, 0, []⟩, ⟨5, 0, 0, 1, []⟩, ⟨7, 7, 0, 0, []⟩, ⟨12, 0, 0, 0, []⟩, ⟨6, 2, 7, 2, []⟩, ⟨17, 0, 0, 0, [46, 121, 108]⟩, ⟨14, 2, 0, 0, [46, 121, 111]⟩, ⟨17, 0, 0, 0, [46, 121, 115]⟩, ⟨6, 0, 2, 0, []⟩, ⟨0, 1, 255, 0, []⟩, ⟨4, 1, 0, 1, []⟩, ⟨14, 1, 0, 0, [46, 121, 110]⟩, ⟨6, 1, 7, 0, []⟩, ⟨5, 1, 0, 1, []⟩, ⟨0, 0, 256, 0, []⟩, ⟨4, 1, 1, 0, []⟩, ⟨14, 1, 0, 0, [46, 121, 110]⟩, ⟨16, 0, 0, 0, [46, 121, 115]⟩, ⟨17, 0, 0, 0, [46, 121, 110]⟩, ⟨6, 2, 2, 1, []⟩, ⟨16, 0, 0, 0, [46, 121, 108]⟩, ⟨17, 0, 0, 0, [46, 121, 111]⟩, ⟨12, 0, 0, 0, []⟩, ⟨0, 0, 0, 0, []⟩, ⟨7, 7, 0, 1, []⟩, ⟨12, 0, 0, 0, []⟩]
def gcode (f k : Nat) : List Instr := match f, k with
  | 1, 0 => gc10
  | 1, 1 => gc11
  | 1, 2 => gc12
  | 1, 3 => gc13
  | 1, 4 => gc14
  | 2, 0 => gc20
  | 2, 1 => gc21
  | 2, 2 => gc22
  | 2, 3 => gc23
  | 2, 4 => gc24
  | 3, 0 => gc30
  | 3, 1 => gc31
  | 3, 2 => gc32
  | 3, 3 => gc33
  | 3, 4 => gc34
  | 4, 0 => gc40
  | 4, 1 => gc41
  | 4, 2 => gc42
  | 4, 3 => gc43
  | 4, 4 => gc44
  | _, _ => []
theorem genter1_eq (s : ByteArray) : [] ++ ([⟨6, 0, 6, 0, []⟩, ⟨0, 1, 255, 0, []⟩, ⟨4, 1, 0, 1, []⟩, ⟨14, 1, 0, 0, s.data.toList ++ [46, 97]⟩, ⟨0, 1, 1, 0, []⟩, ⟨2, 0, 0, 1, []⟩, ⟨7, 6, 0, 0, []⟩, ⟨16, 0, 0, 0, s.data.toList ++ [46, 98]⟩, ⟨17, 0, 0, 0, s.data.toList ++ [46, 97]⟩, ⟨6, 0, 7, 0, []⟩, ⟨7, 6, 0, 0, []⟩, ⟨12, 0, 0, 0, []⟩, ⟨17, 0, 0, 0, s.data.toList ++ [46, 98]⟩]) = preC s.data.toList gc10 := by
  simp [preC, preI, gc10, takeCode, giveCode, joinCode, awayCode, eachCode, turnGo, waitGo, turnCode, List.append_assoc]
theorem gleave1_eq (s : ByteArray) : [] ++ ([⟨12, 0, 0, 0, []⟩, ⟨6, 0, 6, 0, []⟩, ⟨0, 1, 1, 0, []⟩, ⟨3, 0, 0, 1, []⟩, ⟨7, 6, 0, 0, []⟩]) = preC s.data.toList gc11 := by
  simp [preC, preI, gc11, takeCode, giveCode, joinCode, awayCode, eachCode, turnGo, waitGo, turnCode, List.append_assoc]
theorem gwait1_eq (s : ByteArray) : [] ++ ([⟨12, 0, 0, 0, []⟩] ++ (takeCode (s.data.toList ++ [116]) 7 1 0 ++ (turnCode 12 (s ++ ⟨#[46, 120]⟩) ++ (turnCode 12 (s ++ ⟨#[46, 121]⟩) ++ ([⟨12, 0, 0, 0, []⟩] ++ (giveCode 7 1 0)))))) = preC s.data.toList gc14 := by
  simp [preC, preI, gc14, takeCode, giveCode, joinCode, awayCode, eachCode, turnGo, waitGo, turnCode, List.append_assoc]
theorem genter2_eq (s : ByteArray) : [] ++ ([⟨6, 0, 6, 0, []⟩, ⟨0, 1, 255, 0, []⟩, ⟨4, 1, 0, 1, []⟩, ⟨14, 1, 0, 0, s.data.toList ++ [46, 97]⟩, ⟨0, 1, 1, 0, []⟩, ⟨2, 0, 0, 1, []⟩, ⟨7, 6, 0, 0, []⟩, ⟨16, 0, 0, 0, s.data.toList ++ [46, 98]⟩, ⟨17, 0, 0, 0, s.data.toList ++ [46, 97]⟩, ⟨6, 0, 7, 0, []⟩, ⟨7, 6, 0, 0, []⟩, ⟨17, 0, 0, 0, s.data.toList ++ [46, 98]⟩]) = preC s.data.toList gc20 := by
  simp [preC, preI, gc20, takeCode, giveCode, joinCode, awayCode, eachCode, turnGo, waitGo, turnCode, List.append_assoc]
theorem gleave2_eq (s : ByteArray) : [] ++ ([⟨6, 0, 6, 0, []⟩, ⟨0, 1, 1, 0, []⟩, ⟨3, 0, 0, 1, []⟩, ⟨7, 6, 0, 0, []⟩]) = preC s.data.toList gc21 := by
  simp [preC, preI, gc21, takeCode, giveCode, joinCode, awayCode, eachCode, turnGo, waitGo, turnCode, List.append_assoc]
theorem gwait2_eq (s : ByteArray) : [] ++ ([⟨13, 0, 0, 0, []⟩] ++ (takeCode (s.data.toList ++ [116]) 7 1 0 ++ (turnCode 13 (s ++ ⟨#[46, 120]⟩) ++ (turnCode 13 (s ++ ⟨#[46, 121]⟩) ++ ([⟨13, 0, 0, 0, []⟩] ++ (giveCode 7 1 0)))))) = preC s.data.toList gc24 := by
  simp [preC, preI, gc24, takeCode, giveCode, joinCode, awayCode, eachCode, turnGo, waitGo, turnCode, List.append_assoc]
theorem grest3_eq (s : ByteArray) : [] ++ ([⟨6, 0, 7, 0, []⟩, ⟨7, 6, 0, 0, []⟩, ⟨12, 0, 0, 0, []⟩]) = preC s.data.toList gc32 := by
  simp [preC, preI, gc32, takeCode, giveCode, joinCode, awayCode, eachCode, turnGo, waitGo, turnCode, List.append_assoc]
theorem ggone3_eq (s : ByteArray) : [] ++ (awayCode) = preC s.data.toList gc33 := by
  simp [preC, preI, gc33, takeCode, giveCode, joinCode, awayCode, eachCode, turnGo, waitGo, turnCode, List.append_assoc]
theorem gwait3_eq (s : ByteArray) : [] ++ (awayCode ++ (takeCode (s.data.toList ++ [116]) 7 1 0 ++ ([⟨6, 0, 7, 0, []⟩, ⟨0, 1, 2, 0, []⟩, ⟨2, 0, 0, 1, []⟩, ⟨7, 7, 0, 0, []⟩, ⟨12, 0, 0, 0, []⟩] ++ (eachCode (waitGo s) (s ++ ⟨#[46, 120]⟩) ++ (giveCode 7 1 0 ++ ([⟨6, 0, 7, 0, []⟩, ⟨7, 6, 0, 0, []⟩, ⟨12, 0, 0, 0, []⟩])))))) = preC s.data.toList gc34 := by
  simp [preC, preI, gc34, takeCode, giveCode, joinCode, awayCode, eachCode, turnGo, waitGo, turnCode, List.append_assoc]
theorem genter4_eq (s : ByteArray) : [] ++ (joinCode s ++ ([⟨6, 0, 6, 0, []⟩, ⟨0, 1, 255, 0, []⟩, ⟨4, 1, 0, 1, []⟩, ⟨14, 1, 0, 0, s.data.toList ++ [46, 97]⟩, ⟨0, 1, 1, 0, []⟩, ⟨2, 0, 0, 1, []⟩, ⟨7, 6, 0, 0, []⟩, ⟨16, 0, 0, 0, s.data.toList ++ [46, 98]⟩, ⟨17, 0, 0, 0, s.data.toList ++ [46, 97]⟩, ⟨6, 0, 7, 0, []⟩, ⟨7, 6, 0, 0, []⟩, ⟨12, 0, 0, 0, []⟩, ⟨17, 0, 0, 0, s.data.toList ++ [46, 98]⟩])) = preC s.data.toList gc40 := by
  simp [preC, preI, gc40, takeCode, giveCode, joinCode, awayCode, eachCode, turnGo, waitGo, turnCode, List.append_assoc]
theorem gleave4_eq (s : ByteArray) : [] ++ ([⟨12, 0, 0, 0, []⟩, ⟨6, 0, 6, 0, []⟩, ⟨0, 1, 1, 0, []⟩, ⟨3, 0, 0, 1, []⟩, ⟨7, 6, 0, 0, []⟩]) = preC s.data.toList gc41 := by
  simp [preC, preI, gc41, takeCode, giveCode, joinCode, awayCode, eachCode, turnGo, waitGo, turnCode, List.append_assoc]
theorem gwait4_eq (s : ByteArray) : [] ++ ([⟨12, 0, 0, 0, []⟩] ++ (takeCode (s.data.toList ++ [116]) 7 1 0 ++ (turnCode 12 (s ++ ⟨#[46, 120]⟩) ++ (turnCode 12 (s ++ ⟨#[46, 121]⟩) ++ ([⟨12, 0, 0, 0, []⟩] ++ (giveCode 7 1 0)))))) = preC s.data.toList gc44 := by
  simp [preC, preI, gc44, takeCode, giveCode, joinCode, awayCode, eachCode, turnGo, waitGo, turnCode, List.append_assoc]
end Go.Proofs.YtppihkneeolomaaDoor
end
/- Clients' and stacks' code: blocks. -/
section
namespace Qc
open Qs Qu Go.Proofs.YtppihkneeolomaaDoor
def laterBlk (p : List UInt8) (tn : Nat) (nx : Int) : List Instr := [⟨14, 3, 0, 0, p⟩, ⟨6, 2, 5, ((1 + tn / 4 : Nat) : Int), []⟩, ⟨6, 0, 2, ((tn % 4 : Nat) : Int), []⟩, ⟨7, 3, 0, nx, []⟩, ⟨7, 2, 3, ((tn % 4 : Nat) : Int), []⟩, ⟨0, 3, 0, 0, []⟩, ⟨17, 0, 0, 0, p⟩]
def flushTail (p q : List UInt8) (tn : Nat) (nx : Int) : List Instr := [⟨6, 2, 5, ((1 + tn / 4 : Nat) : Int), []⟩, ⟨17, 0, 0, 0, p⟩, ⟨6, 0, 2, ((tn % 4 : Nat) : Int), []⟩, ⟨14, 0, 0, 0, q⟩, ⟨6, 1, 0, nx, []⟩, ⟨7, 2, 1, ((tn % 4 : Nat) : Int), []⟩, ⟨11, 0, 0, 0, []⟩, ⟨16, 0, 0, 0, p⟩, ⟨17, 0, 0, 0, q⟩]
def part (f k j : Nat) : List Instr := preC (labN (k + 1)) (gcode f j)
def flushBlk (f k tn : Nat) (nx : Int) : List Instr := part f k 4 ++ flushTail (labN (k + 2)) (labN (k + 3)) tn nx
end Qc
end
/- Rows of blocks: right code. -/
section
namespace Qc
open Qs Qu Qh Go.Proofs.YtppihkneeolomaaDoor
/-- A label's owner: a number. -/
def digB (c : UInt8) : Bool := decide (48 ≤ c) && decide (c ≤ 57)
def OwnBy (j : Nat) (t : List UInt8) : Prop := j < 128 ∧ ∃ s, t = labN j ++ s ∧ (s.takeWhile digB) = []
theorem labN_digs : ∀ j, j < 128 → ((labN j).head? = some 111 ∧ (labN j).tail.all digB = true) := by decide +kernel
def stemOf (t : List UInt8) : List UInt8 := t.tail.takeWhile digB
theorem stem_lab {j : Nat} (hj : j < 128) {s : List UInt8} (hs : s.takeWhile digB = []) : labN j = 111 :: stemOf (labN j ++ s) := by
  obtain ⟨h1, h2⟩ := labN_digs j hj
  cases hl : labN j with
  | nil => rw [hl] at h1; cases h1
  | cons c ds =>
    rw [hl] at h1 h2
    simp only [List.head?_cons, Option.some.injEq] at h1
    simp only [List.tail_cons, List.all_eq_true] at h2
    unfold stemOf
    rw [List.cons_append, List.tail_cons, List.takeWhile_append_of_pos h2, hs, List.append_nil, h1]
theorem OwnBy.inj {i j : Nat} {t : List UInt8} (h1 : OwnBy i t) (h2 : OwnBy j t) : i = j := by
  obtain ⟨hi, s, e1, z1⟩ := h1
  obtain ⟨hj, s', e2, z2⟩ := h2
  have a1 := stem_lab hi z1
  have a2 := stem_lab hj z2
  rw [← e1] at a1
  rw [← e2] at a2
  exact labN_inj i hi j hj (a1.trans a2.symm)
theorem OwnBy.self {j : Nat} (hj : j < 128) : OwnBy j (labN j) := ⟨hj, [], by simp, rfl⟩
/-- A block whose labels have numbers from k + 1 to n. -/
structure BlkF (k n : Nat) (B : List Instr) : Prop where
  ins : ∀ x ∈ B, insFine x = true
  set : ∀ (i : Nat) x, B[i]? = some x → x.op = 17 → labelAt x.to B 0 = some i
  lab : ∀ x ∈ B, x.to ≠ [] → (labelAt x.to B 0).isSome = true
  own : ∀ x ∈ B, x.to = [] ∨ ∃ j, k < j ∧ j ≤ n ∧ OwnBy j x.to
theorem BlkF.ne {k n : Nat} {B : List Instr} (h : BlkF k n B) {x : Instr} (hx : x ∈ B) (h17 : x.op = 17) : x.to ≠ [] :=
  Qh.nameB_ne (insFine_jump (h.ins x hx) (.inr (.inr (.inr h17))))
theorem BlkF.mono {k n k' n' : Nat} {B : List Instr} (h : BlkF k n B) (h1 : k' ≤ k) (h2 : n ≤ n') : BlkF k' n' B :=
  ⟨h.ins, h.set, h.lab, fun x hx => (h.own x hx).imp id fun ⟨j, a, b, c⟩ => ⟨j, by omega, by omega, c⟩⟩
theorem BlkF.append {k m n : Nat} {A B : List Instr} (hA : BlkF k m A) (hB : BlkF m n B) (h1 : k ≤ m) (h2 : m ≤ n) : BlkF k n (A ++ B) := by
  have hdis : ∀ x ∈ B, x.to ≠ [] → ∀ y ∈ A, y.op = 17 → y.to ≠ x.to := fun x hx hne y hy h17 e => by
    rcases hA.own y hy with h | ⟨i, i1, i2, i3⟩
    · exact hA.ne hy h17 h
    · rcases hB.own x hx with h | ⟨j, j1, j2, j3⟩
      · exact hne h
      · rw [e] at i3
        have := i3.inj j3
        omega
  have hlab : ∀ x ∈ B, x.to ≠ [] → ∀ j, labelAt x.to B 0 = some j → labelAt x.to (A ++ B) 0 = some (A.length + j) := fun x hx hne j hj => by
    have := row_label (C := []) (hdis x hx hne) hj
    rw [List.append_nil] at this
    exact this
  refine ⟨fun x hx => ?_, fun i x hi h17 => ?_, fun x hx hne => ?_, fun x hx => ?_⟩
  · rcases List.mem_append.1 hx with h | h
    · exact hA.ins x h
    · exact hB.ins x h
  · by_cases hlt : i < A.length
    · rw [List.getElem?_append_left hlt] at hi
      exact labelAt_first B 0 (hA.set i x hi h17)
    · rw [List.getElem?_append_right (by omega)] at hi
      have hm := List.mem_of_getElem? hi
      rw [hlab x hm (hB.ne hm h17) _ (hB.set _ x hi h17)]
      congr 1; omega
  · rcases List.mem_append.1 hx with h | h
    · obtain ⟨j, hj⟩ := Option.isSome_iff_exists.1 (hA.lab x h hne)
      rw [labelAt_first B 0 hj]; rfl
    · obtain ⟨j, hj⟩ := Option.isSome_iff_exists.1 (hB.lab x h hne)
      rw [hlab x h hne j hj]; rfl
  · rcases List.mem_append.1 hx with h | h
    · exact (hA.own x h).imp id fun ⟨j, a, b, c⟩ => ⟨j, a, by omega, c⟩
    · exact (hB.own x h).imp id fun ⟨j, a, b, c⟩ => ⟨j, by omega, b, c⟩
theorem BlkF.nil (k : Nat) : BlkF k k [] := ⟨fun x hx => (by cases hx), fun i x hi => (by simp at hi), fun x hx => (by cases hx), fun x hx => (by cases hx)⟩
theorem BlkF.fine {k n : Nat} {B : List Instr} (h : BlkF k n B) (hl : B.length ≤ 2000) : CodeFine B := ⟨hl, h.ins, h.set, h.lab⟩
theorem BlkF.of {k n : Nat} {B : List Instr} (h : CodeFine B) (hown : ∀ x ∈ B, x.to = [] ∨ ∃ j, k < j ∧ j ≤ n ∧ OwnBy j x.to) : BlkF k n B := ⟨h.ins, h.set, h.lab, hown⟩
/-- A part of grace. -/
theorem gcode_pre {f j : Nat} (h1 : 1 ≤ f) (h4 : f ≤ 4) (hj : j < 5) : preOk (gcode f j) = true ∧ ((gcode f j).all fun x => x.to.isEmpty || x.to.takeWhile digB == []) = true := by
  have key : ∀ f < 5, ∀ j < 5, 1 ≤ f → (preOk (gcode f j) && (gcode f j).all fun x => x.to.isEmpty || x.to.takeWhile digB == []) = true := by decide +kernel
  have := key f (by omega) j hj h1
  simpa only [Bool.and_eq_true] using this
theorem part_fine {f j : Nat} (h1 : 1 ≤ f) (h4 : f ≤ 4) (hj : j < 5) (k : Nat) (hk : k < 127) : BlkF k (k + 1) (part f k j) := by
  obtain ⟨g1, g2⟩ := gcode_pre h1 h4 hj
  obtain ⟨l1, l2, l3, l4⟩ := labN_facts (k + 1) (by omega)
  refine BlkF.of (preC_fine l3 l2 g1) fun y hy => ?_
  obtain ⟨x, hx, rfl⟩ := List.mem_map.1 hy
  have := List.all_eq_true.1 g2 x hx
  simp only [Bool.or_eq_true, beq_iff_eq] at this
  unfold preI
  simp only
  by_cases he : x.to.isEmpty = true
  · exact .inl (by rw [if_pos he])
  · refine .inr ⟨k + 1, by omega, by omega, by omega, x.to, by rw [if_neg he], this.resolve_left he⟩
theorem later_fine (tn : Nat) (nx : Int) (ht : tn < 8) (hn : 0 ≤ nx ∧ nx < 4) (k : Nat) (hk : k < 127) : BlkF k (k + 1) (laterBlk (labN (k + 1)) tn nx) := by
  have hnm := (labN_facts (k + 1) (by omega)).2.2.1
  have hne := Qh.nameB_ne hnm
  have o1 : OwnBy (k + 1) (labN (k + 1)) := OwnBy.self (by omega)
  generalize hL : labN (k + 1) = L at *
  have r1 : regB ((1 + tn / 4 : Nat) : Int) 4 = true := by unfold regB; simp; omega
  have r2 : regB ((tn % 4 : Nat) : Int) 4 = true := by unfold regB; simp; omega
  have r3 : regB nx 4 = true := by unfold regB; simp; omega
  have hl6 : labelAt L (laterBlk L tn nx) 0 = some 6 := by simp [laterBlk, labelAt]
  refine ⟨fun x hx => ?_, fun i x hi h17 => ?_, fun x hx hxe => ?_, fun x hx => ?_⟩
  · simp only [laterBlk, List.mem_cons, List.not_mem_nil, or_false] at hx
    rcases hx with rfl | rfl | rfl | rfl | rfl | rfl | rfl
    · show (regB 3 8 && z0 0 && z0 0 && nameB L) = true; rw [hnm]; rfl
    · show (regB 2 8 && regB 5 8 && regB ((1 + tn / 4 : Nat) : Int) 4 && true) = true; rw [r1]; rfl
    · show (regB 0 8 && regB 2 8 && regB ((tn % 4 : Nat) : Int) 4 && true) = true; rw [r2]; rfl
    · show (regB 3 8 && regB 0 8 && regB nx 4 && true) = true; rw [r3]; rfl
    · show (regB 2 8 && regB 3 8 && regB ((tn % 4 : Nat) : Int) 4 && true) = true; rw [r2]; rfl
    · rfl
    · show (z0 0 && z0 0 && z0 0 && nameB L) = true; rw [hnm]; rfl
  · match i, hi with
    | 0, hi => cases hi; simp at h17
    | 1, hi => cases hi; simp at h17
    | 2, hi => cases hi; simp at h17
    | 3, hi => cases hi; simp at h17
    | 4, hi => cases hi; simp at h17
    | 5, hi => cases hi; simp at h17
    | 6, hi => cases hi; exact hl6
    | i + 7, hi => simp [laterBlk] at hi
  · simp only [laterBlk, List.mem_cons, List.not_mem_nil, or_false] at hx
    rcases hx with rfl | rfl | rfl | rfl | rfl | rfl | rfl
    all_goals first
      | exact absurd rfl hxe
      | (simp only; rw [hl6]; rfl)
  · simp only [laterBlk, List.mem_cons, List.not_mem_nil, or_false] at hx
    rcases hx with rfl | rfl | rfl | rfl | rfl | rfl | rfl
    all_goals first
      | exact .inl rfl
      | exact .inr ⟨k + 1, by omega, by omega, o1⟩
theorem flush_fine (tn : Nat) (nx : Int) (ht : tn < 8) (hn : 0 ≤ nx ∧ nx < 4) (k : Nat) (hk : k + 2 < 128) : BlkF k (k + 2) (flushTail (labN (k + 1)) (labN (k + 2)) tn nx) := by
  have hnm := (labN_facts (k + 1) (by omega)).2.2.1
  have hnm2 := (labN_facts (k + 2) (by omega)).2.2.1
  have hne := Qh.nameB_ne hnm
  have hne2 := Qh.nameB_ne hnm2
  have hnn : labN (k + 1) ≠ labN (k + 2) := fun e => by have := labN_lab.1 _ _ e; omega
  have o1 : OwnBy (k + 1) (labN (k + 1)) := OwnBy.self (by omega)
  generalize hL : labN (k + 1) = L at *
  have o2 : OwnBy (k + 2) (labN (k + 2)) := OwnBy.self (by omega)
  generalize hM : labN (k + 2) = M at *
  have r1 : regB ((1 + tn / 4 : Nat) : Int) 4 = true := by unfold regB; simp; omega
  have r2 : regB ((tn % 4 : Nat) : Int) 4 = true := by unfold regB; simp; omega
  have r3 : regB nx 4 = true := by unfold regB; simp; omega
  have hl1 : labelAt L (flushTail L M tn nx) 0 = some 1 := by simp [flushTail, labelAt]
  have hl8 : labelAt M (flushTail L M tn nx) 0 = some 8 := by simp [flushTail, labelAt, hnn]
  refine ⟨fun x hx => ?_, fun i x hi h17 => ?_, fun x hx hxe => ?_, fun x hx => ?_⟩
  · simp only [flushTail, List.mem_cons, List.not_mem_nil, or_false] at hx
    rcases hx with rfl | rfl | rfl | rfl | rfl | rfl | rfl | rfl | rfl
    · show (regB 2 8 && regB 5 8 && regB ((1 + tn / 4 : Nat) : Int) 4 && true) = true; rw [r1]; rfl
    · show (z0 0 && z0 0 && z0 0 && nameB L) = true; rw [hnm]; rfl
    · show (regB 0 8 && regB 2 8 && regB ((tn % 4 : Nat) : Int) 4 && true) = true; rw [r2]; rfl
    · show (regB 0 8 && z0 0 && z0 0 && nameB M) = true; rw [hnm2]; rfl
    · show (regB 1 8 && regB 0 8 && regB nx 4 && true) = true; rw [r3]; rfl
    · show (regB 2 8 && regB 1 8 && regB ((tn % 4 : Nat) : Int) 4 && true) = true; rw [r2]; rfl
    · rfl
    · show (z0 0 && z0 0 && z0 0 && nameB L) = true; rw [hnm]; rfl
    · show (z0 0 && z0 0 && z0 0 && nameB M) = true; rw [hnm2]; rfl
  · match i, hi with
    | 0, hi => cases hi; simp at h17
    | 1, hi => cases hi; exact hl1
    | 2, hi => cases hi; simp at h17
    | 3, hi => cases hi; simp at h17
    | 4, hi => cases hi; simp at h17
    | 5, hi => cases hi; simp at h17
    | 6, hi => cases hi; simp at h17
    | 7, hi => cases hi; simp at h17
    | 8, hi => cases hi; exact hl8
    | i + 9, hi => simp [flushTail] at hi
  · simp only [flushTail, List.mem_cons, List.not_mem_nil, or_false] at hx
    rcases hx with rfl | rfl | rfl | rfl | rfl | rfl | rfl | rfl | rfl
    all_goals first
      | exact absurd rfl hxe
      | (simp only; rw [hl1]; rfl)
      | (simp only; rw [hl8]; rfl)
  · simp only [flushTail, List.mem_cons, List.not_mem_nil, or_false] at hx
    rcases hx with rfl | rfl | rfl | rfl | rfl | rfl | rfl | rfl | rfl
    all_goals first
      | exact .inl rfl
      | exact .inr ⟨k + 1, by omega, by omega, o1⟩
      | exact .inr ⟨k + 2, by omega, by omega, o2⟩
theorem flushBlk_fine {f : Nat} (h1 : 1 ≤ f) (h4 : f ≤ 4) (tn : Nat) (nx : Int) (ht : tn < 8) (hn : 0 ≤ nx ∧ nx < 4) (k : Nat) (hk : k + 3 < 128) : BlkF k (k + 3) (flushBlk f k tn nx) :=
  (part_fine h1 h4 (by decide) k (by omega)).append (flush_fine tn nx ht hn (k + 1) (by omega)) (by omega) (by omega)
theorem stop_fine (k : Nat) : BlkF k k [⟨20, 0, 0, 0, []⟩] :=
  ⟨fun x hx => by rw [List.mem_singleton] at hx; subst hx; rfl, fun i x hi h17 => by
    match i, hi with
    | 0, hi => cases hi; simp at h17
    | i + 1, hi => simp at hi, fun x hx hne => by rw [List.mem_singleton] at hx; subst hx; exact absurd rfl hne, fun x hx => by rw [List.mem_singleton] at hx; subst hx; exact .inl rfl⟩
end Qc
end
/- One thread alone: rows of blocks; the parts of grace. -/
section
namespace Qo
open Qs Qg Qu Qc Qh Go.Proofs.YtppihkneeolomaaDoor
variable {code A B C : List Instr} {a k n : Nat} {s s' : S} {m0 : M} {p : List UInt8}
theorem ip_of_fine {x : Instr} (h : insFine x = true) : InsP x := by
  obtain ⟨op, xa, xb, xc, to⟩ := x
  have rb : ∀ {n k : Int}, regB n k = true → 0 ≤ n ∧ n < k := fun h => by
    unfold regB at h; simpa using h
  have zz : ∀ {n : Int}, z0 n = true → n = 0 := fun h => by
    unfold z0 at h; simpa using h
  unfold insFine at h
  simp only at h
  split at h
  all_goals first
    | cases h
    | (simp only [Bool.and_eq_true] at h
       obtain ⟨⟨⟨h1, h2⟩, h3⟩, h4⟩ := h
       refine ⟨?_, fun g1 g2 => ?_, fun g => ?_, fun g => ?_⟩ <;> simp only at *
       all_goals first
         | omega
         | (first | replace h1 := rb h1 | replace h1 := zz h1
            first | replace h2 := rb h2 | replace h2 := zz h2
            first | replace h3 := rb h3 | replace h3 := zz h3
            omega))
theorem inRow_of {k0 k k' : Nat} (hA : BlkF k0 k A) (hB : BlkF k k' B) : InRow (A ++ (B ++ C)) A.length B := by
  refine ⟨fun i x hi => ?_, fun x hx => ip_of_fine (hB.ins x hx), fun x hx g1 g2 => ?_⟩
  · have hlt := (List.getElem?_eq_some_iff.1 hi).1
    rw [List.getElem?_append_right (by omega), show A.length + i - A.length = i by omega, List.getElem?_append_left hlt]; exact hi
  · have hne : x.to ≠ [] := Qh.nameB_ne (insFine_jump (hB.ins x hx) (by omega))
    obtain ⟨j, hj⟩ := Option.isSome_iff_exists.1 (hB.lab x hx hne)
    refine ⟨j, hj, row_label (fun y hy h17 e => ?_) hj⟩
    rcases hA.own y hy with h | ⟨i, i1, i2, i3⟩
    · exact hA.ne hy h17 h
    · rcases hB.own x hx with h | ⟨j, j1, j2, j3⟩
      · exact hne h
      · rw [e] at i3
        have := i3.inj j3
        omega
/-- Labels of code under a prefix. -/
def okJ (B : List Instr) : Bool := B.all fun x => !(decide (14 ≤ x.op) && decide (x.op ≤ 17)) || !x.to.isEmpty
theorem lab_pre (hB : ∀ x ∈ B, x.op = 17 → x.to ≠ []) {to : List UInt8} (ht : to ≠ []) (k : Nat) : labelAt (p ++ to) (preC p B) k = labelAt to B k := by
  have := labelAt_ren (ρ := fun t => if t.isEmpty then [] else p ++ t) (to := to) (A := B) k fun x hx h17 e => by
    have hne := hB x hx h17
    have e1 : (if x.to.isEmpty = true then [] else p ++ x.to) = (if to.isEmpty = true then [] else p ++ to) := e
    rw [if_neg (by simpa using hne), if_neg (by simpa using ht)] at e1
    exact List.append_cancel_left e1
  rw [if_neg (by simpa using ht)] at this
  exact this
theorem ev1_pre (hB : okJ B = true) (s : S) : S.ev1 (preC p B) s = S.ev1 B s := by
  have hall := List.all_eq_true.1 hB
  have h17 : ∀ x ∈ B, x.op = 17 → x.to ≠ [] := fun x hx g => by
    have := hall x hx
    rw [g] at this
    simpa using this
  unfold S.ev1
  have hg : (preC p B)[s.pc]? = (B[s.pc]?).map (preI p) := by unfold preC; rw [List.getElem?_map]
  rw [hg]
  cases hx : B[s.pc]? with
  | none => rfl
  | some x =>
    have hm := List.mem_of_getElem? hx
    simp only [Option.map_some]
    by_cases g : 14 ≤ x.op ∧ x.op ≤ 16
    · have hne : x.to ≠ [] := by
        have := hall x hm
        simp only [Bool.or_eq_true, Bool.not_eq_true', Bool.and_eq_false_iff, decide_eq_false_iff_not] at this
        rcases this with (h | h) | h
        · omega
        · omega
        · simpa using h
      have : (preI p x).to = p ++ x.to := by unfold preI; simp only; rw [if_neg (by simpa using hne)]
      rw [this, lab_pre h17 hne]
      rfl
    · obtain ⟨op, xa, xb, xc, to⟩ := x
      simp only at g
      unfold S.ex preI
      simp only
      split
      all_goals first
        | rfl
        | (exfalso; omega)
theorem evn_pre (hB : okJ B = true) : ∀ (n : Nat) (s : S), S.evn (preC p B) n s = S.evn B n s
  | 0, s => rfl
  | n + 1, s => by
    unfold S.evn
    rw [ev1_pre hB]
    cases S.ev1 B s with
    | none => rfl
    | some s' => exact evn_pre hB n s'
theorem okJ_g : ∀ f < 5, ∀ j < 5, okJ (gcode f j) = true := by decide +kernel
/-- The cells of grace between ops: own cell, hub. -/
def oF (f st : Nat) (i : Bool) : List Int := if f = 3 then [1 + 2 * (st : Int), 0, 0, 0] else if f = 4 then [if i then 1 else 0, 0, if st = 0 then 0 else 1, 0] else [if i then 1 else 0, 0, 0, 0]
def hF (f st : Nat) : List Int := if f = 3 then [1 + 2 * (st : Int), 0, 1, 0] else if f = 4 then [1, 0, if st = 0 then 0 else 1, 0] else [1, 0, 1, 0]
end Qo
end
/- package grace: flavours; begin. -/
section
namespace Go.Proofs.YtppihkneeolomaaDoor
open Go.RowKit Qs Qh
variable {w0 w w1 : World} {b o : Nat} {v0 : Value} {l : List Instr} {br s : ByteArray} {fe jo co : Bool} {u : Value} {c : Nat}
theorem size_plus2 (s : ByteArray) (a b : UInt8) (hs : s.size ≤ 4) : (s ++ ⟨[a, b].toArray⟩ : ByteArray).size ≤ 100 := by
  rw [ByteArray.size_append]
  have : (⟨[a, b].toArray⟩ : ByteArray).size = 2 := rfl
  omega
theorem flavours1 (w : World) : Calls Tryd.prog 109 #[.int .i64 1] w fun e w' => e = .returned (.tuple #[.agg #[.string ⟨#[102, 101, 110, 99, 101]⟩, .bool true, .bool false, .bool false], .bool true]) ∧ Mod noF w w' := by
  go_enter Tryd.func109, Tryd.ntmps109
  go_wp2
  refine bodyPost_ret (v := .tuple #[.agg #[.string ⟨#[102, 101, 110, 99, 101]⟩, .bool true, .bool false, .bool false], .bool true]) (by simp [results, Tryd.results109, go_sem]) rfl ⟨rfl, ?_⟩
  repeat (first | exact Mod.refl _ _ | refine Mod.drew ?_ | refine Mod.drewN ?_ _ | refine Mod.alloc ?_ _ | refine Mod.setCell ?_ (fun h => absurd h (by simp)) _)
theorem flavours2 (w : World) : Calls Tryd.prog 109 #[.int .i64 2] w fun e w' => e = .returned (.tuple #[.agg #[.string ⟨#[102, 111, 114, 99, 101]⟩, .bool false, .bool false, .bool false], .bool true]) ∧ Mod noF w w' := by
  go_enter Tryd.func109, Tryd.ntmps109
  go_wp2
  refine bodyPost_ret (v := .tuple #[.agg #[.string ⟨#[102, 111, 114, 99, 101]⟩, .bool false, .bool false, .bool false], .bool true]) (by simp [results, Tryd.results109, go_sem]) rfl ⟨rfl, ?_⟩
  repeat (first | exact Mod.refl _ _ | refine Mod.drew ?_ | refine Mod.drewN ?_ _ | refine Mod.alloc ?_ _ | refine Mod.setCell ?_ (fun h => absurd h (by simp)) _)
theorem flavours3 (w : World) : Calls Tryd.prog 109 #[.int .i64 3] w fun e w' => e = .returned (.tuple #[.agg #[.string ⟨#[102, 101, 110, 99, 101]⟩, .bool false, .bool false, .bool true], .bool true]) ∧ Mod noF w w' := by
  go_enter Tryd.func109, Tryd.ntmps109
  go_wp2
  refine bodyPost_ret (v := .tuple #[.agg #[.string ⟨#[102, 101, 110, 99, 101]⟩, .bool false, .bool false, .bool true], .bool true]) (by simp [results, Tryd.results109, go_sem]) rfl ⟨rfl, ?_⟩
  repeat (first | exact Mod.refl _ _ | refine Mod.drew ?_ | refine Mod.drewN ?_ _ | refine Mod.alloc ?_ _ | refine Mod.setCell ?_ (fun h => absurd h (by simp)) _)
theorem flavours4 (w : World) : Calls Tryd.prog 109 #[.int .i64 4] w fun e w' => e = .returned (.tuple #[.agg #[.string ⟨#[102, 101, 110, 99, 101]⟩, .bool true, .bool true, .bool false], .bool true]) ∧ Mod noF w w' := by
  go_enter Tryd.func109, Tryd.ntmps109
  go_wp2
  refine bodyPost_ret (v := .tuple #[.agg #[.string ⟨#[102, 101, 110, 99, 101]⟩, .bool true, .bool true, .bool false], .bool true]) (by simp [results, Tryd.results109, go_sem]) rfl ⟨rfl, ?_⟩
  repeat (first | exact Mod.refl _ _ | refine Mod.drew ?_ | refine Mod.drewN ?_ _ | refine Mod.alloc ?_ _ | refine Mod.setCell ?_ (fun h => absurd h (by simp)) _)
set_option maxHeartbeats 2000000 in
theorem begin1_ok (s : ByteArray) (w : World) (hn : nameB s.data.toList = true) (hs : s.size ≤ 4) :
    Calls Tryd.prog 83 #[.int .i64 1, .string s] w fun e w' => ∃ b, e = .returned (.tuple #[.pointer (some ⟨b, 0, none⟩), .nilIface]) ∧ Mod noF w w' ∧ w.heap.size ≤ b ∧ Emit insT w' b 4 (.slice none 0 0) [] ∧ MkAt w' b (opStr 12) true false false s := by
  have hsz : s.size ≤ maxLen := by unfold maxLen; omega
  have hm : (s.size : Int) ≤ 4 := by omega
  have Hn := Lib.hid hn
  clear hn
  go_enter Tryd.func83, Tryd.ntmps83
  go_wp2_with fail
  refine (flavours1 w).mono ?_
  rintro e w1 ⟨rfl, hm1⟩
  have Hm1 := Lib.hid hm1
  clear hm1
  go_wp2_with (go_at_call 59; refine (prefix_ok s 4 _ hsz Hn.out hm).mono ?_; rintro e w' ⟨rfl, rfl⟩)
  go_ret2
  have hs1 := Hm1.out.size
  exact ⟨w1.heap.size + 1, by simp, (Hm1.out.alloc _).alloc _, by omega, ⟨by simp, by simp, InsRow.nil _ _, by simp [Value.ownBlock], by simp⟩, ⟨by simp; rfl, by simp, by simp, by simp, by simp⟩⟩
set_option maxHeartbeats 2000000 in
theorem begin2_ok (s : ByteArray) (w : World) (hn : nameB s.data.toList = true) (hs : s.size ≤ 4) :
    Calls Tryd.prog 83 #[.int .i64 2, .string s] w fun e w' => ∃ b, e = .returned (.tuple #[.pointer (some ⟨b, 0, none⟩), .nilIface]) ∧ Mod noF w w' ∧ w.heap.size ≤ b ∧ Emit insT w' b 4 (.slice none 0 0) [] ∧ MkAt w' b (opStr 13) false false false s := by
  have hsz : s.size ≤ maxLen := by unfold maxLen; omega
  have hm : (s.size : Int) ≤ 4 := by omega
  have Hn := Lib.hid hn
  clear hn
  go_enter Tryd.func83, Tryd.ntmps83
  go_wp2_with fail
  refine (flavours2 w).mono ?_
  rintro e w1 ⟨rfl, hm1⟩
  have Hm1 := Lib.hid hm1
  clear hm1
  go_wp2_with (go_at_call 59; refine (prefix_ok s 4 _ hsz Hn.out hm).mono ?_; rintro e w' ⟨rfl, rfl⟩)
  go_ret2
  have hs1 := Hm1.out.size
  exact ⟨w1.heap.size + 1, by simp, (Hm1.out.alloc _).alloc _, by omega, ⟨by simp, by simp, InsRow.nil _ _, by simp [Value.ownBlock], by simp⟩, ⟨by simp; rfl, by simp, by simp, by simp, by simp⟩⟩
set_option maxHeartbeats 2000000 in
theorem begin3_ok (s : ByteArray) (w : World) (hn : nameB s.data.toList = true) (hs : s.size ≤ 4) :
    Calls Tryd.prog 83 #[.int .i64 3, .string s] w fun e w' => ∃ b, e = .returned (.tuple #[.pointer (some ⟨b, 0, none⟩), .nilIface]) ∧ Mod noF w w' ∧ w.heap.size ≤ b ∧ Emit insT w' b 4 (.slice none 0 0) [] ∧ MkAt w' b (opStr 12) false false true s := by
  have hsz : s.size ≤ maxLen := by unfold maxLen; omega
  have hm : (s.size : Int) ≤ 4 := by omega
  have Hn := Lib.hid hn
  clear hn
  go_enter Tryd.func83, Tryd.ntmps83
  go_wp2_with fail
  refine (flavours3 w).mono ?_
  rintro e w1 ⟨rfl, hm1⟩
  have Hm1 := Lib.hid hm1
  clear hm1
  go_wp2_with (go_at_call 59; refine (prefix_ok s 4 _ hsz Hn.out hm).mono ?_; rintro e w' ⟨rfl, rfl⟩)
  go_ret2
  have hs1 := Hm1.out.size
  exact ⟨w1.heap.size + 1, by simp, (Hm1.out.alloc _).alloc _, by omega, ⟨by simp, by simp, InsRow.nil _ _, by simp [Value.ownBlock], by simp⟩, ⟨by simp; rfl, by simp, by simp, by simp, by simp⟩⟩
set_option maxHeartbeats 2000000 in
theorem begin4_ok (s : ByteArray) (w : World) (hn : nameB s.data.toList = true) (hs : s.size ≤ 4) :
    Calls Tryd.prog 83 #[.int .i64 4, .string s] w fun e w' => ∃ b, e = .returned (.tuple #[.pointer (some ⟨b, 0, none⟩), .nilIface]) ∧ Mod noF w w' ∧ w.heap.size ≤ b ∧ Emit insT w' b 4 (.slice none 0 0) [] ∧ MkAt w' b (opStr 12) true true false s := by
  have hsz : s.size ≤ maxLen := by unfold maxLen; omega
  have hm : (s.size : Int) ≤ 4 := by omega
  have Hn := Lib.hid hn
  clear hn
  go_enter Tryd.func83, Tryd.ntmps83
  go_wp2_with fail
  refine (flavours4 w).mono ?_
  rintro e w1 ⟨rfl, hm1⟩
  have Hm1 := Lib.hid hm1
  clear hm1
  go_wp2_with (go_at_call 59; refine (prefix_ok s 4 _ hsz Hn.out hm).mono ?_; rintro e w' ⟨rfl, rfl⟩)
  go_ret2
  have hs1 := Hm1.out.size
  exact ⟨w1.heap.size + 1, by simp, (Hm1.out.alloc _).alloc _, by omega, ⟨by simp, by simp, InsRow.nil _ _, by simp [Value.ownBlock], by simp⟩, ⟨by simp; rfl, by simp, by simp, by simp, by simp⟩⟩
end Go.Proofs.YtppihkneeolomaaDoor
end
/- package grace, flavour 1: its code, made. -/
section
namespace Go.Proofs.YtppihkneeolomaaDoor
open Go.RowKit Qs Qh
variable {w0 w w1 : World} {b o : Nat} {v0 : Value} {l : List Instr} {br s : ByteArray} {fe jo co : Bool} {u : Value} {c : Nat}
set_option maxRecDepth 4000 in
set_option maxHeartbeats 8000000 in
theorem genter1_ok (s : ByteArray) (w : World) (hn : nameB s.data.toList = true) (hs : s.size ≤ 4) :
    Calls Tryd.prog 79 #[.int .i64 1, .string s] w fun e w' => ∃ v, e = .returned (.tuple #[v, .nilIface]) ∧ Made (preC s.data.toList gc10) w v w' := by
  have Hn := Lib.hid hn
  clear hn
  go_enter Tryd.func79, Tryd.ntmps79
  go_wp2_with fail
  refine (begin1_ok s w Hn.out hs).mono ?_
  rintro e x0 ⟨b, rfl, hm, hb, E, M⟩
  have HC := Lib.hid (Chain.start E)
  have HM := Lib.hid M
  have Hm := Lib.hid hm
  clear hm E M
  have h0 := (HC.out.mk HM.out).c0
  have h1 := (HC.out.mk HM.out).c1
  have h2 := (HC.out.mk HM.out).c2
  have h3 := (HC.out.mk HM.out).c3
  go_wp2_with fail
  refine (op3_chain (HC.out.quiet ((Mod.refl _ _).alloc _)) (by first | omega | simp) 6 _ rfl x0.heap.size 0 6 0 3 (by simp) (by simp) (by simp) (by simp)).mono ?_
  clear h0 h1 h2 h3
  rintro e x1 ⟨rfl, C⟩
  have HC1 := Lib.hid C
  clear C
  have h0 := (HC1.out.mk HM.out).c0
  have h1 := (HC1.out.mk HM.out).c1
  have h2 := (HC1.out.mk HM.out).c2
  have h3 := (HC1.out.mk HM.out).c3
  go_wp2_with fail
  refine (op2_chain (HC1.out.quiet ((Mod.refl _ _).alloc _)) (by simp [takeCode, giveCode, joinCode, awayCode, eachCode, turnGo, waitGo, turnCode] <;> omega) 0 _ rfl x1.heap.size 1 255 2 (by simp) (by simp) (by simp)).mono ?_
  clear h0 h1 h2 h3
  rintro e x2 ⟨rfl, C⟩
  have HC2 := Lib.hid C
  clear C
  have h0 := (HC2.out.mk HM.out).c0
  have h1 := (HC2.out.mk HM.out).c1
  have h2 := (HC2.out.mk HM.out).c2
  have h3 := (HC2.out.mk HM.out).c3
  go_wp2_with fail
  refine (op3_chain (HC2.out.quiet ((Mod.refl _ _).alloc _)) (by simp [takeCode, giveCode, joinCode, awayCode, eachCode, turnGo, waitGo, turnCode] <;> omega) 4 _ rfl x2.heap.size 1 0 1 3 (by simp) (by simp) (by simp) (by simp)).mono ?_
  clear h0 h1 h2 h3
  rintro e x3 ⟨rfl, C⟩
  have HC3 := Lib.hid C
  clear C
  have h0 := (HC3.out.mk HM.out).c0
  have h1 := (HC3.out.mk HM.out).c1
  have h2 := (HC3.out.mk HM.out).c2
  have h3 := (HC3.out.mk HM.out).c3
  go_wp2_with fail
  refine (to1_chain (HC3.out.quiet ((Mod.refl _ _).alloc _)) (by simp [takeCode, giveCode, joinCode, awayCode, eachCode, turnGo, waitGo, turnCode] <;> omega) 14 _ rfl (s.data.toList ++ [46, 97]) _ (bytes_cat s _) x3.heap.size 1 1 (by simp) (by simp)).mono ?_
  clear h0 h1 h2 h3
  rintro e x4 ⟨rfl, C⟩
  have HC4 := Lib.hid C
  clear C
  have h0 := (HC4.out.mk HM.out).c0
  have h1 := (HC4.out.mk HM.out).c1
  have h2 := (HC4.out.mk HM.out).c2
  have h3 := (HC4.out.mk HM.out).c3
  go_wp2_with fail
  refine (op2_chain (HC4.out.quiet ((Mod.refl _ _).alloc _)) (by simp [takeCode, giveCode, joinCode, awayCode, eachCode, turnGo, waitGo, turnCode] <;> omega) 0 _ rfl x4.heap.size 1 1 2 (by simp) (by simp) (by simp)).mono ?_
  clear h0 h1 h2 h3
  rintro e x5 ⟨rfl, C⟩
  have HC5 := Lib.hid C
  clear C
  have h0 := (HC5.out.mk HM.out).c0
  have h1 := (HC5.out.mk HM.out).c1
  have h2 := (HC5.out.mk HM.out).c2
  have h3 := (HC5.out.mk HM.out).c3
  go_wp2_with fail
  refine (op3_chain (HC5.out.quiet ((Mod.refl _ _).alloc _)) (by simp [takeCode, giveCode, joinCode, awayCode, eachCode, turnGo, waitGo, turnCode] <;> omega) 2 _ rfl x5.heap.size 0 0 1 3 (by simp) (by simp) (by simp) (by simp)).mono ?_
  clear h0 h1 h2 h3
  rintro e x6 ⟨rfl, C⟩
  have HC6 := Lib.hid C
  clear C
  have h0 := (HC6.out.mk HM.out).c0
  have h1 := (HC6.out.mk HM.out).c1
  have h2 := (HC6.out.mk HM.out).c2
  have h3 := (HC6.out.mk HM.out).c3
  go_wp2_with fail
  refine (op3_chain (HC6.out.quiet ((Mod.refl _ _).alloc _)) (by simp [takeCode, giveCode, joinCode, awayCode, eachCode, turnGo, waitGo, turnCode] <;> omega) 7 _ rfl x6.heap.size 6 0 0 3 (by simp) (by simp) (by simp) (by simp)).mono ?_
  clear h0 h1 h2 h3
  rintro e x7 ⟨rfl, C⟩
  have HC7 := Lib.hid C
  clear C
  have h0 := (HC7.out.mk HM.out).c0
  have h1 := (HC7.out.mk HM.out).c1
  have h2 := (HC7.out.mk HM.out).c2
  have h3 := (HC7.out.mk HM.out).c3
  go_wp2_with fail
  refine (to0_chain HC7.out (by simp [takeCode, giveCode, joinCode, awayCode, eachCode, turnGo, waitGo, turnCode] <;> omega) 16 _ rfl (s.data.toList ++ [46, 98]) _ (bytes_cat s _)).mono ?_
  clear h0 h1 h2 h3
  rintro e x8 ⟨rfl, C⟩
  have HC8 := Lib.hid C
  clear C
  have h0 := (HC8.out.mk HM.out).c0
  have h1 := (HC8.out.mk HM.out).c1
  have h2 := (HC8.out.mk HM.out).c2
  have h3 := (HC8.out.mk HM.out).c3
  go_wp2_with fail
  refine (label_chain HC8.out (by simp [takeCode, giveCode, joinCode, awayCode, eachCode, turnGo, waitGo, turnCode] <;> omega) (s.data.toList ++ [46, 97]) _ (bytes_cat s _)).mono ?_
  clear h0 h1 h2 h3
  rintro e x9 ⟨rfl, C⟩
  have HC9 := Lib.hid C
  clear C
  have h0 := (HC9.out.mk HM.out).c0
  have h1 := (HC9.out.mk HM.out).c1
  have h2 := (HC9.out.mk HM.out).c2
  have h3 := (HC9.out.mk HM.out).c3
  go_wp2_with fail
  refine (op3_chain (HC9.out.quiet ((Mod.refl _ _).alloc _)) (by simp [takeCode, giveCode, joinCode, awayCode, eachCode, turnGo, waitGo, turnCode] <;> omega) 6 _ rfl x9.heap.size 0 7 0 3 (by simp) (by simp) (by simp) (by simp)).mono ?_
  clear h0 h1 h2 h3
  rintro e x10 ⟨rfl, C⟩
  have HC10 := Lib.hid C
  clear C
  have h0 := (HC10.out.mk HM.out).c0
  have h1 := (HC10.out.mk HM.out).c1
  have h2 := (HC10.out.mk HM.out).c2
  have h3 := (HC10.out.mk HM.out).c3
  go_wp2_with fail
  refine (op3_chain (HC10.out.quiet ((Mod.refl _ _).alloc _)) (by simp [takeCode, giveCode, joinCode, awayCode, eachCode, turnGo, waitGo, turnCode] <;> omega) 7 _ rfl x10.heap.size 6 0 0 3 (by simp) (by simp) (by simp) (by simp)).mono ?_
  clear h0 h1 h2 h3
  rintro e x11 ⟨rfl, C⟩
  have HC11 := Lib.hid C
  clear C
  have h0 := (HC11.out.mk HM.out).c0
  have h1 := (HC11.out.mk HM.out).c1
  have h2 := (HC11.out.mk HM.out).c2
  have h3 := (HC11.out.mk HM.out).c3
  go_wp2_with fail
  refine (op0_chain HC11.out (by simp [takeCode, giveCode, joinCode, awayCode, eachCode, turnGo, waitGo, turnCode] <;> omega) 12 _ rfl).mono ?_
  clear h0 h1 h2 h3
  rintro e x12 ⟨rfl, C⟩
  have HC12 := Lib.hid C
  clear C
  have h0 := (HC12.out.mk HM.out).c0
  have h1 := (HC12.out.mk HM.out).c1
  have h2 := (HC12.out.mk HM.out).c2
  have h3 := (HC12.out.mk HM.out).c3
  go_wp2_with fail
  refine (label_chain HC12.out (by simp [takeCode, giveCode, joinCode, awayCode, eachCode, turnGo, waitGo, turnCode] <;> omega) (s.data.toList ++ [46, 98]) _ (bytes_cat s _)).mono ?_
  clear h0 h1 h2 h3
  rintro e x13 ⟨rfl, C⟩
  have HC13 := Lib.hid C
  clear C
  obtain ⟨v, ec, hv⟩ := HC13.out.made (w := w) (by simp [Value.ownBlock]) Hm.out hb
  have Hv := Lib.hid hv
  clear hv
  go_wp2
  go_ret2
  exact ⟨v, rfl, by rw [← genter1_eq]; simpa [List.append_assoc] using Hv.out⟩
set_option maxRecDepth 4000 in
set_option maxHeartbeats 8000000 in
theorem gleave1_ok (s : ByteArray) (w : World) (hn : nameB s.data.toList = true) (hs : s.size ≤ 4) :
    Calls Tryd.prog 80 #[.int .i64 1, .string s] w fun e w' => ∃ v, e = .returned (.tuple #[v, .nilIface]) ∧ Made (preC s.data.toList gc11) w v w' := by
  have Hn := Lib.hid hn
  clear hn
  go_enter Tryd.func80, Tryd.ntmps80
  go_wp2_with fail
  refine (begin1_ok s w Hn.out hs).mono ?_
  rintro e x0 ⟨b, rfl, hm, hb, E, M⟩
  have HC := Lib.hid (Chain.start E)
  have HM := Lib.hid M
  have Hm := Lib.hid hm
  clear hm E M
  have h0 := (HC.out.mk HM.out).c0
  have h1 := (HC.out.mk HM.out).c1
  have h2 := (HC.out.mk HM.out).c2
  have h3 := (HC.out.mk HM.out).c3
  go_wp2_with fail
  refine (op0_chain HC.out (by first | omega | simp) 12 _ rfl).mono ?_
  clear h0 h1 h2 h3
  rintro e x1 ⟨rfl, C⟩
  have HC1 := Lib.hid C
  clear C
  have h0 := (HC1.out.mk HM.out).c0
  have h1 := (HC1.out.mk HM.out).c1
  have h2 := (HC1.out.mk HM.out).c2
  have h3 := (HC1.out.mk HM.out).c3
  go_wp2_with fail
  refine (op3_chain (HC1.out.quiet ((Mod.refl _ _).alloc _)) (by simp [takeCode, giveCode, joinCode, awayCode, eachCode, turnGo, waitGo, turnCode] <;> omega) 6 _ rfl x1.heap.size 0 6 0 3 (by simp) (by simp) (by simp) (by simp)).mono ?_
  clear h0 h1 h2 h3
  rintro e x2 ⟨rfl, C⟩
  have HC2 := Lib.hid C
  clear C
  have h0 := (HC2.out.mk HM.out).c0
  have h1 := (HC2.out.mk HM.out).c1
  have h2 := (HC2.out.mk HM.out).c2
  have h3 := (HC2.out.mk HM.out).c3
  go_wp2_with fail
  refine (op2_chain (HC2.out.quiet ((Mod.refl _ _).alloc _)) (by simp [takeCode, giveCode, joinCode, awayCode, eachCode, turnGo, waitGo, turnCode] <;> omega) 0 _ rfl x2.heap.size 1 1 2 (by simp) (by simp) (by simp)).mono ?_
  clear h0 h1 h2 h3
  rintro e x3 ⟨rfl, C⟩
  have HC3 := Lib.hid C
  clear C
  have h0 := (HC3.out.mk HM.out).c0
  have h1 := (HC3.out.mk HM.out).c1
  have h2 := (HC3.out.mk HM.out).c2
  have h3 := (HC3.out.mk HM.out).c3
  go_wp2_with fail
  refine (op3_chain (HC3.out.quiet ((Mod.refl _ _).alloc _)) (by simp [takeCode, giveCode, joinCode, awayCode, eachCode, turnGo, waitGo, turnCode] <;> omega) 3 _ rfl x3.heap.size 0 0 1 3 (by simp) (by simp) (by simp) (by simp)).mono ?_
  clear h0 h1 h2 h3
  rintro e x4 ⟨rfl, C⟩
  have HC4 := Lib.hid C
  clear C
  have h0 := (HC4.out.mk HM.out).c0
  have h1 := (HC4.out.mk HM.out).c1
  have h2 := (HC4.out.mk HM.out).c2
  have h3 := (HC4.out.mk HM.out).c3
  go_wp2_with fail
  refine (op3_chain (HC4.out.quiet ((Mod.refl _ _).alloc _)) (by simp [takeCode, giveCode, joinCode, awayCode, eachCode, turnGo, waitGo, turnCode] <;> omega) 7 _ rfl x4.heap.size 6 0 0 3 (by simp) (by simp) (by simp) (by simp)).mono ?_
  clear h0 h1 h2 h3
  rintro e x5 ⟨rfl, C⟩
  have HC5 := Lib.hid C
  clear C
  obtain ⟨v, ec, hv⟩ := HC5.out.made (w := w) (by simp [Value.ownBlock]) Hm.out hb
  have Hv := Lib.hid hv
  clear hv
  go_wp2
  go_ret2
  exact ⟨v, rfl, by rw [← gleave1_eq]; simpa [List.append_assoc] using Hv.out⟩
set_option maxRecDepth 4000 in
set_option maxHeartbeats 8000000 in
theorem grest1_ok (s : ByteArray) (w : World) (hn : nameB s.data.toList = true) (hs : s.size ≤ 4) :
    Calls Tryd.prog 93 #[.int .i64 1, .string s] w fun e w' => ∃ v, e = .returned (.tuple #[v, .nilIface]) ∧ Made (preC s.data.toList gc12) w v w' := by
  have Hn := Lib.hid hn
  clear hn
  go_enter Tryd.func93, Tryd.ntmps93
  go_wp2_with fail
  refine (begin1_ok s w Hn.out hs).mono ?_
  rintro e x0 ⟨b, rfl, hm, hb, E, M⟩
  have h3 := M.c3
  have Hm := Lib.hid hm
  clear hm hb E M
  go_wp2
  go_ret2
  exact ⟨_, rfl, InsRow.nil _ _, Hm.out.toBelow, by simp [Value.ownBlock]⟩
set_option maxRecDepth 4000 in
set_option maxHeartbeats 8000000 in
theorem ggone1_ok (s : ByteArray) (w : World) (hn : nameB s.data.toList = true) (hs : s.size ≤ 4) :
    Calls Tryd.prog 54 #[.int .i64 1, .string s] w fun e w' => ∃ v, e = .returned (.tuple #[v, .nilIface]) ∧ Made (preC s.data.toList gc13) w v w' := by
  have Hn := Lib.hid hn
  clear hn
  go_enter Tryd.func54, Tryd.ntmps54
  go_wp2_with fail
  refine (begin1_ok s w Hn.out hs).mono ?_
  rintro e x0 ⟨b, rfl, hm, hb, E, M⟩
  have h3 := M.c3
  have Hm := Lib.hid hm
  clear hm hb E M
  go_wp2
  go_ret2
  exact ⟨_, rfl, InsRow.nil _ _, Hm.out.toBelow, by simp [Value.ownBlock]⟩
set_option maxRecDepth 4000 in
set_option maxHeartbeats 8000000 in
theorem gwait1_ok (s : ByteArray) (w : World) (hn : nameB s.data.toList = true) (hs : s.size ≤ 4) :
    Calls Tryd.prog 94 #[.int .i64 1, .string s] w fun e w' => ∃ v, e = .returned (.tuple #[v, .nilIface]) ∧ Made (preC s.data.toList gc14) w v w' := by
  have Hn := Lib.hid hn
  clear hn
  go_enter Tryd.func94, Tryd.ntmps94
  go_wp2_with fail
  refine (begin1_ok s _ Hn.out hs).mono ?_
  rintro e w1 ⟨b, rfl, hm, hb0, E, M⟩
  have hsw := hm.size
  have hlb := E.lt
  have hb1 : w.heap.size < b := by simp at hb0; omega
  have hp0 : w1.cell? ⟨w.heap.size, 0, none⟩ = some (.string s) := hm.cell (by simp) (fun e => e)
  have hq : Mod noF w1 (w1.alloc (.cells #[.pointer (some ⟨b, 0, none⟩)] 142)) := (Mod.refl _ _).alloc _
  have E1 := E.quiet hq
  have HC := Lib.hid (Chain.start E1)
  have HM := Lib.hid (M.quiet hq)
  have Hm := Lib.hid ((((Mod.refl noF w).alloc _).trans0 hm).trans0 hq)
  have Hv := Lib.hid E1.cell
  have hcp : w.heap.size < w1.heap.size := by simp at hsw; omega
  have hrow : ∀ (c : Nat) v, (w1.alloc (.cells #[.pointer (some ⟨b, 0, none⟩)] 142)).cell? ⟨b, 4, none⟩ = some v → v.ownBlock ≠ some c := fun c v h e => by
    rw [E1.cell] at h; cases h; cases e
  have HKm := Lib.hid (⟨by simp, by simp, by omega, hrow _⟩ : Cap (w1.alloc (.cells #[.pointer (some ⟨b, 0, none⟩)] 142)) b w1.heap.size (.pointer (some ⟨b, 0, none⟩)))
  have HKp := Lib.hid (⟨hq.cell hp0 (fun e => e), by simp; omega, by omega, hrow _⟩ : Cap (w1.alloc (.cells #[.pointer (some ⟨b, 0, none⟩)] 142)) b w.heap.size (.string s))
  have hb : w.heap.size ≤ b := by omega
  clear hm E M E1 hq hp0 hrow hsw hb0 hb1
  have h0 := (HC.out.mk HM.out).c0
  have h1 := (HC.out.mk HM.out).c1
  have h2 := (HC.out.mk HM.out).c2
  have h3 := (HC.out.mk HM.out).c3
  have hm := (HKm.out.next Hv.out HC.out).cell
  have hp := (HKp.out.next Hv.out HC.out).cell
  go_wp2
  clear h0 h1 h2 h3 hm hp
  go_wp2
  refine wp_region_held_drew (S := fun W => W.cell? ⟨w1.heap.size, 0, none⟩ = some (.pointer (some ⟨b, 0, none⟩)) ∧ W.cell? ⟨b, 0, none⟩ = some (.string (opStr 12))) (by kernel_rfl) ⟨(Mod.refl noF _).drew.cell (HKm.out.next Hv.out HC.out).cell (fun e => e), (Mod.refl noF _).drew.cell (HC.out.mk HM.out).c0 (fun e => e)⟩ (fun hHeld => ?_)
  refine wpAnyH_take (i := 0) (oi := ?o0x0) (v := ?v0x0) ?q0x0 (by kernel_rfl) ?f0x0 ?g0x0 ?p0x0 ?u0x0 (by assumption) ?r0x0
  case q0x0 => (rw [List.getElem?_toArray]; rfl)
  case f0x0 => kernel_rfl
  case g0x0 => kernel_rfl
  case p0x0 => exact (fun _ _ _ h => h)
  case u0x0 => (refine Or.inl ⟨by rfl, ?_⟩; intro w hSw; (try dsimp only at hSw); go_simp; (try rw [if_neg (by omega)]); try with_reducible rfl)
  try simp only [Act.put, List.setIfInBounds_toArray, List.set_cons_zero, List.set_cons_succ]
  refine wpAnyH_take (i := 1) (oi := ?o0x1) (v := ?v0x1) ?q0x1 (by kernel_rfl) ?f0x1 ?g0x1 ?p0x1 ?u0x1 (by assumption) ?r0x1
  case q0x1 => (rw [List.getElem?_toArray]; rfl)
  case f0x1 => kernel_rfl
  case g0x1 => kernel_rfl
  case p0x1 => exact (fun _ _ _ h => h)
  case u0x1 => (refine Or.inl ⟨by rfl, ?_⟩; intro w hSw; (try dsimp only at hSw); go_simp; (try rw [if_neg (by omega)]); try with_reducible rfl)
  try simp only [Act.put, List.setIfInBounds_toArray, List.set_cons_zero, List.set_cons_succ]
  refine wpAnyH_take (i := 2) (oi := ?o0x2) (v := ?v0x2) ?q0x2 (by kernel_rfl) ?f0x2 ?g0x2 ?p0x2 ?u0x2 (by assumption) ?r0x2
  case q0x2 => (rw [List.getElem?_toArray]; rfl)
  case f0x2 => kernel_rfl
  case g0x2 => kernel_rfl
  case p0x2 => exact (fun _ _ _ h => h)
  case u0x2 => (refine Or.inl ⟨by rfl, ?_⟩; intro w hSw; (try dsimp only at hSw); go_simp; (try rw [if_neg (by omega)]); try with_reducible rfl)
  try simp only [Act.put, List.setIfInBounds_toArray, List.set_cons_zero, List.set_cons_succ]
  refine wpAnyH_take (i := 3) (oi := ?o0x3) (v := ?v0x3) ?q0x3 (by kernel_rfl) ?f0x3 ?g0x3 ?p0x3 ?u0x3 (by assumption) ?r0x3
  case q0x3 => (rw [List.getElem?_toArray]; rfl)
  case f0x3 => kernel_rfl
  case g0x3 => kernel_rfl
  case p0x3 => exact (fun _ _ _ h => h)
  case u0x3 => (refine Or.inl ⟨by rfl, ?_⟩; intro w hSw; (try dsimp only at hSw); go_simp; (try rw [if_neg (by omega)]); try with_reducible rfl)
  try simp only [Act.put, List.setIfInBounds_toArray, List.set_cons_zero, List.set_cons_succ]
  refine wpAnyH_take (i := 4) (oi := ?o0x4) (v := ?v0x4) ?q0x4 (by kernel_rfl) ?f0x4 ?g0x4 ?p0x4 ?u0x4 (by assumption) ?r0x4
  case q0x4 => (rw [List.getElem?_toArray]; rfl)
  case f0x4 => kernel_rfl
  case g0x4 => kernel_rfl
  case p0x4 => exact (fun _ _ _ h => h)
  case u0x4 => (refine Or.inl ⟨by rfl, ?_⟩; intro w hSw; (try dsimp only at hSw); go_simp; (try rw [if_neg (by omega)]); try with_reducible rfl)
  try simp only [Act.put, List.setIfInBounds_toArray, List.set_cons_zero, List.set_cons_succ]
  refine wpAnyH_take (i := 5) (oi := ?o0x5) (v := ?v0x5) ?q0x5 (by kernel_rfl) ?f0x5 ?g0x5 ?p0x5 ?u0x5 (by assumption) ?r0x5
  case q0x5 => (rw [List.getElem?_toArray]; rfl)
  case f0x5 => kernel_rfl
  case g0x5 => kernel_rfl
  case p0x5 => exact (fun _ _ _ h => h)
  case u0x5 => (refine Or.inl ⟨by rfl, ?_⟩; intro w hSw; (try dsimp only at hSw); go_simp; (try rw [if_neg (by omega)]); try with_reducible rfl)
  try simp only [Act.put, List.setIfInBounds_toArray, List.set_cons_zero, List.set_cons_succ]
  refine wpAnyH_take (i := 6) (oi := ?o0x6) (v := ?v0x6) ?q0x6 (by kernel_rfl) ?f0x6 ?g0x6 ?p0x6 ?u0x6 (by assumption) ?r0x6
  case q0x6 => (rw [List.getElem?_toArray]; rfl)
  case f0x6 => kernel_rfl
  case g0x6 => kernel_rfl
  case p0x6 => exact (fun _ _ _ h => h)
  case u0x6 => (refine Or.inl ⟨by rfl, ?_⟩; intro w hSw; (try dsimp only at hSw); go_simp; (try rw [if_neg (by omega)]); try with_reducible rfl)
  try simp only [Act.put, List.setIfInBounds_toArray, List.set_cons_zero, List.set_cons_succ]
  refine wpAnyH_take (i := 7) (oi := ?o0x7) (v := ?v0x7) ?q0x7 (by kernel_rfl) ?f0x7 ?g0x7 ?p0x7 ?u0x7 (by assumption) ?r0x7
  case q0x7 => (rw [List.getElem?_toArray]; rfl)
  case f0x7 => kernel_rfl
  case g0x7 => kernel_rfl
  case p0x7 => exact (fun _ _ _ h => h)
  case u0x7 => (refine Or.inl ⟨by rfl, ?_⟩; intro w hSw; (try dsimp only at hSw); go_simp; (try rw [if_neg (by omega)]); try with_reducible rfl)
  try simp only [Act.put, List.setIfInBounds_toArray, List.set_cons_zero, List.set_cons_succ]
  refine em_spine (items := [⟨none, 8, 31⟩]) (E := [⟨12, [], [], 3, 30⟩]) (r0 := 25) (by kernel_rfl) (by kernel_rfl) (by kernel_rfl) (by rfl) ?lb1 (by rfl) (by rfl) ?len1 (fun w' l' C => ⟨(HKm.out.next Hv.out C).cell, (C.mk HM.out).c0⟩) (HC.out.quiet (Mod.refl _ _).drew) (by kernel_rfl) ?_
  case lb1 => (intro e he hk; simp only [List.mem_cons, List.not_mem_nil, or_false] at he; rcases he with rfl <;> (first | exact absurd rfl hk | exact congrArg Value.string (rfl)))
  case len1 => (first | (simp [takeCode, giveCode, joinCode, awayCode, eachCode, turnGo, waitGo, turnCode] <;> omega) | (simp <;> omega))
  intro U x1 C hU
  have u31 : U 31 = _ := hU 0 _ rfl
  simp only [spTmps, SpI.tmps, List.flatMap_cons, List.flatMap_nil, Option.map_some, Option.map_none, Option.toList_some, Option.toList_none, List.cons_append, List.nil_append, List.append_nil, patch, List.foldl_cons, List.foldl_nil, Act.put, List.setIfInBounds_toArray, List.set_cons_zero, List.set_cons_succ, u31]
  clear u31 hU hHeld
  simp only [List.map_cons, List.map_nil, EmC.ins, List.getD_cons_zero, List.getD_cons_succ, List.getD_nil] at C
  have HC1 := Lib.hid C
  clear C
  have h0 := (HC1.out.mk HM.out).c0
  have h1 := (HC1.out.mk HM.out).c1
  have h2 := (HC1.out.mk HM.out).c2
  have h3 := (HC1.out.mk HM.out).c3
  have hm := (HKm.out.next Hv.out HC1.out).cell
  have hp := (HKp.out.next Hv.out HC1.out).cell
  go_wp2_with fail
  clear h0 h1 h2 h3 hm hp
  have hg := gtake_chain HC1.out (HC1.out.mk HM.out) (by simp [takeCode, giveCode, joinCode, awayCode, eachCode, turnGo, waitGo, turnCode] <;> omega) Hn.out hs
  refine hg.mono ?_
  rintro e x2 ⟨rfl, C⟩
  have HC2 := Lib.hid C
  clear C hg
  have h0 := (HC2.out.mk HM.out).c0
  have h1 := (HC2.out.mk HM.out).c1
  have h2 := (HC2.out.mk HM.out).c2
  have h3 := (HC2.out.mk HM.out).c3
  have hm := (HKm.out.next Hv.out HC2.out).cell
  have hp := (HKp.out.next Hv.out HC2.out).cell
  go_wp2_with fail
  clear h0 h1 h2 h3 hm hp
  have hg := gturn_chain (s ++ ⟨#[46, 120]⟩) (size_plus2 s _ _ hs) 12 rfl HC2.out (HC2.out.mk HM.out) (by simp [takeCode, giveCode, joinCode, awayCode, eachCode, turnGo, waitGo, turnCode] <;> omega)
  refine hg.mono ?_
  rintro e x3 ⟨rfl, C⟩
  have HC3 := Lib.hid C
  clear C hg
  have h0 := (HC3.out.mk HM.out).c0
  have h1 := (HC3.out.mk HM.out).c1
  have h2 := (HC3.out.mk HM.out).c2
  have h3 := (HC3.out.mk HM.out).c3
  have hm := (HKm.out.next Hv.out HC3.out).cell
  have hp := (HKp.out.next Hv.out HC3.out).cell
  go_wp2_with fail
  clear h0 h1 h2 h3 hm hp
  have hg := gturn_chain (s ++ ⟨#[46, 121]⟩) (size_plus2 s _ _ hs) 12 rfl HC3.out (HC3.out.mk HM.out) (by simp [takeCode, giveCode, joinCode, awayCode, eachCode, turnGo, waitGo, turnCode] <;> omega)
  refine hg.mono ?_
  rintro e x4 ⟨rfl, C⟩
  have HC4 := Lib.hid C
  clear C hg
  go_wp2
  refine wp_region_held_drew (S := fun W => W.cell? ⟨w1.heap.size, 0, none⟩ = some (.pointer (some ⟨b, 0, none⟩)) ∧ W.cell? ⟨b, 0, none⟩ = some (.string (opStr 12))) (by kernel_rfl) ⟨(Mod.refl noF _).drew.cell (HKm.out.next Hv.out HC4.out).cell (fun e => e), (Mod.refl noF _).drew.cell (HC4.out.mk HM.out).c0 (fun e => e)⟩ (fun hHeld => ?_)
  refine wpAnyH_take (i := 0) (oi := ?o4x0) (v := ?v4x0) ?q4x0 (by kernel_rfl) ?f4x0 ?g4x0 ?p4x0 ?u4x0 (by assumption) ?r4x0
  case q4x0 => (rw [List.getElem?_toArray]; rfl)
  case f4x0 => kernel_rfl
  case g4x0 => kernel_rfl
  case p4x0 => exact (fun _ _ _ h => h)
  case u4x0 => (refine Or.inl ⟨by rfl, ?_⟩; intro w hSw; (try dsimp only at hSw); go_simp; (try rw [if_neg (by omega)]); try with_reducible rfl)
  try simp only [Act.put, List.setIfInBounds_toArray, List.set_cons_zero, List.set_cons_succ]
  refine wpAnyH_take (i := 1) (oi := ?o4x1) (v := ?v4x1) ?q4x1 (by kernel_rfl) ?f4x1 ?g4x1 ?p4x1 ?u4x1 (by assumption) ?r4x1
  case q4x1 => (rw [List.getElem?_toArray]; rfl)
  case f4x1 => kernel_rfl
  case g4x1 => kernel_rfl
  case p4x1 => exact (fun _ _ _ h => h)
  case u4x1 => (refine Or.inl ⟨by rfl, ?_⟩; intro w hSw; (try dsimp only at hSw); go_simp; (try rw [if_neg (by omega)]); try with_reducible rfl)
  try simp only [Act.put, List.setIfInBounds_toArray, List.set_cons_zero, List.set_cons_succ]
  refine wpAnyH_take (i := 2) (oi := ?o4x2) (v := ?v4x2) ?q4x2 (by kernel_rfl) ?f4x2 ?g4x2 ?p4x2 ?u4x2 (by assumption) ?r4x2
  case q4x2 => (rw [List.getElem?_toArray]; rfl)
  case f4x2 => kernel_rfl
  case g4x2 => kernel_rfl
  case p4x2 => exact (fun _ _ _ h => h)
  case u4x2 => (refine Or.inl ⟨by rfl, ?_⟩; intro w hSw; (try dsimp only at hSw); go_simp; (try rw [if_neg (by omega)]); try with_reducible rfl)
  try simp only [Act.put, List.setIfInBounds_toArray, List.set_cons_zero, List.set_cons_succ]
  refine wpAnyH_take (i := 3) (oi := ?o4x3) (v := ?v4x3) ?q4x3 (by kernel_rfl) ?f4x3 ?g4x3 ?p4x3 ?u4x3 (by assumption) ?r4x3
  case q4x3 => (rw [List.getElem?_toArray]; rfl)
  case f4x3 => kernel_rfl
  case g4x3 => kernel_rfl
  case p4x3 => exact (fun _ _ _ h => h)
  case u4x3 => (refine Or.inl ⟨by rfl, ?_⟩; intro w hSw; (try dsimp only at hSw); go_simp; (try rw [if_neg (by omega)]); try with_reducible rfl)
  try simp only [Act.put, List.setIfInBounds_toArray, List.set_cons_zero, List.set_cons_succ]
  refine wpAnyH_take (i := 4) (oi := ?o4x4) (v := ?v4x4) ?q4x4 (by kernel_rfl) ?f4x4 ?g4x4 ?p4x4 ?u4x4 (by assumption) ?r4x4
  case q4x4 => (rw [List.getElem?_toArray]; rfl)
  case f4x4 => kernel_rfl
  case g4x4 => kernel_rfl
  case p4x4 => exact (fun _ _ _ h => h)
  case u4x4 => (refine Or.inl ⟨by rfl, ?_⟩; intro w hSw; (try dsimp only at hSw); go_simp; (try rw [if_neg (by omega)]); try with_reducible rfl)
  try simp only [Act.put, List.setIfInBounds_toArray, List.set_cons_zero, List.set_cons_succ]
  refine wpAnyH_take (i := 5) (oi := ?o4x5) (v := ?v4x5) ?q4x5 (by kernel_rfl) ?f4x5 ?g4x5 ?p4x5 ?u4x5 (by assumption) ?r4x5
  case q4x5 => (rw [List.getElem?_toArray]; rfl)
  case f4x5 => kernel_rfl
  case g4x5 => kernel_rfl
  case p4x5 => exact (fun _ _ _ h => h)
  case u4x5 => (refine Or.inl ⟨by rfl, ?_⟩; intro w hSw; (try dsimp only at hSw); go_simp; (try rw [if_neg (by omega)]); try with_reducible rfl)
  try simp only [Act.put, List.setIfInBounds_toArray, List.set_cons_zero, List.set_cons_succ]
  refine wpAnyH_take (i := 6) (oi := ?o4x6) (v := ?v4x6) ?q4x6 (by kernel_rfl) ?f4x6 ?g4x6 ?p4x6 ?u4x6 (by assumption) ?r4x6
  case q4x6 => (rw [List.getElem?_toArray]; rfl)
  case f4x6 => kernel_rfl
  case g4x6 => kernel_rfl
  case p4x6 => exact (fun _ _ _ h => h)
  case u4x6 => (refine Or.inl ⟨by rfl, ?_⟩; intro w hSw; (try dsimp only at hSw); go_simp; (try rw [if_neg (by omega)]); try with_reducible rfl)
  try simp only [Act.put, List.setIfInBounds_toArray, List.set_cons_zero, List.set_cons_succ]
  refine wpAnyH_take (i := 7) (oi := ?o4x7) (v := ?v4x7) ?q4x7 (by kernel_rfl) ?f4x7 ?g4x7 ?p4x7 ?u4x7 (by assumption) ?r4x7
  case q4x7 => (rw [List.getElem?_toArray]; rfl)
  case f4x7 => kernel_rfl
  case g4x7 => kernel_rfl
  case p4x7 => exact (fun _ _ _ h => h)
  case u4x7 => (refine Or.inl ⟨by rfl, ?_⟩; intro w hSw; (try dsimp only at hSw); go_simp; (try rw [if_neg (by omega)]); try with_reducible rfl)
  try simp only [Act.put, List.setIfInBounds_toArray, List.set_cons_zero, List.set_cons_succ]
  refine em_spine (items := [⟨none, 8, 50⟩]) (E := [⟨12, [], [], 3, 49⟩]) (r0 := 44) (by kernel_rfl) (by kernel_rfl) (by kernel_rfl) (by rfl) ?lb5 (by rfl) (by rfl) ?len5 (fun w' l' C => ⟨(HKm.out.next Hv.out C).cell, (C.mk HM.out).c0⟩) (HC4.out.quiet (Mod.refl _ _).drew) (by kernel_rfl) ?_
  case lb5 => (intro e he hk; simp only [List.mem_cons, List.not_mem_nil, or_false] at he; rcases he with rfl <;> (first | exact absurd rfl hk | exact congrArg Value.string (rfl)))
  case len5 => (first | (simp [takeCode, giveCode, joinCode, awayCode, eachCode, turnGo, waitGo, turnCode] <;> omega) | (simp <;> omega))
  intro U x5 C hU
  have u50 : U 50 = _ := hU 0 _ rfl
  simp only [spTmps, SpI.tmps, List.flatMap_cons, List.flatMap_nil, Option.map_some, Option.map_none, Option.toList_some, Option.toList_none, List.cons_append, List.nil_append, List.append_nil, patch, List.foldl_cons, List.foldl_nil, Act.put, List.setIfInBounds_toArray, List.set_cons_zero, List.set_cons_succ, u50]
  clear u50 hU hHeld
  simp only [List.map_cons, List.map_nil, EmC.ins, List.getD_cons_zero, List.getD_cons_succ, List.getD_nil] at C
  have HC5 := Lib.hid C
  clear C
  have h0 := (HC5.out.mk HM.out).c0
  have h1 := (HC5.out.mk HM.out).c1
  have h2 := (HC5.out.mk HM.out).c2
  have h3 := (HC5.out.mk HM.out).c3
  have hm := (HKm.out.next Hv.out HC5.out).cell
  have hp := (HKp.out.next Hv.out HC5.out).cell
  go_wp2_with fail
  clear h0 h1 h2 h3 hm hp
  have hg := ggive_chain HC5.out (HC5.out.mk HM.out) (by simp [takeCode, giveCode, joinCode, awayCode, eachCode, turnGo, waitGo, turnCode] <;> omega) Hn.out hs
  refine hg.mono ?_
  rintro e x6 ⟨rfl, C⟩
  have HC6 := Lib.hid C
  clear C hg
  have h0 := (HC6.out.mk HM.out).c0
  have h1 := (HC6.out.mk HM.out).c1
  have h2 := (HC6.out.mk HM.out).c2
  have h3 := (HC6.out.mk HM.out).c3
  have hm := (HKm.out.next Hv.out HC6.out).cell
  have hp := (HKp.out.next Hv.out HC6.out).cell
  obtain ⟨v, ec, hv⟩ := HC6.out.made (w := w) (by simp [Value.ownBlock]) Hm.out hb
  have Hv := Lib.hid hv
  clear hv
  go_wp2
  go_ret2
  exact ⟨v, rfl, by rw [← gwait1_eq]; simpa [List.append_assoc] using Hv.out⟩
end Go.Proofs.YtppihkneeolomaaDoor
end
/- package grace, flavour 2: its code, made. -/
section
namespace Go.Proofs.YtppihkneeolomaaDoor
open Go.RowKit Qs Qh
variable {w0 w w1 : World} {b o : Nat} {v0 : Value} {l : List Instr} {br s : ByteArray} {fe jo co : Bool} {u : Value} {c : Nat}
set_option maxRecDepth 4000 in
set_option maxHeartbeats 8000000 in
theorem genter2_ok (s : ByteArray) (w : World) (hn : nameB s.data.toList = true) (hs : s.size ≤ 4) :
    Calls Tryd.prog 79 #[.int .i64 2, .string s] w fun e w' => ∃ v, e = .returned (.tuple #[v, .nilIface]) ∧ Made (preC s.data.toList gc20) w v w' := by
  have Hn := Lib.hid hn
  clear hn
  go_enter Tryd.func79, Tryd.ntmps79
  go_wp2_with fail
  refine (begin2_ok s w Hn.out hs).mono ?_
  rintro e x0 ⟨b, rfl, hm, hb, E, M⟩
  have HC := Lib.hid (Chain.start E)
  have HM := Lib.hid M
  have Hm := Lib.hid hm
  clear hm E M
  have h0 := (HC.out.mk HM.out).c0
  have h1 := (HC.out.mk HM.out).c1
  have h2 := (HC.out.mk HM.out).c2
  have h3 := (HC.out.mk HM.out).c3
  go_wp2_with fail
  refine (op3_chain (HC.out.quiet ((Mod.refl _ _).alloc _)) (by first | omega | simp) 6 _ rfl x0.heap.size 0 6 0 3 (by simp) (by simp) (by simp) (by simp)).mono ?_
  clear h0 h1 h2 h3
  rintro e x1 ⟨rfl, C⟩
  have HC1 := Lib.hid C
  clear C
  have h0 := (HC1.out.mk HM.out).c0
  have h1 := (HC1.out.mk HM.out).c1
  have h2 := (HC1.out.mk HM.out).c2
  have h3 := (HC1.out.mk HM.out).c3
  go_wp2_with fail
  refine (op2_chain (HC1.out.quiet ((Mod.refl _ _).alloc _)) (by simp [takeCode, giveCode, joinCode, awayCode, eachCode, turnGo, waitGo, turnCode] <;> omega) 0 _ rfl x1.heap.size 1 255 2 (by simp) (by simp) (by simp)).mono ?_
  clear h0 h1 h2 h3
  rintro e x2 ⟨rfl, C⟩
  have HC2 := Lib.hid C
  clear C
  have h0 := (HC2.out.mk HM.out).c0
  have h1 := (HC2.out.mk HM.out).c1
  have h2 := (HC2.out.mk HM.out).c2
  have h3 := (HC2.out.mk HM.out).c3
  go_wp2_with fail
  refine (op3_chain (HC2.out.quiet ((Mod.refl _ _).alloc _)) (by simp [takeCode, giveCode, joinCode, awayCode, eachCode, turnGo, waitGo, turnCode] <;> omega) 4 _ rfl x2.heap.size 1 0 1 3 (by simp) (by simp) (by simp) (by simp)).mono ?_
  clear h0 h1 h2 h3
  rintro e x3 ⟨rfl, C⟩
  have HC3 := Lib.hid C
  clear C
  have h0 := (HC3.out.mk HM.out).c0
  have h1 := (HC3.out.mk HM.out).c1
  have h2 := (HC3.out.mk HM.out).c2
  have h3 := (HC3.out.mk HM.out).c3
  go_wp2_with fail
  refine (to1_chain (HC3.out.quiet ((Mod.refl _ _).alloc _)) (by simp [takeCode, giveCode, joinCode, awayCode, eachCode, turnGo, waitGo, turnCode] <;> omega) 14 _ rfl (s.data.toList ++ [46, 97]) _ (bytes_cat s _) x3.heap.size 1 1 (by simp) (by simp)).mono ?_
  clear h0 h1 h2 h3
  rintro e x4 ⟨rfl, C⟩
  have HC4 := Lib.hid C
  clear C
  have h0 := (HC4.out.mk HM.out).c0
  have h1 := (HC4.out.mk HM.out).c1
  have h2 := (HC4.out.mk HM.out).c2
  have h3 := (HC4.out.mk HM.out).c3
  go_wp2_with fail
  refine (op2_chain (HC4.out.quiet ((Mod.refl _ _).alloc _)) (by simp [takeCode, giveCode, joinCode, awayCode, eachCode, turnGo, waitGo, turnCode] <;> omega) 0 _ rfl x4.heap.size 1 1 2 (by simp) (by simp) (by simp)).mono ?_
  clear h0 h1 h2 h3
  rintro e x5 ⟨rfl, C⟩
  have HC5 := Lib.hid C
  clear C
  have h0 := (HC5.out.mk HM.out).c0
  have h1 := (HC5.out.mk HM.out).c1
  have h2 := (HC5.out.mk HM.out).c2
  have h3 := (HC5.out.mk HM.out).c3
  go_wp2_with fail
  refine (op3_chain (HC5.out.quiet ((Mod.refl _ _).alloc _)) (by simp [takeCode, giveCode, joinCode, awayCode, eachCode, turnGo, waitGo, turnCode] <;> omega) 2 _ rfl x5.heap.size 0 0 1 3 (by simp) (by simp) (by simp) (by simp)).mono ?_
  clear h0 h1 h2 h3
  rintro e x6 ⟨rfl, C⟩
  have HC6 := Lib.hid C
  clear C
  have h0 := (HC6.out.mk HM.out).c0
  have h1 := (HC6.out.mk HM.out).c1
  have h2 := (HC6.out.mk HM.out).c2
  have h3 := (HC6.out.mk HM.out).c3
  go_wp2_with fail
  refine (op3_chain (HC6.out.quiet ((Mod.refl _ _).alloc _)) (by simp [takeCode, giveCode, joinCode, awayCode, eachCode, turnGo, waitGo, turnCode] <;> omega) 7 _ rfl x6.heap.size 6 0 0 3 (by simp) (by simp) (by simp) (by simp)).mono ?_
  clear h0 h1 h2 h3
  rintro e x7 ⟨rfl, C⟩
  have HC7 := Lib.hid C
  clear C
  have h0 := (HC7.out.mk HM.out).c0
  have h1 := (HC7.out.mk HM.out).c1
  have h2 := (HC7.out.mk HM.out).c2
  have h3 := (HC7.out.mk HM.out).c3
  go_wp2_with fail
  refine (to0_chain HC7.out (by simp [takeCode, giveCode, joinCode, awayCode, eachCode, turnGo, waitGo, turnCode] <;> omega) 16 _ rfl (s.data.toList ++ [46, 98]) _ (bytes_cat s _)).mono ?_
  clear h0 h1 h2 h3
  rintro e x8 ⟨rfl, C⟩
  have HC8 := Lib.hid C
  clear C
  have h0 := (HC8.out.mk HM.out).c0
  have h1 := (HC8.out.mk HM.out).c1
  have h2 := (HC8.out.mk HM.out).c2
  have h3 := (HC8.out.mk HM.out).c3
  go_wp2_with fail
  refine (label_chain HC8.out (by simp [takeCode, giveCode, joinCode, awayCode, eachCode, turnGo, waitGo, turnCode] <;> omega) (s.data.toList ++ [46, 97]) _ (bytes_cat s _)).mono ?_
  clear h0 h1 h2 h3
  rintro e x9 ⟨rfl, C⟩
  have HC9 := Lib.hid C
  clear C
  have h0 := (HC9.out.mk HM.out).c0
  have h1 := (HC9.out.mk HM.out).c1
  have h2 := (HC9.out.mk HM.out).c2
  have h3 := (HC9.out.mk HM.out).c3
  go_wp2_with fail
  refine (op3_chain (HC9.out.quiet ((Mod.refl _ _).alloc _)) (by simp [takeCode, giveCode, joinCode, awayCode, eachCode, turnGo, waitGo, turnCode] <;> omega) 6 _ rfl x9.heap.size 0 7 0 3 (by simp) (by simp) (by simp) (by simp)).mono ?_
  clear h0 h1 h2 h3
  rintro e x10 ⟨rfl, C⟩
  have HC10 := Lib.hid C
  clear C
  have h0 := (HC10.out.mk HM.out).c0
  have h1 := (HC10.out.mk HM.out).c1
  have h2 := (HC10.out.mk HM.out).c2
  have h3 := (HC10.out.mk HM.out).c3
  go_wp2_with fail
  refine (op3_chain (HC10.out.quiet ((Mod.refl _ _).alloc _)) (by simp [takeCode, giveCode, joinCode, awayCode, eachCode, turnGo, waitGo, turnCode] <;> omega) 7 _ rfl x10.heap.size 6 0 0 3 (by simp) (by simp) (by simp) (by simp)).mono ?_
  clear h0 h1 h2 h3
  rintro e x11 ⟨rfl, C⟩
  have HC11 := Lib.hid C
  clear C
  have h0 := (HC11.out.mk HM.out).c0
  have h1 := (HC11.out.mk HM.out).c1
  have h2 := (HC11.out.mk HM.out).c2
  have h3 := (HC11.out.mk HM.out).c3
  go_wp2_with fail
  refine (label_chain HC11.out (by simp [takeCode, giveCode, joinCode, awayCode, eachCode, turnGo, waitGo, turnCode] <;> omega) (s.data.toList ++ [46, 98]) _ (bytes_cat s _)).mono ?_
  clear h0 h1 h2 h3
  rintro e x12 ⟨rfl, C⟩
  have HC12 := Lib.hid C
  clear C
  obtain ⟨v, ec, hv⟩ := HC12.out.made (w := w) (by simp [Value.ownBlock]) Hm.out hb
  have Hv := Lib.hid hv
  clear hv
  go_wp2
  go_ret2
  exact ⟨v, rfl, by rw [← genter2_eq]; simpa [List.append_assoc] using Hv.out⟩
set_option maxRecDepth 4000 in
set_option maxHeartbeats 8000000 in
theorem gleave2_ok (s : ByteArray) (w : World) (hn : nameB s.data.toList = true) (hs : s.size ≤ 4) :
    Calls Tryd.prog 80 #[.int .i64 2, .string s] w fun e w' => ∃ v, e = .returned (.tuple #[v, .nilIface]) ∧ Made (preC s.data.toList gc21) w v w' := by
  have Hn := Lib.hid hn
  clear hn
  go_enter Tryd.func80, Tryd.ntmps80
  go_wp2_with fail
  refine (begin2_ok s w Hn.out hs).mono ?_
  rintro e x0 ⟨b, rfl, hm, hb, E, M⟩
  have HC := Lib.hid (Chain.start E)
  have HM := Lib.hid M
  have Hm := Lib.hid hm
  clear hm E M
  have h0 := (HC.out.mk HM.out).c0
  have h1 := (HC.out.mk HM.out).c1
  have h2 := (HC.out.mk HM.out).c2
  have h3 := (HC.out.mk HM.out).c3
  go_wp2_with fail
  refine (op3_chain (HC.out.quiet ((Mod.refl _ _).alloc _)) (by first | omega | simp) 6 _ rfl x0.heap.size 0 6 0 3 (by simp) (by simp) (by simp) (by simp)).mono ?_
  clear h0 h1 h2 h3
  rintro e x1 ⟨rfl, C⟩
  have HC1 := Lib.hid C
  clear C
  have h0 := (HC1.out.mk HM.out).c0
  have h1 := (HC1.out.mk HM.out).c1
  have h2 := (HC1.out.mk HM.out).c2
  have h3 := (HC1.out.mk HM.out).c3
  go_wp2_with fail
  refine (op2_chain (HC1.out.quiet ((Mod.refl _ _).alloc _)) (by simp [takeCode, giveCode, joinCode, awayCode, eachCode, turnGo, waitGo, turnCode] <;> omega) 0 _ rfl x1.heap.size 1 1 2 (by simp) (by simp) (by simp)).mono ?_
  clear h0 h1 h2 h3
  rintro e x2 ⟨rfl, C⟩
  have HC2 := Lib.hid C
  clear C
  have h0 := (HC2.out.mk HM.out).c0
  have h1 := (HC2.out.mk HM.out).c1
  have h2 := (HC2.out.mk HM.out).c2
  have h3 := (HC2.out.mk HM.out).c3
  go_wp2_with fail
  refine (op3_chain (HC2.out.quiet ((Mod.refl _ _).alloc _)) (by simp [takeCode, giveCode, joinCode, awayCode, eachCode, turnGo, waitGo, turnCode] <;> omega) 3 _ rfl x2.heap.size 0 0 1 3 (by simp) (by simp) (by simp) (by simp)).mono ?_
  clear h0 h1 h2 h3
  rintro e x3 ⟨rfl, C⟩
  have HC3 := Lib.hid C
  clear C
  have h0 := (HC3.out.mk HM.out).c0
  have h1 := (HC3.out.mk HM.out).c1
  have h2 := (HC3.out.mk HM.out).c2
  have h3 := (HC3.out.mk HM.out).c3
  go_wp2_with fail
  refine (op3_chain (HC3.out.quiet ((Mod.refl _ _).alloc _)) (by simp [takeCode, giveCode, joinCode, awayCode, eachCode, turnGo, waitGo, turnCode] <;> omega) 7 _ rfl x3.heap.size 6 0 0 3 (by simp) (by simp) (by simp) (by simp)).mono ?_
  clear h0 h1 h2 h3
  rintro e x4 ⟨rfl, C⟩
  have HC4 := Lib.hid C
  clear C
  obtain ⟨v, ec, hv⟩ := HC4.out.made (w := w) (by simp [Value.ownBlock]) Hm.out hb
  have Hv := Lib.hid hv
  clear hv
  go_wp2
  go_ret2
  exact ⟨v, rfl, by rw [← gleave2_eq]; simpa [List.append_assoc] using Hv.out⟩
set_option maxRecDepth 4000 in
set_option maxHeartbeats 8000000 in
theorem grest2_ok (s : ByteArray) (w : World) (hn : nameB s.data.toList = true) (hs : s.size ≤ 4) :
    Calls Tryd.prog 93 #[.int .i64 2, .string s] w fun e w' => ∃ v, e = .returned (.tuple #[v, .nilIface]) ∧ Made (preC s.data.toList gc22) w v w' := by
  have Hn := Lib.hid hn
  clear hn
  go_enter Tryd.func93, Tryd.ntmps93
  go_wp2_with fail
  refine (begin2_ok s w Hn.out hs).mono ?_
  rintro e x0 ⟨b, rfl, hm, hb, E, M⟩
  have h3 := M.c3
  have Hm := Lib.hid hm
  clear hm hb E M
  go_wp2
  go_ret2
  exact ⟨_, rfl, InsRow.nil _ _, Hm.out.toBelow, by simp [Value.ownBlock]⟩
set_option maxRecDepth 4000 in
set_option maxHeartbeats 8000000 in
theorem ggone2_ok (s : ByteArray) (w : World) (hn : nameB s.data.toList = true) (hs : s.size ≤ 4) :
    Calls Tryd.prog 54 #[.int .i64 2, .string s] w fun e w' => ∃ v, e = .returned (.tuple #[v, .nilIface]) ∧ Made (preC s.data.toList gc23) w v w' := by
  have Hn := Lib.hid hn
  clear hn
  go_enter Tryd.func54, Tryd.ntmps54
  go_wp2_with fail
  refine (begin2_ok s w Hn.out hs).mono ?_
  rintro e x0 ⟨b, rfl, hm, hb, E, M⟩
  have h3 := M.c3
  have Hm := Lib.hid hm
  clear hm hb E M
  go_wp2
  go_ret2
  exact ⟨_, rfl, InsRow.nil _ _, Hm.out.toBelow, by simp [Value.ownBlock]⟩
set_option maxRecDepth 4000 in
set_option maxHeartbeats 8000000 in
theorem gwait2_ok (s : ByteArray) (w : World) (hn : nameB s.data.toList = true) (hs : s.size ≤ 4) :
    Calls Tryd.prog 94 #[.int .i64 2, .string s] w fun e w' => ∃ v, e = .returned (.tuple #[v, .nilIface]) ∧ Made (preC s.data.toList gc24) w v w' := by
  have Hn := Lib.hid hn
  clear hn
  go_enter Tryd.func94, Tryd.ntmps94
  go_wp2_with fail
  refine (begin2_ok s _ Hn.out hs).mono ?_
  rintro e w1 ⟨b, rfl, hm, hb0, E, M⟩
  have hsw := hm.size
  have hlb := E.lt
  have hb1 : w.heap.size < b := by simp at hb0; omega
  have hp0 : w1.cell? ⟨w.heap.size, 0, none⟩ = some (.string s) := hm.cell (by simp) (fun e => e)
  have hq : Mod noF w1 (w1.alloc (.cells #[.pointer (some ⟨b, 0, none⟩)] 142)) := (Mod.refl _ _).alloc _
  have E1 := E.quiet hq
  have HC := Lib.hid (Chain.start E1)
  have HM := Lib.hid (M.quiet hq)
  have Hm := Lib.hid ((((Mod.refl noF w).alloc _).trans0 hm).trans0 hq)
  have Hv := Lib.hid E1.cell
  have hcp : w.heap.size < w1.heap.size := by simp at hsw; omega
  have hrow : ∀ (c : Nat) v, (w1.alloc (.cells #[.pointer (some ⟨b, 0, none⟩)] 142)).cell? ⟨b, 4, none⟩ = some v → v.ownBlock ≠ some c := fun c v h e => by
    rw [E1.cell] at h; cases h; cases e
  have HKm := Lib.hid (⟨by simp, by simp, by omega, hrow _⟩ : Cap (w1.alloc (.cells #[.pointer (some ⟨b, 0, none⟩)] 142)) b w1.heap.size (.pointer (some ⟨b, 0, none⟩)))
  have HKp := Lib.hid (⟨hq.cell hp0 (fun e => e), by simp; omega, by omega, hrow _⟩ : Cap (w1.alloc (.cells #[.pointer (some ⟨b, 0, none⟩)] 142)) b w.heap.size (.string s))
  have hb : w.heap.size ≤ b := by omega
  clear hm E M E1 hq hp0 hrow hsw hb0 hb1
  have h0 := (HC.out.mk HM.out).c0
  have h1 := (HC.out.mk HM.out).c1
  have h2 := (HC.out.mk HM.out).c2
  have h3 := (HC.out.mk HM.out).c3
  have hm := (HKm.out.next Hv.out HC.out).cell
  have hp := (HKp.out.next Hv.out HC.out).cell
  go_wp2
  clear h0 h1 h2 h3 hm hp
  go_wp2
  refine wp_region_held_drew (S := fun W => W.cell? ⟨w1.heap.size, 0, none⟩ = some (.pointer (some ⟨b, 0, none⟩)) ∧ W.cell? ⟨b, 0, none⟩ = some (.string (opStr 13))) (by kernel_rfl) ⟨(Mod.refl noF _).drew.cell (HKm.out.next Hv.out HC.out).cell (fun e => e), (Mod.refl noF _).drew.cell (HC.out.mk HM.out).c0 (fun e => e)⟩ (fun hHeld => ?_)
  refine wpAnyH_take (i := 0) (oi := ?o0x0) (v := ?v0x0) ?q0x0 (by kernel_rfl) ?f0x0 ?g0x0 ?p0x0 ?u0x0 (by assumption) ?r0x0
  case q0x0 => (rw [List.getElem?_toArray]; rfl)
  case f0x0 => kernel_rfl
  case g0x0 => kernel_rfl
  case p0x0 => exact (fun _ _ _ h => h)
  case u0x0 => (refine Or.inl ⟨by rfl, ?_⟩; intro w hSw; (try dsimp only at hSw); go_simp; (try rw [if_neg (by omega)]); try with_reducible rfl)
  try simp only [Act.put, List.setIfInBounds_toArray, List.set_cons_zero, List.set_cons_succ]
  refine wpAnyH_take (i := 1) (oi := ?o0x1) (v := ?v0x1) ?q0x1 (by kernel_rfl) ?f0x1 ?g0x1 ?p0x1 ?u0x1 (by assumption) ?r0x1
  case q0x1 => (rw [List.getElem?_toArray]; rfl)
  case f0x1 => kernel_rfl
  case g0x1 => kernel_rfl
  case p0x1 => exact (fun _ _ _ h => h)
  case u0x1 => (refine Or.inl ⟨by rfl, ?_⟩; intro w hSw; (try dsimp only at hSw); go_simp; (try rw [if_neg (by omega)]); try with_reducible rfl)
  try simp only [Act.put, List.setIfInBounds_toArray, List.set_cons_zero, List.set_cons_succ]
  refine wpAnyH_take (i := 2) (oi := ?o0x2) (v := ?v0x2) ?q0x2 (by kernel_rfl) ?f0x2 ?g0x2 ?p0x2 ?u0x2 (by assumption) ?r0x2
  case q0x2 => (rw [List.getElem?_toArray]; rfl)
  case f0x2 => kernel_rfl
  case g0x2 => kernel_rfl
  case p0x2 => exact (fun _ _ _ h => h)
  case u0x2 => (refine Or.inl ⟨by rfl, ?_⟩; intro w hSw; (try dsimp only at hSw); go_simp; (try rw [if_neg (by omega)]); try with_reducible rfl)
  try simp only [Act.put, List.setIfInBounds_toArray, List.set_cons_zero, List.set_cons_succ]
  refine wpAnyH_take (i := 3) (oi := ?o0x3) (v := ?v0x3) ?q0x3 (by kernel_rfl) ?f0x3 ?g0x3 ?p0x3 ?u0x3 (by assumption) ?r0x3
  case q0x3 => (rw [List.getElem?_toArray]; rfl)
  case f0x3 => kernel_rfl
  case g0x3 => kernel_rfl
  case p0x3 => exact (fun _ _ _ h => h)
  case u0x3 => (refine Or.inl ⟨by rfl, ?_⟩; intro w hSw; (try dsimp only at hSw); go_simp; (try rw [if_neg (by omega)]); try with_reducible rfl)
  try simp only [Act.put, List.setIfInBounds_toArray, List.set_cons_zero, List.set_cons_succ]
  refine wpAnyH_take (i := 4) (oi := ?o0x4) (v := ?v0x4) ?q0x4 (by kernel_rfl) ?f0x4 ?g0x4 ?p0x4 ?u0x4 (by assumption) ?r0x4
  case q0x4 => (rw [List.getElem?_toArray]; rfl)
  case f0x4 => kernel_rfl
  case g0x4 => kernel_rfl
  case p0x4 => exact (fun _ _ _ h => h)
  case u0x4 => (refine Or.inl ⟨by rfl, ?_⟩; intro w hSw; (try dsimp only at hSw); go_simp; (try rw [if_neg (by omega)]); try with_reducible rfl)
  try simp only [Act.put, List.setIfInBounds_toArray, List.set_cons_zero, List.set_cons_succ]
  refine wpAnyH_take (i := 5) (oi := ?o0x5) (v := ?v0x5) ?q0x5 (by kernel_rfl) ?f0x5 ?g0x5 ?p0x5 ?u0x5 (by assumption) ?r0x5
  case q0x5 => (rw [List.getElem?_toArray]; rfl)
  case f0x5 => kernel_rfl
  case g0x5 => kernel_rfl
  case p0x5 => exact (fun _ _ _ h => h)
  case u0x5 => (refine Or.inl ⟨by rfl, ?_⟩; intro w hSw; (try dsimp only at hSw); go_simp; (try rw [if_neg (by omega)]); try with_reducible rfl)
  try simp only [Act.put, List.setIfInBounds_toArray, List.set_cons_zero, List.set_cons_succ]
  refine wpAnyH_take (i := 6) (oi := ?o0x6) (v := ?v0x6) ?q0x6 (by kernel_rfl) ?f0x6 ?g0x6 ?p0x6 ?u0x6 (by assumption) ?r0x6
  case q0x6 => (rw [List.getElem?_toArray]; rfl)
  case f0x6 => kernel_rfl
  case g0x6 => kernel_rfl
  case p0x6 => exact (fun _ _ _ h => h)
  case u0x6 => (refine Or.inl ⟨by rfl, ?_⟩; intro w hSw; (try dsimp only at hSw); go_simp; (try rw [if_neg (by omega)]); try with_reducible rfl)
  try simp only [Act.put, List.setIfInBounds_toArray, List.set_cons_zero, List.set_cons_succ]
  refine wpAnyH_take (i := 7) (oi := ?o0x7) (v := ?v0x7) ?q0x7 (by kernel_rfl) ?f0x7 ?g0x7 ?p0x7 ?u0x7 (by assumption) ?r0x7
  case q0x7 => (rw [List.getElem?_toArray]; rfl)
  case f0x7 => kernel_rfl
  case g0x7 => kernel_rfl
  case p0x7 => exact (fun _ _ _ h => h)
  case u0x7 => (refine Or.inl ⟨by rfl, ?_⟩; intro w hSw; (try dsimp only at hSw); go_simp; (try rw [if_neg (by omega)]); try with_reducible rfl)
  try simp only [Act.put, List.setIfInBounds_toArray, List.set_cons_zero, List.set_cons_succ]
  refine em_spine (items := [⟨none, 8, 31⟩]) (E := [⟨13, [], [], 3, 30⟩]) (r0 := 25) (by kernel_rfl) (by kernel_rfl) (by kernel_rfl) (by rfl) ?lb1 (by rfl) (by rfl) ?len1 (fun w' l' C => ⟨(HKm.out.next Hv.out C).cell, (C.mk HM.out).c0⟩) (HC.out.quiet (Mod.refl _ _).drew) (by kernel_rfl) ?_
  case lb1 => (intro e he hk; simp only [List.mem_cons, List.not_mem_nil, or_false] at he; rcases he with rfl <;> (first | exact absurd rfl hk | exact congrArg Value.string (rfl)))
  case len1 => (first | (simp [takeCode, giveCode, joinCode, awayCode, eachCode, turnGo, waitGo, turnCode] <;> omega) | (simp <;> omega))
  intro U x1 C hU
  have u31 : U 31 = _ := hU 0 _ rfl
  simp only [spTmps, SpI.tmps, List.flatMap_cons, List.flatMap_nil, Option.map_some, Option.map_none, Option.toList_some, Option.toList_none, List.cons_append, List.nil_append, List.append_nil, patch, List.foldl_cons, List.foldl_nil, Act.put, List.setIfInBounds_toArray, List.set_cons_zero, List.set_cons_succ, u31]
  clear u31 hU hHeld
  simp only [List.map_cons, List.map_nil, EmC.ins, List.getD_cons_zero, List.getD_cons_succ, List.getD_nil] at C
  have HC1 := Lib.hid C
  clear C
  have h0 := (HC1.out.mk HM.out).c0
  have h1 := (HC1.out.mk HM.out).c1
  have h2 := (HC1.out.mk HM.out).c2
  have h3 := (HC1.out.mk HM.out).c3
  have hm := (HKm.out.next Hv.out HC1.out).cell
  have hp := (HKp.out.next Hv.out HC1.out).cell
  go_wp2_with fail
  clear h0 h1 h2 h3 hm hp
  have hg := gtake_chain HC1.out (HC1.out.mk HM.out) (by simp [takeCode, giveCode, joinCode, awayCode, eachCode, turnGo, waitGo, turnCode] <;> omega) Hn.out hs
  refine hg.mono ?_
  rintro e x2 ⟨rfl, C⟩
  have HC2 := Lib.hid C
  clear C hg
  have h0 := (HC2.out.mk HM.out).c0
  have h1 := (HC2.out.mk HM.out).c1
  have h2 := (HC2.out.mk HM.out).c2
  have h3 := (HC2.out.mk HM.out).c3
  have hm := (HKm.out.next Hv.out HC2.out).cell
  have hp := (HKp.out.next Hv.out HC2.out).cell
  go_wp2_with fail
  clear h0 h1 h2 h3 hm hp
  have hg := gturn_chain (s ++ ⟨#[46, 120]⟩) (size_plus2 s _ _ hs) 13 rfl HC2.out (HC2.out.mk HM.out) (by simp [takeCode, giveCode, joinCode, awayCode, eachCode, turnGo, waitGo, turnCode] <;> omega)
  refine hg.mono ?_
  rintro e x3 ⟨rfl, C⟩
  have HC3 := Lib.hid C
  clear C hg
  have h0 := (HC3.out.mk HM.out).c0
  have h1 := (HC3.out.mk HM.out).c1
  have h2 := (HC3.out.mk HM.out).c2
  have h3 := (HC3.out.mk HM.out).c3
  have hm := (HKm.out.next Hv.out HC3.out).cell
  have hp := (HKp.out.next Hv.out HC3.out).cell
  go_wp2_with fail
  clear h0 h1 h2 h3 hm hp
  have hg := gturn_chain (s ++ ⟨#[46, 121]⟩) (size_plus2 s _ _ hs) 13 rfl HC3.out (HC3.out.mk HM.out) (by simp [takeCode, giveCode, joinCode, awayCode, eachCode, turnGo, waitGo, turnCode] <;> omega)
  refine hg.mono ?_
  rintro e x4 ⟨rfl, C⟩
  have HC4 := Lib.hid C
  clear C hg
  go_wp2
  refine wp_region_held_drew (S := fun W => W.cell? ⟨w1.heap.size, 0, none⟩ = some (.pointer (some ⟨b, 0, none⟩)) ∧ W.cell? ⟨b, 0, none⟩ = some (.string (opStr 13))) (by kernel_rfl) ⟨(Mod.refl noF _).drew.cell (HKm.out.next Hv.out HC4.out).cell (fun e => e), (Mod.refl noF _).drew.cell (HC4.out.mk HM.out).c0 (fun e => e)⟩ (fun hHeld => ?_)
  refine wpAnyH_take (i := 0) (oi := ?o4x0) (v := ?v4x0) ?q4x0 (by kernel_rfl) ?f4x0 ?g4x0 ?p4x0 ?u4x0 (by assumption) ?r4x0
  case q4x0 => (rw [List.getElem?_toArray]; rfl)
  case f4x0 => kernel_rfl
  case g4x0 => kernel_rfl
  case p4x0 => exact (fun _ _ _ h => h)
  case u4x0 => (refine Or.inl ⟨by rfl, ?_⟩; intro w hSw; (try dsimp only at hSw); go_simp; (try rw [if_neg (by omega)]); try with_reducible rfl)
  try simp only [Act.put, List.setIfInBounds_toArray, List.set_cons_zero, List.set_cons_succ]
  refine wpAnyH_take (i := 1) (oi := ?o4x1) (v := ?v4x1) ?q4x1 (by kernel_rfl) ?f4x1 ?g4x1 ?p4x1 ?u4x1 (by assumption) ?r4x1
  case q4x1 => (rw [List.getElem?_toArray]; rfl)
  case f4x1 => kernel_rfl
  case g4x1 => kernel_rfl
  case p4x1 => exact (fun _ _ _ h => h)
  case u4x1 => (refine Or.inl ⟨by rfl, ?_⟩; intro w hSw; (try dsimp only at hSw); go_simp; (try rw [if_neg (by omega)]); try with_reducible rfl)
  try simp only [Act.put, List.setIfInBounds_toArray, List.set_cons_zero, List.set_cons_succ]
  refine wpAnyH_take (i := 2) (oi := ?o4x2) (v := ?v4x2) ?q4x2 (by kernel_rfl) ?f4x2 ?g4x2 ?p4x2 ?u4x2 (by assumption) ?r4x2
  case q4x2 => (rw [List.getElem?_toArray]; rfl)
  case f4x2 => kernel_rfl
  case g4x2 => kernel_rfl
  case p4x2 => exact (fun _ _ _ h => h)
  case u4x2 => (refine Or.inl ⟨by rfl, ?_⟩; intro w hSw; (try dsimp only at hSw); go_simp; (try rw [if_neg (by omega)]); try with_reducible rfl)
  try simp only [Act.put, List.setIfInBounds_toArray, List.set_cons_zero, List.set_cons_succ]
  refine wpAnyH_take (i := 3) (oi := ?o4x3) (v := ?v4x3) ?q4x3 (by kernel_rfl) ?f4x3 ?g4x3 ?p4x3 ?u4x3 (by assumption) ?r4x3
  case q4x3 => (rw [List.getElem?_toArray]; rfl)
  case f4x3 => kernel_rfl
  case g4x3 => kernel_rfl
  case p4x3 => exact (fun _ _ _ h => h)
  case u4x3 => (refine Or.inl ⟨by rfl, ?_⟩; intro w hSw; (try dsimp only at hSw); go_simp; (try rw [if_neg (by omega)]); try with_reducible rfl)
  try simp only [Act.put, List.setIfInBounds_toArray, List.set_cons_zero, List.set_cons_succ]
  refine wpAnyH_take (i := 4) (oi := ?o4x4) (v := ?v4x4) ?q4x4 (by kernel_rfl) ?f4x4 ?g4x4 ?p4x4 ?u4x4 (by assumption) ?r4x4
  case q4x4 => (rw [List.getElem?_toArray]; rfl)
  case f4x4 => kernel_rfl
  case g4x4 => kernel_rfl
  case p4x4 => exact (fun _ _ _ h => h)
  case u4x4 => (refine Or.inl ⟨by rfl, ?_⟩; intro w hSw; (try dsimp only at hSw); go_simp; (try rw [if_neg (by omega)]); try with_reducible rfl)
  try simp only [Act.put, List.setIfInBounds_toArray, List.set_cons_zero, List.set_cons_succ]
  refine wpAnyH_take (i := 5) (oi := ?o4x5) (v := ?v4x5) ?q4x5 (by kernel_rfl) ?f4x5 ?g4x5 ?p4x5 ?u4x5 (by assumption) ?r4x5
  case q4x5 => (rw [List.getElem?_toArray]; rfl)
  case f4x5 => kernel_rfl
  case g4x5 => kernel_rfl
  case p4x5 => exact (fun _ _ _ h => h)
  case u4x5 => (refine Or.inl ⟨by rfl, ?_⟩; intro w hSw; (try dsimp only at hSw); go_simp; (try rw [if_neg (by omega)]); try with_reducible rfl)
  try simp only [Act.put, List.setIfInBounds_toArray, List.set_cons_zero, List.set_cons_succ]
  refine wpAnyH_take (i := 6) (oi := ?o4x6) (v := ?v4x6) ?q4x6 (by kernel_rfl) ?f4x6 ?g4x6 ?p4x6 ?u4x6 (by assumption) ?r4x6
  case q4x6 => (rw [List.getElem?_toArray]; rfl)
  case f4x6 => kernel_rfl
  case g4x6 => kernel_rfl
  case p4x6 => exact (fun _ _ _ h => h)
  case u4x6 => (refine Or.inl ⟨by rfl, ?_⟩; intro w hSw; (try dsimp only at hSw); go_simp; (try rw [if_neg (by omega)]); try with_reducible rfl)
  try simp only [Act.put, List.setIfInBounds_toArray, List.set_cons_zero, List.set_cons_succ]
  refine wpAnyH_take (i := 7) (oi := ?o4x7) (v := ?v4x7) ?q4x7 (by kernel_rfl) ?f4x7 ?g4x7 ?p4x7 ?u4x7 (by assumption) ?r4x7
  case q4x7 => (rw [List.getElem?_toArray]; rfl)
  case f4x7 => kernel_rfl
  case g4x7 => kernel_rfl
  case p4x7 => exact (fun _ _ _ h => h)
  case u4x7 => (refine Or.inl ⟨by rfl, ?_⟩; intro w hSw; (try dsimp only at hSw); go_simp; (try rw [if_neg (by omega)]); try with_reducible rfl)
  try simp only [Act.put, List.setIfInBounds_toArray, List.set_cons_zero, List.set_cons_succ]
  refine em_spine (items := [⟨none, 8, 50⟩]) (E := [⟨13, [], [], 3, 49⟩]) (r0 := 44) (by kernel_rfl) (by kernel_rfl) (by kernel_rfl) (by rfl) ?lb5 (by rfl) (by rfl) ?len5 (fun w' l' C => ⟨(HKm.out.next Hv.out C).cell, (C.mk HM.out).c0⟩) (HC4.out.quiet (Mod.refl _ _).drew) (by kernel_rfl) ?_
  case lb5 => (intro e he hk; simp only [List.mem_cons, List.not_mem_nil, or_false] at he; rcases he with rfl <;> (first | exact absurd rfl hk | exact congrArg Value.string (rfl)))
  case len5 => (first | (simp [takeCode, giveCode, joinCode, awayCode, eachCode, turnGo, waitGo, turnCode] <;> omega) | (simp <;> omega))
  intro U x5 C hU
  have u50 : U 50 = _ := hU 0 _ rfl
  simp only [spTmps, SpI.tmps, List.flatMap_cons, List.flatMap_nil, Option.map_some, Option.map_none, Option.toList_some, Option.toList_none, List.cons_append, List.nil_append, List.append_nil, patch, List.foldl_cons, List.foldl_nil, Act.put, List.setIfInBounds_toArray, List.set_cons_zero, List.set_cons_succ, u50]
  clear u50 hU hHeld
  simp only [List.map_cons, List.map_nil, EmC.ins, List.getD_cons_zero, List.getD_cons_succ, List.getD_nil] at C
  have HC5 := Lib.hid C
  clear C
  have h0 := (HC5.out.mk HM.out).c0
  have h1 := (HC5.out.mk HM.out).c1
  have h2 := (HC5.out.mk HM.out).c2
  have h3 := (HC5.out.mk HM.out).c3
  have hm := (HKm.out.next Hv.out HC5.out).cell
  have hp := (HKp.out.next Hv.out HC5.out).cell
  go_wp2_with fail
  clear h0 h1 h2 h3 hm hp
  have hg := ggive_chain HC5.out (HC5.out.mk HM.out) (by simp [takeCode, giveCode, joinCode, awayCode, eachCode, turnGo, waitGo, turnCode] <;> omega) Hn.out hs
  refine hg.mono ?_
  rintro e x6 ⟨rfl, C⟩
  have HC6 := Lib.hid C
  clear C hg
  have h0 := (HC6.out.mk HM.out).c0
  have h1 := (HC6.out.mk HM.out).c1
  have h2 := (HC6.out.mk HM.out).c2
  have h3 := (HC6.out.mk HM.out).c3
  have hm := (HKm.out.next Hv.out HC6.out).cell
  have hp := (HKp.out.next Hv.out HC6.out).cell
  obtain ⟨v, ec, hv⟩ := HC6.out.made (w := w) (by simp [Value.ownBlock]) Hm.out hb
  have Hv := Lib.hid hv
  clear hv
  go_wp2
  go_ret2
  exact ⟨v, rfl, by rw [← gwait2_eq]; simpa [List.append_assoc] using Hv.out⟩
end Go.Proofs.YtppihkneeolomaaDoor
end
/- package grace, flavour 3: its code, made. -/
section
namespace Go.Proofs.YtppihkneeolomaaDoor
open Go.RowKit Qs Qh
variable {w0 w w1 : World} {b o : Nat} {v0 : Value} {l : List Instr} {br s : ByteArray} {fe jo co : Bool} {u : Value} {c : Nat}
set_option maxRecDepth 4000 in
set_option maxHeartbeats 8000000 in
theorem genter3_ok (s : ByteArray) (w : World) (hn : nameB s.data.toList = true) (hs : s.size ≤ 4) :
    Calls Tryd.prog 79 #[.int .i64 3, .string s] w fun e w' => ∃ v, e = .returned (.tuple #[v, .nilIface]) ∧ Made (preC s.data.toList gc30) w v w' := by
  have Hn := Lib.hid hn
  clear hn
  go_enter Tryd.func79, Tryd.ntmps79
  go_wp2_with fail
  refine (begin3_ok s w Hn.out hs).mono ?_
  rintro e x0 ⟨b, rfl, hm, hb, E, M⟩
  have h3 := M.c3
  have Hm := Lib.hid hm
  clear hm hb E M
  go_wp2
  go_ret2
  exact ⟨_, rfl, InsRow.nil _ _, Hm.out.toBelow, by simp [Value.ownBlock]⟩
set_option maxRecDepth 4000 in
set_option maxHeartbeats 8000000 in
theorem gleave3_ok (s : ByteArray) (w : World) (hn : nameB s.data.toList = true) (hs : s.size ≤ 4) :
    Calls Tryd.prog 80 #[.int .i64 3, .string s] w fun e w' => ∃ v, e = .returned (.tuple #[v, .nilIface]) ∧ Made (preC s.data.toList gc31) w v w' := by
  have Hn := Lib.hid hn
  clear hn
  go_enter Tryd.func80, Tryd.ntmps80
  go_wp2_with fail
  refine (begin3_ok s w Hn.out hs).mono ?_
  rintro e x0 ⟨b, rfl, hm, hb, E, M⟩
  have h3 := M.c3
  have Hm := Lib.hid hm
  clear hm hb E M
  go_wp2
  go_ret2
  exact ⟨_, rfl, InsRow.nil _ _, Hm.out.toBelow, by simp [Value.ownBlock]⟩
set_option maxRecDepth 4000 in
set_option maxHeartbeats 8000000 in
theorem grest3_ok (s : ByteArray) (w : World) (hn : nameB s.data.toList = true) (hs : s.size ≤ 4) :
    Calls Tryd.prog 93 #[.int .i64 3, .string s] w fun e w' => ∃ v, e = .returned (.tuple #[v, .nilIface]) ∧ Made (preC s.data.toList gc32) w v w' := by
  have Hn := Lib.hid hn
  clear hn
  go_enter Tryd.func93, Tryd.ntmps93
  go_wp2_with fail
  refine (begin3_ok s w Hn.out hs).mono ?_
  rintro e x0 ⟨b, rfl, hm, hb, E, M⟩
  have HC := Lib.hid (Chain.start E)
  have HM := Lib.hid M
  have Hm := Lib.hid hm
  clear hm E M
  have h0 := (HC.out.mk HM.out).c0
  have h1 := (HC.out.mk HM.out).c1
  have h2 := (HC.out.mk HM.out).c2
  have h3 := (HC.out.mk HM.out).c3
  go_wp2_with fail
  refine (op3_chain (HC.out.quiet ((Mod.refl _ _).alloc _)) (by first | omega | simp) 6 _ rfl x0.heap.size 0 7 0 3 (by simp) (by simp) (by simp) (by simp)).mono ?_
  clear h0 h1 h2 h3
  rintro e x1 ⟨rfl, C⟩
  have HC1 := Lib.hid C
  clear C
  have h0 := (HC1.out.mk HM.out).c0
  have h1 := (HC1.out.mk HM.out).c1
  have h2 := (HC1.out.mk HM.out).c2
  have h3 := (HC1.out.mk HM.out).c3
  go_wp2_with fail
  refine (op3_chain (HC1.out.quiet ((Mod.refl _ _).alloc _)) (by simp [takeCode, giveCode, joinCode, awayCode, eachCode, turnGo, waitGo, turnCode] <;> omega) 7 _ rfl x1.heap.size 6 0 0 3 (by simp) (by simp) (by simp) (by simp)).mono ?_
  clear h0 h1 h2 h3
  rintro e x2 ⟨rfl, C⟩
  have HC2 := Lib.hid C
  clear C
  have h0 := (HC2.out.mk HM.out).c0
  have h1 := (HC2.out.mk HM.out).c1
  have h2 := (HC2.out.mk HM.out).c2
  have h3 := (HC2.out.mk HM.out).c3
  go_wp2_with fail
  refine (op0_chain HC2.out (by simp [takeCode, giveCode, joinCode, awayCode, eachCode, turnGo, waitGo, turnCode] <;> omega) 12 _ rfl).mono ?_
  clear h0 h1 h2 h3
  rintro e x3 ⟨rfl, C⟩
  have HC3 := Lib.hid C
  clear C
  obtain ⟨v, ec, hv⟩ := HC3.out.made (w := w) (by simp [Value.ownBlock]) Hm.out hb
  have Hv := Lib.hid hv
  clear hv
  go_wp2
  go_ret2
  exact ⟨v, rfl, by rw [← grest3_eq]; simpa [List.append_assoc] using Hv.out⟩
set_option maxRecDepth 4000 in
set_option maxHeartbeats 8000000 in
theorem ggone3_ok (s : ByteArray) (w : World) (hn : nameB s.data.toList = true) (hs : s.size ≤ 4) :
    Calls Tryd.prog 54 #[.int .i64 3, .string s] w fun e w' => ∃ v, e = .returned (.tuple #[v, .nilIface]) ∧ Made (preC s.data.toList gc33) w v w' := by
  have Hn := Lib.hid hn
  clear hn
  go_enter Tryd.func54, Tryd.ntmps54
  go_wp2_with fail
  refine (begin3_ok s w Hn.out hs).mono ?_
  rintro e x0 ⟨b, rfl, hm, hb, E, M⟩
  have HC := Lib.hid (Chain.start E)
  have HM := Lib.hid M
  have Hm := Lib.hid hm
  clear hm E M
  have h0 := (HC.out.mk HM.out).c0
  have h1 := (HC.out.mk HM.out).c1
  have h2 := (HC.out.mk HM.out).c2
  have h3 := (HC.out.mk HM.out).c3
  go_wp2_with fail
  clear h0 h1 h2 h3
  have hg := gaway_chain HC.out (by first | omega | simp)
  refine hg.mono ?_
  rintro e x1 ⟨rfl, C⟩
  have HC1 := Lib.hid C
  clear C hg
  obtain ⟨v, ec, hv⟩ := HC1.out.made (w := w) (by simp [Value.ownBlock]) Hm.out hb
  have Hv := Lib.hid hv
  clear hv
  go_wp2
  go_ret2
  exact ⟨v, rfl, by rw [← ggone3_eq]; simpa [List.append_assoc] using Hv.out⟩
set_option maxRecDepth 4000 in
set_option maxHeartbeats 8000000 in
theorem gwait3_ok (s : ByteArray) (w : World) (hn : nameB s.data.toList = true) (hs : s.size ≤ 4) :
    Calls Tryd.prog 94 #[.int .i64 3, .string s] w fun e w' => ∃ v, e = .returned (.tuple #[v, .nilIface]) ∧ Made (preC s.data.toList gc34) w v w' := by
  have Hn := Lib.hid hn
  clear hn
  go_enter Tryd.func94, Tryd.ntmps94
  go_wp2_with fail
  refine (begin3_ok s _ Hn.out hs).mono ?_
  rintro e w1 ⟨b, rfl, hm, hb0, E, M⟩
  have hsw := hm.size
  have hlb := E.lt
  have hb1 : w.heap.size < b := by simp at hb0; omega
  have hp0 : w1.cell? ⟨w.heap.size, 0, none⟩ = some (.string s) := hm.cell (by simp) (fun e => e)
  have hq : Mod noF w1 (w1.alloc (.cells #[.pointer (some ⟨b, 0, none⟩)] 142)) := (Mod.refl _ _).alloc _
  have E1 := E.quiet hq
  have HC := Lib.hid (Chain.start E1)
  have HM := Lib.hid (M.quiet hq)
  have Hm := Lib.hid ((((Mod.refl noF w).alloc _).trans0 hm).trans0 hq)
  have Hv := Lib.hid E1.cell
  have hcp : w.heap.size < w1.heap.size := by simp at hsw; omega
  have hrow : ∀ (c : Nat) v, (w1.alloc (.cells #[.pointer (some ⟨b, 0, none⟩)] 142)).cell? ⟨b, 4, none⟩ = some v → v.ownBlock ≠ some c := fun c v h e => by
    rw [E1.cell] at h; cases h; cases e
  have HKm := Lib.hid (⟨by simp, by simp, by omega, hrow _⟩ : Cap (w1.alloc (.cells #[.pointer (some ⟨b, 0, none⟩)] 142)) b w1.heap.size (.pointer (some ⟨b, 0, none⟩)))
  have HKp := Lib.hid (⟨hq.cell hp0 (fun e => e), by simp; omega, by omega, hrow _⟩ : Cap (w1.alloc (.cells #[.pointer (some ⟨b, 0, none⟩)] 142)) b w.heap.size (.string s))
  have hb : w.heap.size ≤ b := by omega
  clear hm E M E1 hq hp0 hrow hsw hb0 hb1
  have h0 := (HC.out.mk HM.out).c0
  have h1 := (HC.out.mk HM.out).c1
  have h2 := (HC.out.mk HM.out).c2
  have h3 := (HC.out.mk HM.out).c3
  have hm := (HKm.out.next Hv.out HC.out).cell
  have hp := (HKp.out.next Hv.out HC.out).cell
  go_wp2_with fail
  clear h0 h1 h2 h3 hm hp
  have hg := gaway_chain HC.out (by first | omega | simp)
  refine hg.mono ?_
  rintro e x1 ⟨rfl, C⟩
  have HC1 := Lib.hid C
  clear C hg
  have h0 := (HC1.out.mk HM.out).c0
  have h1 := (HC1.out.mk HM.out).c1
  have h2 := (HC1.out.mk HM.out).c2
  have h3 := (HC1.out.mk HM.out).c3
  have hm := (HKm.out.next Hv.out HC1.out).cell
  have hp := (HKp.out.next Hv.out HC1.out).cell
  go_wp2_with fail
  clear h0 h1 h2 h3 hm hp
  have hg := gtake_chain HC1.out (HC1.out.mk HM.out) (by simp [takeCode, giveCode, joinCode, awayCode, eachCode, turnGo, waitGo, turnCode] <;> omega) Hn.out hs
  refine hg.mono ?_
  rintro e x2 ⟨rfl, C⟩
  have HC2 := Lib.hid C
  clear C hg
  have h0 := (HC2.out.mk HM.out).c0
  have h1 := (HC2.out.mk HM.out).c1
  have h2 := (HC2.out.mk HM.out).c2
  have h3 := (HC2.out.mk HM.out).c3
  have hm := (HKm.out.next Hv.out HC2.out).cell
  have hp := (HKp.out.next Hv.out HC2.out).cell
  go_wp2_with fail
  refine (op3_chain (HC2.out.quiet ((Mod.refl _ _).alloc _)) (by simp [takeCode, giveCode, joinCode, awayCode, eachCode, turnGo, waitGo, turnCode] <;> omega) 6 _ rfl x2.heap.size 0 7 0 3 (by simp) (by simp) (by simp) (by simp)).mono ?_
  clear h0 h1 h2 h3 hm hp
  rintro e x3 ⟨rfl, C⟩
  have HC3 := Lib.hid C
  clear C
  have h0 := (HC3.out.mk HM.out).c0
  have h1 := (HC3.out.mk HM.out).c1
  have h2 := (HC3.out.mk HM.out).c2
  have h3 := (HC3.out.mk HM.out).c3
  have hm := (HKm.out.next Hv.out HC3.out).cell
  have hp := (HKp.out.next Hv.out HC3.out).cell
  go_wp2_with fail
  refine (op2_chain (HC3.out.quiet ((Mod.refl _ _).alloc _)) (by simp [takeCode, giveCode, joinCode, awayCode, eachCode, turnGo, waitGo, turnCode] <;> omega) 0 _ rfl x3.heap.size 1 2 2 (by simp) (by simp) (by simp)).mono ?_
  clear h0 h1 h2 h3 hm hp
  rintro e x4 ⟨rfl, C⟩
  have HC4 := Lib.hid C
  clear C
  have h0 := (HC4.out.mk HM.out).c0
  have h1 := (HC4.out.mk HM.out).c1
  have h2 := (HC4.out.mk HM.out).c2
  have h3 := (HC4.out.mk HM.out).c3
  have hm := (HKm.out.next Hv.out HC4.out).cell
  have hp := (HKp.out.next Hv.out HC4.out).cell
  go_wp2_with fail
  refine (op3_chain (HC4.out.quiet ((Mod.refl _ _).alloc _)) (by simp [takeCode, giveCode, joinCode, awayCode, eachCode, turnGo, waitGo, turnCode] <;> omega) 2 _ rfl x4.heap.size 0 0 1 3 (by simp) (by simp) (by simp) (by simp)).mono ?_
  clear h0 h1 h2 h3 hm hp
  rintro e x5 ⟨rfl, C⟩
  have HC5 := Lib.hid C
  clear C
  have h0 := (HC5.out.mk HM.out).c0
  have h1 := (HC5.out.mk HM.out).c1
  have h2 := (HC5.out.mk HM.out).c2
  have h3 := (HC5.out.mk HM.out).c3
  have hm := (HKm.out.next Hv.out HC5.out).cell
  have hp := (HKp.out.next Hv.out HC5.out).cell
  go_wp2_with fail
  refine (op3_chain (HC5.out.quiet ((Mod.refl _ _).alloc _)) (by simp [takeCode, giveCode, joinCode, awayCode, eachCode, turnGo, waitGo, turnCode] <;> omega) 7 _ rfl x5.heap.size 7 0 0 3 (by simp) (by simp) (by simp) (by simp)).mono ?_
  clear h0 h1 h2 h3 hm hp
  rintro e x6 ⟨rfl, C⟩
  have HC6 := Lib.hid C
  clear C
  have h0 := (HC6.out.mk HM.out).c0
  have h1 := (HC6.out.mk HM.out).c1
  have h2 := (HC6.out.mk HM.out).c2
  have h3 := (HC6.out.mk HM.out).c3
  have hm := (HKm.out.next Hv.out HC6.out).cell
  have hp := (HKp.out.next Hv.out HC6.out).cell
  go_wp2_with fail
  refine (op0_chain HC6.out (by simp [takeCode, giveCode, joinCode, awayCode, eachCode, turnGo, waitGo, turnCode] <;> omega) 12 _ rfl).mono ?_
  clear h0 h1 h2 h3 hm hp
  rintro e x7 ⟨rfl, C⟩
  have HC7 := Lib.hid C
  clear C
  have h0 := (HC7.out.mk HM.out).c0
  have h1 := (HC7.out.mk HM.out).c1
  have h2 := (HC7.out.mk HM.out).c2
  have h3 := (HC7.out.mk HM.out).c3
  have hm := (HKm.out.next Hv.out HC7.out).cell
  have hp := (HKp.out.next Hv.out HC7.out).cell
  go_wp2_with fail
  clear h0 h1 h2 h3 hm hp
  have hg := eachWait_chain (s ++ ⟨#[46, 120]⟩) (size_plus2 s _ _ hs) HC7.out (HKm.out.next Hv.out HC7.out) (HKp.out.next Hv.out HC7.out) (by omega) (by simp [takeCode, giveCode, joinCode, awayCode, eachCode, turnGo, waitGo, turnCode] <;> omega)
  refine hg.mono ?_
  rintro e x8 ⟨rfl, C⟩
  have HC8 := Lib.hid C
  clear C hg
  have h0 := (HC8.out.mk HM.out).c0
  have h1 := (HC8.out.mk HM.out).c1
  have h2 := (HC8.out.mk HM.out).c2
  have h3 := (HC8.out.mk HM.out).c3
  have hm := (HKm.out.next Hv.out HC8.out).cell
  have hp := (HKp.out.next Hv.out HC8.out).cell
  go_wp2_with fail
  clear h0 h1 h2 h3 hm hp
  have hg := ggive_chain HC8.out (HC8.out.mk HM.out) (by simp [takeCode, giveCode, joinCode, awayCode, eachCode, turnGo, waitGo, turnCode] <;> omega) Hn.out hs
  refine hg.mono ?_
  rintro e x9 ⟨rfl, C⟩
  have HC9 := Lib.hid C
  clear C hg
  have h0 := (HC9.out.mk HM.out).c0
  have h1 := (HC9.out.mk HM.out).c1
  have h2 := (HC9.out.mk HM.out).c2
  have h3 := (HC9.out.mk HM.out).c3
  have hm := (HKm.out.next Hv.out HC9.out).cell
  have hp := (HKp.out.next Hv.out HC9.out).cell
  go_wp2_with fail
  refine (op3_chain (HC9.out.quiet ((Mod.refl _ _).alloc _)) (by simp [takeCode, giveCode, joinCode, awayCode, eachCode, turnGo, waitGo, turnCode] <;> omega) 6 _ rfl x9.heap.size 0 7 0 3 (by simp) (by simp) (by simp) (by simp)).mono ?_
  clear h0 h1 h2 h3 hm hp
  rintro e x10 ⟨rfl, C⟩
  have HC10 := Lib.hid C
  clear C
  have h0 := (HC10.out.mk HM.out).c0
  have h1 := (HC10.out.mk HM.out).c1
  have h2 := (HC10.out.mk HM.out).c2
  have h3 := (HC10.out.mk HM.out).c3
  have hm := (HKm.out.next Hv.out HC10.out).cell
  have hp := (HKp.out.next Hv.out HC10.out).cell
  go_wp2_with fail
  refine (op3_chain (HC10.out.quiet ((Mod.refl _ _).alloc _)) (by simp [takeCode, giveCode, joinCode, awayCode, eachCode, turnGo, waitGo, turnCode] <;> omega) 7 _ rfl x10.heap.size 6 0 0 3 (by simp) (by simp) (by simp) (by simp)).mono ?_
  clear h0 h1 h2 h3 hm hp
  rintro e x11 ⟨rfl, C⟩
  have HC11 := Lib.hid C
  clear C
  have h0 := (HC11.out.mk HM.out).c0
  have h1 := (HC11.out.mk HM.out).c1
  have h2 := (HC11.out.mk HM.out).c2
  have h3 := (HC11.out.mk HM.out).c3
  have hm := (HKm.out.next Hv.out HC11.out).cell
  have hp := (HKp.out.next Hv.out HC11.out).cell
  go_wp2_with fail
  refine (op0_chain HC11.out (by simp [takeCode, giveCode, joinCode, awayCode, eachCode, turnGo, waitGo, turnCode] <;> omega) 12 _ rfl).mono ?_
  clear h0 h1 h2 h3 hm hp
  rintro e x12 ⟨rfl, C⟩
  have HC12 := Lib.hid C
  clear C
  have h0 := (HC12.out.mk HM.out).c0
  have h1 := (HC12.out.mk HM.out).c1
  have h2 := (HC12.out.mk HM.out).c2
  have h3 := (HC12.out.mk HM.out).c3
  have hm := (HKm.out.next Hv.out HC12.out).cell
  have hp := (HKp.out.next Hv.out HC12.out).cell
  obtain ⟨v, ec, hv⟩ := HC12.out.made (w := w) (by simp [Value.ownBlock]) Hm.out hb
  have Hv := Lib.hid hv
  clear hv
  go_wp2
  go_ret2
  exact ⟨v, rfl, by rw [← gwait3_eq]; simpa [List.append_assoc] using Hv.out⟩
end Go.Proofs.YtppihkneeolomaaDoor
end
/- package grace, flavour 4: its code, made. -/
section
namespace Go.Proofs.YtppihkneeolomaaDoor
open Go.RowKit Qs Qh
variable {w0 w w1 : World} {b o : Nat} {v0 : Value} {l : List Instr} {br s : ByteArray} {fe jo co : Bool} {u : Value} {c : Nat}
set_option maxRecDepth 4000 in
set_option maxHeartbeats 8000000 in
theorem genter4_ok (s : ByteArray) (w : World) (hn : nameB s.data.toList = true) (hs : s.size ≤ 4) :
    Calls Tryd.prog 79 #[.int .i64 4, .string s] w fun e w' => ∃ v, e = .returned (.tuple #[v, .nilIface]) ∧ Made (preC s.data.toList gc40) w v w' := by
  have Hn := Lib.hid hn
  clear hn
  go_enter Tryd.func79, Tryd.ntmps79
  go_wp2_with fail
  refine (begin4_ok s w Hn.out hs).mono ?_
  rintro e x0 ⟨b, rfl, hm, hb, E, M⟩
  have HC := Lib.hid (Chain.start E)
  have HM := Lib.hid M
  have Hm := Lib.hid hm
  clear hm E M
  have h0 := (HC.out.mk HM.out).c0
  have h1 := (HC.out.mk HM.out).c1
  have h2 := (HC.out.mk HM.out).c2
  have h3 := (HC.out.mk HM.out).c3
  go_wp2_with fail
  clear h0 h1 h2 h3
  have hg := gjoin_chain HC.out (HC.out.mk HM.out) (by first | omega | simp) Hn.out hs
  refine hg.mono ?_
  rintro e x1 ⟨rfl, C⟩
  have HC1 := Lib.hid C
  clear C hg
  have h0 := (HC1.out.mk HM.out).c0
  have h1 := (HC1.out.mk HM.out).c1
  have h2 := (HC1.out.mk HM.out).c2
  have h3 := (HC1.out.mk HM.out).c3
  go_wp2_with fail
  refine (op3_chain (HC1.out.quiet ((Mod.refl _ _).alloc _)) (by simp [takeCode, giveCode, joinCode, awayCode, eachCode, turnGo, waitGo, turnCode] <;> omega) 6 _ rfl x1.heap.size 0 6 0 3 (by simp) (by simp) (by simp) (by simp)).mono ?_
  clear h0 h1 h2 h3
  rintro e x2 ⟨rfl, C⟩
  have HC2 := Lib.hid C
  clear C
  have h0 := (HC2.out.mk HM.out).c0
  have h1 := (HC2.out.mk HM.out).c1
  have h2 := (HC2.out.mk HM.out).c2
  have h3 := (HC2.out.mk HM.out).c3
  go_wp2_with fail
  refine (op2_chain (HC2.out.quiet ((Mod.refl _ _).alloc _)) (by simp [takeCode, giveCode, joinCode, awayCode, eachCode, turnGo, waitGo, turnCode] <;> omega) 0 _ rfl x2.heap.size 1 255 2 (by simp) (by simp) (by simp)).mono ?_
  clear h0 h1 h2 h3
  rintro e x3 ⟨rfl, C⟩
  have HC3 := Lib.hid C
  clear C
  have h0 := (HC3.out.mk HM.out).c0
  have h1 := (HC3.out.mk HM.out).c1
  have h2 := (HC3.out.mk HM.out).c2
  have h3 := (HC3.out.mk HM.out).c3
  go_wp2_with fail
  refine (op3_chain (HC3.out.quiet ((Mod.refl _ _).alloc _)) (by simp [takeCode, giveCode, joinCode, awayCode, eachCode, turnGo, waitGo, turnCode] <;> omega) 4 _ rfl x3.heap.size 1 0 1 3 (by simp) (by simp) (by simp) (by simp)).mono ?_
  clear h0 h1 h2 h3
  rintro e x4 ⟨rfl, C⟩
  have HC4 := Lib.hid C
  clear C
  have h0 := (HC4.out.mk HM.out).c0
  have h1 := (HC4.out.mk HM.out).c1
  have h2 := (HC4.out.mk HM.out).c2
  have h3 := (HC4.out.mk HM.out).c3
  go_wp2_with fail
  refine (to1_chain (HC4.out.quiet ((Mod.refl _ _).alloc _)) (by simp [takeCode, giveCode, joinCode, awayCode, eachCode, turnGo, waitGo, turnCode] <;> omega) 14 _ rfl (s.data.toList ++ [46, 97]) _ (bytes_cat s _) x4.heap.size 1 1 (by simp) (by simp)).mono ?_
  clear h0 h1 h2 h3
  rintro e x5 ⟨rfl, C⟩
  have HC5 := Lib.hid C
  clear C
  have h0 := (HC5.out.mk HM.out).c0
  have h1 := (HC5.out.mk HM.out).c1
  have h2 := (HC5.out.mk HM.out).c2
  have h3 := (HC5.out.mk HM.out).c3
  go_wp2_with fail
  refine (op2_chain (HC5.out.quiet ((Mod.refl _ _).alloc _)) (by simp [takeCode, giveCode, joinCode, awayCode, eachCode, turnGo, waitGo, turnCode] <;> omega) 0 _ rfl x5.heap.size 1 1 2 (by simp) (by simp) (by simp)).mono ?_
  clear h0 h1 h2 h3
  rintro e x6 ⟨rfl, C⟩
  have HC6 := Lib.hid C
  clear C
  have h0 := (HC6.out.mk HM.out).c0
  have h1 := (HC6.out.mk HM.out).c1
  have h2 := (HC6.out.mk HM.out).c2
  have h3 := (HC6.out.mk HM.out).c3
  go_wp2_with fail
  refine (op3_chain (HC6.out.quiet ((Mod.refl _ _).alloc _)) (by simp [takeCode, giveCode, joinCode, awayCode, eachCode, turnGo, waitGo, turnCode] <;> omega) 2 _ rfl x6.heap.size 0 0 1 3 (by simp) (by simp) (by simp) (by simp)).mono ?_
  clear h0 h1 h2 h3
  rintro e x7 ⟨rfl, C⟩
  have HC7 := Lib.hid C
  clear C
  have h0 := (HC7.out.mk HM.out).c0
  have h1 := (HC7.out.mk HM.out).c1
  have h2 := (HC7.out.mk HM.out).c2
  have h3 := (HC7.out.mk HM.out).c3
  go_wp2_with fail
  refine (op3_chain (HC7.out.quiet ((Mod.refl _ _).alloc _)) (by simp [takeCode, giveCode, joinCode, awayCode, eachCode, turnGo, waitGo, turnCode] <;> omega) 7 _ rfl x7.heap.size 6 0 0 3 (by simp) (by simp) (by simp) (by simp)).mono ?_
  clear h0 h1 h2 h3
  rintro e x8 ⟨rfl, C⟩
  have HC8 := Lib.hid C
  clear C
  have h0 := (HC8.out.mk HM.out).c0
  have h1 := (HC8.out.mk HM.out).c1
  have h2 := (HC8.out.mk HM.out).c2
  have h3 := (HC8.out.mk HM.out).c3
  go_wp2_with fail
  refine (to0_chain HC8.out (by simp [takeCode, giveCode, joinCode, awayCode, eachCode, turnGo, waitGo, turnCode] <;> omega) 16 _ rfl (s.data.toList ++ [46, 98]) _ (bytes_cat s _)).mono ?_
  clear h0 h1 h2 h3
  rintro e x9 ⟨rfl, C⟩
  have HC9 := Lib.hid C
  clear C
  have h0 := (HC9.out.mk HM.out).c0
  have h1 := (HC9.out.mk HM.out).c1
  have h2 := (HC9.out.mk HM.out).c2
  have h3 := (HC9.out.mk HM.out).c3
  go_wp2_with fail
  refine (label_chain HC9.out (by simp [takeCode, giveCode, joinCode, awayCode, eachCode, turnGo, waitGo, turnCode] <;> omega) (s.data.toList ++ [46, 97]) _ (bytes_cat s _)).mono ?_
  clear h0 h1 h2 h3
  rintro e x10 ⟨rfl, C⟩
  have HC10 := Lib.hid C
  clear C
  have h0 := (HC10.out.mk HM.out).c0
  have h1 := (HC10.out.mk HM.out).c1
  have h2 := (HC10.out.mk HM.out).c2
  have h3 := (HC10.out.mk HM.out).c3
  go_wp2_with fail
  refine (op3_chain (HC10.out.quiet ((Mod.refl _ _).alloc _)) (by simp [takeCode, giveCode, joinCode, awayCode, eachCode, turnGo, waitGo, turnCode] <;> omega) 6 _ rfl x10.heap.size 0 7 0 3 (by simp) (by simp) (by simp) (by simp)).mono ?_
  clear h0 h1 h2 h3
  rintro e x11 ⟨rfl, C⟩
  have HC11 := Lib.hid C
  clear C
  have h0 := (HC11.out.mk HM.out).c0
  have h1 := (HC11.out.mk HM.out).c1
  have h2 := (HC11.out.mk HM.out).c2
  have h3 := (HC11.out.mk HM.out).c3
  go_wp2_with fail
  refine (op3_chain (HC11.out.quiet ((Mod.refl _ _).alloc _)) (by simp [takeCode, giveCode, joinCode, awayCode, eachCode, turnGo, waitGo, turnCode] <;> omega) 7 _ rfl x11.heap.size 6 0 0 3 (by simp) (by simp) (by simp) (by simp)).mono ?_
  clear h0 h1 h2 h3
  rintro e x12 ⟨rfl, C⟩
  have HC12 := Lib.hid C
  clear C
  have h0 := (HC12.out.mk HM.out).c0
  have h1 := (HC12.out.mk HM.out).c1
  have h2 := (HC12.out.mk HM.out).c2
  have h3 := (HC12.out.mk HM.out).c3
  go_wp2_with fail
  refine (op0_chain HC12.out (by simp [takeCode, giveCode, joinCode, awayCode, eachCode, turnGo, waitGo, turnCode] <;> omega) 12 _ rfl).mono ?_
  clear h0 h1 h2 h3
  rintro e x13 ⟨rfl, C⟩
  have HC13 := Lib.hid C
  clear C
  have h0 := (HC13.out.mk HM.out).c0
  have h1 := (HC13.out.mk HM.out).c1
  have h2 := (HC13.out.mk HM.out).c2
  have h3 := (HC13.out.mk HM.out).c3
  go_wp2_with fail
  refine (label_chain HC13.out (by simp [takeCode, giveCode, joinCode, awayCode, eachCode, turnGo, waitGo, turnCode] <;> omega) (s.data.toList ++ [46, 98]) _ (bytes_cat s _)).mono ?_
  clear h0 h1 h2 h3
  rintro e x14 ⟨rfl, C⟩
  have HC14 := Lib.hid C
  clear C
  obtain ⟨v, ec, hv⟩ := HC14.out.made (w := w) (by simp [Value.ownBlock]) Hm.out hb
  have Hv := Lib.hid hv
  clear hv
  go_wp2
  go_ret2
  exact ⟨v, rfl, by rw [← genter4_eq]; simpa [List.append_assoc] using Hv.out⟩
set_option maxRecDepth 4000 in
set_option maxHeartbeats 8000000 in
theorem gleave4_ok (s : ByteArray) (w : World) (hn : nameB s.data.toList = true) (hs : s.size ≤ 4) :
    Calls Tryd.prog 80 #[.int .i64 4, .string s] w fun e w' => ∃ v, e = .returned (.tuple #[v, .nilIface]) ∧ Made (preC s.data.toList gc41) w v w' := by
  have Hn := Lib.hid hn
  clear hn
  go_enter Tryd.func80, Tryd.ntmps80
  go_wp2_with fail
  refine (begin4_ok s w Hn.out hs).mono ?_
  rintro e x0 ⟨b, rfl, hm, hb, E, M⟩
  have HC := Lib.hid (Chain.start E)
  have HM := Lib.hid M
  have Hm := Lib.hid hm
  clear hm E M
  have h0 := (HC.out.mk HM.out).c0
  have h1 := (HC.out.mk HM.out).c1
  have h2 := (HC.out.mk HM.out).c2
  have h3 := (HC.out.mk HM.out).c3
  go_wp2_with fail
  refine (op0_chain HC.out (by first | omega | simp) 12 _ rfl).mono ?_
  clear h0 h1 h2 h3
  rintro e x1 ⟨rfl, C⟩
  have HC1 := Lib.hid C
  clear C
  have h0 := (HC1.out.mk HM.out).c0
  have h1 := (HC1.out.mk HM.out).c1
  have h2 := (HC1.out.mk HM.out).c2
  have h3 := (HC1.out.mk HM.out).c3
  go_wp2_with fail
  refine (op3_chain (HC1.out.quiet ((Mod.refl _ _).alloc _)) (by simp [takeCode, giveCode, joinCode, awayCode, eachCode, turnGo, waitGo, turnCode] <;> omega) 6 _ rfl x1.heap.size 0 6 0 3 (by simp) (by simp) (by simp) (by simp)).mono ?_
  clear h0 h1 h2 h3
  rintro e x2 ⟨rfl, C⟩
  have HC2 := Lib.hid C
  clear C
  have h0 := (HC2.out.mk HM.out).c0
  have h1 := (HC2.out.mk HM.out).c1
  have h2 := (HC2.out.mk HM.out).c2
  have h3 := (HC2.out.mk HM.out).c3
  go_wp2_with fail
  refine (op2_chain (HC2.out.quiet ((Mod.refl _ _).alloc _)) (by simp [takeCode, giveCode, joinCode, awayCode, eachCode, turnGo, waitGo, turnCode] <;> omega) 0 _ rfl x2.heap.size 1 1 2 (by simp) (by simp) (by simp)).mono ?_
  clear h0 h1 h2 h3
  rintro e x3 ⟨rfl, C⟩
  have HC3 := Lib.hid C
  clear C
  have h0 := (HC3.out.mk HM.out).c0
  have h1 := (HC3.out.mk HM.out).c1
  have h2 := (HC3.out.mk HM.out).c2
  have h3 := (HC3.out.mk HM.out).c3
  go_wp2_with fail
  refine (op3_chain (HC3.out.quiet ((Mod.refl _ _).alloc _)) (by simp [takeCode, giveCode, joinCode, awayCode, eachCode, turnGo, waitGo, turnCode] <;> omega) 3 _ rfl x3.heap.size 0 0 1 3 (by simp) (by simp) (by simp) (by simp)).mono ?_
  clear h0 h1 h2 h3
  rintro e x4 ⟨rfl, C⟩
  have HC4 := Lib.hid C
  clear C
  have h0 := (HC4.out.mk HM.out).c0
  have h1 := (HC4.out.mk HM.out).c1
  have h2 := (HC4.out.mk HM.out).c2
  have h3 := (HC4.out.mk HM.out).c3
  go_wp2_with fail
  refine (op3_chain (HC4.out.quiet ((Mod.refl _ _).alloc _)) (by simp [takeCode, giveCode, joinCode, awayCode, eachCode, turnGo, waitGo, turnCode] <;> omega) 7 _ rfl x4.heap.size 6 0 0 3 (by simp) (by simp) (by simp) (by simp)).mono ?_
  clear h0 h1 h2 h3
  rintro e x5 ⟨rfl, C⟩
  have HC5 := Lib.hid C
  clear C
  obtain ⟨v, ec, hv⟩ := HC5.out.made (w := w) (by simp [Value.ownBlock]) Hm.out hb
  have Hv := Lib.hid hv
  clear hv
  go_wp2
  go_ret2
  exact ⟨v, rfl, by rw [← gleave4_eq]; simpa [List.append_assoc] using Hv.out⟩
set_option maxRecDepth 4000 in
set_option maxHeartbeats 8000000 in
theorem grest4_ok (s : ByteArray) (w : World) (hn : nameB s.data.toList = true) (hs : s.size ≤ 4) :
    Calls Tryd.prog 93 #[.int .i64 4, .string s] w fun e w' => ∃ v, e = .returned (.tuple #[v, .nilIface]) ∧ Made (preC s.data.toList gc42) w v w' := by
  have Hn := Lib.hid hn
  clear hn
  go_enter Tryd.func93, Tryd.ntmps93
  go_wp2_with fail
  refine (begin4_ok s w Hn.out hs).mono ?_
  rintro e x0 ⟨b, rfl, hm, hb, E, M⟩
  have h3 := M.c3
  have Hm := Lib.hid hm
  clear hm hb E M
  go_wp2
  go_ret2
  exact ⟨_, rfl, InsRow.nil _ _, Hm.out.toBelow, by simp [Value.ownBlock]⟩
set_option maxRecDepth 4000 in
set_option maxHeartbeats 8000000 in
theorem ggone4_ok (s : ByteArray) (w : World) (hn : nameB s.data.toList = true) (hs : s.size ≤ 4) :
    Calls Tryd.prog 54 #[.int .i64 4, .string s] w fun e w' => ∃ v, e = .returned (.tuple #[v, .nilIface]) ∧ Made (preC s.data.toList gc43) w v w' := by
  have Hn := Lib.hid hn
  clear hn
  go_enter Tryd.func54, Tryd.ntmps54
  go_wp2_with fail
  refine (begin4_ok s w Hn.out hs).mono ?_
  rintro e x0 ⟨b, rfl, hm, hb, E, M⟩
  have h3 := M.c3
  have Hm := Lib.hid hm
  clear hm hb E M
  go_wp2
  go_ret2
  exact ⟨_, rfl, InsRow.nil _ _, Hm.out.toBelow, by simp [Value.ownBlock]⟩
set_option maxRecDepth 4000 in
set_option maxHeartbeats 8000000 in
theorem gwait4_ok (s : ByteArray) (w : World) (hn : nameB s.data.toList = true) (hs : s.size ≤ 4) :
    Calls Tryd.prog 94 #[.int .i64 4, .string s] w fun e w' => ∃ v, e = .returned (.tuple #[v, .nilIface]) ∧ Made (preC s.data.toList gc44) w v w' := by
  have Hn := Lib.hid hn
  clear hn
  go_enter Tryd.func94, Tryd.ntmps94
  go_wp2_with fail
  refine (begin4_ok s _ Hn.out hs).mono ?_
  rintro e w1 ⟨b, rfl, hm, hb0, E, M⟩
  have hsw := hm.size
  have hlb := E.lt
  have hb1 : w.heap.size < b := by simp at hb0; omega
  have hp0 : w1.cell? ⟨w.heap.size, 0, none⟩ = some (.string s) := hm.cell (by simp) (fun e => e)
  have hq : Mod noF w1 (w1.alloc (.cells #[.pointer (some ⟨b, 0, none⟩)] 142)) := (Mod.refl _ _).alloc _
  have E1 := E.quiet hq
  have HC := Lib.hid (Chain.start E1)
  have HM := Lib.hid (M.quiet hq)
  have Hm := Lib.hid ((((Mod.refl noF w).alloc _).trans0 hm).trans0 hq)
  have Hv := Lib.hid E1.cell
  have hcp : w.heap.size < w1.heap.size := by simp at hsw; omega
  have hrow : ∀ (c : Nat) v, (w1.alloc (.cells #[.pointer (some ⟨b, 0, none⟩)] 142)).cell? ⟨b, 4, none⟩ = some v → v.ownBlock ≠ some c := fun c v h e => by
    rw [E1.cell] at h; cases h; cases e
  have HKm := Lib.hid (⟨by simp, by simp, by omega, hrow _⟩ : Cap (w1.alloc (.cells #[.pointer (some ⟨b, 0, none⟩)] 142)) b w1.heap.size (.pointer (some ⟨b, 0, none⟩)))
  have HKp := Lib.hid (⟨hq.cell hp0 (fun e => e), by simp; omega, by omega, hrow _⟩ : Cap (w1.alloc (.cells #[.pointer (some ⟨b, 0, none⟩)] 142)) b w.heap.size (.string s))
  have hb : w.heap.size ≤ b := by omega
  clear hm E M E1 hq hp0 hrow hsw hb0 hb1
  have h0 := (HC.out.mk HM.out).c0
  have h1 := (HC.out.mk HM.out).c1
  have h2 := (HC.out.mk HM.out).c2
  have h3 := (HC.out.mk HM.out).c3
  have hm := (HKm.out.next Hv.out HC.out).cell
  have hp := (HKp.out.next Hv.out HC.out).cell
  go_wp2
  clear h0 h1 h2 h3 hm hp
  go_wp2
  refine wp_region_held_drew (S := fun W => W.cell? ⟨w1.heap.size, 0, none⟩ = some (.pointer (some ⟨b, 0, none⟩)) ∧ W.cell? ⟨b, 0, none⟩ = some (.string (opStr 12))) (by kernel_rfl) ⟨(Mod.refl noF _).drew.cell (HKm.out.next Hv.out HC.out).cell (fun e => e), (Mod.refl noF _).drew.cell (HC.out.mk HM.out).c0 (fun e => e)⟩ (fun hHeld => ?_)
  refine wpAnyH_take (i := 0) (oi := ?o0x0) (v := ?v0x0) ?q0x0 (by kernel_rfl) ?f0x0 ?g0x0 ?p0x0 ?u0x0 (by assumption) ?r0x0
  case q0x0 => (rw [List.getElem?_toArray]; rfl)
  case f0x0 => kernel_rfl
  case g0x0 => kernel_rfl
  case p0x0 => exact (fun _ _ _ h => h)
  case u0x0 => (refine Or.inl ⟨by rfl, ?_⟩; intro w hSw; (try dsimp only at hSw); go_simp; (try rw [if_neg (by omega)]); try with_reducible rfl)
  try simp only [Act.put, List.setIfInBounds_toArray, List.set_cons_zero, List.set_cons_succ]
  refine wpAnyH_take (i := 1) (oi := ?o0x1) (v := ?v0x1) ?q0x1 (by kernel_rfl) ?f0x1 ?g0x1 ?p0x1 ?u0x1 (by assumption) ?r0x1
  case q0x1 => (rw [List.getElem?_toArray]; rfl)
  case f0x1 => kernel_rfl
  case g0x1 => kernel_rfl
  case p0x1 => exact (fun _ _ _ h => h)
  case u0x1 => (refine Or.inl ⟨by rfl, ?_⟩; intro w hSw; (try dsimp only at hSw); go_simp; (try rw [if_neg (by omega)]); try with_reducible rfl)
  try simp only [Act.put, List.setIfInBounds_toArray, List.set_cons_zero, List.set_cons_succ]
  refine wpAnyH_take (i := 2) (oi := ?o0x2) (v := ?v0x2) ?q0x2 (by kernel_rfl) ?f0x2 ?g0x2 ?p0x2 ?u0x2 (by assumption) ?r0x2
  case q0x2 => (rw [List.getElem?_toArray]; rfl)
  case f0x2 => kernel_rfl
  case g0x2 => kernel_rfl
  case p0x2 => exact (fun _ _ _ h => h)
  case u0x2 => (refine Or.inl ⟨by rfl, ?_⟩; intro w hSw; (try dsimp only at hSw); go_simp; (try rw [if_neg (by omega)]); try with_reducible rfl)
  try simp only [Act.put, List.setIfInBounds_toArray, List.set_cons_zero, List.set_cons_succ]
  refine wpAnyH_take (i := 3) (oi := ?o0x3) (v := ?v0x3) ?q0x3 (by kernel_rfl) ?f0x3 ?g0x3 ?p0x3 ?u0x3 (by assumption) ?r0x3
  case q0x3 => (rw [List.getElem?_toArray]; rfl)
  case f0x3 => kernel_rfl
  case g0x3 => kernel_rfl
  case p0x3 => exact (fun _ _ _ h => h)
  case u0x3 => (refine Or.inl ⟨by rfl, ?_⟩; intro w hSw; (try dsimp only at hSw); go_simp; (try rw [if_neg (by omega)]); try with_reducible rfl)
  try simp only [Act.put, List.setIfInBounds_toArray, List.set_cons_zero, List.set_cons_succ]
  refine wpAnyH_take (i := 4) (oi := ?o0x4) (v := ?v0x4) ?q0x4 (by kernel_rfl) ?f0x4 ?g0x4 ?p0x4 ?u0x4 (by assumption) ?r0x4
  case q0x4 => (rw [List.getElem?_toArray]; rfl)
  case f0x4 => kernel_rfl
  case g0x4 => kernel_rfl
  case p0x4 => exact (fun _ _ _ h => h)
  case u0x4 => (refine Or.inl ⟨by rfl, ?_⟩; intro w hSw; (try dsimp only at hSw); go_simp; (try rw [if_neg (by omega)]); try with_reducible rfl)
  try simp only [Act.put, List.setIfInBounds_toArray, List.set_cons_zero, List.set_cons_succ]
  refine wpAnyH_take (i := 5) (oi := ?o0x5) (v := ?v0x5) ?q0x5 (by kernel_rfl) ?f0x5 ?g0x5 ?p0x5 ?u0x5 (by assumption) ?r0x5
  case q0x5 => (rw [List.getElem?_toArray]; rfl)
  case f0x5 => kernel_rfl
  case g0x5 => kernel_rfl
  case p0x5 => exact (fun _ _ _ h => h)
  case u0x5 => (refine Or.inl ⟨by rfl, ?_⟩; intro w hSw; (try dsimp only at hSw); go_simp; (try rw [if_neg (by omega)]); try with_reducible rfl)
  try simp only [Act.put, List.setIfInBounds_toArray, List.set_cons_zero, List.set_cons_succ]
  refine wpAnyH_take (i := 6) (oi := ?o0x6) (v := ?v0x6) ?q0x6 (by kernel_rfl) ?f0x6 ?g0x6 ?p0x6 ?u0x6 (by assumption) ?r0x6
  case q0x6 => (rw [List.getElem?_toArray]; rfl)
  case f0x6 => kernel_rfl
  case g0x6 => kernel_rfl
  case p0x6 => exact (fun _ _ _ h => h)
  case u0x6 => (refine Or.inl ⟨by rfl, ?_⟩; intro w hSw; (try dsimp only at hSw); go_simp; (try rw [if_neg (by omega)]); try with_reducible rfl)
  try simp only [Act.put, List.setIfInBounds_toArray, List.set_cons_zero, List.set_cons_succ]
  refine wpAnyH_take (i := 7) (oi := ?o0x7) (v := ?v0x7) ?q0x7 (by kernel_rfl) ?f0x7 ?g0x7 ?p0x7 ?u0x7 (by assumption) ?r0x7
  case q0x7 => (rw [List.getElem?_toArray]; rfl)
  case f0x7 => kernel_rfl
  case g0x7 => kernel_rfl
  case p0x7 => exact (fun _ _ _ h => h)
  case u0x7 => (refine Or.inl ⟨by rfl, ?_⟩; intro w hSw; (try dsimp only at hSw); go_simp; (try rw [if_neg (by omega)]); try with_reducible rfl)
  try simp only [Act.put, List.setIfInBounds_toArray, List.set_cons_zero, List.set_cons_succ]
  refine em_spine (items := [⟨none, 8, 31⟩]) (E := [⟨12, [], [], 3, 30⟩]) (r0 := 25) (by kernel_rfl) (by kernel_rfl) (by kernel_rfl) (by rfl) ?lb1 (by rfl) (by rfl) ?len1 (fun w' l' C => ⟨(HKm.out.next Hv.out C).cell, (C.mk HM.out).c0⟩) (HC.out.quiet (Mod.refl _ _).drew) (by kernel_rfl) ?_
  case lb1 => (intro e he hk; simp only [List.mem_cons, List.not_mem_nil, or_false] at he; rcases he with rfl <;> (first | exact absurd rfl hk | exact congrArg Value.string (rfl)))
  case len1 => (first | (simp [takeCode, giveCode, joinCode, awayCode, eachCode, turnGo, waitGo, turnCode] <;> omega) | (simp <;> omega))
  intro U x1 C hU
  have u31 : U 31 = _ := hU 0 _ rfl
  simp only [spTmps, SpI.tmps, List.flatMap_cons, List.flatMap_nil, Option.map_some, Option.map_none, Option.toList_some, Option.toList_none, List.cons_append, List.nil_append, List.append_nil, patch, List.foldl_cons, List.foldl_nil, Act.put, List.setIfInBounds_toArray, List.set_cons_zero, List.set_cons_succ, u31]
  clear u31 hU hHeld
  simp only [List.map_cons, List.map_nil, EmC.ins, List.getD_cons_zero, List.getD_cons_succ, List.getD_nil] at C
  have HC1 := Lib.hid C
  clear C
  have h0 := (HC1.out.mk HM.out).c0
  have h1 := (HC1.out.mk HM.out).c1
  have h2 := (HC1.out.mk HM.out).c2
  have h3 := (HC1.out.mk HM.out).c3
  have hm := (HKm.out.next Hv.out HC1.out).cell
  have hp := (HKp.out.next Hv.out HC1.out).cell
  go_wp2_with fail
  clear h0 h1 h2 h3 hm hp
  have hg := gtake_chain HC1.out (HC1.out.mk HM.out) (by simp [takeCode, giveCode, joinCode, awayCode, eachCode, turnGo, waitGo, turnCode] <;> omega) Hn.out hs
  refine hg.mono ?_
  rintro e x2 ⟨rfl, C⟩
  have HC2 := Lib.hid C
  clear C hg
  have h0 := (HC2.out.mk HM.out).c0
  have h1 := (HC2.out.mk HM.out).c1
  have h2 := (HC2.out.mk HM.out).c2
  have h3 := (HC2.out.mk HM.out).c3
  have hm := (HKm.out.next Hv.out HC2.out).cell
  have hp := (HKp.out.next Hv.out HC2.out).cell
  go_wp2_with fail
  clear h0 h1 h2 h3 hm hp
  have hg := gturn_chain (s ++ ⟨#[46, 120]⟩) (size_plus2 s _ _ hs) 12 rfl HC2.out (HC2.out.mk HM.out) (by simp [takeCode, giveCode, joinCode, awayCode, eachCode, turnGo, waitGo, turnCode] <;> omega)
  refine hg.mono ?_
  rintro e x3 ⟨rfl, C⟩
  have HC3 := Lib.hid C
  clear C hg
  have h0 := (HC3.out.mk HM.out).c0
  have h1 := (HC3.out.mk HM.out).c1
  have h2 := (HC3.out.mk HM.out).c2
  have h3 := (HC3.out.mk HM.out).c3
  have hm := (HKm.out.next Hv.out HC3.out).cell
  have hp := (HKp.out.next Hv.out HC3.out).cell
  go_wp2_with fail
  clear h0 h1 h2 h3 hm hp
  have hg := gturn_chain (s ++ ⟨#[46, 121]⟩) (size_plus2 s _ _ hs) 12 rfl HC3.out (HC3.out.mk HM.out) (by simp [takeCode, giveCode, joinCode, awayCode, eachCode, turnGo, waitGo, turnCode] <;> omega)
  refine hg.mono ?_
  rintro e x4 ⟨rfl, C⟩
  have HC4 := Lib.hid C
  clear C hg
  go_wp2
  refine wp_region_held_drew (S := fun W => W.cell? ⟨w1.heap.size, 0, none⟩ = some (.pointer (some ⟨b, 0, none⟩)) ∧ W.cell? ⟨b, 0, none⟩ = some (.string (opStr 12))) (by kernel_rfl) ⟨(Mod.refl noF _).drew.cell (HKm.out.next Hv.out HC4.out).cell (fun e => e), (Mod.refl noF _).drew.cell (HC4.out.mk HM.out).c0 (fun e => e)⟩ (fun hHeld => ?_)
  refine wpAnyH_take (i := 0) (oi := ?o4x0) (v := ?v4x0) ?q4x0 (by kernel_rfl) ?f4x0 ?g4x0 ?p4x0 ?u4x0 (by assumption) ?r4x0
  case q4x0 => (rw [List.getElem?_toArray]; rfl)
  case f4x0 => kernel_rfl
  case g4x0 => kernel_rfl
  case p4x0 => exact (fun _ _ _ h => h)
  case u4x0 => (refine Or.inl ⟨by rfl, ?_⟩; intro w hSw; (try dsimp only at hSw); go_simp; (try rw [if_neg (by omega)]); try with_reducible rfl)
  try simp only [Act.put, List.setIfInBounds_toArray, List.set_cons_zero, List.set_cons_succ]
  refine wpAnyH_take (i := 1) (oi := ?o4x1) (v := ?v4x1) ?q4x1 (by kernel_rfl) ?f4x1 ?g4x1 ?p4x1 ?u4x1 (by assumption) ?r4x1
  case q4x1 => (rw [List.getElem?_toArray]; rfl)
  case f4x1 => kernel_rfl
  case g4x1 => kernel_rfl
  case p4x1 => exact (fun _ _ _ h => h)
  case u4x1 => (refine Or.inl ⟨by rfl, ?_⟩; intro w hSw; (try dsimp only at hSw); go_simp; (try rw [if_neg (by omega)]); try with_reducible rfl)
  try simp only [Act.put, List.setIfInBounds_toArray, List.set_cons_zero, List.set_cons_succ]
  refine wpAnyH_take (i := 2) (oi := ?o4x2) (v := ?v4x2) ?q4x2 (by kernel_rfl) ?f4x2 ?g4x2 ?p4x2 ?u4x2 (by assumption) ?r4x2
  case q4x2 => (rw [List.getElem?_toArray]; rfl)
  case f4x2 => kernel_rfl
  case g4x2 => kernel_rfl
  case p4x2 => exact (fun _ _ _ h => h)
  case u4x2 => (refine Or.inl ⟨by rfl, ?_⟩; intro w hSw; (try dsimp only at hSw); go_simp; (try rw [if_neg (by omega)]); try with_reducible rfl)
  try simp only [Act.put, List.setIfInBounds_toArray, List.set_cons_zero, List.set_cons_succ]
  refine wpAnyH_take (i := 3) (oi := ?o4x3) (v := ?v4x3) ?q4x3 (by kernel_rfl) ?f4x3 ?g4x3 ?p4x3 ?u4x3 (by assumption) ?r4x3
  case q4x3 => (rw [List.getElem?_toArray]; rfl)
  case f4x3 => kernel_rfl
  case g4x3 => kernel_rfl
  case p4x3 => exact (fun _ _ _ h => h)
  case u4x3 => (refine Or.inl ⟨by rfl, ?_⟩; intro w hSw; (try dsimp only at hSw); go_simp; (try rw [if_neg (by omega)]); try with_reducible rfl)
  try simp only [Act.put, List.setIfInBounds_toArray, List.set_cons_zero, List.set_cons_succ]
  refine wpAnyH_take (i := 4) (oi := ?o4x4) (v := ?v4x4) ?q4x4 (by kernel_rfl) ?f4x4 ?g4x4 ?p4x4 ?u4x4 (by assumption) ?r4x4
  case q4x4 => (rw [List.getElem?_toArray]; rfl)
  case f4x4 => kernel_rfl
  case g4x4 => kernel_rfl
  case p4x4 => exact (fun _ _ _ h => h)
  case u4x4 => (refine Or.inl ⟨by rfl, ?_⟩; intro w hSw; (try dsimp only at hSw); go_simp; (try rw [if_neg (by omega)]); try with_reducible rfl)
  try simp only [Act.put, List.setIfInBounds_toArray, List.set_cons_zero, List.set_cons_succ]
  refine wpAnyH_take (i := 5) (oi := ?o4x5) (v := ?v4x5) ?q4x5 (by kernel_rfl) ?f4x5 ?g4x5 ?p4x5 ?u4x5 (by assumption) ?r4x5
  case q4x5 => (rw [List.getElem?_toArray]; rfl)
  case f4x5 => kernel_rfl
  case g4x5 => kernel_rfl
  case p4x5 => exact (fun _ _ _ h => h)
  case u4x5 => (refine Or.inl ⟨by rfl, ?_⟩; intro w hSw; (try dsimp only at hSw); go_simp; (try rw [if_neg (by omega)]); try with_reducible rfl)
  try simp only [Act.put, List.setIfInBounds_toArray, List.set_cons_zero, List.set_cons_succ]
  refine wpAnyH_take (i := 6) (oi := ?o4x6) (v := ?v4x6) ?q4x6 (by kernel_rfl) ?f4x6 ?g4x6 ?p4x6 ?u4x6 (by assumption) ?r4x6
  case q4x6 => (rw [List.getElem?_toArray]; rfl)
  case f4x6 => kernel_rfl
  case g4x6 => kernel_rfl
  case p4x6 => exact (fun _ _ _ h => h)
  case u4x6 => (refine Or.inl ⟨by rfl, ?_⟩; intro w hSw; (try dsimp only at hSw); go_simp; (try rw [if_neg (by omega)]); try with_reducible rfl)
  try simp only [Act.put, List.setIfInBounds_toArray, List.set_cons_zero, List.set_cons_succ]
  refine wpAnyH_take (i := 7) (oi := ?o4x7) (v := ?v4x7) ?q4x7 (by kernel_rfl) ?f4x7 ?g4x7 ?p4x7 ?u4x7 (by assumption) ?r4x7
  case q4x7 => (rw [List.getElem?_toArray]; rfl)
  case f4x7 => kernel_rfl
  case g4x7 => kernel_rfl
  case p4x7 => exact (fun _ _ _ h => h)
  case u4x7 => (refine Or.inl ⟨by rfl, ?_⟩; intro w hSw; (try dsimp only at hSw); go_simp; (try rw [if_neg (by omega)]); try with_reducible rfl)
  try simp only [Act.put, List.setIfInBounds_toArray, List.set_cons_zero, List.set_cons_succ]
  refine em_spine (items := [⟨none, 8, 50⟩]) (E := [⟨12, [], [], 3, 49⟩]) (r0 := 44) (by kernel_rfl) (by kernel_rfl) (by kernel_rfl) (by rfl) ?lb5 (by rfl) (by rfl) ?len5 (fun w' l' C => ⟨(HKm.out.next Hv.out C).cell, (C.mk HM.out).c0⟩) (HC4.out.quiet (Mod.refl _ _).drew) (by kernel_rfl) ?_
  case lb5 => (intro e he hk; simp only [List.mem_cons, List.not_mem_nil, or_false] at he; rcases he with rfl <;> (first | exact absurd rfl hk | exact congrArg Value.string (rfl)))
  case len5 => (first | (simp [takeCode, giveCode, joinCode, awayCode, eachCode, turnGo, waitGo, turnCode] <;> omega) | (simp <;> omega))
  intro U x5 C hU
  have u50 : U 50 = _ := hU 0 _ rfl
  simp only [spTmps, SpI.tmps, List.flatMap_cons, List.flatMap_nil, Option.map_some, Option.map_none, Option.toList_some, Option.toList_none, List.cons_append, List.nil_append, List.append_nil, patch, List.foldl_cons, List.foldl_nil, Act.put, List.setIfInBounds_toArray, List.set_cons_zero, List.set_cons_succ, u50]
  clear u50 hU hHeld
  simp only [List.map_cons, List.map_nil, EmC.ins, List.getD_cons_zero, List.getD_cons_succ, List.getD_nil] at C
  have HC5 := Lib.hid C
  clear C
  have h0 := (HC5.out.mk HM.out).c0
  have h1 := (HC5.out.mk HM.out).c1
  have h2 := (HC5.out.mk HM.out).c2
  have h3 := (HC5.out.mk HM.out).c3
  have hm := (HKm.out.next Hv.out HC5.out).cell
  have hp := (HKp.out.next Hv.out HC5.out).cell
  go_wp2_with fail
  clear h0 h1 h2 h3 hm hp
  have hg := ggive_chain HC5.out (HC5.out.mk HM.out) (by simp [takeCode, giveCode, joinCode, awayCode, eachCode, turnGo, waitGo, turnCode] <;> omega) Hn.out hs
  refine hg.mono ?_
  rintro e x6 ⟨rfl, C⟩
  have HC6 := Lib.hid C
  clear C hg
  have h0 := (HC6.out.mk HM.out).c0
  have h1 := (HC6.out.mk HM.out).c1
  have h2 := (HC6.out.mk HM.out).c2
  have h3 := (HC6.out.mk HM.out).c3
  have hm := (HKm.out.next Hv.out HC6.out).cell
  have hp := (HKp.out.next Hv.out HC6.out).cell
  obtain ⟨v, ec, hv⟩ := HC6.out.made (w := w) (by simp [Value.ownBlock]) Hm.out hb
  have Hv := Lib.hid hv
  clear hv
  go_wp2
  go_ret2
  exact ⟨v, rfl, by rw [← gwait4_eq]; simpa [List.append_assoc] using Hv.out⟩
end Go.Proofs.YtppihkneeolomaaDoor
end
/- package client: a part of grace. -/
section
namespace Go.Proofs.YtppihkneeolomaaDoor
open Go.RowKit Qs Qh
/-- Grace's parts by numbers. -/
def graceFn : Nat → Nat
  | 0 => 79
  | 1 => 80
  | 2 => 93
  | 3 => 54
  | _ => 94
theorem gcode_lenAll : ((List.range 5).all fun f => (List.range 5).all fun k => decide ((gcode f k).length ≤ 70)) = true := by decide +kernel
theorem gcode_len {f j : Nat} (h4 : f ≤ 4) (hj : j < 5) : (gcode f j).length ≤ 70 := by
  have h := List.all_eq_true.1 (List.all_eq_true.1 gcode_lenAll f (List.mem_range.2 (by omega))) j (List.mem_range.2 hj)
  simpa using h
theorem grace_good {f j : Nat} (h1 : 1 ≤ f) (h4 : f ≤ 4) (hj : j < 5) (s : ByteArray) (w : World) (hn : nameB s.data.toList = true) (hs : s.size ≤ 4) :
    Calls Tryd.prog (graceFn j) #[.int .i64 f, .string s] w fun e w' => ∃ v, e = .returned (.tuple #[v, .nilIface]) ∧ Made (preC s.data.toList (gcode f j)) w v w' := by
  match f, h1, h4, j, hj with
  | 1, _, _, 0, _ => exact genter1_ok s w hn hs
  | 1, _, _, 1, _ => exact gleave1_ok s w hn hs
  | 1, _, _, 2, _ => exact grest1_ok s w hn hs
  | 1, _, _, 3, _ => exact ggone1_ok s w hn hs
  | 1, _, _, 4, _ => exact gwait1_ok s w hn hs
  | 2, _, _, 0, _ => exact genter2_ok s w hn hs
  | 2, _, _, 1, _ => exact gleave2_ok s w hn hs
  | 2, _, _, 2, _ => exact grest2_ok s w hn hs
  | 2, _, _, 3, _ => exact ggone2_ok s w hn hs
  | 2, _, _, 4, _ => exact gwait2_ok s w hn hs
  | 3, _, _, 0, _ => exact genter3_ok s w hn hs
  | 3, _, _, 1, _ => exact gleave3_ok s w hn hs
  | 3, _, _, 2, _ => exact grest3_ok s w hn hs
  | 3, _, _, 3, _ => exact ggone3_ok s w hn hs
  | 3, _, _, 4, _ => exact gwait3_ok s w hn hs
  | 4, _, _, 0, _ => exact genter4_ok s w hn hs
  | 4, _, _, 1, _ => exact gleave4_ok s w hn hs
  | 4, _, _, 2, _ => exact grest4_ok s w hn hs
  | 4, _, _, 3, _ => exact ggone4_ok s w hn hs
  | 4, _, _, 4, _ => exact gwait4_ok s w hn hs
variable {N0 K : Nat} {big : Prop} {t nx : Int} {f : Nat} {w w1 w2 : World} {b k : Nat} {v v1 v2 : Value} {l : List Instr}
set_option maxHeartbeats 8000000 in
theorem part0_ok (HF : FreshH N0 big f t nx K) (hT : big → lowT N0) (h1 : 1 ≤ f) (h4 : f ≤ 4) (M : MkA N0 big f t nx w b v l k) (hk : k < K) (hK : K ≤ 120) (hl : l.length ≤ 100000) :
    Calls Tryd.prog 53 #[.pointer (some ⟨b, 0, none⟩), .func (.func 79) #[] #[]] w fun e w' => e = .returned (.tuple #[]) ∧ ∃ v', MkA N0 big f t nx w' b v' (l ++ preC (Qu.labN (k + 1)) (gcode f 0)) (k + 1) ∧ MkStep w b v w' v' := by
  have hfr := fun W (hW : Mod noF w W) => HF W b v l k hk (M.quiet hW)
  have hla := (Qu.labN_facts (k + 1) (by omega)).2
  have hg := fun W => grace_good h1 h4 (show 0 < 5 by decide) ⟨(Qu.labN (k + 1)).toArray⟩ W (by simpa using hla.2.1) (by simpa [ByteArray.size] using hla.1)
  have hlen : (preC (Qu.labN (k + 1)) (gcode f 0)).length ≤ 70 := by unfold preC; rw [List.length_map]; exact gcode_len h4 (by decide)
  have Hlen := Lib.hid hlen
  simp only at hg
  unfold graceFn at hg
  generalize hlb : (⟨(Qu.labN (k + 1)).toArray⟩ : ByteArray) = lb at *
  generalize preC (Qu.labN (k + 1)) (gcode f 0) = pc at *
  generalize ((f : Nat) : Int) = fi at *
  have c1 := M.c1
  have HM := Lib.hid M
  have Hfr := Lib.hid hfr
  have Hg := Lib.hid hg
  have hfi := fi
  clear M hfr hla hg HF hlb hlen
  go_enter Tryd.func53, Tryd.ntmps53
  go_wp2
  refine wp_region_held_drew (S := fun W => W.cell? ⟨b, 1, none⟩ = some (.int .i64 fi)) (by kernel_rfl) ((Mod.refl noF _).drew.cell c1 (fun e => e)) (fun hHeld => ?_)
  refine wpAnyH_take (i := 0) (oi := ?oP0) (v := ?vP0) ?qP0 (by kernel_rfl) ?fP0 ?gP0 ?pP0 ?uP0 (by assumption) ?rP0
  case qP0 => (rw [List.getElem?_toArray]; rfl)
  case fP0 => kernel_rfl
  case gP0 => kernel_rfl
  case pP0 => exact (fun _ _ _ h => h)
  case uP0 => (refine Or.inl ⟨by rfl, ?_⟩; intro w hSw; (try dsimp only at hSw); go_simp; (try rw [if_neg (by omega)]); try with_reducible rfl)
  try simp only [Act.put, List.setIfInBounds_toArray, List.set_cons_zero, List.set_cons_succ]
  refine wpAnyH_take (i := 1) (oi := ?oP1) (v := ?vP1) ?qP1 (by kernel_rfl) ?fP1 ?gP1 ?pP1 ?uP1 (by assumption) ?rP1
  case qP1 => (rw [List.getElem?_toArray]; rfl)
  case fP1 => kernel_rfl
  case gP1 => kernel_rfl
  case pP1 => exact (fun _ _ _ h => h)
  case uP1 => (refine Or.inl ⟨by rfl, ?_⟩; intro w hSw; (try dsimp only at hSw); go_simp; (try rw [if_neg (by omega)]); try with_reducible rfl)
  try simp only [Act.put, List.setIfInBounds_toArray, List.set_cons_zero, List.set_cons_succ]
  refine wpAnyH_take (i := 2) (oi := ?oP2) (v := ?vP2) ?qP2 (by kernel_rfl) ?fP2 ?gP2 ?pP2 ?uP2 (by assumption) ?rP2
  case qP2 => (rw [List.getElem?_toArray]; rfl)
  case fP2 => kernel_rfl
  case gP2 => kernel_rfl
  case pP2 => exact (fun _ _ _ h => h)
  case uP2 => (refine Or.inl ⟨by rfl, ?_⟩; intro w hSw; (try dsimp only at hSw); go_simp; (try rw [if_neg (by omega)]); try with_reducible rfl)
  try simp only [Act.put, List.setIfInBounds_toArray, List.set_cons_zero, List.set_cons_succ]
  refine wpAnyH_take (i := 3) (oi := ?oP3) (v := ?vP3) ?qP3 (by kernel_rfl) ?fP3 ?gP3 ?pP3 ?uP3 (by assumption) ?rP3
  case qP3 => (rw [List.getElem?_toArray]; rfl)
  case fP3 => kernel_rfl
  case gP3 => kernel_rfl
  case pP3 => exact (fun _ _ _ h => h)
  case uP3 => (refine Or.inl ⟨by rfl, ?_⟩; intro w hSw; (try dsimp only at hSw); go_simp; (try rw [if_neg (by omega)]); try with_reducible rfl)
  try simp only [Act.put, List.setIfInBounds_toArray, List.set_cons_zero, List.set_cons_succ]
  refine wpAnyH_take (i := 4) (oi := ?oP4) (v := ?vP4) ?qP4 (by kernel_rfl) ?fP4 ?gP4 ?pP4 ?uP4 (by assumption) ?rP4
  case qP4 => (rw [List.getElem?_toArray]; rfl)
  case fP4 => kernel_rfl
  case gP4 => kernel_rfl
  case pP4 => exact (fun _ _ _ h => h)
  case uP4 => (refine Or.inl ⟨by rfl, ?_⟩; intro w hSw; (try dsimp only at hSw); go_simp; (try rw [if_neg (by omega)]); try with_reducible rfl)
  try simp only [Act.put, List.setIfInBounds_toArray, List.set_cons_zero, List.set_cons_succ]
  refine wpAnyH_take (i := 5) (oi := ?oP5) (v := ?vP5) ?qP5 (by kernel_rfl) ?fP5 ?gP5 ?pP5 ?uP5 (by assumption) ?rP5
  case qP5 => (rw [List.getElem?_toArray]; rfl)
  case fP5 => kernel_rfl
  case gP5 => kernel_rfl
  case pP5 => exact (fun _ _ _ h => h)
  case uP5 => (refine Or.inl ⟨by rfl, ?_⟩; intro w hSw; (try dsimp only at hSw); go_simp; (try rw [if_neg (by omega)]); try with_reducible rfl)
  try simp only [Act.put, List.setIfInBounds_toArray, List.set_cons_zero, List.set_cons_succ]
  refine wpAnyH_ready (rs := [6]) (by kernel_rfl) (by simp) ?_
  refine AllReadyH.cons rfl (fun K hK => ?_) AllReadyH.nil
  go_simp
  refine (Hfr.out _ (Mod.refl _ _).drew).mono ?_
  rintro e w4 ⟨rfl, hm4, hs4⟩
  have Hm4 := Lib.hid hm4
  have Hs4 := Lib.hid hs4
  refine Shut.out hK _ _ hm4.c1 (fun hS4 => ?_)
  clear hm4 hs4 c1
  try simp only [Act.put, List.setIfInBounds_toArray, List.set_cons_zero, List.set_cons_succ]
  refine wpAnyH_ready (rs := [7]) (by kernel_rfl) (by simp) ?_
  refine AllReadyH.cons rfl (fun K hK => ?_) AllReadyH.nil
  go_simp
  refine (Hg.out _).mono ?_
  rintro e w5 ⟨pv, rfl, hmade⟩
  have hq5 := Mod.below hmade.2.1
  have hM5 := Hm4.out.quiet hq5
  have Hm5 := Lib.hid hM5
  have Hs5 := Lib.hid (Hs4.out.quiet hq5)
  have Hpv := Lib.hid hmade.1
  have Hpn := Lib.hid hmade.2.2
  refine Shut.out hK _ _ hM5.c1 (fun hS5 => ?_)
  clear hM5 hmade hq5
  try simp only [Act.put, List.setIfInBounds_toArray, List.set_cons_zero, List.set_cons_succ]
  refine wpAnyH_take (i := 8) (oi := ?oP8) (v := ?vP8) ?qP8 (by kernel_rfl) ?fP8 ?gP8 ?pP8 ?uP8 (by assumption) ?rP8
  case qP8 => (rw [List.getElem?_toArray]; rfl)
  case fP8 => kernel_rfl
  case gP8 => kernel_rfl
  case pP8 => exact (fun _ _ _ h => h)
  case uP8 => (refine Or.inl ⟨by rfl, ?_⟩; intro w hSw; (try dsimp only at hSw); go_simp; (try rw [if_neg (by omega)]); try with_reducible rfl)
  try simp only [Act.put, List.setIfInBounds_toArray, List.set_cons_zero, List.set_cons_succ]
  refine wpAnyH_take (i := 9) (oi := ?oP9) (v := ?vP9) ?qP9 (by kernel_rfl) ?fP9 ?gP9 ?pP9 ?uP9 (by assumption) ?rP9
  case qP9 => (rw [List.getElem?_toArray]; rfl)
  case fP9 => kernel_rfl
  case gP9 => kernel_rfl
  case pP9 => exact (fun _ _ _ h => h)
  case uP9 => (refine Or.inl ⟨by rfl, ?_⟩; intro w hSw; (try dsimp only at hSw); go_simp; (try rw [if_neg (by omega)]); try with_reducible rfl)
  try simp only [Act.put, List.setIfInBounds_toArray, List.set_cons_zero, List.set_cons_succ]
  refine wpAnyH_take (i := 10) (oi := ?oP10) (v := ?vP10) ?qP10 (by kernel_rfl) ?fP10 ?gP10 ?pP10 ?uP10 (by assumption) ?rP10
  case qP10 => (rw [List.getElem?_toArray]; rfl)
  case fP10 => kernel_rfl
  case gP10 => kernel_rfl
  case pP10 => exact (fun _ _ _ h => h)
  case uP10 => (refine Or.inl ⟨by rfl, ?_⟩; intro w hSw; (try dsimp only at hSw); go_simp; (try rw [if_neg (by omega)]); try with_reducible rfl)
  try simp only [Act.put, List.setIfInBounds_toArray, List.set_cons_zero, List.set_cons_succ]
  refine wpAnyH_take (i := 11) (oi := ?oP11) (v := ?vP11) ?qP11 (by kernel_rfl) ?fP11 ?gP11 ?pP11 ?uP11 (by assumption) ?rP11
  case qP11 => (rw [List.getElem?_toArray]; rfl)
  case fP11 => kernel_rfl
  case gP11 => kernel_rfl
  case pP11 => exact (fun _ _ _ h => h)
  case uP11 => (refine Or.inl ⟨by rfl, ?_⟩; intro w hSw; (try dsimp only at hSw); go_simp; (try rw [if_neg (by omega)]); try with_reducible rfl)
  try simp only [Act.put, List.setIfInBounds_toArray, List.set_cons_zero, List.set_cons_succ]
  refine wpAnyH_take (i := 12) (oi := ?oP12) (v := ?vP12) ?qP12 (by kernel_rfl) ?fP12 ?gP12 ?pP12 ?uP12 (by assumption) ?rP12
  case qP12 => (rw [List.getElem?_toArray]; rfl)
  case fP12 => kernel_rfl
  case gP12 => kernel_rfl
  case pP12 => exact (fun _ _ _ h => h)
  case uP12 => (refine Or.inl ⟨by rfl, ?_⟩; intro w hSw; (try dsimp only at hSw); go_simp; (try rw [if_neg (by omega)]); try with_reducible rfl)
  try simp only [Act.put, List.setIfInBounds_toArray, List.set_cons_zero, List.set_cons_succ]
  refine wpAnyH_done (by kernel_rfl) ?_ _
  clear hS4 hS5 hK hHeld
  have HC := Lib.hid (Chain.start Hm5.out.m.emit)
  go_wp2_with fail
  refine (made_more HC.out (by omega) (by have := Hlen.out; omega) Hpv.out).mono ?_
  rintro e w6 ⟨rfl, C⟩
  have hfin : ∃ v', MkA N0 big fi t nx w6 b v' (l ++ pc) (k + 1) ∧ MkStep w b v w6 v' := by
    obtain ⟨v', M', S'⟩ := Hm5.out.chain hT C
    exact ⟨v', M', (((MkStep.refl w b v).quiet (Mod.refl noF w).drew).trans HM.out.lt Hs5.out).trans HM.out.lt S'⟩
  have Hfin := Lib.hid hfin
  clear hfin C
  go_wp2
  go_end0
  exact ⟨rfl, Hfin.out⟩
set_option maxHeartbeats 8000000 in
theorem part1_ok (HF : FreshH N0 big f t nx K) (hT : big → lowT N0) (h1 : 1 ≤ f) (h4 : f ≤ 4) (M : MkA N0 big f t nx w b v l k) (hk : k < K) (hK : K ≤ 120) (hl : l.length ≤ 100000) :
    Calls Tryd.prog 53 #[.pointer (some ⟨b, 0, none⟩), .func (.func 80) #[] #[]] w fun e w' => e = .returned (.tuple #[]) ∧ ∃ v', MkA N0 big f t nx w' b v' (l ++ preC (Qu.labN (k + 1)) (gcode f 1)) (k + 1) ∧ MkStep w b v w' v' := by
  have hfr := fun W (hW : Mod noF w W) => HF W b v l k hk (M.quiet hW)
  have hla := (Qu.labN_facts (k + 1) (by omega)).2
  have hg := fun W => grace_good h1 h4 (show 1 < 5 by decide) ⟨(Qu.labN (k + 1)).toArray⟩ W (by simpa using hla.2.1) (by simpa [ByteArray.size] using hla.1)
  have hlen : (preC (Qu.labN (k + 1)) (gcode f 1)).length ≤ 70 := by unfold preC; rw [List.length_map]; exact gcode_len h4 (by decide)
  have Hlen := Lib.hid hlen
  simp only at hg
  unfold graceFn at hg
  generalize hlb : (⟨(Qu.labN (k + 1)).toArray⟩ : ByteArray) = lb at *
  generalize preC (Qu.labN (k + 1)) (gcode f 1) = pc at *
  generalize ((f : Nat) : Int) = fi at *
  have c1 := M.c1
  have HM := Lib.hid M
  have Hfr := Lib.hid hfr
  have Hg := Lib.hid hg
  have hfi := fi
  clear M hfr hla hg HF hlb hlen
  go_enter Tryd.func53, Tryd.ntmps53
  go_wp2
  refine wp_region_held_drew (S := fun W => W.cell? ⟨b, 1, none⟩ = some (.int .i64 fi)) (by kernel_rfl) ((Mod.refl noF _).drew.cell c1 (fun e => e)) (fun hHeld => ?_)
  refine wpAnyH_take (i := 0) (oi := ?oP0) (v := ?vP0) ?qP0 (by kernel_rfl) ?fP0 ?gP0 ?pP0 ?uP0 (by assumption) ?rP0
  case qP0 => (rw [List.getElem?_toArray]; rfl)
  case fP0 => kernel_rfl
  case gP0 => kernel_rfl
  case pP0 => exact (fun _ _ _ h => h)
  case uP0 => (refine Or.inl ⟨by rfl, ?_⟩; intro w hSw; (try dsimp only at hSw); go_simp; (try rw [if_neg (by omega)]); try with_reducible rfl)
  try simp only [Act.put, List.setIfInBounds_toArray, List.set_cons_zero, List.set_cons_succ]
  refine wpAnyH_take (i := 1) (oi := ?oP1) (v := ?vP1) ?qP1 (by kernel_rfl) ?fP1 ?gP1 ?pP1 ?uP1 (by assumption) ?rP1
  case qP1 => (rw [List.getElem?_toArray]; rfl)
  case fP1 => kernel_rfl
  case gP1 => kernel_rfl
  case pP1 => exact (fun _ _ _ h => h)
  case uP1 => (refine Or.inl ⟨by rfl, ?_⟩; intro w hSw; (try dsimp only at hSw); go_simp; (try rw [if_neg (by omega)]); try with_reducible rfl)
  try simp only [Act.put, List.setIfInBounds_toArray, List.set_cons_zero, List.set_cons_succ]
  refine wpAnyH_take (i := 2) (oi := ?oP2) (v := ?vP2) ?qP2 (by kernel_rfl) ?fP2 ?gP2 ?pP2 ?uP2 (by assumption) ?rP2
  case qP2 => (rw [List.getElem?_toArray]; rfl)
  case fP2 => kernel_rfl
  case gP2 => kernel_rfl
  case pP2 => exact (fun _ _ _ h => h)
  case uP2 => (refine Or.inl ⟨by rfl, ?_⟩; intro w hSw; (try dsimp only at hSw); go_simp; (try rw [if_neg (by omega)]); try with_reducible rfl)
  try simp only [Act.put, List.setIfInBounds_toArray, List.set_cons_zero, List.set_cons_succ]
  refine wpAnyH_take (i := 3) (oi := ?oP3) (v := ?vP3) ?qP3 (by kernel_rfl) ?fP3 ?gP3 ?pP3 ?uP3 (by assumption) ?rP3
  case qP3 => (rw [List.getElem?_toArray]; rfl)
  case fP3 => kernel_rfl
  case gP3 => kernel_rfl
  case pP3 => exact (fun _ _ _ h => h)
  case uP3 => (refine Or.inl ⟨by rfl, ?_⟩; intro w hSw; (try dsimp only at hSw); go_simp; (try rw [if_neg (by omega)]); try with_reducible rfl)
  try simp only [Act.put, List.setIfInBounds_toArray, List.set_cons_zero, List.set_cons_succ]
  refine wpAnyH_take (i := 4) (oi := ?oP4) (v := ?vP4) ?qP4 (by kernel_rfl) ?fP4 ?gP4 ?pP4 ?uP4 (by assumption) ?rP4
  case qP4 => (rw [List.getElem?_toArray]; rfl)
  case fP4 => kernel_rfl
  case gP4 => kernel_rfl
  case pP4 => exact (fun _ _ _ h => h)
  case uP4 => (refine Or.inl ⟨by rfl, ?_⟩; intro w hSw; (try dsimp only at hSw); go_simp; (try rw [if_neg (by omega)]); try with_reducible rfl)
  try simp only [Act.put, List.setIfInBounds_toArray, List.set_cons_zero, List.set_cons_succ]
  refine wpAnyH_take (i := 5) (oi := ?oP5) (v := ?vP5) ?qP5 (by kernel_rfl) ?fP5 ?gP5 ?pP5 ?uP5 (by assumption) ?rP5
  case qP5 => (rw [List.getElem?_toArray]; rfl)
  case fP5 => kernel_rfl
  case gP5 => kernel_rfl
  case pP5 => exact (fun _ _ _ h => h)
  case uP5 => (refine Or.inl ⟨by rfl, ?_⟩; intro w hSw; (try dsimp only at hSw); go_simp; (try rw [if_neg (by omega)]); try with_reducible rfl)
  try simp only [Act.put, List.setIfInBounds_toArray, List.set_cons_zero, List.set_cons_succ]
  refine wpAnyH_ready (rs := [6]) (by kernel_rfl) (by simp) ?_
  refine AllReadyH.cons rfl (fun K hK => ?_) AllReadyH.nil
  go_simp
  refine (Hfr.out _ (Mod.refl _ _).drew).mono ?_
  rintro e w4 ⟨rfl, hm4, hs4⟩
  have Hm4 := Lib.hid hm4
  have Hs4 := Lib.hid hs4
  refine Shut.out hK _ _ hm4.c1 (fun hS4 => ?_)
  clear hm4 hs4 c1
  try simp only [Act.put, List.setIfInBounds_toArray, List.set_cons_zero, List.set_cons_succ]
  refine wpAnyH_ready (rs := [7]) (by kernel_rfl) (by simp) ?_
  refine AllReadyH.cons rfl (fun K hK => ?_) AllReadyH.nil
  go_simp
  refine (Hg.out _).mono ?_
  rintro e w5 ⟨pv, rfl, hmade⟩
  have hq5 := Mod.below hmade.2.1
  have hM5 := Hm4.out.quiet hq5
  have Hm5 := Lib.hid hM5
  have Hs5 := Lib.hid (Hs4.out.quiet hq5)
  have Hpv := Lib.hid hmade.1
  have Hpn := Lib.hid hmade.2.2
  refine Shut.out hK _ _ hM5.c1 (fun hS5 => ?_)
  clear hM5 hmade hq5
  try simp only [Act.put, List.setIfInBounds_toArray, List.set_cons_zero, List.set_cons_succ]
  refine wpAnyH_take (i := 8) (oi := ?oP8) (v := ?vP8) ?qP8 (by kernel_rfl) ?fP8 ?gP8 ?pP8 ?uP8 (by assumption) ?rP8
  case qP8 => (rw [List.getElem?_toArray]; rfl)
  case fP8 => kernel_rfl
  case gP8 => kernel_rfl
  case pP8 => exact (fun _ _ _ h => h)
  case uP8 => (refine Or.inl ⟨by rfl, ?_⟩; intro w hSw; (try dsimp only at hSw); go_simp; (try rw [if_neg (by omega)]); try with_reducible rfl)
  try simp only [Act.put, List.setIfInBounds_toArray, List.set_cons_zero, List.set_cons_succ]
  refine wpAnyH_take (i := 9) (oi := ?oP9) (v := ?vP9) ?qP9 (by kernel_rfl) ?fP9 ?gP9 ?pP9 ?uP9 (by assumption) ?rP9
  case qP9 => (rw [List.getElem?_toArray]; rfl)
  case fP9 => kernel_rfl
  case gP9 => kernel_rfl
  case pP9 => exact (fun _ _ _ h => h)
  case uP9 => (refine Or.inl ⟨by rfl, ?_⟩; intro w hSw; (try dsimp only at hSw); go_simp; (try rw [if_neg (by omega)]); try with_reducible rfl)
  try simp only [Act.put, List.setIfInBounds_toArray, List.set_cons_zero, List.set_cons_succ]
  refine wpAnyH_take (i := 10) (oi := ?oP10) (v := ?vP10) ?qP10 (by kernel_rfl) ?fP10 ?gP10 ?pP10 ?uP10 (by assumption) ?rP10
  case qP10 => (rw [List.getElem?_toArray]; rfl)
  case fP10 => kernel_rfl
  case gP10 => kernel_rfl
  case pP10 => exact (fun _ _ _ h => h)
  case uP10 => (refine Or.inl ⟨by rfl, ?_⟩; intro w hSw; (try dsimp only at hSw); go_simp; (try rw [if_neg (by omega)]); try with_reducible rfl)
  try simp only [Act.put, List.setIfInBounds_toArray, List.set_cons_zero, List.set_cons_succ]
  refine wpAnyH_take (i := 11) (oi := ?oP11) (v := ?vP11) ?qP11 (by kernel_rfl) ?fP11 ?gP11 ?pP11 ?uP11 (by assumption) ?rP11
  case qP11 => (rw [List.getElem?_toArray]; rfl)
  case fP11 => kernel_rfl
  case gP11 => kernel_rfl
  case pP11 => exact (fun _ _ _ h => h)
  case uP11 => (refine Or.inl ⟨by rfl, ?_⟩; intro w hSw; (try dsimp only at hSw); go_simp; (try rw [if_neg (by omega)]); try with_reducible rfl)
  try simp only [Act.put, List.setIfInBounds_toArray, List.set_cons_zero, List.set_cons_succ]
  refine wpAnyH_take (i := 12) (oi := ?oP12) (v := ?vP12) ?qP12 (by kernel_rfl) ?fP12 ?gP12 ?pP12 ?uP12 (by assumption) ?rP12
  case qP12 => (rw [List.getElem?_toArray]; rfl)
  case fP12 => kernel_rfl
  case gP12 => kernel_rfl
  case pP12 => exact (fun _ _ _ h => h)
  case uP12 => (refine Or.inl ⟨by rfl, ?_⟩; intro w hSw; (try dsimp only at hSw); go_simp; (try rw [if_neg (by omega)]); try with_reducible rfl)
  try simp only [Act.put, List.setIfInBounds_toArray, List.set_cons_zero, List.set_cons_succ]
  refine wpAnyH_done (by kernel_rfl) ?_ _
  clear hS4 hS5 hK hHeld
  have HC := Lib.hid (Chain.start Hm5.out.m.emit)
  go_wp2_with fail
  refine (made_more HC.out (by omega) (by have := Hlen.out; omega) Hpv.out).mono ?_
  rintro e w6 ⟨rfl, C⟩
  have hfin : ∃ v', MkA N0 big fi t nx w6 b v' (l ++ pc) (k + 1) ∧ MkStep w b v w6 v' := by
    obtain ⟨v', M', S'⟩ := Hm5.out.chain hT C
    exact ⟨v', M', (((MkStep.refl w b v).quiet (Mod.refl noF w).drew).trans HM.out.lt Hs5.out).trans HM.out.lt S'⟩
  have Hfin := Lib.hid hfin
  clear hfin C
  go_wp2
  go_end0
  exact ⟨rfl, Hfin.out⟩
set_option maxHeartbeats 8000000 in
theorem part3_ok (HF : FreshH N0 big f t nx K) (hT : big → lowT N0) (h1 : 1 ≤ f) (h4 : f ≤ 4) (M : MkA N0 big f t nx w b v l k) (hk : k < K) (hK : K ≤ 120) (hl : l.length ≤ 100000) :
    Calls Tryd.prog 53 #[.pointer (some ⟨b, 0, none⟩), .func (.func 54) #[] #[]] w fun e w' => e = .returned (.tuple #[]) ∧ ∃ v', MkA N0 big f t nx w' b v' (l ++ preC (Qu.labN (k + 1)) (gcode f 3)) (k + 1) ∧ MkStep w b v w' v' := by
  have hfr := fun W (hW : Mod noF w W) => HF W b v l k hk (M.quiet hW)
  have hla := (Qu.labN_facts (k + 1) (by omega)).2
  have hg := fun W => grace_good h1 h4 (show 3 < 5 by decide) ⟨(Qu.labN (k + 1)).toArray⟩ W (by simpa using hla.2.1) (by simpa [ByteArray.size] using hla.1)
  have hlen : (preC (Qu.labN (k + 1)) (gcode f 3)).length ≤ 70 := by unfold preC; rw [List.length_map]; exact gcode_len h4 (by decide)
  have Hlen := Lib.hid hlen
  simp only at hg
  unfold graceFn at hg
  generalize hlb : (⟨(Qu.labN (k + 1)).toArray⟩ : ByteArray) = lb at *
  generalize preC (Qu.labN (k + 1)) (gcode f 3) = pc at *
  generalize ((f : Nat) : Int) = fi at *
  have c1 := M.c1
  have HM := Lib.hid M
  have Hfr := Lib.hid hfr
  have Hg := Lib.hid hg
  have hfi := fi
  clear M hfr hla hg HF hlb hlen
  go_enter Tryd.func53, Tryd.ntmps53
  go_wp2
  refine wp_region_held_drew (S := fun W => W.cell? ⟨b, 1, none⟩ = some (.int .i64 fi)) (by kernel_rfl) ((Mod.refl noF _).drew.cell c1 (fun e => e)) (fun hHeld => ?_)
  refine wpAnyH_take (i := 0) (oi := ?oP0) (v := ?vP0) ?qP0 (by kernel_rfl) ?fP0 ?gP0 ?pP0 ?uP0 (by assumption) ?rP0
  case qP0 => (rw [List.getElem?_toArray]; rfl)
  case fP0 => kernel_rfl
  case gP0 => kernel_rfl
  case pP0 => exact (fun _ _ _ h => h)
  case uP0 => (refine Or.inl ⟨by rfl, ?_⟩; intro w hSw; (try dsimp only at hSw); go_simp; (try rw [if_neg (by omega)]); try with_reducible rfl)
  try simp only [Act.put, List.setIfInBounds_toArray, List.set_cons_zero, List.set_cons_succ]
  refine wpAnyH_take (i := 1) (oi := ?oP1) (v := ?vP1) ?qP1 (by kernel_rfl) ?fP1 ?gP1 ?pP1 ?uP1 (by assumption) ?rP1
  case qP1 => (rw [List.getElem?_toArray]; rfl)
  case fP1 => kernel_rfl
  case gP1 => kernel_rfl
  case pP1 => exact (fun _ _ _ h => h)
  case uP1 => (refine Or.inl ⟨by rfl, ?_⟩; intro w hSw; (try dsimp only at hSw); go_simp; (try rw [if_neg (by omega)]); try with_reducible rfl)
  try simp only [Act.put, List.setIfInBounds_toArray, List.set_cons_zero, List.set_cons_succ]
  refine wpAnyH_take (i := 2) (oi := ?oP2) (v := ?vP2) ?qP2 (by kernel_rfl) ?fP2 ?gP2 ?pP2 ?uP2 (by assumption) ?rP2
  case qP2 => (rw [List.getElem?_toArray]; rfl)
  case fP2 => kernel_rfl
  case gP2 => kernel_rfl
  case pP2 => exact (fun _ _ _ h => h)
  case uP2 => (refine Or.inl ⟨by rfl, ?_⟩; intro w hSw; (try dsimp only at hSw); go_simp; (try rw [if_neg (by omega)]); try with_reducible rfl)
  try simp only [Act.put, List.setIfInBounds_toArray, List.set_cons_zero, List.set_cons_succ]
  refine wpAnyH_take (i := 3) (oi := ?oP3) (v := ?vP3) ?qP3 (by kernel_rfl) ?fP3 ?gP3 ?pP3 ?uP3 (by assumption) ?rP3
  case qP3 => (rw [List.getElem?_toArray]; rfl)
  case fP3 => kernel_rfl
  case gP3 => kernel_rfl
  case pP3 => exact (fun _ _ _ h => h)
  case uP3 => (refine Or.inl ⟨by rfl, ?_⟩; intro w hSw; (try dsimp only at hSw); go_simp; (try rw [if_neg (by omega)]); try with_reducible rfl)
  try simp only [Act.put, List.setIfInBounds_toArray, List.set_cons_zero, List.set_cons_succ]
  refine wpAnyH_take (i := 4) (oi := ?oP4) (v := ?vP4) ?qP4 (by kernel_rfl) ?fP4 ?gP4 ?pP4 ?uP4 (by assumption) ?rP4
  case qP4 => (rw [List.getElem?_toArray]; rfl)
  case fP4 => kernel_rfl
  case gP4 => kernel_rfl
  case pP4 => exact (fun _ _ _ h => h)
  case uP4 => (refine Or.inl ⟨by rfl, ?_⟩; intro w hSw; (try dsimp only at hSw); go_simp; (try rw [if_neg (by omega)]); try with_reducible rfl)
  try simp only [Act.put, List.setIfInBounds_toArray, List.set_cons_zero, List.set_cons_succ]
  refine wpAnyH_take (i := 5) (oi := ?oP5) (v := ?vP5) ?qP5 (by kernel_rfl) ?fP5 ?gP5 ?pP5 ?uP5 (by assumption) ?rP5
  case qP5 => (rw [List.getElem?_toArray]; rfl)
  case fP5 => kernel_rfl
  case gP5 => kernel_rfl
  case pP5 => exact (fun _ _ _ h => h)
  case uP5 => (refine Or.inl ⟨by rfl, ?_⟩; intro w hSw; (try dsimp only at hSw); go_simp; (try rw [if_neg (by omega)]); try with_reducible rfl)
  try simp only [Act.put, List.setIfInBounds_toArray, List.set_cons_zero, List.set_cons_succ]
  refine wpAnyH_ready (rs := [6]) (by kernel_rfl) (by simp) ?_
  refine AllReadyH.cons rfl (fun K hK => ?_) AllReadyH.nil
  go_simp
  refine (Hfr.out _ (Mod.refl _ _).drew).mono ?_
  rintro e w4 ⟨rfl, hm4, hs4⟩
  have Hm4 := Lib.hid hm4
  have Hs4 := Lib.hid hs4
  refine Shut.out hK _ _ hm4.c1 (fun hS4 => ?_)
  clear hm4 hs4 c1
  try simp only [Act.put, List.setIfInBounds_toArray, List.set_cons_zero, List.set_cons_succ]
  refine wpAnyH_ready (rs := [7]) (by kernel_rfl) (by simp) ?_
  refine AllReadyH.cons rfl (fun K hK => ?_) AllReadyH.nil
  go_simp
  refine (Hg.out _).mono ?_
  rintro e w5 ⟨pv, rfl, hmade⟩
  have hq5 := Mod.below hmade.2.1
  have hM5 := Hm4.out.quiet hq5
  have Hm5 := Lib.hid hM5
  have Hs5 := Lib.hid (Hs4.out.quiet hq5)
  have Hpv := Lib.hid hmade.1
  have Hpn := Lib.hid hmade.2.2
  refine Shut.out hK _ _ hM5.c1 (fun hS5 => ?_)
  clear hM5 hmade hq5
  try simp only [Act.put, List.setIfInBounds_toArray, List.set_cons_zero, List.set_cons_succ]
  refine wpAnyH_take (i := 8) (oi := ?oP8) (v := ?vP8) ?qP8 (by kernel_rfl) ?fP8 ?gP8 ?pP8 ?uP8 (by assumption) ?rP8
  case qP8 => (rw [List.getElem?_toArray]; rfl)
  case fP8 => kernel_rfl
  case gP8 => kernel_rfl
  case pP8 => exact (fun _ _ _ h => h)
  case uP8 => (refine Or.inl ⟨by rfl, ?_⟩; intro w hSw; (try dsimp only at hSw); go_simp; (try rw [if_neg (by omega)]); try with_reducible rfl)
  try simp only [Act.put, List.setIfInBounds_toArray, List.set_cons_zero, List.set_cons_succ]
  refine wpAnyH_take (i := 9) (oi := ?oP9) (v := ?vP9) ?qP9 (by kernel_rfl) ?fP9 ?gP9 ?pP9 ?uP9 (by assumption) ?rP9
  case qP9 => (rw [List.getElem?_toArray]; rfl)
  case fP9 => kernel_rfl
  case gP9 => kernel_rfl
  case pP9 => exact (fun _ _ _ h => h)
  case uP9 => (refine Or.inl ⟨by rfl, ?_⟩; intro w hSw; (try dsimp only at hSw); go_simp; (try rw [if_neg (by omega)]); try with_reducible rfl)
  try simp only [Act.put, List.setIfInBounds_toArray, List.set_cons_zero, List.set_cons_succ]
  refine wpAnyH_take (i := 10) (oi := ?oP10) (v := ?vP10) ?qP10 (by kernel_rfl) ?fP10 ?gP10 ?pP10 ?uP10 (by assumption) ?rP10
  case qP10 => (rw [List.getElem?_toArray]; rfl)
  case fP10 => kernel_rfl
  case gP10 => kernel_rfl
  case pP10 => exact (fun _ _ _ h => h)
  case uP10 => (refine Or.inl ⟨by rfl, ?_⟩; intro w hSw; (try dsimp only at hSw); go_simp; (try rw [if_neg (by omega)]); try with_reducible rfl)
  try simp only [Act.put, List.setIfInBounds_toArray, List.set_cons_zero, List.set_cons_succ]
  refine wpAnyH_take (i := 11) (oi := ?oP11) (v := ?vP11) ?qP11 (by kernel_rfl) ?fP11 ?gP11 ?pP11 ?uP11 (by assumption) ?rP11
  case qP11 => (rw [List.getElem?_toArray]; rfl)
  case fP11 => kernel_rfl
  case gP11 => kernel_rfl
  case pP11 => exact (fun _ _ _ h => h)
  case uP11 => (refine Or.inl ⟨by rfl, ?_⟩; intro w hSw; (try dsimp only at hSw); go_simp; (try rw [if_neg (by omega)]); try with_reducible rfl)
  try simp only [Act.put, List.setIfInBounds_toArray, List.set_cons_zero, List.set_cons_succ]
  refine wpAnyH_take (i := 12) (oi := ?oP12) (v := ?vP12) ?qP12 (by kernel_rfl) ?fP12 ?gP12 ?pP12 ?uP12 (by assumption) ?rP12
  case qP12 => (rw [List.getElem?_toArray]; rfl)
  case fP12 => kernel_rfl
  case gP12 => kernel_rfl
  case pP12 => exact (fun _ _ _ h => h)
  case uP12 => (refine Or.inl ⟨by rfl, ?_⟩; intro w hSw; (try dsimp only at hSw); go_simp; (try rw [if_neg (by omega)]); try with_reducible rfl)
  try simp only [Act.put, List.setIfInBounds_toArray, List.set_cons_zero, List.set_cons_succ]
  refine wpAnyH_done (by kernel_rfl) ?_ _
  clear hS4 hS5 hK hHeld
  have HC := Lib.hid (Chain.start Hm5.out.m.emit)
  go_wp2_with fail
  refine (made_more HC.out (by omega) (by have := Hlen.out; omega) Hpv.out).mono ?_
  rintro e w6 ⟨rfl, C⟩
  have hfin : ∃ v', MkA N0 big fi t nx w6 b v' (l ++ pc) (k + 1) ∧ MkStep w b v w6 v' := by
    obtain ⟨v', M', S'⟩ := Hm5.out.chain hT C
    exact ⟨v', M', (((MkStep.refl w b v).quiet (Mod.refl noF w).drew).trans HM.out.lt Hs5.out).trans HM.out.lt S'⟩
  have Hfin := Lib.hid hfin
  clear hfin C
  go_wp2
  go_end0
  exact ⟨rfl, Hfin.out⟩
set_option maxHeartbeats 8000000 in
theorem part4_ok (HF : FreshH N0 big f t nx K) (hT : big → lowT N0) (h1 : 1 ≤ f) (h4 : f ≤ 4) (M : MkA N0 big f t nx w b v l k) (hk : k < K) (hK : K ≤ 120) (hl : l.length ≤ 100000) :
    Calls Tryd.prog 53 #[.pointer (some ⟨b, 0, none⟩), .func (.func 94) #[] #[]] w fun e w' => e = .returned (.tuple #[]) ∧ ∃ v', MkA N0 big f t nx w' b v' (l ++ preC (Qu.labN (k + 1)) (gcode f 4)) (k + 1) ∧ MkStep w b v w' v' := by
  have hfr := fun W (hW : Mod noF w W) => HF W b v l k hk (M.quiet hW)
  have hla := (Qu.labN_facts (k + 1) (by omega)).2
  have hg := fun W => grace_good h1 h4 (show 4 < 5 by decide) ⟨(Qu.labN (k + 1)).toArray⟩ W (by simpa using hla.2.1) (by simpa [ByteArray.size] using hla.1)
  have hlen : (preC (Qu.labN (k + 1)) (gcode f 4)).length ≤ 70 := by unfold preC; rw [List.length_map]; exact gcode_len h4 (by decide)
  have Hlen := Lib.hid hlen
  simp only at hg
  unfold graceFn at hg
  generalize hlb : (⟨(Qu.labN (k + 1)).toArray⟩ : ByteArray) = lb at *
  generalize preC (Qu.labN (k + 1)) (gcode f 4) = pc at *
  generalize ((f : Nat) : Int) = fi at *
  have c1 := M.c1
  have HM := Lib.hid M
  have Hfr := Lib.hid hfr
  have Hg := Lib.hid hg
  have hfi := fi
  clear M hfr hla hg HF hlb hlen
  go_enter Tryd.func53, Tryd.ntmps53
  go_wp2
  refine wp_region_held_drew (S := fun W => W.cell? ⟨b, 1, none⟩ = some (.int .i64 fi)) (by kernel_rfl) ((Mod.refl noF _).drew.cell c1 (fun e => e)) (fun hHeld => ?_)
  refine wpAnyH_take (i := 0) (oi := ?oP0) (v := ?vP0) ?qP0 (by kernel_rfl) ?fP0 ?gP0 ?pP0 ?uP0 (by assumption) ?rP0
  case qP0 => (rw [List.getElem?_toArray]; rfl)
  case fP0 => kernel_rfl
  case gP0 => kernel_rfl
  case pP0 => exact (fun _ _ _ h => h)
  case uP0 => (refine Or.inl ⟨by rfl, ?_⟩; intro w hSw; (try dsimp only at hSw); go_simp; (try rw [if_neg (by omega)]); try with_reducible rfl)
  try simp only [Act.put, List.setIfInBounds_toArray, List.set_cons_zero, List.set_cons_succ]
  refine wpAnyH_take (i := 1) (oi := ?oP1) (v := ?vP1) ?qP1 (by kernel_rfl) ?fP1 ?gP1 ?pP1 ?uP1 (by assumption) ?rP1
  case qP1 => (rw [List.getElem?_toArray]; rfl)
  case fP1 => kernel_rfl
  case gP1 => kernel_rfl
  case pP1 => exact (fun _ _ _ h => h)
  case uP1 => (refine Or.inl ⟨by rfl, ?_⟩; intro w hSw; (try dsimp only at hSw); go_simp; (try rw [if_neg (by omega)]); try with_reducible rfl)
  try simp only [Act.put, List.setIfInBounds_toArray, List.set_cons_zero, List.set_cons_succ]
  refine wpAnyH_take (i := 2) (oi := ?oP2) (v := ?vP2) ?qP2 (by kernel_rfl) ?fP2 ?gP2 ?pP2 ?uP2 (by assumption) ?rP2
  case qP2 => (rw [List.getElem?_toArray]; rfl)
  case fP2 => kernel_rfl
  case gP2 => kernel_rfl
  case pP2 => exact (fun _ _ _ h => h)
  case uP2 => (refine Or.inl ⟨by rfl, ?_⟩; intro w hSw; (try dsimp only at hSw); go_simp; (try rw [if_neg (by omega)]); try with_reducible rfl)
  try simp only [Act.put, List.setIfInBounds_toArray, List.set_cons_zero, List.set_cons_succ]
  refine wpAnyH_take (i := 3) (oi := ?oP3) (v := ?vP3) ?qP3 (by kernel_rfl) ?fP3 ?gP3 ?pP3 ?uP3 (by assumption) ?rP3
  case qP3 => (rw [List.getElem?_toArray]; rfl)
  case fP3 => kernel_rfl
  case gP3 => kernel_rfl
  case pP3 => exact (fun _ _ _ h => h)
  case uP3 => (refine Or.inl ⟨by rfl, ?_⟩; intro w hSw; (try dsimp only at hSw); go_simp; (try rw [if_neg (by omega)]); try with_reducible rfl)
  try simp only [Act.put, List.setIfInBounds_toArray, List.set_cons_zero, List.set_cons_succ]
  refine wpAnyH_take (i := 4) (oi := ?oP4) (v := ?vP4) ?qP4 (by kernel_rfl) ?fP4 ?gP4 ?pP4 ?uP4 (by assumption) ?rP4
  case qP4 => (rw [List.getElem?_toArray]; rfl)
  case fP4 => kernel_rfl
  case gP4 => kernel_rfl
  case pP4 => exact (fun _ _ _ h => h)
  case uP4 => (refine Or.inl ⟨by rfl, ?_⟩; intro w hSw; (try dsimp only at hSw); go_simp; (try rw [if_neg (by omega)]); try with_reducible rfl)
  try simp only [Act.put, List.setIfInBounds_toArray, List.set_cons_zero, List.set_cons_succ]
  refine wpAnyH_take (i := 5) (oi := ?oP5) (v := ?vP5) ?qP5 (by kernel_rfl) ?fP5 ?gP5 ?pP5 ?uP5 (by assumption) ?rP5
  case qP5 => (rw [List.getElem?_toArray]; rfl)
  case fP5 => kernel_rfl
  case gP5 => kernel_rfl
  case pP5 => exact (fun _ _ _ h => h)
  case uP5 => (refine Or.inl ⟨by rfl, ?_⟩; intro w hSw; (try dsimp only at hSw); go_simp; (try rw [if_neg (by omega)]); try with_reducible rfl)
  try simp only [Act.put, List.setIfInBounds_toArray, List.set_cons_zero, List.set_cons_succ]
  refine wpAnyH_ready (rs := [6]) (by kernel_rfl) (by simp) ?_
  refine AllReadyH.cons rfl (fun K hK => ?_) AllReadyH.nil
  go_simp
  refine (Hfr.out _ (Mod.refl _ _).drew).mono ?_
  rintro e w4 ⟨rfl, hm4, hs4⟩
  have Hm4 := Lib.hid hm4
  have Hs4 := Lib.hid hs4
  refine Shut.out hK _ _ hm4.c1 (fun hS4 => ?_)
  clear hm4 hs4 c1
  try simp only [Act.put, List.setIfInBounds_toArray, List.set_cons_zero, List.set_cons_succ]
  refine wpAnyH_ready (rs := [7]) (by kernel_rfl) (by simp) ?_
  refine AllReadyH.cons rfl (fun K hK => ?_) AllReadyH.nil
  go_simp
  refine (Hg.out _).mono ?_
  rintro e w5 ⟨pv, rfl, hmade⟩
  have hq5 := Mod.below hmade.2.1
  have hM5 := Hm4.out.quiet hq5
  have Hm5 := Lib.hid hM5
  have Hs5 := Lib.hid (Hs4.out.quiet hq5)
  have Hpv := Lib.hid hmade.1
  have Hpn := Lib.hid hmade.2.2
  refine Shut.out hK _ _ hM5.c1 (fun hS5 => ?_)
  clear hM5 hmade hq5
  try simp only [Act.put, List.setIfInBounds_toArray, List.set_cons_zero, List.set_cons_succ]
  refine wpAnyH_take (i := 8) (oi := ?oP8) (v := ?vP8) ?qP8 (by kernel_rfl) ?fP8 ?gP8 ?pP8 ?uP8 (by assumption) ?rP8
  case qP8 => (rw [List.getElem?_toArray]; rfl)
  case fP8 => kernel_rfl
  case gP8 => kernel_rfl
  case pP8 => exact (fun _ _ _ h => h)
  case uP8 => (refine Or.inl ⟨by rfl, ?_⟩; intro w hSw; (try dsimp only at hSw); go_simp; (try rw [if_neg (by omega)]); try with_reducible rfl)
  try simp only [Act.put, List.setIfInBounds_toArray, List.set_cons_zero, List.set_cons_succ]
  refine wpAnyH_take (i := 9) (oi := ?oP9) (v := ?vP9) ?qP9 (by kernel_rfl) ?fP9 ?gP9 ?pP9 ?uP9 (by assumption) ?rP9
  case qP9 => (rw [List.getElem?_toArray]; rfl)
  case fP9 => kernel_rfl
  case gP9 => kernel_rfl
  case pP9 => exact (fun _ _ _ h => h)
  case uP9 => (refine Or.inl ⟨by rfl, ?_⟩; intro w hSw; (try dsimp only at hSw); go_simp; (try rw [if_neg (by omega)]); try with_reducible rfl)
  try simp only [Act.put, List.setIfInBounds_toArray, List.set_cons_zero, List.set_cons_succ]
  refine wpAnyH_take (i := 10) (oi := ?oP10) (v := ?vP10) ?qP10 (by kernel_rfl) ?fP10 ?gP10 ?pP10 ?uP10 (by assumption) ?rP10
  case qP10 => (rw [List.getElem?_toArray]; rfl)
  case fP10 => kernel_rfl
  case gP10 => kernel_rfl
  case pP10 => exact (fun _ _ _ h => h)
  case uP10 => (refine Or.inl ⟨by rfl, ?_⟩; intro w hSw; (try dsimp only at hSw); go_simp; (try rw [if_neg (by omega)]); try with_reducible rfl)
  try simp only [Act.put, List.setIfInBounds_toArray, List.set_cons_zero, List.set_cons_succ]
  refine wpAnyH_take (i := 11) (oi := ?oP11) (v := ?vP11) ?qP11 (by kernel_rfl) ?fP11 ?gP11 ?pP11 ?uP11 (by assumption) ?rP11
  case qP11 => (rw [List.getElem?_toArray]; rfl)
  case fP11 => kernel_rfl
  case gP11 => kernel_rfl
  case pP11 => exact (fun _ _ _ h => h)
  case uP11 => (refine Or.inl ⟨by rfl, ?_⟩; intro w hSw; (try dsimp only at hSw); go_simp; (try rw [if_neg (by omega)]); try with_reducible rfl)
  try simp only [Act.put, List.setIfInBounds_toArray, List.set_cons_zero, List.set_cons_succ]
  refine wpAnyH_take (i := 12) (oi := ?oP12) (v := ?vP12) ?qP12 (by kernel_rfl) ?fP12 ?gP12 ?pP12 ?uP12 (by assumption) ?rP12
  case qP12 => (rw [List.getElem?_toArray]; rfl)
  case fP12 => kernel_rfl
  case gP12 => kernel_rfl
  case pP12 => exact (fun _ _ _ h => h)
  case uP12 => (refine Or.inl ⟨by rfl, ?_⟩; intro w hSw; (try dsimp only at hSw); go_simp; (try rw [if_neg (by omega)]); try with_reducible rfl)
  try simp only [Act.put, List.setIfInBounds_toArray, List.set_cons_zero, List.set_cons_succ]
  refine wpAnyH_done (by kernel_rfl) ?_ _
  clear hS4 hS5 hK hHeld
  have HC := Lib.hid (Chain.start Hm5.out.m.emit)
  go_wp2_with fail
  refine (made_more HC.out (by omega) (by have := Hlen.out; omega) Hpv.out).mono ?_
  rintro e w6 ⟨rfl, C⟩
  have hfin : ∃ v', MkA N0 big fi t nx w6 b v' (l ++ pc) (k + 1) ∧ MkStep w b v w6 v' := by
    obtain ⟨v', M', S'⟩ := Hm5.out.chain hT C
    exact ⟨v', M', (((MkStep.refl w b v).quiet (Mod.refl noF w).drew).trans HM.out.lt Hs5.out).trans HM.out.lt S'⟩
  have Hfin := Lib.hid hfin
  clear hfin C
  go_wp2
  go_end0
  exact ⟨rfl, Hfin.out⟩
end Go.Proofs.YtppihkneeolomaaDoor
end
/- package client: a maker's list. -/
section
namespace Go.Proofs.YtppihkneeolomaaDoor
open Go.RowKit Qs Qh
variable {N0 K tn f : Nat} {big : Prop} {nx : Int} {w w1 w2 : World} {b k : Nat} {v v1 v2 : Value} {l : List Instr}
theorem Chain.at0 {w0 : World} {o : Nat} {v0 : Value} (C : Chain w0 b o v0 l w) {j : Nat} (hj : j ≠ o) {u : Value} (h : w0.cell? ⟨b, j, none⟩ = some u) : w.cell? ⟨b, j, none⟩ = some u := by
  obtain ⟨hb, v, E, G⟩ := C
  exact G.cells j _ hj h
set_option maxHeartbeats 16000000 in
theorem mklist_ok (hT : big → lowT N0) (htn : tn < 6) (M : MkA N0 big f (tn : Nat) nx w b v l k) (hl : l.length ≤ 200000) :
    Calls Tryd.prog 111 #[.pointer (some ⟨b, 0, none⟩)] w fun e w' => e = .returned (.int .i64 ((tn % 4 : Nat) : Int)) ∧ ∃ v', MkA N0 big f (tn : Nat) nx w' b v' (l ++ [⟨6, 2, 5, ((1 + tn / 4 : Nat) : Int), []⟩]) k ∧ MkStep w b v w' v' := by
  have HM := Lib.hid M
  have Hc2 := Lib.hid M.c2
  have c2 := M.c2
  have hwr : IntKind.i64.wrap (1 + IntKind.i64.wrap ((tn : Int) / 4)) = ((1 + tn / 4 : Nat) : Int) := by
    rcases (by omega : tn = 0 ∨ tn = 1 ∨ tn = 2 ∨ tn = 3 ∨ tn = 4 ∨ tn = 5) with rfl | rfl | rfl | rfl | rfl | rfl <;> decide
  clear M
  go_enter Tryd.func111, Tryd.ntmps111
  have HC := Lib.hid (Chain.start HM.out.m.emit)
  go_wp2
  refine wp_region_held_drew (S := fun W => W.cell? ⟨b, 2, none⟩ = some (.int .i64 ((tn : Nat) : Int))) (by kernel_rfl) ((Mod.refl noF _).drew.cell Hc2.out (fun e => e)) (fun hHeld => ?_)
  refine wpAnyH_take (i := 0) (oi := ?oRx0) (v := ?vRx0) ?qRx0 (by kernel_rfl) ?fRx0 ?gRx0 ?pRx0 ?uRx0 (by assumption) ?rRx0
  case qRx0 => (rw [List.getElem?_toArray]; rfl)
  case fRx0 => kernel_rfl
  case gRx0 => kernel_rfl
  case pRx0 => exact (fun _ _ _ h => h)
  case uRx0 => (refine Or.inl ⟨by rfl, ?_⟩; intro w hSw; (try dsimp only at hSw); go_simp; (try rw [if_neg (by omega)]); try with_reducible rfl)
  try simp only [Act.put, List.setIfInBounds_toArray, List.set_cons_zero, List.set_cons_succ]
  refine wpAnyH_take (i := 1) (oi := ?oRx1) (v := ?vRx1) ?qRx1 (by kernel_rfl) ?fRx1 ?gRx1 ?pRx1 ?uRx1 (by assumption) ?rRx1
  case qRx1 => (rw [List.getElem?_toArray]; rfl)
  case fRx1 => kernel_rfl
  case gRx1 => kernel_rfl
  case pRx1 => exact (fun _ _ _ h => h)
  case uRx1 => (refine Or.inl ⟨by rfl, ?_⟩; intro w hSw; (try dsimp only at hSw); go_simp; (try rw [if_neg (by omega)]); try with_reducible rfl)
  try simp only [Act.put, List.setIfInBounds_toArray, List.set_cons_zero, List.set_cons_succ]
  refine wpAnyH_take (i := 2) (oi := ?oRx2) (v := ?vRx2) ?qRx2 (by kernel_rfl) ?fRx2 ?gRx2 ?pRx2 ?uRx2 (by assumption) ?rRx2
  case qRx2 => (rw [List.getElem?_toArray]; rfl)
  case fRx2 => kernel_rfl
  case gRx2 => kernel_rfl
  case pRx2 => exact (fun _ _ _ h => h)
  case uRx2 => (refine Or.inl ⟨by rfl, ?_⟩; intro w hSw; (try dsimp only at hSw); go_simp; (try rw [if_neg (by omega)]); try with_reducible rfl)
  try simp only [Act.put, List.setIfInBounds_toArray, List.set_cons_zero, List.set_cons_succ]
  refine wpAnyH_take (i := 3) (oi := ?oRx3) (v := ?vRx3) ?qRx3 (by kernel_rfl) ?fRx3 ?gRx3 ?pRx3 ?uRx3 (by assumption) ?rRx3
  case qRx3 => (rw [List.getElem?_toArray]; rfl)
  case fRx3 => kernel_rfl
  case gRx3 => kernel_rfl
  case pRx3 => exact (fun _ _ _ h => h)
  case uRx3 => (refine Or.inl ⟨by rfl, ?_⟩; intro w hSw; (try dsimp only at hSw); go_simp; (try rw [if_neg (by omega)]); try with_reducible rfl)
  try simp only [Act.put, List.setIfInBounds_toArray, List.set_cons_zero, List.set_cons_succ]
  refine wpAnyH_take (i := 4) (oi := ?oRx4) (v := ?vRx4) ?qRx4 (by kernel_rfl) ?fRx4 ?gRx4 ?pRx4 ?uRx4 (by assumption) ?rRx4
  case qRx4 => (rw [List.getElem?_toArray]; rfl)
  case fRx4 => kernel_rfl
  case gRx4 => kernel_rfl
  case pRx4 => exact (fun _ _ _ h => h)
  case uRx4 => (refine Or.inl ⟨by rfl, ?_⟩; intro w hSw; (try dsimp only at hSw); go_simp; (try rw [if_neg (by omega)]); try with_reducible rfl)
  try simp only [Act.put, List.setIfInBounds_toArray, List.set_cons_zero, List.set_cons_succ]
  refine wpAnyH_take (i := 5) (oi := ?oRx5) (v := ?vRx5) ?qRx5 (by kernel_rfl) ?fRx5 ?gRx5 ?pRx5 ?uRx5 (by assumption) ?rRx5
  case qRx5 => (rw [List.getElem?_toArray]; rfl)
  case fRx5 => kernel_rfl
  case gRx5 => kernel_rfl
  case pRx5 => exact (fun _ _ _ h => h)
  case uRx5 => (refine Or.inl ⟨by rfl, ?_⟩; intro w hSw; (try dsimp only at hSw); go_simp; (try rw [if_neg (by omega)]); try with_reducible rfl)
  try simp only [Act.put, List.setIfInBounds_toArray, List.set_cons_zero, List.set_cons_succ]
  refine wpAnyH_take (i := 6) (oi := ?oRx6) (v := ?vRx6) ?qRx6 (by kernel_rfl) ?fRx6 ?gRx6 ?pRx6 ?uRx6 (by assumption) ?rRx6
  case qRx6 => (rw [List.getElem?_toArray]; rfl)
  case fRx6 => kernel_rfl
  case gRx6 => kernel_rfl
  case pRx6 => exact (fun _ _ _ h => h)
  case uRx6 => (refine Or.inl ⟨by rfl, ?_⟩; intro w hSw; (try dsimp only at hSw); go_simp; (try rw [if_neg (by omega)]); try with_reducible rfl)
  try simp only [Act.put, List.setIfInBounds_toArray, List.set_cons_zero, List.set_cons_succ]
  refine wpAnyH_take (i := 7) (oi := ?oRx7) (v := ?vRx7) ?qRx7 (by kernel_rfl) ?fRx7 ?gRx7 ?pRx7 ?uRx7 (by assumption) ?rRx7
  case qRx7 => (rw [List.getElem?_toArray]; rfl)
  case fRx7 => kernel_rfl
  case gRx7 => kernel_rfl
  case pRx7 => exact (fun _ _ _ h => h)
  case uRx7 => (refine Or.inl ⟨by rfl, ?_⟩; intro w hSw; (try dsimp only at hSw); go_simp; (try rw [if_neg (by omega)]); try with_reducible rfl)
  try simp only [Act.put, List.setIfInBounds_toArray, List.set_cons_zero, List.set_cons_succ]
  refine wpAnyH_take (i := 8) (oi := ?oRx8) (v := ?vRx8) ?qRx8 (by kernel_rfl) ?fRx8 ?gRx8 ?pRx8 ?uRx8 (by assumption) ?rRx8
  case qRx8 => (rw [List.getElem?_toArray]; rfl)
  case fRx8 => kernel_rfl
  case gRx8 => kernel_rfl
  case pRx8 => exact (fun _ _ _ h => h)
  case uRx8 => (refine Or.inl ⟨by rfl, ?_⟩; intro w hSw; (try dsimp only at hSw); go_simp; (try rw [if_neg (by omega)]); try with_reducible rfl)
  try simp only [Act.put, List.setIfInBounds_toArray, List.set_cons_zero, List.set_cons_succ]
  refine Mk.em_spine (fun _ => ((1 + tn / 4 : Nat) : Int)) (items := [⟨some (9, 12), 10, 13⟩]) (E := [⟨6, [.c 2, .c 5, .t 11], [], 0, 0, []⟩]) (r0 := 5) (by kernel_rfl) (by kernel_rfl) (by kernel_rfl) (by rfl) ?lbR ?tvR ?moR (by rfl) (by rfl) ?lenR (fun w' l' C => C.at0 (by omega) Hc2.out) (HC.out.quiet (Mod.refl _ _).drew) (by kernel_rfl) ?_
  case lbR => (intro e he hk; simp only [List.mem_cons, List.not_mem_nil, or_false] at he; rcases he with rfl <;> (first | (simp at hk; done) | exact rfl))
  case tvR => (intro e he k hk; simp only [List.mem_cons, List.not_mem_nil, or_false] at he; rcases he with rfl <;> (first | (simp at hk; done) | (simp at hk; subst hk; exact congrArg (Value.int .i64) (show (1 : Int) + (tn : Int) / 4 = ((1 + tn / 4 : Nat) : Int) by omega))))
  case moR => (intro e he hk; simp only [List.mem_cons, List.not_mem_nil, or_false] at he; rcases he with rfl <;> (first | (simp at hk; done) | exact rfl))
  case lenR => (simp [Mk.EmC.code, Mk.EmC.ins]; omega)
  intro U xR C hU
  have u13 : U 13 = _ := hU 0 _ rfl
  simp only [spTmps, SpI.tmps, List.flatMap_cons, List.flatMap_nil, Option.map_some, Option.map_none, Option.toList_some, Option.toList_none, List.cons_append, List.nil_append, List.append_nil, patch, List.foldl_cons, List.foldl_nil, Act.put, List.setIfInBounds_toArray, List.set_cons_zero, List.set_cons_succ, u13]
  generalize U 12 = s12 at *
  clear u13 hU hHeld
  have hc2 := C.at0 (by omega) Hc2.out
  have hfin : ∃ v' : Value, MkA N0 big f (tn : Nat) nx xR b v' (l ++ [⟨6, 2, 5, ((1 + tn / 4 : Nat) : Int), []⟩]) k ∧ MkStep w b v xR v' := HM.out.chain hT C
  have Hfin := Lib.hid hfin
  clear hfin C
  go_wp2
  go_ret
  exact ⟨congrArg (fun x => Ending.returned (.int .i64 x)) (show (tn : Int) % 4 = ((tn % 4 : Nat) : Int) by omega), Hfin.out⟩
end Go.Proofs.YtppihkneeolomaaDoor
end
/- package client: a node goes onto a thread's list. -/
section
namespace Go.Proofs.YtppihkneeolomaaDoor
open Go.RowKit Qs Qh
variable {N0 K tn f : Nat} {big : Prop} {nx : Int} {w w1 w2 : World} {b k : Nat} {v v1 v2 : Value} {l : List Instr}
set_option maxHeartbeats 16000000 in
theorem later_ok (HF : FreshH N0 big f (tn : Nat) nx K) (hT : big → lowT N0) (htn : tn < 6) (M : MkA N0 big f (tn : Nat) nx w b v l k) (hk : k < K) (hl : l.length ≤ 100000) :
    Calls Tryd.prog 81 #[.pointer (some ⟨b, 0, none⟩)] w fun e w' => e = .returned (.tuple #[]) ∧ ∃ v', MkA N0 big f (tn : Nat) nx w' b v' (l ++ Qc.laterBlk (Qu.labN (k + 1)) tn nx) (k + 1) ∧ MkStep w b v w' v' := by
  have HM := Lib.hid M
  have Hfr := Lib.hid (HF w b v l k hk M)
  unfold Qc.laterBlk
  generalize Qu.labN (k + 1) = lb at *
  clear M HF
  go_enter Tryd.func81, Tryd.ntmps81
  go_wp2_with fail
  refine Hfr.out.mono ?_
  rintro e w1 ⟨rfl, M1, S1⟩
  have HM1 := Lib.hid M1
  have HS1 := Lib.hid S1
  have HC1 := Lib.hid (Chain.start M1.m.emit)
  clear M1 S1
  go_wp2_with fail
  refine (to1_chain (HC1.out.quiet ((Mod.refl _ _).alloc _)) (by omega) 14 _ rfl lb _ rfl w1.heap.size 3 1 (by simp) (by simp)).mono ?_
  rintro e w2 ⟨rfl, C⟩
  obtain ⟨v2, M2, S2⟩ := HM1.out.chain hT C
  have HM2 := Lib.hid M2
  have HS2 := Lib.hid (HS1.out.trans HM.out.lt S2)
  clear C M2 S2 HS1 HC1
  go_wp2_with fail
  refine (mklist_ok hT htn HM2.out (by simp; omega)).mono ?_
  rintro e w3 ⟨rfl, v3, M3, S3⟩
  have HM3 := Lib.hid M3
  have HS3 := Lib.hid (HS2.out.trans HM.out.lt S3)
  have Hc3 := Lib.hid M3.c3
  have HC := Lib.hid (Chain.start M3.m.emit)
  clear M3 S3 HS2 HM2
  go_wp2
  refine wp_region_held_drew (S := fun W => W.cell? ⟨b, 3, none⟩ = some (.int .i64 nx)) (by kernel_rfl) ((Mod.refl noF _).drew.cell Hc3.out (fun e => e)) (fun hHeld => ?_)
  refine wpAnyH_take (i := 0) (oi := ?oRx0) (v := ?vRx0) ?qRx0 (by kernel_rfl) ?fRx0 ?gRx0 ?pRx0 ?uRx0 (by assumption) ?rRx0
  case qRx0 => (rw [List.getElem?_toArray]; rfl)
  case fRx0 => kernel_rfl
  case gRx0 => kernel_rfl
  case pRx0 => exact (fun _ _ _ h => h)
  case uRx0 => (refine Or.inl ⟨by rfl, ?_⟩; intro w hSw; (try dsimp only at hSw); go_simp; (try rw [if_neg (by omega)]); try with_reducible rfl)
  try simp only [Act.put, List.setIfInBounds_toArray, List.set_cons_zero, List.set_cons_succ]
  refine wpAnyH_take (i := 1) (oi := ?oRx1) (v := ?vRx1) ?qRx1 (by kernel_rfl) ?fRx1 ?gRx1 ?pRx1 ?uRx1 (by assumption) ?rRx1
  case qRx1 => (rw [List.getElem?_toArray]; rfl)
  case fRx1 => kernel_rfl
  case gRx1 => kernel_rfl
  case pRx1 => exact (fun _ _ _ h => h)
  case uRx1 => (refine Or.inl ⟨by rfl, ?_⟩; intro w hSw; (try dsimp only at hSw); go_simp; (try rw [if_neg (by omega)]); try with_reducible rfl)
  try simp only [Act.put, List.setIfInBounds_toArray, List.set_cons_zero, List.set_cons_succ]
  refine wpAnyH_take (i := 2) (oi := ?oRx2) (v := ?vRx2) ?qRx2 (by kernel_rfl) ?fRx2 ?gRx2 ?pRx2 ?uRx2 (by assumption) ?rRx2
  case qRx2 => (rw [List.getElem?_toArray]; rfl)
  case fRx2 => kernel_rfl
  case gRx2 => kernel_rfl
  case pRx2 => exact (fun _ _ _ h => h)
  case uRx2 => (refine Or.inl ⟨by rfl, ?_⟩; intro w hSw; (try dsimp only at hSw); go_simp; (try rw [if_neg (by omega)]); try with_reducible rfl)
  try simp only [Act.put, List.setIfInBounds_toArray, List.set_cons_zero, List.set_cons_succ]
  refine wpAnyH_take (i := 3) (oi := ?oRx3) (v := ?vRx3) ?qRx3 (by kernel_rfl) ?fRx3 ?gRx3 ?pRx3 ?uRx3 (by assumption) ?rRx3
  case qRx3 => (rw [List.getElem?_toArray]; rfl)
  case fRx3 => kernel_rfl
  case gRx3 => kernel_rfl
  case pRx3 => exact (fun _ _ _ h => h)
  case uRx3 => (refine Or.inl ⟨by rfl, ?_⟩; intro w hSw; (try dsimp only at hSw); go_simp; (try rw [if_neg (by omega)]); try with_reducible rfl)
  try simp only [Act.put, List.setIfInBounds_toArray, List.set_cons_zero, List.set_cons_succ]
  refine wpAnyH_take (i := 6) (oi := ?oRx6) (v := ?vRx6) ?qRx6 (by kernel_rfl) ?fRx6 ?gRx6 ?pRx6 ?uRx6 (by assumption) ?rRx6
  case qRx6 => (rw [List.getElem?_toArray]; rfl)
  case fRx6 => kernel_rfl
  case gRx6 => kernel_rfl
  case pRx6 => exact (fun _ _ _ h => h)
  case uRx6 => (refine Or.inl ⟨by rfl, ?_⟩; intro w hSw; (try dsimp only at hSw); go_simp; (try rw [if_neg (by omega)]); try with_reducible rfl)
  try simp only [Act.put, List.setIfInBounds_toArray, List.set_cons_zero, List.set_cons_succ]
  refine wpAnyH_take (i := 7) (oi := ?oRx7) (v := ?vRx7) ?qRx7 (by kernel_rfl) ?fRx7 ?gRx7 ?pRx7 ?uRx7 (by assumption) ?rRx7
  case qRx7 => (rw [List.getElem?_toArray]; rfl)
  case fRx7 => kernel_rfl
  case gRx7 => kernel_rfl
  case pRx7 => exact (fun _ _ _ h => h)
  case uRx7 => (refine Or.inl ⟨by rfl, ?_⟩; intro w hSw; (try dsimp only at hSw); go_simp; (try rw [if_neg (by omega)]); try with_reducible rfl)
  try simp only [Act.put, List.setIfInBounds_toArray, List.set_cons_zero, List.set_cons_succ]
  refine wpAnyH_take (i := 8) (oi := ?oRx8) (v := ?vRx8) ?qRx8 (by kernel_rfl) ?fRx8 ?gRx8 ?pRx8 ?uRx8 (by assumption) ?rRx8
  case qRx8 => (rw [List.getElem?_toArray]; rfl)
  case fRx8 => kernel_rfl
  case gRx8 => kernel_rfl
  case pRx8 => exact (fun _ _ _ h => h)
  case uRx8 => (refine Or.inl ⟨by rfl, ?_⟩; intro w hSw; (try dsimp only at hSw); go_simp; (try rw [if_neg (by omega)]); try with_reducible rfl)
  try simp only [Act.put, List.setIfInBounds_toArray, List.set_cons_zero, List.set_cons_succ]
  refine wpAnyH_take (i := 9) (oi := ?oRx9) (v := ?vRx9) ?qRx9 (by kernel_rfl) ?fRx9 ?gRx9 ?pRx9 ?uRx9 (by assumption) ?rRx9
  case qRx9 => (rw [List.getElem?_toArray]; rfl)
  case fRx9 => kernel_rfl
  case gRx9 => kernel_rfl
  case pRx9 => exact (fun _ _ _ h => h)
  case uRx9 => (refine Or.inl ⟨by rfl, ?_⟩; intro w hSw; (try dsimp only at hSw); go_simp; (try rw [if_neg (by omega)]); try with_reducible rfl)
  try simp only [Act.put, List.setIfInBounds_toArray, List.set_cons_zero, List.set_cons_succ]
  refine wpAnyH_take (i := 12) (oi := ?oRx12) (v := ?vRx12) ?qRx12 (by kernel_rfl) ?fRx12 ?gRx12 ?pRx12 ?uRx12 (by assumption) ?rRx12
  case qRx12 => (rw [List.getElem?_toArray]; rfl)
  case fRx12 => kernel_rfl
  case gRx12 => kernel_rfl
  case pRx12 => exact (fun _ _ _ h => h)
  case uRx12 => (refine Or.inl ⟨by rfl, ?_⟩; intro w hSw; (try dsimp only at hSw); go_simp; (try rw [if_neg (by omega)]); try with_reducible rfl)
  try simp only [Act.put, List.setIfInBounds_toArray, List.set_cons_zero, List.set_cons_succ]
  refine wpAnyH_take (i := 17) (oi := ?oRx17) (v := ?vRx17) ?qRx17 (by kernel_rfl) ?fRx17 ?gRx17 ?pRx17 ?uRx17 (by assumption) ?rRx17
  case qRx17 => (rw [List.getElem?_toArray]; rfl)
  case fRx17 => kernel_rfl
  case gRx17 => kernel_rfl
  case pRx17 => exact (fun _ _ _ h => h)
  case uRx17 => (refine Or.inl ⟨by rfl, ?_⟩; intro w hSw; (try dsimp only at hSw); go_simp; (try rw [if_neg (by omega)]); try with_reducible rfl)
  try simp only [Act.put, List.setIfInBounds_toArray, List.set_cons_zero, List.set_cons_succ]
  refine Mk.em_spine (fun k => if k = 23 then nx else ((tn % 4 : Nat) : Int)) (items := [⟨some (4, 18), 5, 19⟩, ⟨some (10, 24), 11, 25⟩, ⟨some (13, 27), 14, 28⟩, ⟨some (15, 29), 16, 30⟩, ⟨none, 18, 32⟩]) (E := [⟨6, [.c 0, .c 2, .t 17], [], 0, 0, []⟩, ⟨7, [.c 3, .c 0, .t 23], [], 0, 0, []⟩, ⟨7, [.c 2, .c 3, .t 26], [], 0, 0, []⟩, ⟨0, [.c 3, .c 0], [], 0, 0, []⟩, ⟨17, [], lb, 2, 31, []⟩]) (r0 := 16) (by kernel_rfl) (by kernel_rfl) (by kernel_rfl) (by rfl) ?lbR ?tvR ?moR (by rfl) (by rfl) ?lenR (fun w' l' C => C.at0 (by omega) Hc3.out) (HC.out.quiet (Mod.refl _ _).drew) (by kernel_rfl) ?_
  case lbR => (intro e he hk; simp only [List.mem_cons, List.not_mem_nil, or_false] at he; rcases he with rfl | rfl | rfl | rfl | rfl <;> (first | (simp at hk; done) | exact rfl))
  case tvR => (intro e he k hk; simp only [List.mem_cons, List.not_mem_nil, or_false] at he; rcases he with rfl | rfl | rfl | rfl | rfl <;> (first | (simp at hk; done) | (simp at hk; subst hk; rfl)))
  case moR => (intro e he hk; simp only [List.mem_cons, List.not_mem_nil, or_false] at he; rcases he with rfl | rfl | rfl | rfl | rfl <;> (first | (simp at hk; done) | exact rfl))
  case lenR => (simp [Mk.EmC.code, Mk.EmC.ins]; omega)
  intro U xR C hU
  have u19 : U 19 = _ := hU 0 _ rfl
  have u25 : U 25 = _ := hU 1 _ rfl
  have u28 : U 28 = _ := hU 2 _ rfl
  have u30 : U 30 = _ := hU 3 _ rfl
  have u32 : U 32 = _ := hU 4 _ rfl
  simp only [spTmps, SpI.tmps, List.flatMap_cons, List.flatMap_nil, Option.map_some, Option.map_none, Option.toList_some, Option.toList_none, List.cons_append, List.nil_append, List.append_nil, patch, List.foldl_cons, List.foldl_nil, Act.put, List.setIfInBounds_toArray, List.set_cons_zero, List.set_cons_succ, u19, u25, u28, u30, u32]
  generalize U 18 = s18 at *
  generalize U 24 = s24 at *
  generalize U 27 = s27 at *
  generalize U 29 = s29 at *
  clear u19 u25 u28 u30 u32 hU hHeld
  have hfin : ∃ v' : Value, MkA N0 big f (tn : Nat) nx xR b v' (l ++ [⟨14, 3, 0, 0, lb⟩, ⟨6, 2, 5, ((1 + tn / 4 : Nat) : Int), []⟩, ⟨6, 0, 2, ((tn % 4 : Nat) : Int), []⟩, ⟨7, 3, 0, nx, []⟩, ⟨7, 2, 3, ((tn % 4 : Nat) : Int), []⟩, ⟨0, 3, 0, 0, []⟩, ⟨17, 0, 0, 0, lb⟩]) (k + 1) ∧ MkStep w b v xR v' := by
    obtain ⟨v', M', S'⟩ := HM3.out.chain hT C
    simp only [List.append_assoc] at M'
    exact ⟨v', M', HS3.out.trans HM.out.lt S'⟩
  have Hfin := Lib.hid hfin
  clear hfin C
  (try simp only [Exit.inBlock, Exit.then])
  go_end0
  exact ⟨rfl, Hfin.out⟩
end Go.Proofs.YtppihkneeolomaaDoor
end
/- One thread alone: the parts of grace. -/
section
namespace Qo
open Qs Qg Qu Qc Qh Go.Proofs.YtppihkneeolomaaDoor
variable {code A B C : List Instr} {a k n f st K : Nat} {m0 : M} {v : Int → Nat → Int} {hr : Int → Bool} {mk : List Int} {r0 r1 r2 r3 r4 tp c : Int} {s s' : S}
abbrev z4 (f st : Nat) (i : Bool) (r0 r1 r2 r3 r4 tp : Int) (v : Int → Nat → Int) (hr : Int → Bool) (mk : List Int) : S := ⟨0, [r0, r1, r2, r3, r4, tp, 1, 2], ⟨oF f st i, hF f st, v⟩, hr, mk⟩
theorem partL (f k j : Nat) : (part f k j).length = (gcode f j).length := by unfold part preC; rw [List.length_map]
theorem part_go {j : Nat} (hf : f < 5) (hj : j < 5) (hB : InRow code a (part f k j)) (H : At code m0 a s K) (e : S.evn (gcode f j) n s = some s') (hp : s'.pc = (gcode f j).length) (hK : K + n ≤ 1000000) : At code m0 (a + (part f k j).length) (s'.at' 0) (K + n) := by
  have e' : S.evn (part f k j) n s = some s' := by unfold part; rw [evn_pre (okJ_g f hf j hj)]; exact e
  exact (At.run hB n H e' hK).next (by rw [partL]; exact hp)
theorem e10 : S.evn (gcode 1 0) 9 ⟨0, [r0, r1, r2, r3, r4, tp, 1, 2], ⟨[0, 0, 0, 0], [1, 0, 1, 0], v⟩, hr, mk⟩ = some ⟨13, [1, 0, r2, r3, r4, tp, 1, 2], ⟨[1, 0, 0, 0], [1, 0, 1, 0], v⟩, hr, mk⟩ := by kernel_rfl
theorem e20 : S.evn (gcode 2 0) 8 ⟨0, [r0, r1, r2, r3, r4, tp, 1, 2], ⟨[0, 0, 0, 0], [1, 0, 1, 0], v⟩, hr, mk⟩ = some ⟨12, [1, 0, r2, r3, r4, tp, 1, 2], ⟨[1, 0, 0, 0], [1, 0, 1, 0], v⟩, hr, mk⟩ := by kernel_rfl
theorem e40a : S.evn (gcode 4 0) 27 ⟨0, [r0, r1, r2, r3, r4, tp, 1, 2], ⟨[0, 0, 0, 0], [1, 0, 0, 0], v⟩, hr, mk⟩ = some ⟨33, [1, 0, r2, r3, r4, tp, 1, 2], ⟨[1, 0, 1, 0], [1, 0, 1, 0], v⟩, hr, mk⟩ := by kernel_rfl
theorem e40b : S.evn (gcode 4 0) 13 ⟨0, [r0, r1, r2, r3, r4, tp, 1, 2], ⟨[0, 0, 1, 0], [1, 0, 1, 0], v⟩, hr, mk⟩ = some ⟨33, [1, 0, r2, r3, r4, tp, 1, 2], ⟨[1, 0, 1, 0], [1, 0, 1, 0], v⟩, hr, mk⟩ := by kernel_rfl
theorem e11 : S.evn (gcode 1 1) 5 ⟨0, [r0, r1, r2, r3, r4, tp, 1, 2], ⟨[1, 0, 0, 0], [1, 0, 1, 0], v⟩, hr, mk⟩ = some ⟨5, [0, 1, r2, r3, r4, tp, 1, 2], ⟨[0, 0, 0, 0], [1, 0, 1, 0], v⟩, hr, mk⟩ := by kernel_rfl
theorem e21 : S.evn (gcode 2 1) 4 ⟨0, [r0, r1, r2, r3, r4, tp, 1, 2], ⟨[1, 0, 0, 0], [1, 0, 1, 0], v⟩, hr, mk⟩ = some ⟨4, [0, 1, r2, r3, r4, tp, 1, 2], ⟨[0, 0, 0, 0], [1, 0, 1, 0], v⟩, hr, mk⟩ := by kernel_rfl
theorem e41 : S.evn (gcode 4 1) 5 ⟨0, [r0, r1, r2, r3, r4, tp, 1, 2], ⟨[1, 0, 1, 0], [1, 0, 1, 0], v⟩, hr, mk⟩ = some ⟨5, [0, 1, r2, r3, r4, tp, 1, 2], ⟨[0, 0, 1, 0], [1, 0, 1, 0], v⟩, hr, mk⟩ := by kernel_rfl
theorem e14 : S.evn (gcode 1 4) 49 ⟨0, [r0, r1, r2, r3, r4, tp, 1, 2], ⟨[0, 0, 0, 0], [1, 0, 1, 0], v⟩, hr, mk⟩ = some ⟨58, [0, 0, 0, r3, r4, tp, 1, 2], ⟨[0, 0, 0, 0], [1, 0, 1, 0], v⟩, hr, mk⟩ := by kernel_rfl
theorem e24 : S.evn (gcode 2 4) 49 ⟨0, [r0, r1, r2, r3, r4, tp, 1, 2], ⟨[0, 0, 0, 0], [1, 0, 1, 0], v⟩, hr, mk⟩ = some ⟨58, [0, 0, 0, r3, r4, tp, 1, 2], ⟨[0, 0, 0, 0], [1, 0, 1, 0], v⟩, hr, mk⟩ := by kernel_rfl
theorem e34 : S.evn (gcode 3 4) 32 ⟨0, [r0, r1, r2, r3, r4, tp, 1, 2], ⟨[c, 0, 0, 0], [c, 0, 1, 0], v⟩, hr, mk⟩ = some ⟨34, [sum2 2 c 2, 2, 0, r3, r4, tp, 1, 2], ⟨[sum2 2 c 2, 0, 0, 0], [sum2 2 c 2, 0, 1, 0], v⟩, hr, mk⟩ := by kernel_rfl
theorem e33 : S.evn (gcode 3 3) 3 ⟨0, [r0, r1, r2, r3, r4, tp, 1, 2], ⟨[c, 0, 0, 0], [c, 0, 1, 0], v⟩, hr, mk⟩ = some ⟨3, [0, r1, r2, r3, r4, tp, 1, 2], ⟨[0, 0, 0, 0], [c, 0, 1, 0], v⟩, hr, mk⟩ := by kernel_rfl
theorem e44a : S.evn (gcode 4 4) 29 ⟨0, [r0, r1, r2, r3, r4, tp, 1, 2], ⟨[0, 0, 0, 0], [1, 0, 0, 0], v⟩, hr, mk⟩ = some ⟨58, [0, 256, 0, r3, r4, tp, 1, 2], ⟨[0, 0, 0, 0], [1, 0, 0, 0], v⟩, hr, mk⟩ := by kernel_rfl
theorem e44b : S.evn (gcode 4 4) 49 ⟨0, [r0, r1, r2, r3, r4, tp, 1, 2], ⟨[0, 0, 1, 0], [1, 0, 1, 0], v⟩, hr, mk⟩ = some ⟨58, [0, 0, 0, r3, r4, tp, 1, 2], ⟨[0, 0, 1, 0], [1, 0, 1, 0], v⟩, hr, mk⟩ := by kernel_rfl
theorem f_cases (h1 : 1 ≤ f) (h4 : f ≤ 4) : f = 1 ∨ f = 2 ∨ f = 3 ∨ f = 4 := by omega
def stE (f st : Nat) : Nat := if f = 4 then 1 else st
def stW (f st : Nat) : Nat := if f = 3 then st + 1 else st
theorem o4b (st : Nat) (i : Bool) : oF 4 (st + 1) i = [if i then 1 else 0, 0, 1, 0] := by
  unfold oF; rw [if_neg (by decide), if_pos rfl, if_neg (c := st + 1 = 0) (by omega)]
theorem h4b (st : Nat) : hF 4 (st + 1) = [1, 0, 1, 0] := by
  unfold hF; rw [if_neg (by decide), if_pos rfl, if_neg (c := st + 1 = 0) (by omega)]
theorem enter_run (h1 : 1 ≤ f) (h4 : f ≤ 4) (hB : InRow code a (part f k 0)) (H : At code m0 a (z4 f st false r0 r1 r2 r3 r4 tp v hr mk) K) (hK : K + 30 ≤ 1000000) :
    ∃ x0 x1 x2, At code m0 (a + (part f k 0).length) (z4 f (stE f st) true x0 x1 x2 r3 r4 tp v hr mk) (K + 30) := by
  rcases f_cases h1 h4 with rfl | rfl | rfl | rfl
  · exact ⟨_, _, _, (part_go (by decide) (by decide) hB H e10 rfl (by omega)).mono (by omega) hK⟩
  · exact ⟨_, _, _, (part_go (by decide) (by decide) hB H e20 rfl (by omega)).mono (by omega) hK⟩
  · exact ⟨r0, r1, r2, (part_go (n := 0) (s' := z4 3 st false r0 r1 r2 r3 r4 tp v hr mk) (by decide) (by decide) hB H rfl rfl (by omega)).mono (by omega) hK⟩
  · cases st with
    | zero => exact ⟨_, _, _, (part_go (by decide) (by decide) hB H e40a rfl (by omega)).mono (by omega) hK⟩
    | succ st =>
      unfold z4 at H
      rw [o4b, h4b] at H
      exact ⟨_, _, _, (part_go (by decide) (by decide) hB H e40b rfl (by omega)).mono (by omega) hK⟩
theorem leave_run (h1 : 1 ≤ f) (h4 : f ≤ 4) (hB : InRow code a (part f k 1)) (hst : f = 4 → st = 1) (H : At code m0 a (z4 f st true r0 r1 r2 r3 r4 tp v hr mk) K) (hK : K + 30 ≤ 1000000) :
    ∃ x0 x1 x2, At code m0 (a + (part f k 1).length) (z4 f st false x0 x1 x2 r3 r4 tp v hr mk) (K + 30) := by
  rcases f_cases h1 h4 with rfl | rfl | rfl | rfl
  · exact ⟨_, _, _, (part_go (by decide) (by decide) hB H e11 rfl (by omega)).mono (by omega) hK⟩
  · exact ⟨_, _, _, (part_go (by decide) (by decide) hB H e21 rfl (by omega)).mono (by omega) hK⟩
  · exact ⟨r0, r1, r2, (part_go (n := 0) (s' := z4 3 st true r0 r1 r2 r3 r4 tp v hr mk) (by decide) (by decide) hB H rfl rfl (by omega)).mono (by omega) hK⟩
  · obtain rfl := hst rfl
    exact ⟨_, _, _, (part_go (by decide) (by decide) hB H e41 rfl (by omega)).mono (by omega) hK⟩
theorem sum_st (st : Nat) (h : st < 100000) : sum2 2 (1 + 2 * (st : Int)) 2 = 1 + 2 * ((st + 1 : Nat) : Int) := by
  unfold sum2
  simp only
  rw [if_neg (by unfold W32; omega)]
  omega
theorem wait_run (h1 : 1 ≤ f) (h4 : f ≤ 4) (hs : st < 100000) (hB : InRow code a (part f k 4)) (H : At code m0 a (z4 f st false r0 r1 r2 r3 r4 tp v hr mk) K) (hK : K + 50 ≤ 1000000) :
    ∃ x0 x1 x2, At code m0 (a + (part f k 4).length) (z4 f (stW f st) false x0 x1 x2 r3 r4 tp v hr mk) (K + 50) := by
  rcases f_cases h1 h4 with rfl | rfl | rfl | rfl
  · exact ⟨_, _, _, (part_go (by decide) (by decide) hB H e14 rfl (by omega)).mono (by omega) hK⟩
  · exact ⟨_, _, _, (part_go (by decide) (by decide) hB H e24 rfl (by omega)).mono (by omega) hK⟩
  · have := (part_go (by decide) (by decide) hB H e34 rfl (by omega)).mono (show K + 32 ≤ K + 50 by omega) hK
    rw [sum_st st hs] at this
    exact ⟨_, _, _, this⟩
  · cases st with
    | zero => exact ⟨_, _, _, (part_go (by decide) (by decide) hB H e44a rfl (by omega)).mono (by omega) hK⟩
    | succ st =>
      unfold z4 at H
      rw [o4b, h4b] at H
      have := (part_go (by decide) (by decide) hB H e44b rfl (by omega)).mono (show K + 49 ≤ K + 50 by omega) hK
      refine ⟨0, 0, 0, ?_⟩
      show At code m0 _ ⟨0, [0, 0, 0, r3, r4, tp, 1, 2], ⟨oF 4 (st + 1) false, hF 4 (st + 1), v⟩, hr, mk⟩ _
      rw [o4b, h4b]
      exact this
theorem gone_run (h1 : 1 ≤ f) (h4 : f ≤ 4) (hB : InRow code a (part f k 3)) (H : At code m0 a (z4 f st false r0 r1 r2 r3 r4 tp v hr mk) K) (hK : K + 3 ≤ 1000000) :
    ∃ s', s'.pc = 0 ∧ s'.ms = mk ∧ At code m0 (a + (part f k 3).length) s' (K + 3) := by
  rcases f_cases h1 h4 with rfl | rfl | rfl | rfl
  · exact ⟨_, rfl, rfl, (part_go (n := 0) (s' := z4 1 st false r0 r1 r2 r3 r4 tp v hr mk) (by decide) (by decide) hB H rfl rfl (by omega)).mono (by omega) hK⟩
  · exact ⟨_, rfl, rfl, (part_go (n := 0) (s' := z4 2 st false r0 r1 r2 r3 r4 tp v hr mk) (by decide) (by decide) hB H rfl rfl (by omega)).mono (by omega) hK⟩
  · exact ⟨_, rfl, rfl, part_go (by decide) (by decide) hB H e33 rfl (by omega)⟩
  · exact ⟨_, rfl, rfl, (part_go (n := 0) (s' := z4 4 st false r0 r1 r2 r3 r4 tp v hr mk) (by decide) (by decide) hB H rfl rfl (by omega)).mono (by omega) hK⟩
end Qo
end
