/- Code made piece by piece: the calls in a row. -/
import Derived.Test.YtamfbfajlfbooaaDoorGEmitTo
set_option linter.unusedVariables false
set_option linter.unusedSimpArgs false
set_option linter.unusedSectionVars false
namespace Go.Proofs.YtamfbfajlfbooaaDoor
open Go.RowKit Qs Qh
/-- The code so far, since the world w0. -/
def Chain (w0 : World) (b o : Nat) (v0 : Value) (l : List Instr) (w : World) : Prop := b < w0.heap.size ∧ ∃ v, Emit insT w b o v l ∧ Grew w0 w b o v0 v
theorem Chain.quiet {w0 w w' : World} {b o : Nat} {v0 : Value} {l : List Instr} (h : Chain w0 b o v0 l w) (hq : Mod noF w w') : Chain w0 b o v0 l w' := by
  obtain ⟨hb, v, E, G⟩ := h
  exact ⟨hb, v, E.quiet hq, G.quiet E.lt hq⟩
theorem Chain.start {w : World} {b o : Nat} {v : Value} {l : List Instr} (E : Emit insT w b o v l) : Chain w b o v l w :=
  ⟨E.lt, v, E, ⟨Mod.refl _ _, fun _ _ _ h => h, fun _ h => h, fun _ h => .inl h⟩⟩
theorem Chain.next {w0 w w' : World} {b o : Nat} {v0 v : Value} {l' : List Instr} (hb : b < w0.heap.size) (G : Grew w0 w b o v0 v) {e : Ending} (h : Emitted w b o v l' e w') : e = .returned (.pointer (some ⟨b, o, none⟩)) ∧ Chain w0 b o v0 l' w' := by
  obtain ⟨he, v', E', G'⟩ := h
  exact ⟨he, hb, v', E', Grew.trans hb G G'⟩
variable {w0 w : World} {b o : Nat} {v0 : Value} {l : List Instr}
theorem op0_chain (C : Chain w0 b o v0 l w) (hlen : l.length ≤ 1000000) (n : Nat) (s : ByteArray) (hs : opStr n = s)  :
    Calls Tryd.prog 103 #[.pointer (some ⟨b, o, none⟩), .string s, .slice none 0 0] w fun e w' => e = .returned (.pointer (some ⟨b, o, none⟩)) ∧ Chain w0 b o v0 (l ++ [⟨n, 0, 0, 0, []⟩]) w' := by
  obtain ⟨hb, v, E, G⟩ := C
  exact (op0_any w b o v l E hlen n s hs).mono fun e w' h => Chain.next hb G h
theorem op1_chain (C : Chain w0 b o v0 l w) (hlen : l.length ≤ 1000000) (n : Nat) (s : ByteArray) (hs : opStr n = s)  (nb : Nat) (x : Int) (c : Nat) (h0 : w.cell? ⟨nb, 0, none⟩ = some (.int .i64 x)) (hnb : nb < w.heap.size) :
    Calls Tryd.prog 103 #[.pointer (some ⟨b, o, none⟩), .string s, .slice (some ⟨nb, 0, none⟩) 1 c] w fun e w' => e = .returned (.pointer (some ⟨b, o, none⟩)) ∧ Chain w0 b o v0 (l ++ [⟨n, x, 0, 0, []⟩]) w' := by
  obtain ⟨hb, v, E, G⟩ := C
  exact (op1_any w b o v l E hlen n s hs nb x c h0 hnb).mono fun e w' h => Chain.next hb G h
theorem op2_chain (C : Chain w0 b o v0 l w) (hlen : l.length ≤ 1000000) (n : Nat) (s : ByteArray) (hs : opStr n = s)  (nb : Nat) (x y : Int) (c : Nat) (h0 : w.cell? ⟨nb, 0, none⟩ = some (.int .i64 x)) (h1 : w.cell? ⟨nb, 1, none⟩ = some (.int .i64 y)) (hnb : nb < w.heap.size) :
    Calls Tryd.prog 103 #[.pointer (some ⟨b, o, none⟩), .string s, .slice (some ⟨nb, 0, none⟩) 2 c] w fun e w' => e = .returned (.pointer (some ⟨b, o, none⟩)) ∧ Chain w0 b o v0 (l ++ [⟨n, x, y, 0, []⟩]) w' := by
  obtain ⟨hb, v, E, G⟩ := C
  exact (op2_any w b o v l E hlen n s hs nb x y c h0 h1 hnb).mono fun e w' h => Chain.next hb G h
theorem op3_chain (C : Chain w0 b o v0 l w) (hlen : l.length ≤ 1000000) (n : Nat) (s : ByteArray) (hs : opStr n = s)  (nb : Nat) (x y z : Int) (c : Nat) (h0 : w.cell? ⟨nb, 0, none⟩ = some (.int .i64 x)) (h1 : w.cell? ⟨nb, 1, none⟩ = some (.int .i64 y)) (h2 : w.cell? ⟨nb, 2, none⟩ = some (.int .i64 z)) (hnb : nb < w.heap.size) :
    Calls Tryd.prog 103 #[.pointer (some ⟨b, o, none⟩), .string s, .slice (some ⟨nb, 0, none⟩) 3 c] w fun e w' => e = .returned (.pointer (some ⟨b, o, none⟩)) ∧ Chain w0 b o v0 (l ++ [⟨n, x, y, z, []⟩]) w' := by
  obtain ⟨hb, v, E, G⟩ := C
  exact (op3_any w b o v l E hlen n s hs nb x y z c h0 h1 h2 hnb).mono fun e w' h => Chain.next hb G h
theorem to0_chain (C : Chain w0 b o v0 l w) (hlen : l.length ≤ 1000000) (n : Nat) (s : ByteArray) (hs : opStr n = s) (to : List UInt8) (ls : ByteArray) (hls : (⟨to.toArray⟩ : ByteArray) = ls) :
    Calls Tryd.prog 104 #[.pointer (some ⟨b, o, none⟩), .string ls, .string s, .slice none 0 0] w fun e w' => e = .returned (.pointer (some ⟨b, o, none⟩)) ∧ Chain w0 b o v0 (l ++ [⟨n, 0, 0, 0, to⟩]) w' := by
  obtain ⟨hb, v, E, G⟩ := C
  exact (to0_any w b o v l E hlen n s hs to ls hls).mono fun e w' h => Chain.next hb G h
theorem to1_chain (C : Chain w0 b o v0 l w) (hlen : l.length ≤ 1000000) (n : Nat) (s : ByteArray) (hs : opStr n = s) (to : List UInt8) (ls : ByteArray) (hls : (⟨to.toArray⟩ : ByteArray) = ls) (nb : Nat) (x : Int) (c : Nat) (h0 : w.cell? ⟨nb, 0, none⟩ = some (.int .i64 x)) (hnb : nb < w.heap.size) :
    Calls Tryd.prog 104 #[.pointer (some ⟨b, o, none⟩), .string ls, .string s, .slice (some ⟨nb, 0, none⟩) 1 c] w fun e w' => e = .returned (.pointer (some ⟨b, o, none⟩)) ∧ Chain w0 b o v0 (l ++ [⟨n, x, 0, 0, to⟩]) w' := by
  obtain ⟨hb, v, E, G⟩ := C
  exact (to1_any w b o v l E hlen n s hs to ls hls nb x c h0 hnb).mono fun e w' h => Chain.next hb G h
theorem to2_chain (C : Chain w0 b o v0 l w) (hlen : l.length ≤ 1000000) (n : Nat) (s : ByteArray) (hs : opStr n = s) (to : List UInt8) (ls : ByteArray) (hls : (⟨to.toArray⟩ : ByteArray) = ls) (nb : Nat) (x y : Int) (c : Nat) (h0 : w.cell? ⟨nb, 0, none⟩ = some (.int .i64 x)) (h1 : w.cell? ⟨nb, 1, none⟩ = some (.int .i64 y)) (hnb : nb < w.heap.size) :
    Calls Tryd.prog 104 #[.pointer (some ⟨b, o, none⟩), .string ls, .string s, .slice (some ⟨nb, 0, none⟩) 2 c] w fun e w' => e = .returned (.pointer (some ⟨b, o, none⟩)) ∧ Chain w0 b o v0 (l ++ [⟨n, x, y, 0, to⟩]) w' := by
  obtain ⟨hb, v, E, G⟩ := C
  exact (to2_any w b o v l E hlen n s hs to ls hls nb x y c h0 h1 hnb).mono fun e w' h => Chain.next hb G h
theorem label_chain (C : Chain w0 b o v0 l w) (hlen : l.length ≤ 1000000) (to : List UInt8) (ls : ByteArray) (hls : (⟨to.toArray⟩ : ByteArray) = ls) :
    Calls Tryd.prog 102 #[.pointer (some ⟨b, o, none⟩), .string ls] w fun e w' => e = .returned (.pointer (some ⟨b, o, none⟩)) ∧ Chain w0 b o v0 (l ++ [⟨17, 0, 0, 0, to⟩]) w' := by
  obtain ⟨hb, v, E, G⟩ := C
  exact (label_any w b o v l E hlen to ls hls).mono fun e w' h => Chain.next hb G h
/-- Code that a function has made of its own: its slice, in new blocks. -/
def Made (l : List Instr) (w : World) (v : Value) (w' : World) : Prop := InsRow insT w' v l ∧ Below w.heap.size w w' ∧ ∀ g, v.ownBlock = some g → w.heap.size ≤ g
theorem Chain.made {v0 : Value} {w1 : World} (C : Chain w0 b o v0 l w1) (hv0 : ∀ g, v0.ownBlock = some g → w.heap.size ≤ g) (hw : Mod noF w w0) (hb : w.heap.size ≤ b) : ∃ v, w1.cell? ⟨b, o, none⟩ = some v ∧ Made l w v w1 := by
  obtain ⟨hb0, v, E, G⟩ := C
  obtain ⟨h1, h2⟩ := G.below hw.size hb hv0
  exact ⟨v, E.cell, E.row, hw.toBelow.trans h1, h2⟩
end Go.Proofs.YtamfbfajlfbooaaDoor
