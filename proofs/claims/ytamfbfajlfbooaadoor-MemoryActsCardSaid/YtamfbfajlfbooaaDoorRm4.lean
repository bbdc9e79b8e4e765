/- Texts that belong together, joined. -/
import Derived.Test.YtamfbfajlfbooaaDoorRm2
import Derived.Test.YtamfbfajlfbooaaDoorREmitOp
import Derived.BigRegion
import Derived.OwnWalk
set_option linter.unusedVariables false
set_option linter.unusedSimpArgs false
set_option linter.unusedSectionVars false
/- (*emit.Code).To, .Label. -/
section
namespace Go.Proofs.YtamfbfajlfbooaaDoor
open Go.RowKit Qs Qh
set_option maxHeartbeats 1000000 in
theorem to0_any (w : World) (b o : Nat) (v : Value) (l : List Instr) (E : Emit insT w b o v l) (hlen : l.length ≤ 1000000) (n : Nat) (s : ByteArray) (hs : opStr n = s) (to : List UInt8) (ls : ByteArray) (hls : (⟨to.toArray⟩ : ByteArray) = ls) :
    Calls Tryd.prog 104 #[.pointer (some ⟨b, o, none⟩), .string ls, .string s, .slice none 0 0] w (Emitted w b o v (l ++ [⟨n, 0, 0, 0, to⟩])) := by
  have HE := Lib.hid E
  have Hls := Lib.hid hls
  have Hs := Lib.hid hs
  have Hlt := E.lt
  clear E hls hs
  go_enter Tryd.func104, Tryd.ntmps104
  go_wp2_with fail
  refine (op0_any w b o v l HE.out hlen n s Hs.out).mono ?_
  rintro e w1 ⟨rfl, v1, E1, G1⟩
  obtain ⟨g, cp, rfl, hg, hc, hf⟩ := E1.row.last
  have c4 := hc 4 _ rfl
  have f4 := hf (l.length * 5 + 4)
  have ec := E1.cell
  have hb1 := E1.lt
  have HE1 := Lib.hid E1
  have HG1 := Lib.hid G1
  clear E1 G1 hc hf
  go_wp2
  go_region
  all_goals go_wp2
  all_goals go_ret
  all_goals
    have := both_drew Hlt (Emit.setTo to HG1.out Hlt HE1.out)
    rw [show sv to = .string ls from by unfold sv; rw [Hls.out]] at this
    exact ⟨rfl, _, this⟩
set_option maxHeartbeats 1000000 in
theorem to1_any (w : World) (b o : Nat) (v : Value) (l : List Instr) (E : Emit insT w b o v l) (hlen : l.length ≤ 1000000) (n : Nat) (s : ByteArray) (hs : opStr n = s) (to : List UInt8) (ls : ByteArray) (hls : (⟨to.toArray⟩ : ByteArray) = ls) (nb : Nat) (x : Int) (c : Nat) (h0 : w.cell? ⟨nb, 0, none⟩ = some (.int .i64 x)) (hnb : nb < w.heap.size) :
    Calls Tryd.prog 104 #[.pointer (some ⟨b, o, none⟩), .string ls, .string s, .slice (some ⟨nb, 0, none⟩) 1 c] w (Emitted w b o v (l ++ [⟨n, x, 0, 0, to⟩])) := by
  have HE := Lib.hid E
  have Hls := Lib.hid hls
  have Hs := Lib.hid hs
  have Hlt := E.lt
  clear E hls hs
  go_enter Tryd.func104, Tryd.ntmps104
  go_wp2_with fail
  refine (op1_any w b o v l HE.out hlen n s Hs.out nb x c h0 hnb).mono ?_
  rintro e w1 ⟨rfl, v1, E1, G1⟩
  obtain ⟨g, cp, rfl, hg, hc, hf⟩ := E1.row.last
  have c4 := hc 4 _ rfl
  have f4 := hf (l.length * 5 + 4)
  have ec := E1.cell
  have hb1 := E1.lt
  have HE1 := Lib.hid E1
  have HG1 := Lib.hid G1
  clear E1 G1 hc hf
  go_wp2
  go_region
  all_goals go_wp2
  all_goals go_ret
  all_goals
    have := both_drew Hlt (Emit.setTo to HG1.out Hlt HE1.out)
    rw [show sv to = .string ls from by unfold sv; rw [Hls.out]] at this
    exact ⟨rfl, _, this⟩
set_option maxHeartbeats 1000000 in
theorem to2_any (w : World) (b o : Nat) (v : Value) (l : List Instr) (E : Emit insT w b o v l) (hlen : l.length ≤ 1000000) (n : Nat) (s : ByteArray) (hs : opStr n = s) (to : List UInt8) (ls : ByteArray) (hls : (⟨to.toArray⟩ : ByteArray) = ls) (nb : Nat) (x y : Int) (c : Nat) (h0 : w.cell? ⟨nb, 0, none⟩ = some (.int .i64 x)) (h1 : w.cell? ⟨nb, 1, none⟩ = some (.int .i64 y)) (hnb : nb < w.heap.size) :
    Calls Tryd.prog 104 #[.pointer (some ⟨b, o, none⟩), .string ls, .string s, .slice (some ⟨nb, 0, none⟩) 2 c] w (Emitted w b o v (l ++ [⟨n, x, y, 0, to⟩])) := by
  have HE := Lib.hid E
  have Hls := Lib.hid hls
  have Hs := Lib.hid hs
  have Hlt := E.lt
  clear E hls hs
  go_enter Tryd.func104, Tryd.ntmps104
  go_wp2_with fail
  refine (op2_any w b o v l HE.out hlen n s Hs.out nb x y c h0 h1 hnb).mono ?_
  rintro e w1 ⟨rfl, v1, E1, G1⟩
  obtain ⟨g, cp, rfl, hg, hc, hf⟩ := E1.row.last
  have c4 := hc 4 _ rfl
  have f4 := hf (l.length * 5 + 4)
  have ec := E1.cell
  have hb1 := E1.lt
  have HE1 := Lib.hid E1
  have HG1 := Lib.hid G1
  clear E1 G1 hc hf
  go_wp2
  go_region
  all_goals go_wp2
  all_goals go_ret
  all_goals
    have := both_drew Hlt (Emit.setTo to HG1.out Hlt HE1.out)
    rw [show sv to = .string ls from by unfold sv; rw [Hls.out]] at this
    exact ⟨rfl, _, this⟩
theorem label_any (w : World) (b o : Nat) (v : Value) (l : List Instr) (E : Emit insT w b o v l) (hlen : l.length ≤ 1000000) (to : List UInt8) (ls : ByteArray) (hls : (⟨to.toArray⟩ : ByteArray) = ls) :
    Calls Tryd.prog 102 #[.pointer (some ⟨b, o, none⟩), .string ls] w (Emitted w b o v (l ++ [⟨17, 0, 0, 0, to⟩])) := by
  have HE := Lib.hid E
  have Hls := Lib.hid hls
  clear E hls
  go_enter Tryd.func102, Tryd.ntmps102
  go_wp2_with fail
  refine (to0_any w b o v l HE.out hlen 17 _ rfl to ls Hls.out).mono ?_
  rintro e w1 ⟨rfl, h⟩
  have H := Lib.hid h
  clear h
  go_wp2
  go_ret
  exact ⟨rfl, H.out⟩
end Go.Proofs.YtamfbfajlfbooaaDoor
end
/- Code made piece by piece: the calls in a row. -/
section
namespace Go.Proofs.YtamfbfajlfbooaaDoor
open Go.RowKit Qs Qh
/-- The code so far, since the world w0. -/
def Chain (w0 : World) (b o : Nat) (v0 : Value) (l : List Instr) (w : World) : Prop := b < w0.heap.size ∧ ∃ v, Emit insT w b o v l ∧ Grew w0 w b o v0 v
theorem Chain.quiet {w0 w w' : World} {b o : Nat} {v0 : Value} {l : List Instr} (h : Chain w0 b o v0 l w) (hq : Mod noF w w') : Chain w0 b o v0 l w' := by
  obtain ⟨hb, v, E, G⟩ := h
  exact ⟨hb, v, E.quiet hq, G.quiet E.lt hq⟩
theorem Chain.start {w : World} {b o : Nat} {v : Value} {l : List Instr} (E : Emit insT w b o v l) : Chain w b o v l w :=
  ⟨E.lt, v, E, ⟨Mod.refl _ _, fun _ _ _ h => h, fun _ h => h, fun _ h => .inl h⟩⟩
theorem Chain.next {w0 w w' : World} {b o : Nat} {v0 v : Value} {l' : List Instr} (hb : b < w0.heap.size) (G : Grew w0 w b o v0 v) {e : Ending} (h : Emitted w b o v l' e w') : e = .returned (.pointer (some ⟨b, o, none⟩)) ∧ Chain w0 b o v0 l' w' := by
  obtain ⟨he, v', E', G'⟩ := h
  exact ⟨he, hb, v', E', Grew.trans hb G G'⟩
variable {w0 w : World} {b o : Nat} {v0 : Value} {l : List Instr}
theorem op0_chain (C : Chain w0 b o v0 l w) (hlen : l.length ≤ 1000000) (n : Nat) (s : ByteArray) (hs : opStr n = s)  :
    Calls Tryd.prog 103 #[.pointer (some ⟨b, o, none⟩), .string s, .slice none 0 0] w fun e w' => e = .returned (.pointer (some ⟨b, o, none⟩)) ∧ Chain w0 b o v0 (l ++ [⟨n, 0, 0, 0, []⟩]) w' := by
  obtain ⟨hb, v, E, G⟩ := C
  exact (op0_any w b o v l E hlen n s hs).mono fun e w' h => Chain.next hb G h
theorem op1_chain (C : Chain w0 b o v0 l w) (hlen : l.length ≤ 1000000) (n : Nat) (s : ByteArray) (hs : opStr n = s)  (nb : Nat) (x : Int) (c : Nat) (h0 : w.cell? ⟨nb, 0, none⟩ = some (.int .i64 x)) (hnb : nb < w.heap.size) :
    Calls Tryd.prog 103 #[.pointer (some ⟨b, o, none⟩), .string s, .slice (some ⟨nb, 0, none⟩) 1 c] w fun e w' => e = .returned (.pointer (some ⟨b, o, none⟩)) ∧ Chain w0 b o v0 (l ++ [⟨n, x, 0, 0, []⟩]) w' := by
  obtain ⟨hb, v, E, G⟩ := C
  exact (op1_any w b o v l E hlen n s hs nb x c h0 hnb).mono fun e w' h => Chain.next hb G h
theorem op2_chain (C : Chain w0 b o v0 l w) (hlen : l.length ≤ 1000000) (n : Nat) (s : ByteArray) (hs : opStr n = s)  (nb : Nat) (x y : Int) (c : Nat) (h0 : w.cell? ⟨nb, 0, none⟩ = some (.int .i64 x)) (h1 : w.cell? ⟨nb, 1, none⟩ = some (.int .i64 y)) (hnb : nb < w.heap.size) :
    Calls Tryd.prog 103 #[.pointer (some ⟨b, o, none⟩), .string s, .slice (some ⟨nb, 0, none⟩) 2 c] w fun e w' => e = .returned (.pointer (some ⟨b, o, none⟩)) ∧ Chain w0 b o v0 (l ++ [⟨n, x, y, 0, []⟩]) w' := by
  obtain ⟨hb, v, E, G⟩ := C
  exact (op2_any w b o v l E hlen n s hs nb x y c h0 h1 hnb).mono fun e w' h => Chain.next hb G h
theorem op3_chain (C : Chain w0 b o v0 l w) (hlen : l.length ≤ 1000000) (n : Nat) (s : ByteArray) (hs : opStr n = s)  (nb : Nat) (x y z : Int) (c : Nat) (h0 : w.cell? ⟨nb, 0, none⟩ = some (.int .i64 x)) (h1 : w.cell? ⟨nb, 1, none⟩ = some (.int .i64 y)) (h2 : w.cell? ⟨nb, 2, none⟩ = some (.int .i64 z)) (hnb : nb < w.heap.size) :
    Calls Tryd.prog 103 #[.pointer (some ⟨b, o, none⟩), .string s, .slice (some ⟨nb, 0, none⟩) 3 c] w fun e w' => e = .returned (.pointer (some ⟨b, o, none⟩)) ∧ Chain w0 b o v0 (l ++ [⟨n, x, y, z, []⟩]) w' := by
  obtain ⟨hb, v, E, G⟩ := C
  exact (op3_any w b o v l E hlen n s hs nb x y z c h0 h1 h2 hnb).mono fun e w' h => Chain.next hb G h
theorem to0_chain (C : Chain w0 b o v0 l w) (hlen : l.length ≤ 1000000) (n : Nat) (s : ByteArray) (hs : opStr n = s) (to : List UInt8) (ls : ByteArray) (hls : (⟨to.toArray⟩ : ByteArray) = ls) :
    Calls Tryd.prog 104 #[.pointer (some ⟨b, o, none⟩), .string ls, .string s, .slice none 0 0] w fun e w' => e = .returned (.pointer (some ⟨b, o, none⟩)) ∧ Chain w0 b o v0 (l ++ [⟨n, 0, 0, 0, to⟩]) w' := by
  obtain ⟨hb, v, E, G⟩ := C
  exact (to0_any w b o v l E hlen n s hs to ls hls).mono fun e w' h => Chain.next hb G h
theorem to1_chain (C : Chain w0 b o v0 l w) (hlen : l.length ≤ 1000000) (n : Nat) (s : ByteArray) (hs : opStr n = s) (to : List UInt8) (ls : ByteArray) (hls : (⟨to.toArray⟩ : ByteArray) = ls) (nb : Nat) (x : Int) (c : Nat) (h0 : w.cell? ⟨nb, 0, none⟩ = some (.int .i64 x)) (hnb : nb < w.heap.size) :
    Calls Tryd.prog 104 #[.pointer (some ⟨b, o, none⟩), .string ls, .string s, .slice (some ⟨nb, 0, none⟩) 1 c] w fun e w' => e = .returned (.pointer (some ⟨b, o, none⟩)) ∧ Chain w0 b o v0 (l ++ [⟨n, x, 0, 0, to⟩]) w' := by
  obtain ⟨hb, v, E, G⟩ := C
  exact (to1_any w b o v l E hlen n s hs to ls hls nb x c h0 hnb).mono fun e w' h => Chain.next hb G h
theorem to2_chain (C : Chain w0 b o v0 l w) (hlen : l.length ≤ 1000000) (n : Nat) (s : ByteArray) (hs : opStr n = s) (to : List UInt8) (ls : ByteArray) (hls : (⟨to.toArray⟩ : ByteArray) = ls) (nb : Nat) (x y : Int) (c : Nat) (h0 : w.cell? ⟨nb, 0, none⟩ = some (.int .i64 x)) (h1 : w.cell? ⟨nb, 1, none⟩ = some (.int .i64 y)) (hnb : nb < w.heap.size) :
    Calls Tryd.prog 104 #[.pointer (some ⟨b, o, none⟩), .string ls, .string s, .slice (some ⟨nb, 0, none⟩) 2 c] w fun e w' => e = .returned (.pointer (some ⟨b, o, none⟩)) ∧ Chain w0 b o v0 (l ++ [⟨n, x, y, 0, to⟩]) w' := by
  obtain ⟨hb, v, E, G⟩ := C
  exact (to2_any w b o v l E hlen n s hs to ls hls nb x y c h0 h1 hnb).mono fun e w' h => Chain.next hb G h
theorem label_chain (C : Chain w0 b o v0 l w) (hlen : l.length ≤ 1000000) (to : List UInt8) (ls : ByteArray) (hls : (⟨to.toArray⟩ : ByteArray) = ls) :
    Calls Tryd.prog 102 #[.pointer (some ⟨b, o, none⟩), .string ls] w fun e w' => e = .returned (.pointer (some ⟨b, o, none⟩)) ∧ Chain w0 b o v0 (l ++ [⟨17, 0, 0, 0, to⟩]) w' := by
  obtain ⟨hb, v, E, G⟩ := C
  exact (label_any w b o v l E hlen to ls hls).mono fun e w' h => Chain.next hb G h
/-- Code that a function has made of its own: its slice, in new blocks. -/
def Made (l : List Instr) (w : World) (v : Value) (w' : World) : Prop := InsRow insT w' v l ∧ Below w.heap.size w w' ∧ ∀ g, v.ownBlock = some g → w.heap.size ≤ g
theorem Chain.made {v0 : Value} {w1 : World} (C : Chain w0 b o v0 l w1) (hv0 : ∀ g, v0.ownBlock = some g → w.heap.size ≤ g) (hw : Mod noF w w0) (hb : w.heap.size ≤ b) : ∃ v, w1.cell? ⟨b, o, none⟩ = some v ∧ Made l w v w1 := by
  obtain ⟨hb0, v, E, G⟩ := C
  obtain ⟨h1, h2⟩ := G.below hw.size hb hv0
  exact ⟨v, E.cell, E.row, hw.toBelow.trans h1, h2⟩
end Go.Proofs.YtamfbfajlfbooaaDoor
end
/- Appends of code onto a row of one's own. -/
section
namespace Go.Proofs.YtamfbfajlfbooaaDoor
open Go.RowKit Qs Qh
theorem InsRow.src {w : World} {v : Value} {l : List Instr} (h : InsRow insT w v l) (hl : 0 < l.length) : ∃ g c, v = .slice (some ⟨g, 0, none⟩) l.length c ∧ ∀ j u, (flat insV 0 l)[j]? = some u → w.cell? ((⟨g, 0, none⟩ : Addr).add j) = some u := by
  rcases h.2 with ⟨rfl, h0⟩ | ⟨g, cap, cur, rfl, _, hg, _⟩
  · omega
  · exact ⟨g, cap, rfl, World.ownsRow.cells h (g := g) rfl⟩
/-- A row of code of one's own (v: l), another one beside it (u: k), all in blocks that are newer than W. -/
structure InsRows (W w : World) (v : Value) (l : List Instr) (u : Value) (k : List Instr) : Prop where
  row : InsRow insT w v l
  other : InsRow insT w u k
  below : Below W.heap.size W w
  own : ∀ g, v.ownBlock = some g → W.heap.size ≤ g
  ne : ∀ g, v.ownBlock = some g → ¬ u.ownBlock = some g
theorem InsRows.start (W : World) : InsRows W W (.slice none 0 0) [] (.slice none 0 0) [] := ⟨InsRow.nil _ _, InsRow.nil _ _, Below.refl _ _, (fun g h => by cases h), (fun g h => by cases h)⟩
theorem InsRows.quiet {W w w' : World} {v u : Value} {l k : List Instr} (h : InsRows W w v l u k) (hq : Mod noF w w') : InsRows W w' v l u k :=
  ⟨h.row.keep hq (fun _ _ e => e), h.other.keep hq (fun _ _ e => e), h.below.trans (hq.toBelow.mono h.below.size), h.own, h.ne⟩
theorem InsRows.made {W w w' : World} {v u : Value} {l k : List Instr} (h : InsRows W w v l u k) {x : Value} {a : List Instr} (hm : Made a w x w') : InsRows W w' v l x a := by
  have hq := Mod.below hm.2.1
  refine ⟨h.row.keep hq (fun _ _ e => e), hm.1, h.below.trans (hq.toBelow.mono h.below.size), h.own, fun g hg e => ?_⟩
  have h1 := h.row.lt hg
  have h2 := hm.2.2 g e
  omega
theorem InsRows.append {W w w1 w2 : World} {v u v1 : Value} {l k x : List Instr} (h : InsRows W w v l u k) (hq : Mod noF w w1)
    (hown2 : w2.ownsRow 0 insT 5 v1 (l.length + x.length) (flat insV 0 l ++ flat insV 0 x)) (hg : w1.grownBy w2 v.ownBlock) (hfr : ∀ g, v1.ownBlock = some g → v.ownBlock = some g ∨ w1.heap.size ≤ g) : InsRows W w2 v1 (l ++ x) u k := by
  have hm := appended hg hq
  have hsz := h.below.size
  have hsz1 := hq.size
  have hrow : InsRow insT w2 v1 (l ++ x) := by unfold InsRow; rw [List.length_append, insV_append]; exact hown2
  refine ⟨hrow, h.other.keep hm fun g hg' e => h.ne g e hg', ?_, fun g hg' => ?_, fun g hg' e => ?_⟩
  · exact h.below.trans (hm.under hsz fun k hk => h.own k hk)
  · rcases hfr g hg' with e | e
    · exact h.own g e
    · omega
  · rcases hfr g hg' with e' | e'
    · exact h.ne g e' e
    · have := h.other.lt e; omega
theorem InsRows.len {W w : World} {v u : Value} {l k : List Instr} (h : InsRows W w v l u k) : ∃ a c, v = .slice a l.length c := by
  obtain ⟨a, c, e, _⟩ := h.row.slice
  exact ⟨a, c, e⟩
end Go.Proofs.YtamfbfajlfbooaaDoor
end
/- A start and its codes, built in memory: the law. -/
section
namespace Go.Proofs.YtamfbfajlfbooaaDoor
open Go.RowKit Qs Qh
def RowsIn (P : Nat → Prop) (w : World) (v : Value) (ll : List (List Int)) : Prop :=
  ∃ a c, v = .slice a ll.length c ∧ (∀ g, v.ownBlock = some g → P g) ∧ ∀ (i : Nat) l, ll[i]? = some l → ∃ b off u, a = some ⟨b, off, none⟩ ∧ b < w.heap.size ∧ w.cell? ⟨b, off + i, none⟩ = some u ∧ IntsAt w u l ∧ ∀ g, u.ownBlock = some g → P g ∧ g < w.heap.size
theorem RowsIn.at {P : Nat → Prop} {w : World} {v : Value} {ll : List (List Int)} (h : RowsIn P w v ll) : RowsAt w v ll := by
  obtain ⟨a, c, e, _, hx⟩ := h
  refine ⟨a, c, e, fun i l hi => ?_⟩
  obtain ⟨b, off, u, e1, hb, hc, hi2, ho⟩ := hx i l hi
  exact ⟨b, off, u, e1, hb, hc, hi2, fun g hg => (ho g hg).2⟩
theorem RowsIn.keep {P Q F : Nat → Prop} {w w' : World} {v : Value} {ll : List (List Int)} (h : RowsIn P w v ll) (hM : Mod F w w') (hF : ∀ g, P g → ¬ F g) (hQ : ∀ g, P g → Q g) : RowsIn Q w' v ll := by
  obtain ⟨a, c, rfl, hP, hx⟩ := h
  refine ⟨a, c, rfl, fun g hg => hQ g (hP g hg), fun i l hi => ?_⟩
  obtain ⟨b, off, u, rfl, hb, hc, hi2, ho⟩ := hx i l hi
  exact ⟨b, off, u, rfl, Nat.lt_of_lt_of_le hb hM.size, hM.cell hc (hF b (hP b rfl)), hi2.frame hM (fun g hg => hF g (ho g hg).1), fun g hg => ⟨hQ g (ho g hg).1, Nat.lt_of_lt_of_le (ho g hg).2 hM.size⟩⟩
/-- A block that no append and no store of the building turns. -/
def Out (B : Nat) (v u : Value) (g : Nat) : Prop := g ≠ B ∧ ¬ v.ownBlock = some g ∧ ¬ u.ownBlock = some g
structure SetRel (W : World) (B n : Nat) (iw : Value) (init : List (List Int)) (v u : Value) (codes : List (List Instr)) (regs : List (List Int)) (cv rv : Nat → Value) (wr : World) : Prop where
  box : wr.heap[B]? = some (.cells #[.int .i64 n, iw, u] 26 (0, 0))
  vrow : wr.ownsRow 0 28 1 v codes.length ((List.range codes.length).map cv)
  urow : wr.ownsRow 0 23 1 u regs.length ((List.range regs.length).map rv)
  code : ∀ (i : Nat) c, codes[i]? = some c → CodeAt wr (cv i) c ∧ ∀ g, (cv i).ownBlock = some g → Out B v u g ∧ g < wr.heap.size
  reg : ∀ (i : Nat) l, regs[i]? = some l → IntsAt wr (rv i) l ∧ ∀ g, (rv i).ownBlock = some g → Out B v u g ∧ g < wr.heap.size
  ini : RowsIn (fun g => Out B v u g ∧ g < wr.heap.size) wr iw init
  vB : ¬ v.ownBlock = some B
  uB : ¬ u.ownBlock = some B
  vu : ∀ g, v.ownBlock = some g → ¬ u.ownBlock = some g
  below : Below W.heap.size W wr
  hB : W.heap.size ≤ B
  hv : ∀ g, v.ownBlock = some g → W.heap.size ≤ g
  hu : ∀ g, u.ownBlock = some g → W.heap.size ≤ g
variable {W wr w1 w2 w3 : World} {B n : Nat} {iw : Value} {init regs : List (List Int)} {v u v1 u1 x : Value} {codes : List (List Instr)} {cv rv : Nat → Value}
theorem owns_mod {w w' : World} {F : Nat → Prop} {T : TypeId} {sz k : Nat} {v : Value} {xs : List Value} (h : w.ownsRow 0 T sz v k xs) (hM : Mod F w w') (hF : ∀ g, v.ownBlock = some g → ¬ F g) : w'.ownsRow 0 T sz v k xs := by
  refine ⟨h.1, ?_⟩
  rcases h.2 with e | ⟨g, cap, cur, rfl, h0, hg, r⟩
  · exact .inl e
  · exact .inr ⟨g, cap, cur, rfl, h0, hM.heap hg (hF g rfl), r⟩
theorem SetRel.quiet (h : SetRel W B n iw init v u codes regs cv rv wr) (hq : Mod noF wr w1) : SetRel W B n iw init v u codes regs cv rv w1 := by
  have hs := hq.size
  refine ⟨hq.heap h.box (fun e => e), owns_mod h.vrow hq (fun _ _ e => e), owns_mod h.urow hq (fun _ _ e => e), fun i c hi => ?_, fun i l hi => ?_, h.ini.keep hq (fun _ _ e => e) (fun g hg => ⟨hg.1, by omega⟩), h.vB, h.uB, h.vu, h.below.trans (hq.toBelow.mono h.below.size), h.hB, h.hv, h.hu⟩
  · obtain ⟨a, b⟩ := h.code i c hi
    exact ⟨a.frame hq (fun _ _ e => e), fun g hg => ⟨(b g hg).1, by have := (b g hg).2; omega⟩⟩
  · obtain ⟨a, b⟩ := h.reg i l hi
    exact ⟨a.frame0 hq, fun g hg => ⟨(b g hg).1, by have := (b g hg).2; omega⟩⟩
theorem range_map_snoc (f : Nat → Value) (x : Value) (k : Nat) : (List.range (k + 1)).map (fun i => if i = k then x else f i) = (List.range k).map f ++ [x] := by
  rw [List.range_succ, List.map_append]
  congr 1
  · apply List.map_congr_left
    intro i hi
    have := List.mem_range.1 hi
    rw [if_neg (by omega)]
  · simp
theorem SetRel.addCode (h : SetRel W B n iw init v u codes regs cv rv wr) {c : List Instr} (hc : CodeAt w1 x c) (hx : ∀ g, x.ownBlock = some g → Out B v u g ∧ g < w1.heap.size) (hq : Mod noF wr w1)
    (hown : w2.ownsRow 0 28 1 v1 (codes.length + 1) ((List.range codes.length).map cv ++ [x])) (hg : w1.grownBy w2 v.ownBlock) (hfr : ∀ g, v1.ownBlock = some g → v.ownBlock = some g ∨ w1.heap.size ≤ g) :
    SetRel W B n iw init v1 u (codes ++ [c]) regs (fun i => if i = codes.length then x else cv i) rv w2 := by
  have h1 := h.quiet hq
  have hM : Mod (fun g => v.ownBlock = some g) w1 w2 := (Mod.refl (fun g => v.ownBlock = some g) w1).grown hg fun k hk _ => hk
  have hs := hM.size
  have hout : ∀ g, Out B v u g → g < w1.heap.size → Out B v1 u g := fun g ho hlt => ⟨ho.1, fun e => (hfr g e).elim ho.2.1 (fun e2 => by omega), ho.2.2⟩
  have hbu : ∀ g, u.ownBlock = some g → g < w1.heap.size := fun g hg => (World.ownsRow.lt h1.urow g hg).2
  have hbB := lt_of_block h1.box
  refine ⟨hM.heap h1.box h.vB, ?_, owns_mod h1.urow hM (fun g hg e => h.vu g e hg), fun i d hi => ?_, fun i l hi => ?_, h1.ini.keep hM (fun g hg => hg.1.2.1) (fun g hg => ⟨hout g hg.1 hg.2, by omega⟩), ?_, h.uB, ?_, h1.below.trans (hM.under h1.below.size h.hv), h.hB, ?_, h.hu⟩
  · rw [List.length_append]
    show w2.ownsRow 0 _ 1 v1 (codes.length + 1) _
    rw [show (codes.length + [c].length) = codes.length + 1 from rfl, range_map_snoc]; exact hown
  · by_cases e : i = codes.length
    · subst e
      simp at hi; subst hi
      simp only [if_true]
      exact ⟨hc.frame hM (fun g hg e => (hx g hg).1.2.1 e), fun g hg => ⟨hout g (hx g hg).1 (hx g hg).2, by have := (hx g hg).2; omega⟩⟩
    · have hlt : i < codes.length := by
        have := (List.getElem?_eq_some_iff.1 hi).1
        simp at this; omega
      rw [List.getElem?_append_left hlt] at hi
      obtain ⟨a, b⟩ := h1.code i d hi
      simp only [if_neg e]
      exact ⟨a.frame hM (fun g hg => (b g hg).1.2.1), fun g hg => ⟨hout g (b g hg).1 (b g hg).2, by have := (b g hg).2; omega⟩⟩
  · obtain ⟨a, b⟩ := h1.reg i l hi
    exact ⟨a.frame hM (fun g hg => (b g hg).1.2.1), fun g hg => ⟨hout g (b g hg).1 (b g hg).2, by have := (b g hg).2; omega⟩⟩
  · intro e
    rcases hfr _ e with e2 | e2
    · exact h.vB e2
    · omega
  · intro g hg e
    rcases hfr g hg with e2 | e2
    · exact h.vu g e2 e
    · have := hbu g e; omega
  · intro g hg
    rcases hfr g hg with e2 | e2
    · exact h.hv g e2
    · have := h1.below.size; omega
theorem SetRel.addReg (h : SetRel W B n iw init v u codes regs cv rv wr) {l : List Int} (hc : IntsAt w1 x l) (hx : ∀ g, x.ownBlock = some g → Out B v u g ∧ g < w1.heap.size) (hq : Mod noF wr w1)
    (hown : w2.ownsRow 0 23 1 u1 (regs.length + 1) ((List.range regs.length).map rv ++ [x])) (hg : w1.grownBy w2 u.ownBlock) (hfr : ∀ g, u1.ownBlock = some g → u.ownBlock = some g ∨ w1.heap.size ≤ g) :
    SetRel W B n iw init v u1 codes (regs ++ [l]) cv (fun i => if i = regs.length then x else rv i) (w2.setCell ⟨B, 2, none⟩ u1) := by
  have h1 := h.quiet hq
  have hM1 : Mod (fun g => u.ownBlock = some g) w1 w2 := (Mod.refl (fun g => u.ownBlock = some g) w1).grown hg fun k hk _ => hk
  have hM2 : Mod (fun g => g = B) w2 (w2.setCell ⟨B, 2, none⟩ u1) := (Mod.refl (fun g => g = B) w2).setCell (fun _ => rfl) u1
  have hM : Mod (fun g => u.ownBlock = some g ∨ g = B) w1 (w2.setCell ⟨B, 2, none⟩ u1) := (hM1.mono fun g _ hg => .inl hg).trans hM2 fun g _ hg => .inr hg
  have hs := hM.size
  have hout : ∀ g, Out B v u g → g < w1.heap.size → Out B v u1 g := fun g ho hlt => ⟨ho.1, ho.2.1, fun e => (hfr g e).elim ho.2.2 (fun e2 => by omega)⟩
  have hF : ∀ g, Out B v u g → ¬ (u.ownBlock = some g ∨ g = B) := fun g ho e => e.elim ho.2.2 ho.1
  have hbv : ∀ g, v.ownBlock = some g → g < w1.heap.size := fun g hg => (World.ownsRow.lt h1.vrow g hg).2
  have hbB := lt_of_block h1.box
  have huB : ¬ u1.ownBlock = some B := fun e => by
    rcases hfr _ e with e2 | e2
    · exact h.uB e2
    · omega
  refine ⟨?_, owns_mod h1.vrow hM (fun g hg e => e.elim (fun e2 => h.vu g hg e2) (fun e2 => h.vB (e2 ▸ hg))), ?_, fun i c hi => ?_, fun i m hi => ?_, h1.ini.keep hM (fun g hg => hF g hg.1) (fun g hg => ⟨hout g hg.1 hg.2, by omega⟩), h.vB, huB, ?_, h1.below.trans (hM.under h1.below.size (fun g hg => hg.elim (fun e => h.hu g e) (fun e => by have := h.hB; omega))), h.hB, h.hv, ?_⟩
  · rw [Qh.heap_setCell_same (hM1.heap h1.box h.uB)]; simp
  · rw [List.length_append]
    rw [show (regs.length + [l].length) = regs.length + 1 from rfl, range_map_snoc]
    exact owns_mod hown hM2 (fun g hg e => huB (e ▸ hg))
  · obtain ⟨a, b⟩ := h1.code i c hi
    exact ⟨a.frame hM (fun g hg => hF g (b g hg).1), fun g hg => ⟨hout g (b g hg).1 (b g hg).2, by have := (b g hg).2; omega⟩⟩
  · by_cases e : i = regs.length
    · subst e
      simp at hi; subst hi
      simp only [if_true]
      exact ⟨hc.frame hM (fun g hg => hF g (hx g hg).1), fun g hg => ⟨hout g (hx g hg).1 (hx g hg).2, by have := (hx g hg).2; omega⟩⟩
    · have hlt : i < regs.length := by
        have := (List.getElem?_eq_some_iff.1 hi).1
        simp at this; omega
      rw [List.getElem?_append_left hlt] at hi
      obtain ⟨a, b⟩ := h1.reg i m hi
      simp only [if_neg e]
      exact ⟨a.frame hM (fun g hg => hF g (b g hg).1), fun g hg => ⟨hout g (b g hg).1 (b g hg).2, by have := (b g hg).2; omega⟩⟩
  · intro g hg e
    rcases hfr g e with e2 | e2
    · exact h.vu g hg e2
    · have := hbv g hg; omega
  · intro g hg
    rcases hfr g hg with e2 | e2
    · exact h.hu g e2
    · have := h1.below.size; omega
/-- A row of one-cell values, read. -/
theorem row_cells {w : World} {T : TypeId} {v : Value} {k : Nat} {f : Nat → Value} (h : w.ownsRow 0 T 1 v k ((List.range k).map f)) : ∃ a c, v = .slice a k c ∧ ∀ i, i < k → ∃ b, a = some ⟨b, 0, none⟩ ∧ b < w.heap.size ∧ w.cell? ⟨b, 0 + i, none⟩ = some (f i) := by
  rcases h.2 with ⟨rfl, rfl⟩ | ⟨g, cap, cur, rfl, _, hg, _⟩
  · exact ⟨none, 0, rfl, fun i hi => absurd hi (by omega)⟩
  · refine ⟨_, _, rfl, fun i hi => ⟨g, rfl, lt_of_block hg, ?_⟩⟩
    have := World.ownsRow.cells h (g := g) rfl i (f i) (by simp [hi])
    have hadd : (⟨g, 0, none⟩ : Addr).add i = ⟨g, 0 + i, none⟩ := by unfold Addr.add; split <;> simp_all
    rw [hadd] at this; exact this
theorem SetRel.codesAt (h : SetRel W B n iw init v u codes regs cv rv wr) : CodesAt wr v codes cv := by
  obtain ⟨a, c, e, hx⟩ := row_cells h.vrow
  refine ⟨a, c, e, fun i d hi => ?_⟩
  obtain ⟨b, e1, hb, hc⟩ := hx i (List.getElem?_eq_some_iff.1 hi).1
  obtain ⟨h1, h2⟩ := h.code i d hi
  exact ⟨b, 0, e1, hb, hc, h1, fun g hg => (h2 g hg).2⟩
theorem SetRel.regs_ (h : SetRel W B n iw init v u codes regs cv rv wr) : RowsAt wr u regs := by
  obtain ⟨a, c, e, hx⟩ := row_cells h.urow
  refine ⟨a, c, e, fun i d hi => ?_⟩
  obtain ⟨b, e1, hb, hc⟩ := hx i (List.getElem?_eq_some_iff.1 hi).1
  obtain ⟨h1, h2⟩ := h.reg i d hi
  exact ⟨b, 0, _, e1, hb, hc, h1, fun g hg => (h2 g hg).2⟩
end Go.Proofs.YtamfbfajlfbooaaDoor
end
