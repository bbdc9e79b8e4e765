/- package grace: the maker of code, in memory; take, give. -/
import Derived.Test.YtamfbfajlfbooaaDoorGPreCode
import Derived.Test.YtamfbfajlfbooaaDoorGQueue
import Derived.Outline
set_option linter.unusedVariables false
set_option linter.unusedSimpArgs false
set_option linter.unusedSectionVars false
namespace Go.Proofs.YtamfbfajlfbooaaDoor
open Go.RowKit Qs Qh
/-- The maker's other fields: what it is of, its labels' first bytes. -/
structure MkAt (w : World) (b : Nat) (br : ByteArray) (fe jo co : Bool) (s : ByteArray) : Prop where
  c0 : w.cell? ⟨b, 0, none⟩ = some (.string br)
  c1 : w.cell? ⟨b, 1, none⟩ = some (.bool fe)
  c2 : w.cell? ⟨b, 2, none⟩ = some (.bool jo)
  c3 : w.cell? ⟨b, 3, none⟩ = some (.bool co)
  c5 : w.cell? ⟨b, 5, none⟩ = some (.string s)
/-- A variable of its own that code beside it reads: no block of the code's. -/
structure Cap (w : World) (b c : Nat) (u : Value) : Prop where
  cell : w.cell? ⟨c, 0, none⟩ = some u
  lt : c < w.heap.size
  ne : c ≠ b
  row : ∀ v, w.cell? ⟨b, 4, none⟩ = some v → v.ownBlock ≠ some c
variable {w0 w w1 : World} {b o : Nat} {v0 : Value} {l : List Instr} {br s : ByteArray} {fe jo co : Bool} {u : Value} {c : Nat}
theorem MkAt.quiet (M : MkAt w b br fe jo co s) (h : Mod noF w w1) : MkAt w1 b br fe jo co s :=
  ⟨h.cell M.c0 (fun e => e), h.cell M.c1 (fun e => e), h.cell M.c2 (fun e => e), h.cell M.c3 (fun e => e), h.cell M.c5 (fun e => e)⟩
theorem Chain.mk (C : Chain w0 b 4 v0 l w) (M : MkAt w0 b br fe jo co s) : MkAt w b br fe jo co s := by
  obtain ⟨hb, v, E, G⟩ := C
  exact ⟨G.cells 0 _ (by omega) M.c0, G.cells 1 _ (by omega) M.c1, G.cells 2 _ (by omega) M.c2, G.cells 3 _ (by omega) M.c3, G.cells 5 _ (by omega) M.c5⟩
theorem Chain.lt (C : Chain w0 b o v0 l w) : b < w.heap.size := by obtain ⟨hb, v, E, G⟩ := C; exact E.lt
/-- The code goes on from here. -/
theorem Chain.re (C : Chain w0 b o v0 l w) (hq : Mod noF w w1) : ∃ v, Chain w1 b o v l w1 ∧ w1.cell? ⟨b, o, none⟩ = some v ∧ (∀ k, w.heap.size ≤ k → v.ownBlock ≠ some k) ∧ ∀ l' w', Chain w1 b o v l' w' → Chain w0 b o v0 l' w' := by
  obtain ⟨hb, v, E, G⟩ := C
  have E1 := E.quiet hq
  have G1 := G.quiet E.lt hq
  refine ⟨v, Chain.start E1, E1.cell, fun k hk e => ?_, fun l' w' h => ?_⟩
  · have := E.row.lt e; omega
  · obtain ⟨_, v', E', G'⟩ := h
    exact ⟨hb, v', E', G1.trans hb G'⟩
theorem Chain.cap (C : Chain w0 b 4 v0 l w) (hq : Mod noF w w1) (hc : w.heap.size ≤ c) (hlt : c < w1.heap.size) (h : w1.cell? ⟨c, 0, none⟩ = some u) : Cap w1 b c u := by
  obtain ⟨v, C1, hv, hf, _⟩ := C.re hq
  refine ⟨h, hlt, ?_, fun v' hv' e => ?_⟩
  · have := C.lt; omega
  · rw [hv] at hv'; obtain rfl := Option.some.inj hv'; exact hf c hc e
theorem Cap.next {v : Value} {l' : List Instr} (K : Cap w b c u) (hv : w.cell? ⟨b, 4, none⟩ = some v) (C : Chain w b 4 v l' w1) : Cap w1 b c u := by
  obtain ⟨hb, v', E, G⟩ := C
  have hne := K.row v hv
  refine ⟨G.mod.cell K.cell (fun e => e.elim K.ne hne), Nat.lt_of_lt_of_le K.lt G.mod.size, K.ne, fun v2 h2 e => ?_⟩
  rw [E.cell] at h2
  obtain rfl := Option.some.inj h2
  rcases G.new c e with h | h
  · exact hne h
  · have := K.lt; omega
theorem Cap.quiet (K : Cap w b c u) (hb : b < w.heap.size) (h : Mod noF w w1) : Cap w1 b c u := by
  refine ⟨h.cell K.cell (fun e => e), Nat.lt_of_lt_of_le K.lt h.size, K.ne, fun v hv => K.row v ?_⟩
  have := h.block b hb (fun e => e)
  unfold World.cell? at hv ⊢
  simp only at hv ⊢
  rw [← this]; exact hv
theorem nameB_one {p : List UInt8} {c : UInt8} (h : nameB p = true) (hl : p.length ≤ 8) (hc : chB c = true) : nameB (p ++ [c]) = true := by
  match p, h with
  | d :: r, h =>
    simp only [nameB, Bool.and_eq_true, decide_eq_true_eq, List.all_cons] at h
    obtain ⟨⟨h1, h2⟩, h3, h4⟩ := h
    simp only [List.cons_append, nameB, Bool.and_eq_true, decide_eq_true_eq, List.all_cons, List.all_append, List.all_nil]
    refine ⟨⟨by simp at hl ⊢; omega, h2⟩, h3, h4, ?_⟩
    simp [hc]
theorem look_plus {c : UInt8} (hn : nameB s.data.toList = true) (hs : s.size ≤ 4) (hc : chB c = true) : LookOk (⟨(s.data.toList ++ [c]).toArray⟩ : ByteArray) 7 1 0 := by
  have hl : s.data.toList.length = s.size := bytes_len s
  refine ⟨nameB_one hn (by omega) hc, ?_, by decide, by decide, by decide, by decide, by decide, by decide, by decide, by decide⟩
  show ((s.data.toList ++ [c]).toArray).size ≤ 8
  simp; simp at hl; omega
theorem take_plus (s : ByteArray) (w : World) (hn : nameB s.data.toList = true) (hs : s.size ≤ 4) (x : ByteArray) (hx : (⟨(s.data.toList ++ [116]).toArray⟩ : ByteArray) = x) :
    Calls Tryd.prog 57 #[.string x, .int .i64 7, .int .i64 1, .int .i64 0] w fun e w' => ∃ v, e = .returned (.tuple #[v, .nilIface]) ∧ Made (takeCode (s.data.toList ++ [116]) 7 1 0) w v w' := by
  subst hx; exact take_ok _ 7 1 0 w (look_plus hn hs (by decide))
theorem give_plus (s : ByteArray) (w : World) (hn : nameB s.data.toList = true) (hs : s.size ≤ 4) (x : ByteArray) (hx : (⟨(s.data.toList ++ [103]).toArray⟩ : ByteArray) = x) :
    Calls Tryd.prog 58 #[.string x, .int .i64 7, .int .i64 1, .int .i64 0] w fun e w' => ∃ v, e = .returned (.tuple #[v, .nilIface]) ∧ Made (giveCode 7 1 0) w v w' := by
  subst hx; exact give_ok _ 7 1 0 w (look_plus hn hs (by decide))
set_option maxHeartbeats 2000000 in
theorem gtake_chain (C : Chain w0 b 4 v0 l w) (M : MkAt w b br fe jo co s) (hlen : l.length ≤ 1000) (hn : nameB s.data.toList = true) (hs : s.size ≤ 4) :
    Calls Tryd.prog 139 #[.pointer (some ⟨b, 0, none⟩)] w fun e w' => e = .returned (.tuple #[]) ∧ Chain w0 b 4 v0 (l ++ takeCode (s.data.toList ++ [116]) 7 1 0) w' := by
  have h5 := M.c5
  have HC := Lib.hid C
  have Hn := Lib.hid hn
  clear C M hn
  go_enter Tryd.func139, Tryd.ntmps139
  go_wp2_with fail
  refine (take_plus s _ Hn.out hs _ (bytes_cat s _)).mono ?_
  rintro e w1 ⟨v1, rfl, hm1⟩
  have HC1 := Lib.hid (HC.out.quiet (Mod.below hm1.2.1))
  obtain ⟨g, c, rfl, hsA⟩ := InsRow.src hm1.1 (by simp [takeCode])
  have HsA := Lib.hid hsA
  clear hm1 hsA HC
  go_wp2_with fail
  refine (more_chain HC1.out (by omega) (takeCode (s.data.toList ++ [116]) 7 1 0) g c HsA.out (by simp [takeCode])).mono ?_
  rintro e w2 ⟨rfl, C2⟩
  have HC2 := Lib.hid C2
  clear C2
  go_wp2
  go_end0
  exact ⟨rfl, HC2.out⟩
set_option maxHeartbeats 2000000 in
theorem ggive_chain (C : Chain w0 b 4 v0 l w) (M : MkAt w b br fe jo co s) (hlen : l.length ≤ 1000) (hn : nameB s.data.toList = true) (hs : s.size ≤ 4) :
    Calls Tryd.prog 141 #[.pointer (some ⟨b, 0, none⟩)] w fun e w' => e = .returned (.tuple #[]) ∧ Chain w0 b 4 v0 (l ++ giveCode 7 1 0) w' := by
  have h5 := M.c5
  have HC := Lib.hid C
  have Hn := Lib.hid hn
  clear C M hn
  go_enter Tryd.func141, Tryd.ntmps141
  go_wp2_with fail
  refine (give_plus s _ Hn.out hs _ (bytes_cat s _)).mono ?_
  rintro e w1 ⟨v1, rfl, hm1⟩
  have HC1 := Lib.hid (HC.out.quiet (Mod.below hm1.2.1))
  obtain ⟨g, c, rfl, hsA⟩ := InsRow.src hm1.1 (by simp [giveCode])
  have HsA := Lib.hid hsA
  clear hm1 hsA HC
  go_wp2_with fail
  refine (more_chain HC1.out (by omega) (giveCode 7 1 0) g c HsA.out (by simp [giveCode])).mono ?_
  rintro e w2 ⟨rfl, C2⟩
  have HC2 := Lib.hid C2
  clear C2
  go_wp2
  go_end0
  exact ⟨rfl, HC2.out⟩
end Go.Proofs.YtamfbfajlfbooaaDoor
