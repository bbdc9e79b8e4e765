/- A slice of structs that came in. -/
import Derived.Test.YtamfbfajlfbooaaDoorRows
import Derived.Test.YtamfbfajlfbooaaDoorProg
import Derived.ProofKit
import Derived.OpenShut
import Derived.Deep.Slices
import Derived.Test.YtamfbfajlfbooaaDoorRm2
set_option linter.unusedVariables false
set_option linter.unusedSimpArgs false
set_option linter.unusedSectionVars false
namespace Go.Proofs.YtamfbfajlfbooaaDoor
open Go.ChangeShapes Go.WideShapes Go.ChangeAt Go.RowKit Qh
/-- Such a slice, its elements k cells each. -/
def RowsAt {α : Type} (vals : α → List Value) (k : Nat) (w : World) (v : Value) (l : List α) : Prop :=
  ∃ a c, v = .slice a l.length c ∧ l.length ≤ c ∧ c ≤ maxLen ∧ (a = none → c = 0) ∧ ∀ i x, l[i]? = some x → ∃ b off, a = some ⟨b, off, none⟩ ∧ b < w.heap.size ∧ ∀ j y, (vals x)[j]? = some y → w.cell? ⟨b, off + i * k + j, none⟩ = some y
theorem RowsAt.frame {α : Type} {vals : α → List Value} {k : Nat} {w w' : World} {v : Value} {l : List α} {F : Nat → Prop} (h : RowsAt vals k w v l) (hM : Mod F w w') (hF : ∀ b, b < w.heap.size → ¬ F b) : RowsAt vals k w' v l := by
  obtain ⟨a, c, e, hl, hc, hn, hx⟩ := h
  refine ⟨a, c, e, hl, hc, hn, fun i x hi => ?_⟩
  obtain ⟨b, off, rfl, hlt, hj⟩ := hx i x hi
  exact ⟨b, off, rfl, Nat.lt_of_lt_of_le hlt hM.size, fun j y h => hM.cell (hj j y h) (hF b hlt)⟩
theorem RowsAt.frame0 {α : Type} {vals : α → List Value} {k : Nat} {w w' : World} {v : Value} {l : List α} (h : RowsAt vals k w v l) (hM : Mod noF w w') : RowsAt vals k w' v l := h.frame hM fun _ _ e => e
theorem rowsAt_of {H : Type} {enc : TypeId × Value → H} {P : Program} {W : World} {T I : TypeId} {a : Option Addr} {len cap : Nat} {d : DataW H} {p : List MemPlace} {α : Type} {vals : α → List Value} {k : Nat} {good : α → Prop} (hk : 0 < k) (hT : P.underlying T = some (.slice I)) (hC : P.cellsOf I = k)
    (hread : ∀ n cs y, DataW.trod enc P W 0 (fun _ => true) true n I cs = some y → ∃ x, cs = vals x ∧ good x)
    (h : DataW.Trod enc P W 0 (fun _ => true) true T (.slice a len cap) d p) : ∃ l : List α, RowsAt vals k W (.slice a len cap) l ∧ ∀ x ∈ l, good x := by
  obtain ⟨fuel, hf⟩ := h
  rcases Go.Deep.open_slice hT hf with ⟨hcs, _⟩ | ⟨A, l, c, m, n, D, Pl, hcs, _, hl, hm, hmm, _, hel⟩
  · simp [Value.cells] at hcs
    obtain ⟨rfl, rfl, rfl⟩ := hcs
    exact ⟨[], ⟨none, 0, rfl, by simp, by simp, fun _ => rfl, fun i x h => by simp at h⟩, fun x h => by simp at h⟩
  · simp [Value.cells] at hcs
    obtain ⟨rfl, rfl, rfl⟩ := hcs
    have hx : ∀ i, i < len → ∃ x, good x ∧ (vals x).length = k ∧ ∀ j, j < k → W.cell? (A.add (i * k + j)) = (vals x)[j]? := fun i hi => by
      obtain ⟨cs', hc, ht⟩ := hel i (by rw [hmm]; simp; omega)
      obtain ⟨x, rfl, hg⟩ := hread _ _ _ ht
      obtain ⟨_, hlen, hat⟩ := World.cells?_some hc
      rw [hC] at hat hlen
      exact ⟨x, hg, hlen, fun j hj => by rw [← hat j hj, Go.Deep.add_add]⟩
    refine ⟨List.ofFn fun (i : Fin len) => Classical.choose (hx i.1 i.2), ⟨some A, cap, by simp, by simpa using hl, hm, fun e => by simp at e, fun i x hi => ?_⟩, fun x hx' => ?_⟩
    · obtain ⟨h1, h2⟩ := List.getElem?_eq_some_iff.1 hi
      have hi' : i < len := by simpa using h1
      simp only [List.getElem_ofFn] at h2
      obtain ⟨_, hlen, hat⟩ := Classical.choose_spec (hx i hi')
      rw [h2] at hlen hat
      obtain ⟨_, hlen0, hat0⟩ := Classical.choose_spec (hx 0 (by omega))
      have h00 := hat0 0 hk
      rw [List.getElem?_eq_getElem (by omega)] at h00
      obtain ⟨b, off, spot⟩ := A
      have hspot : spot = none := by simpa [Addr.add] using World.cell?_spot h00
      subst hspot
      refine ⟨b, off, rfl, by simpa [Addr.add] using World.block_lt_of_cell? _ _ h00, fun j y hj => ?_⟩
      have hjk : j < k := by rw [← hlen]; exact (List.getElem?_eq_some_iff.1 hj).1
      have := hat j hjk
      rw [Go.WideShapes.add_plain] at this
      rw [Nat.add_assoc, this, hj]
    · obtain ⟨i, rfl⟩ := (List.mem_ofFn).1 hx'
      exact (Classical.choose_spec (hx i.1 i.2)).1
theorem len5 {l : List Value} (h : l.length = 5) : ∃ c0 c1 c2 c3 c4 : Value, l = [c0, c1, c2, c3, c4] := by
  match l, h with
  | [c0, c1, c2, c3, c4], _ => exact ⟨c0, c1, c2, c3, c4, rfl⟩
theorem len7 {l : List Value} (h : l.length = 7) : ∃ c0 c1 c2 c3 c4 c5 c6 : Value, l = [c0, c1, c2, c3, c4, c5, c6] := by
  match l, h with
  | [c0, c1, c2, c3, c4, c5, c6], _ => exact ⟨c0, c1, c2, c3, c4, c5, c6, rfl⟩
structure RIns where
  op : ByteArray
  A : Int
  B : Int
  C : Int
  to : ByteArray
def RIns.vals (x : RIns) : List Value := [.string x.op, .int .i64 x.A, .int .i64 x.B, .int .i64 x.C, .string x.to]
structure RIns.Ok (x : RIns) : Prop where
  op : x.op.size ≤ maxLen
  A : (Lit.int .i64 x.A).wf = true
  B : (Lit.int .i64 x.B).wf = true
  C : (Lit.int .i64 x.C).wf = true
  to : x.to.size ≤ maxLen
def IsIns (w : World) (a : Option Addr) (len cap : Nat) (z : List RIns) : Prop := RowsAt RIns.vals 5 w (.slice a len cap) z ∧ ∀ x ∈ z, x.Ok
theorem Ins_read {H : Type} {enc : TypeId × Value → H} {W : World} (n : Nat) (cs : List Value) (y : DataW H × List MemPlace) (h : DataW.trod enc Tryd.prog W 0 (fun _ => true) true n 124 cs = some y) : ∃ x : RIns, cs = x.vals ∧ x.Ok := by
  obtain ⟨xs, n', rfl, _, hlen, hxl, hf⟩ := DataW.trod_struct Tryd.underlying124 h
  rw [show Tryd.prog.cellsOf 124 = 5 by kernel_rfl] at hlen
  have k1 : Tryd.prog.cellsOf 3 = 1 := by kernel_rfl
  have k9 : Tryd.prog.cellsOf 9 = 1 := by kernel_rfl
  have k2 : Tryd.prog.cellsOf 58 = 2 := by kernel_rfl
  obtain ⟨c0, c1, c2, c3, c4, rfl⟩ := len5 hlen
  have h0 := hf 0 ⟨"Op", 9, 0, false, "", "", 0⟩ rfl
  rw [List.getElem?_eq_getElem (show 0 < xs.length by rw [hxl]; decide)] at h0
  obtain ⟨s0, e0, _, o0⟩ := DataW.trod_string Tryd.underlying9 h0
  simp only [k9, List.drop_succ_cons, List.drop_zero, List.take_succ_cons, List.take_zero, List.cons.injEq, and_true] at e0
  subst e0
  have h1 := hf 1 ⟨"A", 3, 1, false, "", "", 16⟩ rfl
  rw [List.getElem?_eq_getElem (show 1 < xs.length by rw [hxl]; decide)] at h1
  obtain ⟨s1, e1, _, o1⟩ := DataW.trod_int Tryd.underlying3 h1
  simp only [k1, List.drop_succ_cons, List.drop_zero, List.take_succ_cons, List.take_zero, List.cons.injEq, and_true] at e1
  subst e1
  have h2 := hf 2 ⟨"B", 3, 2, false, "", "", 24⟩ rfl
  rw [List.getElem?_eq_getElem (show 2 < xs.length by rw [hxl]; decide)] at h2
  obtain ⟨s2, e2, _, o2⟩ := DataW.trod_int Tryd.underlying3 h2
  simp only [k1, List.drop_succ_cons, List.drop_zero, List.take_succ_cons, List.take_zero, List.cons.injEq, and_true] at e2
  subst e2
  have h3 := hf 3 ⟨"C", 3, 3, false, "", "", 32⟩ rfl
  rw [List.getElem?_eq_getElem (show 3 < xs.length by rw [hxl]; decide)] at h3
  obtain ⟨s3, e3, _, o3⟩ := DataW.trod_int Tryd.underlying3 h3
  simp only [k1, List.drop_succ_cons, List.drop_zero, List.take_succ_cons, List.take_zero, List.cons.injEq, and_true] at e3
  subst e3
  have h4 := hf 4 ⟨"To", 9, 4, false, "", "", 40⟩ rfl
  rw [List.getElem?_eq_getElem (show 4 < xs.length by rw [hxl]; decide)] at h4
  obtain ⟨s4, e4, _, o4⟩ := DataW.trod_string Tryd.underlying9 h4
  simp only [k9, List.drop_succ_cons, List.drop_zero, List.take_succ_cons, List.take_zero, List.cons.injEq, and_true] at e4
  subst e4
  exact ⟨⟨s0, s1, s2, s3, s4⟩, rfl, ⟨o0, o1, o2, o3, o4⟩⟩
theorem isIns_of {H : Type} {enc : TypeId × Value → H} {W : World} {a : Option Addr} {len cap : Nat} {d : DataW H} {p : List MemPlace} (h : DataW.Trod enc Tryd.prog W 0 (fun _ => true) true 28 (.slice a len cap) d p) : ∃ z, IsIns W a len cap z :=
  rowsAt_of (by decide) Tryd.underlying28 (by kernel_rfl) Ins_read h
structure CAct where
  kind : ByteArray
  cell : Int
  gen : Int
  W : Int
  V : Int
def CAct.vals (x : CAct) : List Value := [.string x.kind, .int .i64 x.cell, .int .i64 x.gen, .int .i64 x.W, .int .i64 x.V]
structure CAct.Ok (x : CAct) : Prop where
  kind : x.kind.size ≤ maxLen
  cell : (Lit.int .i64 x.cell).wf = true
  gen : (Lit.int .i64 x.gen).wf = true
  W : (Lit.int .i64 x.W).wf = true
  V : (Lit.int .i64 x.V).wf = true
def IsCAct (w : World) (a : Option Addr) (len cap : Nat) (z : List CAct) : Prop := RowsAt CAct.vals 5 w (.slice a len cap) z ∧ ∀ x ∈ z, x.Ok
theorem CAct_read {H : Type} {enc : TypeId × Value → H} {W : World} (n : Nat) (cs : List Value) (y : DataW H × List MemPlace) (h : DataW.trod enc Tryd.prog W 0 (fun _ => true) true n 117 cs = some y) : ∃ x : CAct, cs = x.vals ∧ x.Ok := by
  obtain ⟨xs, n', rfl, _, hlen, hxl, hf⟩ := DataW.trod_struct Tryd.underlying117 h
  rw [show Tryd.prog.cellsOf 117 = 5 by kernel_rfl] at hlen
  have k1 : Tryd.prog.cellsOf 3 = 1 := by kernel_rfl
  have k9 : Tryd.prog.cellsOf 9 = 1 := by kernel_rfl
  have k2 : Tryd.prog.cellsOf 58 = 2 := by kernel_rfl
  obtain ⟨c0, c1, c2, c3, c4, rfl⟩ := len5 hlen
  have h0 := hf 0 ⟨"Kind", 9, 0, false, "", "", 0⟩ rfl
  rw [List.getElem?_eq_getElem (show 0 < xs.length by rw [hxl]; decide)] at h0
  obtain ⟨s0, e0, _, o0⟩ := DataW.trod_string Tryd.underlying9 h0
  simp only [k9, List.drop_succ_cons, List.drop_zero, List.take_succ_cons, List.take_zero, List.cons.injEq, and_true] at e0
  subst e0
  have h1 := hf 1 ⟨"R", 58, 1, false, "", "", 16⟩ rfl
  rw [List.getElem?_eq_getElem (show 1 < xs.length by rw [hxl]; decide)] at h1
  obtain ⟨ys, m', _, _, hyl, hyx, hg⟩ := DataW.trod_struct Tryd.underlying58 h1
  have g0 := hg 0 ⟨"Cell", 3, 0, false, "", "", 0⟩ rfl
  rw [List.getElem?_eq_getElem (show 0 < ys.length by rw [hyx]; decide)] at g0
  obtain ⟨s1, e1, _, o1⟩ := DataW.trod_int Tryd.underlying3 g0
  simp only [k1, k2, List.drop_succ_cons, List.drop_zero, List.take_succ_cons, List.take_zero, List.cons.injEq, and_true] at e1
  subst e1
  have g1 := hg 1 ⟨"Gen", 3, 1, false, "", "", 8⟩ rfl
  rw [List.getElem?_eq_getElem (show 1 < ys.length by rw [hyx]; decide)] at g1
  obtain ⟨s2, e2, _, o2⟩ := DataW.trod_int Tryd.underlying3 g1
  simp only [k1, k2, List.drop_succ_cons, List.drop_zero, List.take_succ_cons, List.take_zero, List.cons.injEq, and_true] at e2
  subst e2
  have h2 := hf 2 ⟨"W", 3, 3, false, "", "", 32⟩ rfl
  rw [List.getElem?_eq_getElem (show 2 < xs.length by rw [hxl]; decide)] at h2
  obtain ⟨s3, e3, _, o3⟩ := DataW.trod_int Tryd.underlying3 h2
  simp only [k1, List.drop_succ_cons, List.drop_zero, List.take_succ_cons, List.take_zero, List.cons.injEq, and_true] at e3
  subst e3
  have h3 := hf 3 ⟨"V", 3, 4, false, "", "", 40⟩ rfl
  rw [List.getElem?_eq_getElem (show 3 < xs.length by rw [hxl]; decide)] at h3
  obtain ⟨s4, e4, _, o4⟩ := DataW.trod_int Tryd.underlying3 h3
  simp only [k1, List.drop_succ_cons, List.drop_zero, List.take_succ_cons, List.take_zero, List.cons.injEq, and_true] at e4
  subst e4
  exact ⟨⟨s0, s1, s2, s3, s4⟩, rfl, ⟨o0, o1, o2, o3, o4⟩⟩
theorem isCAct_of {H : Type} {enc : TypeId × Value → H} {W : World} {a : Option Addr} {len cap : Nat} {d : DataW H} {p : List MemPlace} (h : DataW.Trod enc Tryd.prog W 0 (fun _ => true) true 114 (.slice a len cap) d p) : ∃ z, IsCAct W a len cap z :=
  rowsAt_of (by decide) Tryd.underlying114 (by kernel_rfl) CAct_read h
structure MAct where
  kind : ByteArray
  T : Int
  cell : Int
  gen : Int
  W : Int
  V : Int
  Old : Int
def MAct.vals (x : MAct) : List Value := [.string x.kind, .int .i64 x.T, .int .i64 x.cell, .int .i64 x.gen, .int .i64 x.W, .int .i64 x.V, .int .i64 x.Old]
structure MAct.Ok (x : MAct) : Prop where
  kind : x.kind.size ≤ maxLen
  T : (Lit.int .i64 x.T).wf = true
  cell : (Lit.int .i64 x.cell).wf = true
  gen : (Lit.int .i64 x.gen).wf = true
  W : (Lit.int .i64 x.W).wf = true
  V : (Lit.int .i64 x.V).wf = true
  Old : (Lit.int .i64 x.Old).wf = true
def IsMAct (w : World) (a : Option Addr) (len cap : Nat) (z : List MAct) : Prop := RowsAt MAct.vals 7 w (.slice a len cap) z ∧ ∀ x ∈ z, x.Ok
theorem MAct_read {H : Type} {enc : TypeId × Value → H} {W : World} (n : Nat) (cs : List Value) (y : DataW H × List MemPlace) (h : DataW.trod enc Tryd.prog W 0 (fun _ => true) true n 63 cs = some y) : ∃ x : MAct, cs = x.vals ∧ x.Ok := by
  obtain ⟨xs, n', rfl, _, hlen, hxl, hf⟩ := DataW.trod_struct Tryd.underlying63 h
  rw [show Tryd.prog.cellsOf 63 = 7 by kernel_rfl] at hlen
  have k1 : Tryd.prog.cellsOf 3 = 1 := by kernel_rfl
  have k9 : Tryd.prog.cellsOf 9 = 1 := by kernel_rfl
  have k2 : Tryd.prog.cellsOf 58 = 2 := by kernel_rfl
  obtain ⟨c0, c1, c2, c3, c4, c5, c6, rfl⟩ := len7 hlen
  have h0 := hf 0 ⟨"Kind", 9, 0, false, "", "", 0⟩ rfl
  rw [List.getElem?_eq_getElem (show 0 < xs.length by rw [hxl]; decide)] at h0
  obtain ⟨s0, e0, _, o0⟩ := DataW.trod_string Tryd.underlying9 h0
  simp only [k9, List.drop_succ_cons, List.drop_zero, List.take_succ_cons, List.take_zero, List.cons.injEq, and_true] at e0
  subst e0
  have h1 := hf 1 ⟨"T", 3, 1, false, "", "", 16⟩ rfl
  rw [List.getElem?_eq_getElem (show 1 < xs.length by rw [hxl]; decide)] at h1
  obtain ⟨s1, e1, _, o1⟩ := DataW.trod_int Tryd.underlying3 h1
  simp only [k1, List.drop_succ_cons, List.drop_zero, List.take_succ_cons, List.take_zero, List.cons.injEq, and_true] at e1
  subst e1
  have h2 := hf 2 ⟨"R", 58, 2, false, "", "", 24⟩ rfl
  rw [List.getElem?_eq_getElem (show 2 < xs.length by rw [hxl]; decide)] at h2
  obtain ⟨ys, m', _, _, hyl, hyx, hg⟩ := DataW.trod_struct Tryd.underlying58 h2
  have g0 := hg 0 ⟨"Cell", 3, 0, false, "", "", 0⟩ rfl
  rw [List.getElem?_eq_getElem (show 0 < ys.length by rw [hyx]; decide)] at g0
  obtain ⟨s2, e2, _, o2⟩ := DataW.trod_int Tryd.underlying3 g0
  simp only [k1, k2, List.drop_succ_cons, List.drop_zero, List.take_succ_cons, List.take_zero, List.cons.injEq, and_true] at e2
  subst e2
  have g1 := hg 1 ⟨"Gen", 3, 1, false, "", "", 8⟩ rfl
  rw [List.getElem?_eq_getElem (show 1 < ys.length by rw [hyx]; decide)] at g1
  obtain ⟨s3, e3, _, o3⟩ := DataW.trod_int Tryd.underlying3 g1
  simp only [k1, k2, List.drop_succ_cons, List.drop_zero, List.take_succ_cons, List.take_zero, List.cons.injEq, and_true] at e3
  subst e3
  have h3 := hf 3 ⟨"W", 3, 4, false, "", "", 40⟩ rfl
  rw [List.getElem?_eq_getElem (show 3 < xs.length by rw [hxl]; decide)] at h3
  obtain ⟨s4, e4, _, o4⟩ := DataW.trod_int Tryd.underlying3 h3
  simp only [k1, List.drop_succ_cons, List.drop_zero, List.take_succ_cons, List.take_zero, List.cons.injEq, and_true] at e4
  subst e4
  have h4 := hf 4 ⟨"V", 3, 5, false, "", "", 48⟩ rfl
  rw [List.getElem?_eq_getElem (show 4 < xs.length by rw [hxl]; decide)] at h4
  obtain ⟨s5, e5, _, o5⟩ := DataW.trod_int Tryd.underlying3 h4
  simp only [k1, List.drop_succ_cons, List.drop_zero, List.take_succ_cons, List.take_zero, List.cons.injEq, and_true] at e5
  subst e5
  have h5 := hf 5 ⟨"Old", 3, 6, false, "", "", 56⟩ rfl
  rw [List.getElem?_eq_getElem (show 5 < xs.length by rw [hxl]; decide)] at h5
  obtain ⟨s6, e6, _, o6⟩ := DataW.trod_int Tryd.underlying3 h5
  simp only [k1, List.drop_succ_cons, List.drop_zero, List.take_succ_cons, List.take_zero, List.cons.injEq, and_true] at e6
  subst e6
  exact ⟨⟨s0, s1, s2, s3, s4, s5, s6⟩, rfl, ⟨o0, o1, o2, o3, o4, o5, o6⟩⟩
theorem isMAct_of {H : Type} {enc : TypeId × Value → H} {W : World} {a : Option Addr} {len cap : Nat} {d : DataW H} {p : List MemPlace} (h : DataW.Trod enc Tryd.prog W 0 (fun _ => true) true 51 (.slice a len cap) d p) : ∃ z, IsMAct W a len cap z :=
  rowsAt_of (by decide) Tryd.underlying51 (by kernel_rfl) MAct_read h
end Go.Proofs.YtamfbfajlfbooaaDoor
