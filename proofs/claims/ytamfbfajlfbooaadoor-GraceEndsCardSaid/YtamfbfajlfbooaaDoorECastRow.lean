/- A slice of casts that came in. -/
import Derived.Test.YtamfbfajlfbooaaDoorEStructs
import Derived.ChangeArms
set_option linter.unusedVariables false
set_option linter.unusedSimpArgs false
set_option linter.unusedSectionVars false
namespace Go.Proofs.YtamfbfajlfbooaaDoor
open Go.ChangeShapes Go.WideShapes Go.ChangeAt Go.RowKit Qh
theorem castLen4 {l : List Value} (h : l.length = 4) : ∃ c0 c1 c2 c3 : Value, l = [c0, c1, c2, c3] := by
  match l, h with
  | [c0, c1, c2, c3], _ => exact ⟨c0, c1, c2, c3, rfl⟩
structure RCast where
  writes : Bool
  times : Int
  reads : Int
  nested : Bool
def RCast.vals (x : RCast) : List Value := [.bool x.writes, .int .i64 x.times, .int .i64 x.reads, .bool x.nested]
structure RCast.Ok (x : RCast) : Prop where
  times : (Lit.int .i64 x.times).wf = true
  reads : (Lit.int .i64 x.reads).wf = true
def IsCast (w : World) (a : Option Addr) (len cap : Nat) (z : List RCast) : Prop := RowsAt RCast.vals 4 w (.slice a len cap) z ∧ ∀ x ∈ z, x.Ok
theorem Cast_read {H : Type} {enc : TypeId × Value → H} {W : World} (n : Nat) (cs : List Value) (y : DataW H × List MemPlace) (h : DataW.trod enc Tryd.prog W 0 (fun _ => true) true n 85 cs = some y) : ∃ x : RCast, cs = x.vals ∧ x.Ok := by
  obtain ⟨xs, n', rfl, _, hlen, hxl, hf⟩ := DataW.trod_struct Tryd.underlying85 h
  rw [show Tryd.prog.cellsOf 85 = 4 by kernel_rfl] at hlen
  have k1 : Tryd.prog.cellsOf 3 = 1 := by kernel_rfl
  have k9 : Tryd.prog.cellsOf 4 = 1 := by kernel_rfl
  obtain ⟨c0, c1, c2, c3, rfl⟩ := castLen4 hlen
  have h0 := hf 0 ⟨"Writes", 4, 0, false, "", "", 0⟩ rfl
  rw [List.getElem?_eq_getElem (show 0 < xs.length by rw [hxl]; decide)] at h0
  obtain ⟨s0, e0, _⟩ := DataW.trod_bool Tryd.underlying4 h0
  simp only [k9, List.drop_succ_cons, List.drop_zero, List.take_succ_cons, List.take_zero, List.cons.injEq, and_true] at e0
  subst e0
  have h1 := hf 1 ⟨"Times", 3, 1, false, "", "", 8⟩ rfl
  rw [List.getElem?_eq_getElem (show 1 < xs.length by rw [hxl]; decide)] at h1
  obtain ⟨s1, e1, _, o1⟩ := DataW.trod_int Tryd.underlying3 h1
  simp only [k1, List.drop_succ_cons, List.drop_zero, List.take_succ_cons, List.take_zero, List.cons.injEq, and_true] at e1
  subst e1
  have h2 := hf 2 ⟨"Reads", 3, 2, false, "", "", 16⟩ rfl
  rw [List.getElem?_eq_getElem (show 2 < xs.length by rw [hxl]; decide)] at h2
  obtain ⟨s2, e2, _, o2⟩ := DataW.trod_int Tryd.underlying3 h2
  simp only [k1, List.drop_succ_cons, List.drop_zero, List.take_succ_cons, List.take_zero, List.cons.injEq, and_true] at e2
  subst e2
  have h3 := hf 3 ⟨"Nested", 4, 3, false, "", "", 24⟩ rfl
  rw [List.getElem?_eq_getElem (show 3 < xs.length by rw [hxl]; decide)] at h3
  obtain ⟨s3, e3, _⟩ := DataW.trod_bool Tryd.underlying4 h3
  simp only [k9, List.drop_succ_cons, List.drop_zero, List.take_succ_cons, List.take_zero, List.cons.injEq, and_true] at e3
  subst e3
  exact ⟨⟨s0, s1, s2, s3⟩, rfl, ⟨o1, o2⟩⟩
theorem isCast_of {H : Type} {enc : TypeId × Value → H} {W : World} {a : Option Addr} {len cap : Nat} {d : DataW H} {p : List MemPlace} (h : DataW.Trod enc Tryd.prog W 0 (fun _ => true) true 79 (.slice a len cap) d p) : ∃ z, IsCast W a len cap z :=
  rowsAt_of (by decide) Tryd.underlying79 (by kernel_rfl) Cast_read h
end Go.Proofs.YtamfbfajlfbooaaDoor
