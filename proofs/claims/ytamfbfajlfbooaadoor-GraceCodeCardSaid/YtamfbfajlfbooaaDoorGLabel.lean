/- quiescentref1.LabelAt. -/
import Derived.Test.YtamfbfajlfbooaaDoorProg
import Derived.WalkKit
import Derived.Deep.QuietTactic
import Derived.BigQuiet
import Derived.Lib.Hide
import Derived.Deep.LoopGhost
import Derived.WalkSpells
import Derived.WalkLawsBesides
import Derived.Test.YtamfbfajlfbooaaDoorGm2
set_option linter.unusedVariables false
set_option linter.unusedSimpArgs false
set_option linter.unusedSectionVars false
namespace Go.Proofs.YtamfbfajlfbooaaDoor
open Go.RowKit Qs Qh
variable {w : World} {L : Lay} {m : M} {N : Int}
def labE (to : List UInt8) (l : List Instr) : Int := match labelAt to l 0 with | some i => (i : Int) | none => -1
theorem drop_at {l : List Instr} {q : Nat} {x : Instr} (h : l[q]? = some x) : l.drop q = x :: l.drop (q + 1) := by
  obtain ⟨hl, rfl⟩ := List.getElem?_eq_some_iff.1 h
  exact List.drop_eq_getElem_cons hl
set_option maxHeartbeats 1000000 in
theorem labelAt_any (a : Option Addr) (c : Nat) (l : List Instr) (to : List UInt8) (w : World) (hl : l.length ≤ 1000000)
    (hx : ∀ (i : Nat) x, l[i]? = some x → ∃ b off, a = some ⟨b, off, none⟩ ∧ b < w.heap.size ∧ ∀ j y, (instrVals x)[j]? = some y → w.cell? ⟨b, off + i * 5 + j, none⟩ = some y) :
    Calls Tryd.prog 127 #[.slice a l.length c, sv to] w fun e w' => e = .returned (.int .i64 (labE to l)) ∧ w = w' := by
  have Hx := Lib.hid hx
  clear hx
  generalize hto : (⟨to.toArray⟩ : ByteArray) = tb
  have Hto := Lib.hid hto
  unfold sv
  rw [hto]
  clear hto
  go_enter Tryd.func127, Tryd.ntmps127
  go_wp2
  go_loopg [5] l.length (fun k i wr => wr = w ∧ ∃ q : Nat, q + k = l.length ∧ i = .int .i64 q ∧ labelAt to l 0 = labelAt to (l.drop q) q)
  case atStart => exact ⟨rfl, 0, by omega, rfl, rfl⟩
  case round =>
    obtain ⟨rfl, q, hq, rfl, hla⟩ := hrel
    have Hla := Lib.hid hla
    clear hla
    by_cases hlt : q < l.length
    · have hd : decide ((q : Int) < (l.length : Int)) = true := by simp; omega
      obtain ⟨x, hxq⟩ : ∃ x, l[q]? = some x := ⟨_, List.getElem?_eq_getElem hlt⟩
      obtain ⟨b, off, rfl, hb, hc⟩ := Hx.out q x hxq
      have c0 := hc 0 _ rfl
      have c4 := hc 4 _ rfl
      simp only [Nat.add_zero, sv] at c0 c4
      generalize hs : opStr x.op = s at *
      generalize hd4 : (⟨x.to.toArray⟩ : ByteArray) = d at *
      have Hs := Lib.hid hs
      have Hd4 := Lib.hid hd4
      have Hxq := Lib.hid hxq
      clear hs hd4 hxq hc
      go_wp2
      · go_ret
        have h1 : x.op = 17 := (opStr_label x.op).1 (by rw [Hs.out]; assumption)
        have h2 : x.to = to := by
          have h : (d.toList == tb.toList) = true := by assumption
          rw [← Hd4.out, ← Hto.out, bytes_list, bytes_list] at h
          exact beq_iff_eq.1 h
        refine ⟨ret_int ?_, rfl⟩
        unfold labE
        rw [Hla.out, drop_at Hxq.out]
        simp [labelAt, h1, h2]
      · go_roundg (l.length - (q + 1))
        case measure => omega
        case rel =>
          refine ⟨rfl, q + 1, by omega, by go_num, ?_⟩
          have h2 : ¬ x.to = to := by
            have h : (d.toList == tb.toList) = false := by assumption
            rw [← Hd4.out, ← Hto.out, bytes_list, bytes_list] at h
            exact fun e => by rw [e] at h; simp at h
          rw [Hla.out, drop_at Hxq.out]
          simp [labelAt, h2]
      · go_roundg (l.length - (q + 1))
        case measure => omega
        case rel =>
          refine ⟨rfl, q + 1, by omega, by go_num, ?_⟩
          have h1 : ¬ x.op = 17 := fun e => by
            have h : ¬ s.toList = [108, 97, 98, 101, 108] := by assumption
            exact h (by rw [← Hs.out]; exact (opStr_label x.op).2 e)
          rw [Hla.out, drop_at Hxq.out]
          simp [labelAt, h1]
    · have hd : decide ((q : Int) < (l.length : Int)) = false := by simp; omega
      go_wp2
      go_ret
      refine ⟨ret_int ?_, rfl⟩
      unfold labE
      rw [Hla.out, List.drop_eq_nil_of_le (by omega)]
      rfl
end Go.Proofs.YtamfbfajlfbooaaDoor
