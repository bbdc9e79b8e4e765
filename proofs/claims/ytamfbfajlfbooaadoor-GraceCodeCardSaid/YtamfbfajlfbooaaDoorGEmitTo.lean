/- (*emit.Code).To, .Label. -/
import Derived.Test.YtamfbfajlfbooaaDoorGEmitLaw2
import Derived.Test.YtamfbfajlfbooaaDoorGEmitOp
import Derived.BigRegion
set_option linter.unusedVariables false
set_option linter.unusedSimpArgs false
set_option linter.unusedSectionVars false
namespace Go.Proofs.YtamfbfajlfbooaaDoor
open Go.RowKit Qs Qh
set_option maxHeartbeats 1000000 in
theorem to0_any (w : World) (b o : Nat) (v : Value) (l : List Instr) (E : Emit insT w b o v l) (hlen : l.length ≤ 1000000) (n : Nat) (s : ByteArray) (hs : opStr n = s) (to : List UInt8) (ls : ByteArray) (hls : (⟨to.toArray⟩ : ByteArray) = ls) :
    Calls Tryd.prog 104 #[.pointer (some ⟨b, o, none⟩), .string ls, .string s, .slice none 0 0] w (Emitted w b o v (l ++ [⟨n, 0, 0, 0, to⟩])) := by
  have HE := Lib.hid E
  have Hls := Lib.hid hls
  have Hs := Lib.hid hs
  have Hlt := E.lt
  clear E hls hs
  go_enter Tryd.func104, Tryd.ntmps104
  go_wp2_with fail
  refine (op0_any w b o v l HE.out hlen n s Hs.out).mono ?_
  rintro e w1 ⟨rfl, v1, E1, G1⟩
  obtain ⟨g, cp, rfl, hg, hc, hf⟩ := E1.row.last
  have c4 := hc 4 _ rfl
  have f4 := hf (l.length * 5 + 4)
  have ec := E1.cell
  have hb1 := E1.lt
  have HE1 := Lib.hid E1
  have HG1 := Lib.hid G1
  clear E1 G1 hc hf
  go_wp2
  go_region
  all_goals go_wp2
  all_goals go_ret
  all_goals
    have := both_drew Hlt (Emit.setTo to HG1.out Hlt HE1.out)
    rw [show sv to = .string ls from by unfold sv; rw [Hls.out]] at this
    exact ⟨rfl, _, this⟩
set_option maxHeartbeats 1000000 in
theorem to1_any (w : World) (b o : Nat) (v : Value) (l : List Instr) (E : Emit insT w b o v l) (hlen : l.length ≤ 1000000) (n : Nat) (s : ByteArray) (hs : opStr n = s) (to : List UInt8) (ls : ByteArray) (hls : (⟨to.toArray⟩ : ByteArray) = ls) (nb : Nat) (x : Int) (c : Nat) (h0 : w.cell? ⟨nb, 0, none⟩ = some (.int .i64 x)) (hnb : nb < w.heap.size) :
    Calls Tryd.prog 104 #[.pointer (some ⟨b, o, none⟩), .string ls, .string s, .slice (some ⟨nb, 0, none⟩) 1 c] w (Emitted w b o v (l ++ [⟨n, x, 0, 0, to⟩])) := by
  have HE := Lib.hid E
  have Hls := Lib.hid hls
  have Hs := Lib.hid hs
  have Hlt := E.lt
  clear E hls hs
  go_enter Tryd.func104, Tryd.ntmps104
  go_wp2_with fail
  refine (op1_any w b o v l HE.out hlen n s Hs.out nb x c h0 hnb).mono ?_
  rintro e w1 ⟨rfl, v1, E1, G1⟩
  obtain ⟨g, cp, rfl, hg, hc, hf⟩ := E1.row.last
  have c4 := hc 4 _ rfl
  have f4 := hf (l.length * 5 + 4)
  have ec := E1.cell
  have hb1 := E1.lt
  have HE1 := Lib.hid E1
  have HG1 := Lib.hid G1
  clear E1 G1 hc hf
  go_wp2
  go_region
  all_goals go_wp2
  all_goals go_ret
  all_goals
    have := both_drew Hlt (Emit.setTo to HG1.out Hlt HE1.out)
    rw [show sv to = .string ls from by unfold sv; rw [Hls.out]] at this
    exact ⟨rfl, _, this⟩
set_option maxHeartbeats 1000000 in
theorem to2_any (w : World) (b o : Nat) (v : Value) (l : List Instr) (E : Emit insT w b o v l) (hlen : l.length ≤ 1000000) (n : Nat) (s : ByteArray) (hs : opStr n = s) (to : List UInt8) (ls : ByteArray) (hls : (⟨to.toArray⟩ : ByteArray) = ls) (nb : Nat) (x y : Int) (c : Nat) (h0 : w.cell? ⟨nb, 0, none⟩ = some (.int .i64 x)) (h1 : w.cell? ⟨nb, 1, none⟩ = some (.int .i64 y)) (hnb : nb < w.heap.size) :
    Calls Tryd.prog 104 #[.pointer (some ⟨b, o, none⟩), .string ls, .string s, .slice (some ⟨nb, 0, none⟩) 2 c] w (Emitted w b o v (l ++ [⟨n, x, y, 0, to⟩])) := by
  have HE := Lib.hid E
  have Hls := Lib.hid hls
  have Hs := Lib.hid hs
  have Hlt := E.lt
  clear E hls hs
  go_enter Tryd.func104, Tryd.ntmps104
  go_wp2_with fail
  refine (op2_any w b o v l HE.out hlen n s Hs.out nb x y c h0 h1 hnb).mono ?_
  rintro e w1 ⟨rfl, v1, E1, G1⟩
  obtain ⟨g, cp, rfl, hg, hc, hf⟩ := E1.row.last
  have c4 := hc 4 _ rfl
  have f4 := hf (l.length * 5 + 4)
  have ec := E1.cell
  have hb1 := E1.lt
  have HE1 := Lib.hid E1
  have HG1 := Lib.hid G1
  clear E1 G1 hc hf
  go_wp2
  go_region
  all_goals go_wp2
  all_goals go_ret
  all_goals
    have := both_drew Hlt (Emit.setTo to HG1.out Hlt HE1.out)
    rw [show sv to = .string ls from by unfold sv; rw [Hls.out]] at this
    exact ⟨rfl, _, this⟩
theorem label_any (w : World) (b o : Nat) (v : Value) (l : List Instr) (E : Emit insT w b o v l) (hlen : l.length ≤ 1000000) (to : List UInt8) (ls : ByteArray) (hls : (⟨to.toArray⟩ : ByteArray) = ls) :
    Calls Tryd.prog 102 #[.pointer (some ⟨b, o, none⟩), .string ls] w (Emitted w b o v (l ++ [⟨17, 0, 0, 0, to⟩])) := by
  have HE := Lib.hid E
  have Hls := Lib.hid hls
  clear E hls
  go_enter Tryd.func102, Tryd.ntmps102
  go_wp2_with fail
  refine (to0_any w b o v l HE.out hlen 17 _ rfl to ls Hls.out).mono ?_
  rintro e w1 ⟨rfl, h⟩
  have H := Lib.hid h
  clear h
  go_wp2
  go_ret
  exact ⟨rfl, H.out⟩
end Go.Proofs.YtamfbfajlfbooaaDoor
