/- (*quiescentref1.Machine).Step, instruction by instruction: force. -/
import Derived.Test.YtamfbfajlfbooaaDoorNDone
import Derived.Test.YtamfbfajlfbooaaDoorNm6
import Derived.Test.YtamfbfajlfbooaaDoorNm2
import Derived.Test.YtamfbfajlfbooaaDoorNm3
import Derived.StillTailTactics
import Derived.LoopTactic
set_option linter.unusedVariables false
set_option linter.unusedSimpArgs false
set_option linter.unusedSectionVars false
namespace Go.Proofs.YtamfbfajlfbooaaDoor
open Go.RowKit Qs Qh
variable {w : World} {L : Lay} {m : M} {N : Int}
set_option maxRecDepth 100000 in
set_option maxHeartbeats 4000000 in
theorem step_force (X : Mach ty w L m N) (hN : N ≤ 10000000000) (t : Nat) (ht : t < m.T.length) {h : Thr} (hh : m.T[t]? = some h) {a b c : Nat} {A B C : Int} {to : List UInt8} (hx : h.code[h.pc]? = some ⟨13, A, B, C, to⟩)  :
    Calls Tryd.prog 89 #[.pointer (some ⟨L.blk 0 0, 0, none⟩), .int .i64 t] w fun e w' => e = .returned (.int .i64 0) ∧ ∃ L', MUp ty w L m w' L' ((m.setPc t (h.pc + 1)).force m.T.length) (N + 48) := by
  have hthr : m.thr t = h := by simp [M.thr, List.getD, hh]
  have hdone : m.done t = false := by unfold M.done; rw [hthr, hx]; rfl
  obtain ⟨t0, t1, t2, t3, t4, t5⟩ := X.top
  have ht6 : m.T.length ≤ 6 := by have := X.om.waits; have := X.ot.len; omega
  have hsp := X.olt.sp4
  have hsp8 := X.olt.sp8 t ht
  have d0 : decide ((t : Int) < 0) = false := by simp
  have d1 : decide ((m.T.length : Int) ≤ (t : Int)) = false := by simp; omega
  have HX := Lib.hid X
  have Hh := Lib.hid hh
  have Hx := Lib.hid hx
  have Hthr := Lib.hid hthr
  have Hdone := Lib.hid hdone
  clear X hh hx hthr hdone t4
  go_enter Tryd.func89, Tryd.ntmps89
  go_wp2_with fail
  refine (done_any HX.out t ht).mono ?_
  rintro e w1 ⟨rfl, hm⟩
  rw [Hdone.out]
  have X1 := HX.out.frame0 hm
  have HX1 := Lib.hid X1
  have Hm := Lib.hid hm
  clear t0 t1 t2 t3 t5
  obtain ⟨t0, t1, t2, t3, t4, t5⟩ := X1.top
  obtain ⟨r0, r1, r2, r3, r4⟩ := X1.thr_at Hh.out
  obtain ⟨cb, off, cc, e, hcb, hcell⟩ := code_cell X1 Hh.out Hx.out
  rw [e] at r0
  obtain ⟨hpc, hco⟩ := X1.ot.code t h Hh.out
  have hlen := hco.len
  have hlt : h.pc < h.code.length := (List.getElem?_eq_some_iff.1 Hx.out).1
  have c0 := hcell 0 _ rfl
  have c1 := hcell 1 _ rfl
  have c2 := hcell 2 _ rfl
  have c3 := hcell 3 _ rfl
  have c4 := hcell 4 _ rfl
  simp only [Nat.add_zero, opStr, iv, sv] at c0 c1 c2 c3 c4
  generalize hd4 : (⟨to.toArray⟩ : ByteArray) = dto at *
  have Hd4 := Lib.hid hd4
  have f4 := r3 (t * 3 + 2)
  have n48 : L.blk 4 0 ≠ L.blk 8 t := X1.ne (by rw [obj4 ty m X1.olt.n4]; rfl) (by rw [obj8 ty (X1.olt.n8 t ht) Hh.out]; rfl) (by omega)
  have n04 : L.blk 0 0 ≠ L.blk 4 0 := X1.ne rfl (by rw [obj4 ty m X1.olt.n4]; rfl) (by omega)
  have n08 : L.blk 0 0 ≠ L.blk 8 t := X1.ne rfl (by rw [obj8 ty (X1.olt.n8 t ht) Hh.out]; rfl) (by omega)
  have He := Lib.hid e
  clear hm X1 e hpc hco hcell t4 r3 hd4
  go_wp2
  go_region
  have U0 := MUp.then0 ((MUp.quiet HX.out Hm.out).trans (HX1.out.pc Hh.out hlt)) (w3 := ((w1.setCell ⟨L.blk 4 0, t * 3 + 2, none⟩ (.int .i64 ((h.pc : Int) + 1))).alloc (.cells #[.string ⟨#[102, 111, 114, 99, 101]⟩, .int .i64 A, .int .i64 B, .int .i64 C, .string dto] 124)).drew) (by repeat (first | exact Mod.refl _ _ | refine Mod.drew ?_ | refine Mod.drewN ?_ _ | refine Mod.alloc ?_ _))
  have hbx : ∀ k, Foot ty allK L (m.setPc t (h.pc + 1)) k → k < w1.heap.size := fun k hk => by
    have := (HX1.out.pc Hh.out hlt).mach.rep.lt hk
    simpa using this
  have HU0 := Lib.hid U0
  have Hbx := Lib.hid hbx
  clear U0 hbx
  go_wp2
  clear t0 t1 t2 t3 r0 r1 r2 c0 c1 c2 c3 c4
  go_loopw [29] (fun i wr => ∃ k : Nat, k ≤ m.T.length ∧ i = .int .i64 k ∧ ∃ Lr, MUp ty w L m wr Lr ((m.setPc t (h.pc + 1)).force k) (N + 8 * k)) (fun i _ => m.T.length - (intOf i).toNat)
  case atStart => exact ⟨0, Nat.zero_le _, rfl, L, by simpa [M.force] using HU0.out⟩
  case round =>
    rename_i wr
    obtain ⟨k, hk, rfl, Lr, Ur⟩ := hrel
    have hlenT : ((m.setPc t (h.pc + 1)).force k).T.length = m.T.length := by rw [force_T]; simp [M.setPc]
    obtain ⟨q0, q1, q2, q3, q4, q5⟩ := Ur.mach.top
    rw [Ur.top.1] at q0 q1 q5
    rw [hlenT] at q1
    have hcall := machFence_any Ur.mach (by omega) k
    rw [Ur.top.1] at hcall
    have HUr := Lib.hid Ur
    have Hcall := Lib.hid hcall
    clear Ur hcall q2 q3 q4
    by_cases hlt : k < m.T.length
    · have hd : decide ((k : Int) < (m.T.length : Int)) = true := by simp; omega
      go_wp2_with fail
      refine (Hcall.out (by rw [hlenT]; exact hlt)).mono ?_
      rintro e w7 ⟨rfl, L7, U7⟩
      have HU7 := Lib.hid U7
      clear U7
      go_wp2
      go_roundw
      case rel =>
        refine ⟨k + 1, by omega, by go_num, L7, ?_⟩
        rw [show N + 8 * ((k + 1 : Nat) : Int) = N + 8 * (k : Int) + 8 from by omega]
        exact HUr.out.trans HU7.out
      case measure => simp [intOf]; omega
    · have hd : decide ((k : Int) < (m.T.length : Int)) = false := by simp; omega
      obtain rfl : k = m.T.length := by omega
      go_wp2
      go_ret
      exact ⟨rfl, Lr, HUr.out.mono (by omega)⟩
end Go.Proofs.YtamfbfajlfbooaaDoor
