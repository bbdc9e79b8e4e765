/- Texts that belong together, joined. -/
import Derived.Test.YtamfbfajlfbooaaDoorNDone
import Derived.Test.YtamfbfajlfbooaaDoorNm6
import Derived.Test.YtamfbfajlfbooaaDoorNm2
import Derived.Test.YtamfbfajlfbooaaDoorNm3
import Derived.StillTailTactics
import Derived.Test.YtamfbfajlfbooaaDoorNStore
import Derived.Test.YtamfbfajlfbooaaDoorNGraceB
import Derived.Test.YtamfbfajlfbooaaDoorNm5
import Derived.Test.YtamfbfajlfbooaaDoorNm1
import Derived.Outline
set_option linter.unusedVariables false
set_option linter.unusedSimpArgs false
set_option linter.unusedSectionVars false
/- (*quiescentref1.Machine).Step, instruction by instruction: fence. -/
section
namespace Go.Proofs.YtamfbfajlfbooaaDoor
open Go.RowKit Qs Qh
variable {w : World} {L : Lay} {m : M} {N : Int}
set_option maxRecDepth 100000 in
set_option maxHeartbeats 4000000 in
theorem step_fence (X : Mach ty w L m N) (hN : N ≤ 10000000000) (t : Nat) (ht : t < m.T.length) {h : Thr} (hh : m.T[t]? = some h) {a b c : Nat} {A B C : Int} {to : List UInt8} (hx : h.code[h.pc]? = some ⟨12, A, B, C, to⟩)  :
    Calls Tryd.prog 89 #[.pointer (some ⟨L.blk 0 0, 0, none⟩), .int .i64 t] w fun e w' => e = .returned (.int .i64 0) ∧ ∃ L', MUp ty w L m w' L' ((m.setPc t (h.pc + 1)).fence t) (N + 8) := by
  have hthr : m.thr t = h := by simp [M.thr, List.getD, hh]
  have hdone : m.done t = false := by unfold M.done; rw [hthr, hx]; rfl
  obtain ⟨t0, t1, t2, t3, t4, t5⟩ := X.top
  have ht6 : m.T.length ≤ 6 := by have := X.om.waits; have := X.ot.len; omega
  have hsp := X.olt.sp4
  have hsp8 := X.olt.sp8 t ht
  have d0 : decide ((t : Int) < 0) = false := by simp
  have d1 : decide ((m.T.length : Int) ≤ (t : Int)) = false := by simp; omega
  have HX := Lib.hid X
  have Hh := Lib.hid hh
  have Hx := Lib.hid hx
  have Hthr := Lib.hid hthr
  have Hdone := Lib.hid hdone
  clear X hh hx hthr hdone t4
  go_enter Tryd.func89, Tryd.ntmps89
  go_wp2_with fail
  refine (done_any HX.out t ht).mono ?_
  rintro e w1 ⟨rfl, hm⟩
  rw [Hdone.out]
  have X1 := HX.out.frame0 hm
  have HX1 := Lib.hid X1
  have Hm := Lib.hid hm
  clear t0 t1 t2 t3 t5
  obtain ⟨t0, t1, t2, t3, t4, t5⟩ := X1.top
  obtain ⟨r0, r1, r2, r3, r4⟩ := X1.thr_at Hh.out
  obtain ⟨cb, off, cc, e, hcb, hcell⟩ := code_cell X1 Hh.out Hx.out
  rw [e] at r0
  obtain ⟨hpc, hco⟩ := X1.ot.code t h Hh.out
  have hlen := hco.len
  have hlt : h.pc < h.code.length := (List.getElem?_eq_some_iff.1 Hx.out).1
  have c0 := hcell 0 _ rfl
  have c1 := hcell 1 _ rfl
  have c2 := hcell 2 _ rfl
  have c3 := hcell 3 _ rfl
  have c4 := hcell 4 _ rfl
  simp only [Nat.add_zero, opStr, iv, sv] at c0 c1 c2 c3 c4
  generalize hd4 : (⟨to.toArray⟩ : ByteArray) = dto at *
  have Hd4 := Lib.hid hd4
  have f4 := r3 (t * 3 + 2)
  have n48 : L.blk 4 0 ≠ L.blk 8 t := X1.ne (by rw [obj4 ty m X1.olt.n4]; rfl) (by rw [obj8 ty (X1.olt.n8 t ht) Hh.out]; rfl) (by omega)
  have n04 : L.blk 0 0 ≠ L.blk 4 0 := X1.ne rfl (by rw [obj4 ty m X1.olt.n4]; rfl) (by omega)
  have n08 : L.blk 0 0 ≠ L.blk 8 t := X1.ne rfl (by rw [obj8 ty (X1.olt.n8 t ht) Hh.out]; rfl) (by omega)
  have He := Lib.hid e
  clear hm X1 e hpc hco hcell t4 r3 hd4
  go_wp2
  go_region
  go_wp2_with fail
  have U0 := MUp.then0 ((MUp.quiet HX.out Hm.out).trans (HX1.out.pc Hh.out hlt)) (w3 := ((w1.setCell ⟨L.blk 4 0, t * 3 + 2, none⟩ (.int .i64 ((h.pc : Int) + 1))).alloc (.cells #[.string ⟨#[102, 101, 110, 99, 101]⟩, .int .i64 A, .int .i64 B, .int .i64 C, .string dto] 124)).drew) (by repeat (first | exact Mod.refl _ _ | refine Mod.drew ?_ | refine Mod.drewN ?_ _ | refine Mod.alloc ?_ _))
  have HU0 := Lib.hid U0
  clear U0
  refine (machFence_any HU0.out.mach (by omega) t (by simpa [M.setPc] using ht)).mono ?_
  rintro e w5 ⟨rfl, L5, hU5⟩
  go_wp2
  go_ret
  exact ⟨rfl, L5, HU0.out.trans hU5⟩
end Go.Proofs.YtamfbfajlfbooaaDoor
end
/- (*quiescentref1.Machine).Step, instruction by instruction: store: without a name; behind eight. -/
section
namespace Go.Proofs.YtamfbfajlfbooaaDoor
open Go.RowKit Qs Qh
variable {w : World} {L : Lay} {m : M} {N : Int}
set_option maxRecDepth 100000 in
set_option maxHeartbeats 4000000 in
theorem step_store_none (X : Mach ty w L m N) (hN : N ≤ 10000000000) (t : Nat) (ht : t < m.T.length) {h : Thr} (hh : m.T[t]? = some h) {a b c : Nat} {A B C : Int} {to : List UInt8} (hx : h.code[h.pc]? = some ⟨7, a, b, C, to⟩) (ha : a < 8) (hb : b < 8) (hn : m.names (h.regs.getD a 0) = none) :
    Calls Tryd.prog 89 #[.pointer (some ⟨L.blk 0 0, 0, none⟩), .int .i64 t] w fun e w' => e = .returned (.int .i64 0) ∧ ∃ L', MUp ty w L m w' L' ((m.setPc t (h.pc + 1)).fault) (N + 1) := by
  have hthr : m.thr t = h := by simp [M.thr, List.getD, hh]
  have hdone : m.done t = false := by unfold M.done; rw [hthr, hx]; rfl
  obtain ⟨t0, t1, t2, t3, t4, t5⟩ := X.top
  have ht6 : m.T.length ≤ 6 := by have := X.om.waits; have := X.ot.len; omega
  have hsp := X.olt.sp4
  have hsp8 := X.olt.sp8 t ht
  have d0 : decide ((t : Int) < 0) = false := by simp
  have d1 : decide ((m.T.length : Int) ≤ (t : Int)) = false := by simp; omega
  have HX := Lib.hid X
  have Hh := Lib.hid hh
  have Hx := Lib.hid hx
  have Hthr := Lib.hid hthr
  have Hdone := Lib.hid hdone
  clear X hh hx hthr hdone t4
  have Hn := Lib.hid hn
  clear hn
  go_enter Tryd.func89, Tryd.ntmps89
  go_wp2_with fail
  refine (done_any HX.out t ht).mono ?_
  rintro e w1 ⟨rfl, hm⟩
  rw [Hdone.out]
  have X1 := HX.out.frame0 hm
  have HX1 := Lib.hid X1
  have Hm := Lib.hid hm
  clear t0 t1 t2 t3 t5
  obtain ⟨t0, t1, t2, t3, t4, t5⟩ := X1.top
  obtain ⟨r0, r1, r2, r3, r4⟩ := X1.thr_at Hh.out
  obtain ⟨cb, off, cc, e, hcb, hcell⟩ := code_cell X1 Hh.out Hx.out
  rw [e] at r0
  obtain ⟨hpc, hco⟩ := X1.ot.code t h Hh.out
  have hlen := hco.len
  have hlt : h.pc < h.code.length := (List.getElem?_eq_some_iff.1 Hx.out).1
  have c0 := hcell 0 _ rfl
  have c1 := hcell 1 _ rfl
  have c2 := hcell 2 _ rfl
  have c3 := hcell 3 _ rfl
  have c4 := hcell 4 _ rfl
  simp only [Nat.add_zero, opStr, iv, sv] at c0 c1 c2 c3 c4
  generalize hd4 : (⟨to.toArray⟩ : ByteArray) = dto at *
  have Hd4 := Lib.hid hd4
  obtain ⟨ga0, ga1, ga2⟩ := X1.reg_at Hh.out ha
  have wa := X1.regWord Hh.out ha
  generalize hva : h.regs.getD a 0 = va at *
  obtain ⟨wa0, wa1⟩ := of_isWord wa
  have Hva := Lib.hid hva
  have Hwa := Lib.hid wa
  clear hva wa
  obtain ⟨gb0, gb1, gb2⟩ := X1.reg_at Hh.out hb
  have wb := X1.regWord Hh.out hb
  generalize hvb : h.regs.getD b 0 = vb at *
  obtain ⟨wb0, wb1⟩ := of_isWord wb
  have Hvb := Lib.hid hvb
  have Hwb := Lib.hid wb
  clear hvb wb
  have f4 := r3 (t * 3 + 2)
  have n48 : L.blk 4 0 ≠ L.blk 8 t := X1.ne (by rw [obj4 ty m X1.olt.n4]; rfl) (by rw [obj8 ty (X1.olt.n8 t ht) Hh.out]; rfl) (by omega)
  have n04 : L.blk 0 0 ≠ L.blk 4 0 := X1.ne rfl (by rw [obj4 ty m X1.olt.n4]; rfl) (by omega)
  have n08 : L.blk 0 0 ≠ L.blk 8 t := X1.ne rfl (by rw [obj8 ty (X1.olt.n8 t ht) Hh.out]; rfl) (by omega)
  have He := Lib.hid e
  clear hm X1 e hpc hco hcell t4 r3 hd4
  have iA : (a : Int) < 8 := by omega
  have iB : (b : Int) < 8 := by omega
  have iA0 : (0 : Int) ≤ (a : Int) := by omega
  have iB0 : (0 : Int) ≤ (b : Int) := by omega
  go_wp2
  go_region
  have U0 := MUp.then0 ((MUp.quiet HX.out Hm.out).trans (HX1.out.pc Hh.out hlt)) (w3 := ((w1.setCell ⟨L.blk 4 0, t * 3 + 2, none⟩ (.int .i64 ((h.pc : Int) + 1))).alloc (.cells #[.string ⟨#[115, 116, 111, 114, 101]⟩, .int .i64 a, .int .i64 b, .int .i64 C, .string dto] 124)).drew) (by repeat (first | exact Mod.refl _ _ | refine Mod.drew ?_ | refine Mod.drewN ?_ _ | refine Mod.alloc ?_ _))
  have hbx : ∀ k, Foot ty allK L (m.setPc t (h.pc + 1)) k → k < w1.heap.size := fun k hk => by
    have := (HX1.out.pc Hh.out hlt).mach.rep.lt hk
    simpa using this
  have HU0 := Lib.hid U0
  have Hbx := Lib.hid hbx
  clear U0 hbx
  go_wp2_with fail
  refine (names_none HU0.out.mach (by omega) va Hwa.out Hn.out).mono ?_
  rintro e w5 ⟨rc, rg, rfl, U5⟩
  have X5 := U5.mach
  have w5b0 : w5.cell? ⟨w1.heap.size, 0, none⟩ = some (.string ⟨#[115, 116, 111, 114, 101]⟩) := U5.mod.cell (by rw [box_cell]; rfl) (fun hf => by have := Hbx.out _ hf; simp at this)
  have w5b1 : w5.cell? ⟨w1.heap.size, 1, none⟩ = some (.int .i64 a) := U5.mod.cell (by rw [box_cell]; rfl) (fun hf => by have := Hbx.out _ hf; simp at this)
  have w5b2 : w5.cell? ⟨w1.heap.size, 2, none⟩ = some (.int .i64 b) := U5.mod.cell (by rw [box_cell]; rfl) (fun hf => by have := Hbx.out _ hf; simp at this)
  have w5b3 : w5.cell? ⟨w1.heap.size, 3, none⟩ = some (.int .i64 C) := U5.mod.cell (by rw [box_cell]; rfl) (fun hf => by have := Hbx.out _ hf; simp at this)
  have w5b4 : w5.cell? ⟨w1.heap.size, 4, none⟩ = some (.string dto) := U5.mod.cell (by rw [box_cell]; rfl) (fun hf => by have := Hbx.out _ hf; simp at this)
  obtain ⟨pt0, pt1, pt2, pt3, pt4, pt5⟩ := X5.top
  obtain ⟨pr0, pr1, pr2, pr3, pr4⟩ := X5.thr_at (setPc_T Hh.out _)
  obtain ⟨pga0, pga1, pga2⟩ := X5.reg_at (setPc_T Hh.out _) ha
  obtain ⟨pgb0, pgb1, pgb2⟩ := X5.reg_at (setPc_T Hh.out _) hb
  have hs5 : w1.heap.size < w5.heap.size := by have := U5.mod.size; simp at this; omega
  have HX5 := Lib.hid X5
  have HU5 := Lib.hid U5
  clear X5 U5 pt4 pr3 pt1 pt2 pt3 t0 t1 t2 t3 r0 r1 r2 c0 c1 c2 c3 c4 ga0 ga1 gb0 gb1
  go_wp2
  go_ret
  refine ⟨rfl, L, ?_⟩
  exact MUp.then0 (HU0.out.trans HU5.out) (by repeat (first | exact Mod.refl _ _ | refine Mod.drew ?_ | refine Mod.drewN ?_ _ | refine Mod.alloc ?_ _))
end Go.Proofs.YtamfbfajlfbooaaDoor
end
/- (*quiescentref1.Machine).Drain. -/
section
namespace Go.Proofs.YtamfbfajlfbooaaDoor
open Go.RowKit Qs Qh
variable {w : World} {L : Lay} {m : M} {N : Int}
theorem mdrain_out (X : Mach ty w L m N) (t : Int) (ht : t < 0 ∨ (m.T.length : Int) ≤ t) :
    Calls Tryd.prog 90 #[.pointer (some ⟨L.blk 0 0, 0, none⟩), .int .i64 t] w fun e w' => e = .returned (.int .i64 2) ∧ w = w' := by
  obtain ⟨t0, t1, t2, t3, t4, t5⟩ := X.top
  clear X t4
  by_cases h : t < 0
  · have hd : decide (t < 0) = true := by simpa using h
    go_enter Tryd.func90, Tryd.ntmps90
    go_wp2
    go_ret
    exact ⟨rfl, rfl⟩
  · have hd : decide (t < 0) = false := by simpa using h
    have hd2 : decide ((m.T.length : Int) ≤ t) = true := by simpa using ht.resolve_left h
    go_enter Tryd.func90, Tryd.ntmps90
    go_wp2
    go_ret
    exact ⟨rfl, rfl⟩
theorem mdrain_any (X : Mach ty w L m N) (hN : N ≤ 10000000000) (t : Nat) (ht : t < m.T.length) :
    Calls Tryd.prog 90 #[.pointer (some ⟨L.blk 0 0, 0, none⟩), .int .i64 t] w fun e w' => e = .returned (.int .i64 (m.drain t).2) ∧ ∃ L', MUp ty w L m w' L' (m.drain t).1 (N + 1) := by
  obtain ⟨l, hl⟩ : ∃ l, m.waits[t]? = some l := ⟨_, List.getElem?_eq_getElem (by rw [X.ot.len]; exact ht)⟩
  have hwo : m.waitsOf t = l := by simp [M.waitsOf, List.getD, hl]
  obtain ⟨t0, t1, t2, t3, t4, t5⟩ := X.top
  have hf := X.ot.f0
  have d0 : decide ((t : Int) < 0) = false := by simp
  have d1 : decide ((m.T.length : Int) ≤ (t : Int)) = false := by simp; omega
  have HX := Lib.hid X
  cases l with
  | nil =>
    have hcall := drain_none X.rep rfl rfl X.om X.ol t hl
    have hdr : m.drain t = (m, 5) := by unfold M.drain; rw [hwo]
    have Hdr := Lib.hid hdr
    have Hcall := Lib.hid hcall
    clear hdr hcall X t4 hl hwo
    go_enter Tryd.func90, Tryd.ntmps90
    go_wp2_with (go_at_call 116; refine Hcall.out.mono ?_; rintro e w5 ⟨rfl, rfl⟩)
    go_ret
    rw [Hdr.out]
    exact ⟨rfl, L, (MUp.quiet HX.out (Mod.refl _ _)).mono1⟩
  | cons x r =>
    have hcall := drain_some X.rep rfl rfl rfl rfl rfl X.om X.ol (by omega) t hl
    have hval := X.om.wval t _ hl
    have hx0 := (hval x (by simp)).1
    have om5 : OkM N { m with cells := (drain1 m.cells x).1, waits := m.waits.set t r } :=
      (X.om.drain1 hx0).setWaits (by have := X.om.wlen t _ hl; simp at this; omega) (fun y hy => by simpa [drain1_length] using hval y (by simp [hy]))
    have hdr : m.drain t = ({ m with cells := (drain1 m.cells x).1, waits := m.waits.set t r, faults := m.faults + (if (drain1 m.cells x).2 then 1 else 0) }, 0) := by unfold M.drain; rw [hwo]
    have hbad := drain1_bad m.cells x
    have Hdr := Lib.hid hdr
    have Hcall := Lib.hid hcall
    have Hom5 := Lib.hid om5
    cases hh : hereIn m.cells x.c x.g with
    | true =>
      rw [hh] at hbad
      have hde : drainE m.cells x = 0 := by unfold drainE; rw [if_pos hh]
      have Hde := Lib.hid hde
      have Hbad := Lib.hid hbad
      clear hdr hcall X t4 hl hwo hval om5 hbad hh hde hx0
      go_enter Tryd.func90, Tryd.ntmps90
      go_wp2_with (go_at_call 116; refine Hcall.out.mono ?_; rintro e w5 ⟨rfl, L5, hU5⟩; rw [show drainE _ x = 0 from Hde.out])
      go_ret
      rw [Hdr.out, Hbad.out]
      refine ⟨rfl, L5, ?_⟩
      have U := (HX.out.up (Int.le_refl N) hU5 Hom5.out rfl rfl rfl (by simp)).mono1
      simpa using U
    | false =>
      rw [hh] at hbad
      have hde : drainE m.cells x = 7 := by unfold drainE; rw [if_neg (by rw [hh]; decide)]
      have Hde := Lib.hid hde
      have Hbad := Lib.hid hbad
      clear hdr hcall X t4 hl hwo hval om5 hbad hh hde hx0
      go_enter Tryd.func90, Tryd.ntmps90
      go_wp2_with fail
      refine Hcall.out.mono ?_
      rintro e w5 ⟨rfl, L5, hU5⟩
      rw [show drainE _ x = 7 from Hde.out]
      have U5 := HX.out.up (Int.le_refl N) hU5 Hom5.out rfl rfl rfl (by simp)
      obtain ⟨x0, x1, x2, x3, x4, x5⟩ := U5.mach.top
      have x43 := x4 3
      have E0 := U5.top.1
      rw [E0] at x0 x3 x43 x5
      have HE0 := Lib.hid E0
      have HU5 := Lib.hid U5
      clear x1 x2 x4 E0 hU5 U5
      go_wp2
      go_ret
      rw [Hdr.out, Hbad.out]
      refine ⟨rfl, L5, ?_⟩
      have V := HU5.out.trans (HU5.out.mach.setFaults (N' := N + 1) (m.faults + 1) (by omega) (by omega) (by omega))
      rw [HE0.out] at V
      simpa using V
end Go.Proofs.YtamfbfajlfbooaaDoor
end
/- package grace: flavours; begin. -/
section
namespace Go.Proofs.YtamfbfajlfbooaaDoor
open Go.RowKit Qs Qh
variable {w0 w w1 : World} {b o : Nat} {v0 : Value} {l : List Instr} {br s : ByteArray} {fe jo co : Bool} {u : Value} {c : Nat}
theorem size_plus2 (s : ByteArray) (a b : UInt8) (hs : s.size ≤ 4) : (s ++ ⟨[a, b].toArray⟩ : ByteArray).size ≤ 100 := by
  rw [ByteArray.size_append]
  have : (⟨[a, b].toArray⟩ : ByteArray).size = 2 := rfl
  omega
theorem flavours1 (w : World) : Calls Tryd.prog 124 #[.int .i64 1] w fun e w' => e = .returned (.tuple #[.agg #[.string ⟨#[102, 101, 110, 99, 101]⟩, .bool true, .bool false, .bool false], .bool true]) ∧ Mod noF w w' := by
  go_enter Tryd.func124, Tryd.ntmps124
  go_wp2
  refine bodyPost_ret (v := .tuple #[.agg #[.string ⟨#[102, 101, 110, 99, 101]⟩, .bool true, .bool false, .bool false], .bool true]) (by simp [results, Tryd.results124, go_sem]) rfl ⟨rfl, ?_⟩
  repeat (first | exact Mod.refl _ _ | refine Mod.drew ?_ | refine Mod.drewN ?_ _ | refine Mod.alloc ?_ _ | refine Mod.setCell ?_ (fun h => absurd h (by simp)) _)
theorem flavours2 (w : World) : Calls Tryd.prog 124 #[.int .i64 2] w fun e w' => e = .returned (.tuple #[.agg #[.string ⟨#[102, 111, 114, 99, 101]⟩, .bool false, .bool false, .bool false], .bool true]) ∧ Mod noF w w' := by
  go_enter Tryd.func124, Tryd.ntmps124
  go_wp2
  refine bodyPost_ret (v := .tuple #[.agg #[.string ⟨#[102, 111, 114, 99, 101]⟩, .bool false, .bool false, .bool false], .bool true]) (by simp [results, Tryd.results124, go_sem]) rfl ⟨rfl, ?_⟩
  repeat (first | exact Mod.refl _ _ | refine Mod.drew ?_ | refine Mod.drewN ?_ _ | refine Mod.alloc ?_ _ | refine Mod.setCell ?_ (fun h => absurd h (by simp)) _)
theorem flavours3 (w : World) : Calls Tryd.prog 124 #[.int .i64 3] w fun e w' => e = .returned (.tuple #[.agg #[.string ⟨#[102, 101, 110, 99, 101]⟩, .bool false, .bool false, .bool true], .bool true]) ∧ Mod noF w w' := by
  go_enter Tryd.func124, Tryd.ntmps124
  go_wp2
  refine bodyPost_ret (v := .tuple #[.agg #[.string ⟨#[102, 101, 110, 99, 101]⟩, .bool false, .bool false, .bool true], .bool true]) (by simp [results, Tryd.results124, go_sem]) rfl ⟨rfl, ?_⟩
  repeat (first | exact Mod.refl _ _ | refine Mod.drew ?_ | refine Mod.drewN ?_ _ | refine Mod.alloc ?_ _ | refine Mod.setCell ?_ (fun h => absurd h (by simp)) _)
theorem flavours4 (w : World) : Calls Tryd.prog 124 #[.int .i64 4] w fun e w' => e = .returned (.tuple #[.agg #[.string ⟨#[102, 101, 110, 99, 101]⟩, .bool true, .bool true, .bool false], .bool true]) ∧ Mod noF w w' := by
  go_enter Tryd.func124, Tryd.ntmps124
  go_wp2
  refine bodyPost_ret (v := .tuple #[.agg #[.string ⟨#[102, 101, 110, 99, 101]⟩, .bool true, .bool true, .bool false], .bool true]) (by simp [results, Tryd.results124, go_sem]) rfl ⟨rfl, ?_⟩
  repeat (first | exact Mod.refl _ _ | refine Mod.drew ?_ | refine Mod.drewN ?_ _ | refine Mod.alloc ?_ _ | refine Mod.setCell ?_ (fun h => absurd h (by simp)) _)
theorem flavours_bad (f : Int) (hf : ¬ (1 ≤ f ∧ f ≤ 4)) (w : World) : Calls Tryd.prog 124 #[.int .i64 f] w fun e w' => e = .returned (.tuple #[.agg #[.string ⟨#[]⟩, .bool false, .bool false, .bool false], .bool false]) ∧ Mod noF w w' := by
  have d1 : (f == 1) = false := by rw [beq_eq_false_iff_ne]; omega
  have d2 : (f == 2) = false := by rw [beq_eq_false_iff_ne]; omega
  have d3 : (f == 3) = false := by rw [beq_eq_false_iff_ne]; omega
  have d4 : (f == 4) = false := by rw [beq_eq_false_iff_ne]; omega
  clear hf
  go_enter Tryd.func124, Tryd.ntmps124
  go_wp2
  refine bodyPost_ret (v := .tuple #[.agg #[.string ⟨#[]⟩, .bool false, .bool false, .bool false], .bool false]) (by simp [results, Tryd.results124, go_sem]) rfl ⟨rfl, ?_⟩
  repeat (first | exact Mod.refl _ _ | refine Mod.drew ?_ | refine Mod.drewN ?_ _ | refine Mod.alloc ?_ _ | refine Mod.setCell ?_ (fun h => absurd h (by simp)) _)
set_option maxHeartbeats 2000000 in
theorem begin1_ok (s : ByteArray) (w : World) (hn : nameB s.data.toList = true) (hs : s.size ≤ 4) :
    Calls Tryd.prog 138 #[.int .i64 1, .string s] w fun e w' => ∃ b, e = .returned (.tuple #[.pointer (some ⟨b, 0, none⟩), .nilIface]) ∧ Mod noF w w' ∧ w.heap.size ≤ b ∧ Emit insT w' b 4 (.slice none 0 0) [] ∧ MkAt w' b (opStr 12) true false false s := by
  have hsz : s.size ≤ maxLen := by unfold maxLen; omega
  have hm : (s.size : Int) ≤ 4 := by omega
  have Hn := Lib.hid hn
  clear hn
  go_enter Tryd.func138, Tryd.ntmps138
  go_wp2_with fail
  refine (flavours1 w).mono ?_
  rintro e w1 ⟨rfl, hm1⟩
  have Hm1 := Lib.hid hm1
  clear hm1
  go_wp2_with (go_at_call 101; refine (prefix_ok s 4 _ hsz Hn.out hm).mono ?_; rintro e w' ⟨rfl, rfl⟩)
  go_ret2
  have hs1 := Hm1.out.size
  exact ⟨w1.heap.size + 1, by simp, (Hm1.out.alloc _).alloc _, by omega, ⟨by simp, by simp, InsRow.nil _ _, by simp [Value.ownBlock], by simp⟩, ⟨by simp; rfl, by simp, by simp, by simp, by simp⟩⟩
theorem begin_name1 (s : ByteArray) (w : World) (a : Nat → Addr) (E : ErrsAt w a) (hs : s.size ≤ maxLen) (h : nameB s.data.toList = false ∨ (4 : Int) < (s.size : Int)) :
    Calls Tryd.prog 138 #[.int .i64 1, .string s] w fun e w' => e = .returned (.tuple #[.pointer none, errV a 3]) ∧ Mod noF w w' := by
  have hp := fun (w1 : World) (hm : Mod noF w w1) => prefix_bad s 4 w1 a (E.keep hm) hs h
  unfold errV at hp ⊢
  have Hp := Lib.hid hp
  clear h E hp
  go_enter Tryd.func138, Tryd.ntmps138
  go_wp2_with fail
  refine (flavours1 w).mono ?_
  rintro e w1 ⟨rfl, hm1⟩
  have Hm1 := Lib.hid hm1
  clear hm1
  go_wp2_with (go_at_call 101; refine (Hp.out _ (Hm1.out.alloc _)).mono ?_; rintro e w' ⟨rfl, rfl⟩)
  go_ret2
  exact ⟨rfl, Hm1.out.alloc _⟩
set_option maxHeartbeats 2000000 in
theorem begin2_ok (s : ByteArray) (w : World) (hn : nameB s.data.toList = true) (hs : s.size ≤ 4) :
    Calls Tryd.prog 138 #[.int .i64 2, .string s] w fun e w' => ∃ b, e = .returned (.tuple #[.pointer (some ⟨b, 0, none⟩), .nilIface]) ∧ Mod noF w w' ∧ w.heap.size ≤ b ∧ Emit insT w' b 4 (.slice none 0 0) [] ∧ MkAt w' b (opStr 13) false false false s := by
  have hsz : s.size ≤ maxLen := by unfold maxLen; omega
  have hm : (s.size : Int) ≤ 4 := by omega
  have Hn := Lib.hid hn
  clear hn
  go_enter Tryd.func138, Tryd.ntmps138
  go_wp2_with fail
  refine (flavours2 w).mono ?_
  rintro e w1 ⟨rfl, hm1⟩
  have Hm1 := Lib.hid hm1
  clear hm1
  go_wp2_with (go_at_call 101; refine (prefix_ok s 4 _ hsz Hn.out hm).mono ?_; rintro e w' ⟨rfl, rfl⟩)
  go_ret2
  have hs1 := Hm1.out.size
  exact ⟨w1.heap.size + 1, by simp, (Hm1.out.alloc _).alloc _, by omega, ⟨by simp, by simp, InsRow.nil _ _, by simp [Value.ownBlock], by simp⟩, ⟨by simp; rfl, by simp, by simp, by simp, by simp⟩⟩
theorem begin_name2 (s : ByteArray) (w : World) (a : Nat → Addr) (E : ErrsAt w a) (hs : s.size ≤ maxLen) (h : nameB s.data.toList = false ∨ (4 : Int) < (s.size : Int)) :
    Calls Tryd.prog 138 #[.int .i64 2, .string s] w fun e w' => e = .returned (.tuple #[.pointer none, errV a 3]) ∧ Mod noF w w' := by
  have hp := fun (w1 : World) (hm : Mod noF w w1) => prefix_bad s 4 w1 a (E.keep hm) hs h
  unfold errV at hp ⊢
  have Hp := Lib.hid hp
  clear h E hp
  go_enter Tryd.func138, Tryd.ntmps138
  go_wp2_with fail
  refine (flavours2 w).mono ?_
  rintro e w1 ⟨rfl, hm1⟩
  have Hm1 := Lib.hid hm1
  clear hm1
  go_wp2_with (go_at_call 101; refine (Hp.out _ (Hm1.out.alloc _)).mono ?_; rintro e w' ⟨rfl, rfl⟩)
  go_ret2
  exact ⟨rfl, Hm1.out.alloc _⟩
set_option maxHeartbeats 2000000 in
theorem begin3_ok (s : ByteArray) (w : World) (hn : nameB s.data.toList = true) (hs : s.size ≤ 4) :
    Calls Tryd.prog 138 #[.int .i64 3, .string s] w fun e w' => ∃ b, e = .returned (.tuple #[.pointer (some ⟨b, 0, none⟩), .nilIface]) ∧ Mod noF w w' ∧ w.heap.size ≤ b ∧ Emit insT w' b 4 (.slice none 0 0) [] ∧ MkAt w' b (opStr 12) false false true s := by
  have hsz : s.size ≤ maxLen := by unfold maxLen; omega
  have hm : (s.size : Int) ≤ 4 := by omega
  have Hn := Lib.hid hn
  clear hn
  go_enter Tryd.func138, Tryd.ntmps138
  go_wp2_with fail
  refine (flavours3 w).mono ?_
  rintro e w1 ⟨rfl, hm1⟩
  have Hm1 := Lib.hid hm1
  clear hm1
  go_wp2_with (go_at_call 101; refine (prefix_ok s 4 _ hsz Hn.out hm).mono ?_; rintro e w' ⟨rfl, rfl⟩)
  go_ret2
  have hs1 := Hm1.out.size
  exact ⟨w1.heap.size + 1, by simp, (Hm1.out.alloc _).alloc _, by omega, ⟨by simp, by simp, InsRow.nil _ _, by simp [Value.ownBlock], by simp⟩, ⟨by simp; rfl, by simp, by simp, by simp, by simp⟩⟩
theorem begin_name3 (s : ByteArray) (w : World) (a : Nat → Addr) (E : ErrsAt w a) (hs : s.size ≤ maxLen) (h : nameB s.data.toList = false ∨ (4 : Int) < (s.size : Int)) :
    Calls Tryd.prog 138 #[.int .i64 3, .string s] w fun e w' => e = .returned (.tuple #[.pointer none, errV a 3]) ∧ Mod noF w w' := by
  have hp := fun (w1 : World) (hm : Mod noF w w1) => prefix_bad s 4 w1 a (E.keep hm) hs h
  unfold errV at hp ⊢
  have Hp := Lib.hid hp
  clear h E hp
  go_enter Tryd.func138, Tryd.ntmps138
  go_wp2_with fail
  refine (flavours3 w).mono ?_
  rintro e w1 ⟨rfl, hm1⟩
  have Hm1 := Lib.hid hm1
  clear hm1
  go_wp2_with (go_at_call 101; refine (Hp.out _ (Hm1.out.alloc _)).mono ?_; rintro e w' ⟨rfl, rfl⟩)
  go_ret2
  exact ⟨rfl, Hm1.out.alloc _⟩
set_option maxHeartbeats 2000000 in
theorem begin4_ok (s : ByteArray) (w : World) (hn : nameB s.data.toList = true) (hs : s.size ≤ 4) :
    Calls Tryd.prog 138 #[.int .i64 4, .string s] w fun e w' => ∃ b, e = .returned (.tuple #[.pointer (some ⟨b, 0, none⟩), .nilIface]) ∧ Mod noF w w' ∧ w.heap.size ≤ b ∧ Emit insT w' b 4 (.slice none 0 0) [] ∧ MkAt w' b (opStr 12) true true false s := by
  have hsz : s.size ≤ maxLen := by unfold maxLen; omega
  have hm : (s.size : Int) ≤ 4 := by omega
  have Hn := Lib.hid hn
  clear hn
  go_enter Tryd.func138, Tryd.ntmps138
  go_wp2_with fail
  refine (flavours4 w).mono ?_
  rintro e w1 ⟨rfl, hm1⟩
  have Hm1 := Lib.hid hm1
  clear hm1
  go_wp2_with (go_at_call 101; refine (prefix_ok s 4 _ hsz Hn.out hm).mono ?_; rintro e w' ⟨rfl, rfl⟩)
  go_ret2
  have hs1 := Hm1.out.size
  exact ⟨w1.heap.size + 1, by simp, (Hm1.out.alloc _).alloc _, by omega, ⟨by simp, by simp, InsRow.nil _ _, by simp [Value.ownBlock], by simp⟩, ⟨by simp; rfl, by simp, by simp, by simp, by simp⟩⟩
theorem begin_name4 (s : ByteArray) (w : World) (a : Nat → Addr) (E : ErrsAt w a) (hs : s.size ≤ maxLen) (h : nameB s.data.toList = false ∨ (4 : Int) < (s.size : Int)) :
    Calls Tryd.prog 138 #[.int .i64 4, .string s] w fun e w' => e = .returned (.tuple #[.pointer none, errV a 3]) ∧ Mod noF w w' := by
  have hp := fun (w1 : World) (hm : Mod noF w w1) => prefix_bad s 4 w1 a (E.keep hm) hs h
  unfold errV at hp ⊢
  have Hp := Lib.hid hp
  clear h E hp
  go_enter Tryd.func138, Tryd.ntmps138
  go_wp2_with fail
  refine (flavours4 w).mono ?_
  rintro e w1 ⟨rfl, hm1⟩
  have Hm1 := Lib.hid hm1
  clear hm1
  go_wp2_with (go_at_call 101; refine (Hp.out _ (Hm1.out.alloc _)).mono ?_; rintro e w' ⟨rfl, rfl⟩)
  go_ret2
  exact ⟨rfl, Hm1.out.alloc _⟩
theorem begin_bound (f : Int) (hf : ¬ (1 ≤ f ∧ f ≤ 4)) (s : ByteArray) (w : World) (a : Nat → Addr) (E : ErrsAt w a) :
    Calls Tryd.prog 138 #[.int .i64 f, .string s] w fun e w' => e = .returned (.tuple #[.pointer none, errV a 1]) ∧ Mod noF w w' := by
  have hfl := flavours_bad f hf
  have hev := fun (w1 : World) (h : Mod noF w w1) => (E.keep h).var 1 (by omega)
  unfold errV at hev ⊢
  have Hev := Lib.hid hev
  clear hf E hev
  go_enter Tryd.func138, Tryd.ntmps138
  go_wp2_with fail
  refine (hfl w).mono ?_
  rintro e w1 ⟨rfl, hm1⟩
  have hv := Hev.out _ (hm1.alloc (.cells #[.string ⟨#[]⟩, .bool false, .bool false, .bool false] 190))
  have Hm1 := Lib.hid hm1
  clear hm1
  go_wp2
  go_region
  go_wp2
  go_ret2
  exact ⟨rfl, (Hm1.out.alloc _).drew⟩
end Go.Proofs.YtamfbfajlfbooaaDoor
end
/- The code of package grace, flavour by flavour, plain. -/
section
namespace Go.Proofs.YtamfbfajlfbooaaDoor
open Go.RowKit Qs Qh
variable {w0 w w1 : World} {b o : Nat} {v0 : Value} {l : List Instr} {br s : ByteArray} {fe jo co : Bool} {u : Value} {c : Nat}
def gc10 : List Instr := [⟨6, 0, 6, 0, []⟩, ⟨0, 1, 255, 0, []⟩, ⟨4, 1, 0, 1, []⟩, ⟨14, 1, 0, 0, [46, 97]⟩, ⟨0, 1, 1, 0, []⟩, ⟨2, 0, 0, 1, []⟩, ⟨7, 6, 0, 0, []⟩, ⟨16, 0, 0, 0, [46, 98]⟩, ⟨17, 0, 0, 0, [46, 97]⟩, ⟨6, 0, 7, 0, []⟩, ⟨7, 6, 0, 0, []⟩, ⟨12, 0, 0, 0, []⟩, ⟨17, 0, 0, 0, [46, 98]⟩]
def gc11 : List Instr := [⟨12, 0, 0, 0, []⟩, ⟨6, 0, 6, 0, []⟩, ⟨0, 1, 1, 0, []⟩, ⟨3, 0, 0, 1, []⟩, ⟨7, 6, 0, 0, []⟩]
def gc12 : List Instr := []
def gc13 : List Instr := []
def gc14 : List Instr := [⟨12, 0, 0, 0, []⟩, ⟨17, 0, 0, 0, [116, 46, 97]⟩, ⟨0, 0, 0, 0, []⟩, ⟨0, 1, 1, 0, []⟩, ⟨9, 7, 0, 1, []⟩, ⟨14, 0, 0, 0, [116, 46, 98]⟩, ⟨16, 0, 0, 0, [116, 46, 97]⟩, ⟨17, 0, 0, 0, [116, 46, 98]⟩, ⟨6, 0, 7, 0, []⟩, ⟨0, 1, 256, 0, []⟩, ⟨5, 0, 0, 1, []⟩, ⟨7, 7, 0, 0, []⟩, ⟨12, 0, 0, 0, []⟩, ⟨6, 2, 7, 2, []⟩, ⟨17, 0, 0, 0, [46, 120, 108]⟩, ⟨14, 2, 0, 0, [46, 120, 111]⟩, ⟨17, 0, 0, 0, [46, 120, 115]⟩, ⟨6, 0, 2, 0, []⟩, ⟨0, 1, 255, 0, []⟩, ⟨4, 1, 0, 1, []⟩, ⟨14, 1, 0, 0, [46, 120, 110]⟩, ⟨6, 1, 7, 0, []⟩, ⟨5, 1, 0, 1, []⟩, ⟨0, 0, 256, 0, []⟩, ⟨4, 1, 1, 0, []⟩, ⟨14, 1, 0, 0, [46, 120, 110]⟩, ⟨16, 0, 0, 0, [46, 120, 115]⟩, ⟨17, 0, 0, 0, [46, 120, 110]⟩, ⟨6, 2, 2, 1, []⟩, ⟨16, 0, 0, 0, [46, 120, 108]⟩, ⟨17, 0, 0, 0, [46, 120, 111]⟩, ⟨6, 0, 7, 0, []⟩, ⟨0, 1, 256, 0, []⟩, ⟨5, 0, 0, 1, []⟩, ⟨7, 7, 0, 0, []⟩, ⟨12, 0, 0, 0, []⟩, ⟨6, 2, 7, 2, []⟩, ⟨17, 0, 0, 0, [46, 121, 108]⟩, ⟨14, 2, 0, 0, [46, 121, 111]⟩, ⟨17, 0, 0, 0, [46, 121, 115]⟩, ⟨6, 0, 2, 0, []⟩, ⟨0, 1, 255, 0, []⟩, ⟨4, 1, 0, 1, []⟩, ⟨14, 1, 0, 0, [46, 121, 110]⟩, ⟨6, 1, 7, 0, []⟩, ⟨5, 1, 0, 1, []⟩, ⟨0, 0, 256, 0, []⟩, ⟨4, 1, 1, 0, []⟩, ⟨14, 1, 0, 0, [46, 121, 110]⟩, ⟨16, 0, 0, 0, [46, 121, 115]⟩, ⟨17, 0, 0, 0, [46, 121, 110]⟩, ⟨6, 2, 2, 1, []⟩, ⟨16, 0, 0, 0, [46, 121, 108]⟩, ⟨17, 0, 0, 0, [46, 121, 111]⟩, ⟨12, 0, 0, 0, []⟩, ⟨0, 0, 0, 0, []⟩, ⟨7, 7, 0, 1, []⟩, ⟨12, 0, 0, 0, []⟩]
def gc20 : List Instr := [⟨6, 0, 6, 0, []⟩, ⟨0, 1, 255, 0, []⟩, ⟨4, 1, 0, 1, []⟩, ⟨14, 1, 0, 0, [46, 97]⟩, ⟨0, 1, 1, 0, []⟩, ⟨2, 0, 0, 1, []⟩, ⟨7, 6, 0, 0, []⟩, ⟨16, 0, 0, 0, [46, 98]⟩, ⟨17, 0, 0, 0, [46, 97]⟩, ⟨6, 0, 7, 0, []⟩, ⟨7, 6, 0, 0, []⟩, ⟨17, 0, 0, 0, [46, 98]⟩]
def gc21 : List Instr := [⟨6, 0, 6, 0, []⟩, ⟨0, 1, 1, 0, []⟩, ⟨3, 0, 0, 1, []⟩, ⟨7, 6, 0, 0, []⟩]
def gc22 : List Instr := []
def gc23 : List Instr := []
def gc24 : List Instr := [⟨13, 0, 0, 0, []⟩, ⟨17, 0, 0, 0, [116, 46, 97]⟩, ⟨0, 0, 0, 0, []⟩, ⟨0, 1, 1, 0, []⟩, ⟨9, 7, 0, 1, []⟩, ⟨14, 0, 0, 0, [116, 46, 98]⟩, ⟨16, 0, 0, 0, [116, 46, 97]⟩, ⟨17, 0, 0, 0, [116, 46, 98]⟩, ⟨6, 0, 7, 0, []⟩, ⟨0, 1, 256, 0, []⟩, ⟨5, 0, 0, 1, []⟩, ⟨7, 7, 0, 0, []⟩, ⟨13, 0, 0, 0, []⟩, ⟨6, 2, 7, 2, []⟩, ⟨17, 0, 0, 0, [46, 120, 108]⟩, ⟨14, 2, 0, 0, [46, 120, 111]⟩, ⟨17, 0, 0, 0, [46, 120, 115]⟩, ⟨6, 0, 2, 0, []⟩, ⟨0, 1, 255, 0, []⟩, ⟨4, 1, 0, 1, []⟩, ⟨14, 1, 0, 0, [46, 120, 110]⟩, ⟨6, 1, 7, 0, []⟩, ⟨5, 1, 0, 1, []⟩, ⟨0, 0, 256, 0, []⟩, ⟨4, 1, 1, 0, []⟩, ⟨14, 1, 0, 0, [46, 120, 110]⟩, ⟨16, 0, 0, 0, [46, 120, 115]⟩, ⟨17, 0, 0, 0, [46, 120, 110]⟩, ⟨6, 2, 2, 1, []⟩, ⟨16, 0, 0, 0, [46, 120, 108]⟩, ⟨17, 0, 0, 0, [46, 120, 111]⟩, ⟨6, 0, 7, 0, []⟩, ⟨0, 1, 256, 0, []⟩, ⟨5, 0, 0, 1, []⟩, ⟨7, 7, 0, 0, []⟩, ⟨13, 0, 0, 0, []⟩, ⟨6, 2, 7, 2, []⟩, ⟨17, 0, 0, 0, [46, 121, 108]⟩, ⟨14, 2, 0, 0, [46, 121, 111]⟩, ⟨17, 0, 0, 0, [46, 121, 115]⟩, ⟨6, 0, 2, 0, []⟩, ⟨0, 1, 255, 0, []⟩, ⟨4, 1, 0, 1, []⟩, ⟨14, 1, 0, 0, [46, 121, 110]⟩, ⟨6, 1, 7, 0, []⟩, ⟨5, 1, 0, 1, []⟩, ⟨0, 0, 256, 0, []⟩, ⟨4, 1, 1, 0, []⟩, ⟨14, 1, 0, 0, [46, 121, 110]⟩, ⟨16, 0, 0, 0, [46, 121, 115]⟩, ⟨17, 0, 0, 0, [46, 121, 110]⟩, ⟨6, 2, 2, 1, []⟩, ⟨16, 0, 0, 0, [46, 121, 108]⟩, ⟨17, 0, 0, 0, [46, 121, 111]⟩, ⟨13, 0, 0, 0, []⟩, ⟨0, 0, 0, 0, []⟩, ⟨7, 7, 0, 1, []⟩, ⟨12, 0, 0, 0, []⟩]
def gc30 : List Instr := []
def gc31 : List Instr := []
def gc32 : List Instr := [⟨6, 0, 7, 0, []⟩, ⟨7, 6, 0, 0, []⟩, ⟨12, 0, 0, 0, []⟩]
def gc33 : List Instr := [⟨0, 0, 0, 0, []⟩, ⟨7, 6, 0, 0, []⟩, ⟨12, 0, 0, 0, []⟩]
def gc34 : List Instr := [⟨0, 0, 0, 0, []⟩, ⟨7, 6, 0, 0, []⟩, ⟨12, 0, 0, 0, []⟩, ⟨17, 0, 0, 0, [116, 46, 97]⟩, ⟨0, 0, 0, 0, []⟩, ⟨0, 1, 1, 0, []⟩, ⟨9, 7, 0, 1, []⟩, ⟨14, 0, 0, 0, [116, 46, 98]⟩, ⟨16, 0, 0, 0, [116, 46, 97]⟩, ⟨17, 0, 0, 0, [116, 46, 98]⟩, ⟨6, 0, 7, 0, []⟩, ⟨0, 1, 2, 0, []⟩, ⟨2, 0, 0, 1, []⟩, ⟨7, 7, 0, 0, []⟩, ⟨12, 0, 0, 0, []⟩, ⟨6, 2, 7, 2, []⟩, ⟨17, 0, 0, 0, [46, 120, 108]⟩, ⟨14, 2, 0, 0, [46, 120, 111]⟩, ⟨17, 0, 0, 0, [46, 120, 115]⟩, ⟨6, 0, 2, 0, []⟩, ⟨14, 0, 0, 0, [46, 120, 110]⟩, ⟨6, 1, 7, 0, []⟩, ⟨15, 0, 1, 0, [46, 120, 110]⟩, ⟨16, 0, 0, 0, [46, 120, 115]⟩, ⟨17, 0, 0, 0, [46, 120, 110]⟩, ⟨6, 2, 2, 1, []⟩, ⟨16, 0, 0, 0, [46, 120, 108]⟩, ⟨17, 0, 0, 0, [46, 120, 111]⟩, ⟨0, 0, 0, 0, []⟩, ⟨7, 7, 0, 1, []⟩, ⟨12, 0, 0, 0, []⟩, ⟨6, 0, 7, 0, []⟩, ⟨7, 6, 0, 0, []⟩, ⟨12, 0, 0, 0, []⟩]
def gc40 : List Instr := [⟨6, 0, 6, 2, []⟩, ⟨14, 0, 0, 0, [46, 106]⟩, ⟨16, 0, 0, 0, [46, 107]⟩, ⟨17, 0, 0, 0, [46, 106]⟩, ⟨17, 0, 0, 0, [116, 46, 97]⟩, ⟨0, 0, 0, 0, []⟩, ⟨0, 1, 1, 0, []⟩, ⟨9, 7, 0, 1, []⟩, ⟨14, 0, 0, 0, [116, 46, 98]⟩, ⟨16, 0, 0, 0, [116, 46, 97]⟩, ⟨17, 0, 0, 0, [116, 46, 98]⟩, ⟨6, 0, 7, 2, []⟩, ⟨7, 6, 0, 1, []⟩, ⟨7, 7, 6, 2, []⟩, ⟨0, 0, 1, 0, []⟩, ⟨7, 6, 0, 2, []⟩, ⟨0, 0, 0, 0, []⟩, ⟨7, 7, 0, 1, []⟩, ⟨12, 0, 0, 0, []⟩, ⟨17, 0, 0, 0, [46, 107]⟩, ⟨6, 0, 6, 0, []⟩, ⟨0, 1, 255, 0, []⟩, ⟨4, 1, 0, 1, []⟩, ⟨14, 1, 0, 0, [46, 97]⟩, ⟨0, 1, 1, 0, []⟩, ⟨2, 0, 0, 1, []⟩, ⟨7, 6, 0, 0, []⟩, ⟨16, 0, 0, 0, [46, 98]⟩, ⟨17, 0, 0, 0, [46, 97]⟩, ⟨6, 0, 7, 0, []⟩, ⟨7, 6, 0, 0, []⟩, ⟨12, 0, 0, 0, []⟩, ⟨17, 0, 0, 0, [46, 98]⟩]
def gc41 : List Instr := [⟨12, 0, 0, 0, []⟩, ⟨6, 0, 6, 0, []⟩, ⟨0, 1, 1, 0, []⟩, ⟨3, 0, 0, 1, []⟩, ⟨7, 6, 0, 0, []⟩]
def gc42 : List Instr := []
def gc43 : List Instr := []
def gc44 : List Instr := [⟨12, 0, 0, 0, []⟩, ⟨17, 0, 0, 0, [116, 46, 97]⟩, ⟨0, 0, 0, 0, []⟩, ⟨0, 1, 1, 0, []⟩, ⟨9, 7, 0, 1, []⟩, ⟨14, 0, 0, 0, [116, 46, 98]⟩, ⟨16, 0, 0, 0, [116, 46, 97]⟩, ⟨17, 0, 0, 0, [116, 46, 98]⟩, ⟨6, 0, 7, 0, []⟩, ⟨0, 1, 256, 0, []⟩, ⟨5, 0, 0, 1, []⟩, ⟨7, 7, 0, 0, []⟩, ⟨12, 0, 0, 0, []⟩, ⟨6, 2, 7, 2, []⟩, ⟨17, 0, 0, 0, [46, 120, 108]⟩, ⟨14, 2, 0, 0, [46, 120, 111]⟩, ⟨17, 0, 0, 0, [46, 120, 115]⟩, ⟨6, 0, 2, 0, []⟩, ⟨0, 1, 255, 0, []⟩, ⟨4, 1, 0, 1, []⟩, ⟨14, 1, 0, 0, [46, 120, 110]⟩, ⟨6, 1, 7, 0, []⟩, ⟨5, 1, 0, 1, []⟩, ⟨0, 0, 256, 0, []⟩, ⟨4, 1, 1, 0, []⟩, ⟨14, 1, 0, 0, [46, 120, 110]⟩, ⟨16, 0, 0, 0, [46, 120, 115]⟩, ⟨17, 0, 0, 0, [46, 120, 110]⟩, ⟨6, 2, 2, 1, []⟩, ⟨16, 0, 0, 0, [46, 120, 108]⟩, ⟨17, 0, 0, 0, [46, 120, 111]⟩, ⟨6, 0, 7, 0, []⟩, ⟨0, 1, 256, 0, []⟩, ⟨5, 0, 0, 1, []⟩, ⟨7, 7, 0, 0, []⟩, ⟨12, 0, 0, 0, []⟩, ⟨6, 2, 7, 2, []⟩, ⟨17, 0, 0, 0, [46, 121, 108]⟩, ⟨14, 2, 0, 0, [46, 121, 111]⟩, ⟨17, 0, 0, 0, [46, 121, 115]⟩, ⟨6, 0, 2, 0, []⟩, ⟨0, 1, 255, 0, []⟩, ⟨4, 1, 0, 1, []⟩, ⟨14, 1, 0, 0, [46, 121, 110]⟩, ⟨6, 1, 7, 0, []⟩, ⟨5, 1, 0, 1, []⟩, ⟨0, 0, 256, 0, []⟩, ⟨4, 1, 1, 0, []⟩, ⟨14, 1, 0, 0, [46, 121, 110]⟩, ⟨16, 0, 0, 0, [46, 121, 115]⟩, ⟨17, 0, 0, 0, [46, 121, 110]⟩, ⟨6, 2, 2, 1, []⟩, ⟨16, 0, 0, 0, [46, 121, 108]⟩, ⟨17, 0, 0, 0, [46, 121, 111]⟩, ⟨12, 0, 0, 0, []⟩, ⟨0, 0, 0, 0, []⟩, ⟨7, 7, 0, 1, []⟩, ⟨12, 0, 0, 0, []⟩]
def gcode (f k : Nat) : List Instr := match f, k with
  | 1, 0 => gc10
  | 1, 1 => gc11
  | 1, 2 => gc12
  | 1, 3 => gc13
  | 1, 4 => gc14
  | 2, 0 => gc20
  | 2, 1 => gc21
  | 2, 2 => gc22
  | 2, 3 => gc23
  | 2, 4 => gc24
  | 3, 0 => gc30
  | 3, 1 => gc31
  | 3, 2 => gc32
  | 3, 3 => gc33
  | 3, 4 => gc34
  | 4, 0 => gc40
  | 4, 1 => gc41
  | 4, 2 => gc42
  | 4, 3 => gc43
  | 4, 4 => gc44
  | _, _ => []
theorem genter1_eq (s : ByteArray) : [] ++ ([⟨6, 0, 6, 0, []⟩, ⟨0, 1, 255, 0, []⟩, ⟨4, 1, 0, 1, []⟩, ⟨14, 1, 0, 0, s.data.toList ++ [46, 97]⟩, ⟨0, 1, 1, 0, []⟩, ⟨2, 0, 0, 1, []⟩, ⟨7, 6, 0, 0, []⟩, ⟨16, 0, 0, 0, s.data.toList ++ [46, 98]⟩, ⟨17, 0, 0, 0, s.data.toList ++ [46, 97]⟩, ⟨6, 0, 7, 0, []⟩, ⟨7, 6, 0, 0, []⟩, ⟨12, 0, 0, 0, []⟩, ⟨17, 0, 0, 0, s.data.toList ++ [46, 98]⟩]) = preC s.data.toList gc10 := by
  simp [preC, preI, gc10, takeCode, giveCode, joinCode, awayCode, eachCode, turnGo, waitGo, turnCode, List.append_assoc]
theorem gleave1_eq (s : ByteArray) : [] ++ ([⟨12, 0, 0, 0, []⟩, ⟨6, 0, 6, 0, []⟩, ⟨0, 1, 1, 0, []⟩, ⟨3, 0, 0, 1, []⟩, ⟨7, 6, 0, 0, []⟩]) = preC s.data.toList gc11 := by
  simp [preC, preI, gc11, takeCode, giveCode, joinCode, awayCode, eachCode, turnGo, waitGo, turnCode, List.append_assoc]
theorem gwait1_eq (s : ByteArray) : [] ++ ([⟨12, 0, 0, 0, []⟩] ++ (takeCode (s.data.toList ++ [116]) 7 1 0 ++ (turnCode 12 (s ++ ⟨#[46, 120]⟩) ++ (turnCode 12 (s ++ ⟨#[46, 121]⟩) ++ ([⟨12, 0, 0, 0, []⟩] ++ (giveCode 7 1 0)))))) = preC s.data.toList gc14 := by
  simp [preC, preI, gc14, takeCode, giveCode, joinCode, awayCode, eachCode, turnGo, waitGo, turnCode, List.append_assoc]
theorem genter2_eq (s : ByteArray) : [] ++ ([⟨6, 0, 6, 0, []⟩, ⟨0, 1, 255, 0, []⟩, ⟨4, 1, 0, 1, []⟩, ⟨14, 1, 0, 0, s.data.toList ++ [46, 97]⟩, ⟨0, 1, 1, 0, []⟩, ⟨2, 0, 0, 1, []⟩, ⟨7, 6, 0, 0, []⟩, ⟨16, 0, 0, 0, s.data.toList ++ [46, 98]⟩, ⟨17, 0, 0, 0, s.data.toList ++ [46, 97]⟩, ⟨6, 0, 7, 0, []⟩, ⟨7, 6, 0, 0, []⟩, ⟨17, 0, 0, 0, s.data.toList ++ [46, 98]⟩]) = preC s.data.toList gc20 := by
  simp [preC, preI, gc20, takeCode, giveCode, joinCode, awayCode, eachCode, turnGo, waitGo, turnCode, List.append_assoc]
theorem gleave2_eq (s : ByteArray) : [] ++ ([⟨6, 0, 6, 0, []⟩, ⟨0, 1, 1, 0, []⟩, ⟨3, 0, 0, 1, []⟩, ⟨7, 6, 0, 0, []⟩]) = preC s.data.toList gc21 := by
  simp [preC, preI, gc21, takeCode, giveCode, joinCode, awayCode, eachCode, turnGo, waitGo, turnCode, List.append_assoc]
theorem gwait2_eq (s : ByteArray) : [] ++ ([⟨13, 0, 0, 0, []⟩] ++ (takeCode (s.data.toList ++ [116]) 7 1 0 ++ (turnCode 13 (s ++ ⟨#[46, 120]⟩) ++ (turnCode 13 (s ++ ⟨#[46, 121]⟩) ++ ([⟨13, 0, 0, 0, []⟩] ++ (giveCode 7 1 0)))))) = preC s.data.toList gc24 := by
  simp [preC, preI, gc24, takeCode, giveCode, joinCode, awayCode, eachCode, turnGo, waitGo, turnCode, List.append_assoc]
theorem grest3_eq (s : ByteArray) : [] ++ ([⟨6, 0, 7, 0, []⟩, ⟨7, 6, 0, 0, []⟩, ⟨12, 0, 0, 0, []⟩]) = preC s.data.toList gc32 := by
  simp [preC, preI, gc32, takeCode, giveCode, joinCode, awayCode, eachCode, turnGo, waitGo, turnCode, List.append_assoc]
theorem ggone3_eq (s : ByteArray) : [] ++ (awayCode) = preC s.data.toList gc33 := by
  simp [preC, preI, gc33, takeCode, giveCode, joinCode, awayCode, eachCode, turnGo, waitGo, turnCode, List.append_assoc]
theorem gwait3_eq (s : ByteArray) : [] ++ (awayCode ++ (takeCode (s.data.toList ++ [116]) 7 1 0 ++ ([⟨6, 0, 7, 0, []⟩, ⟨0, 1, 2, 0, []⟩, ⟨2, 0, 0, 1, []⟩, ⟨7, 7, 0, 0, []⟩, ⟨12, 0, 0, 0, []⟩] ++ (eachCode (waitGo s) (s ++ ⟨#[46, 120]⟩) ++ (giveCode 7 1 0 ++ ([⟨6, 0, 7, 0, []⟩, ⟨7, 6, 0, 0, []⟩, ⟨12, 0, 0, 0, []⟩])))))) = preC s.data.toList gc34 := by
  simp [preC, preI, gc34, takeCode, giveCode, joinCode, awayCode, eachCode, turnGo, waitGo, turnCode, List.append_assoc]
theorem genter4_eq (s : ByteArray) : [] ++ (joinCode s ++ ([⟨6, 0, 6, 0, []⟩, ⟨0, 1, 255, 0, []⟩, ⟨4, 1, 0, 1, []⟩, ⟨14, 1, 0, 0, s.data.toList ++ [46, 97]⟩, ⟨0, 1, 1, 0, []⟩, ⟨2, 0, 0, 1, []⟩, ⟨7, 6, 0, 0, []⟩, ⟨16, 0, 0, 0, s.data.toList ++ [46, 98]⟩, ⟨17, 0, 0, 0, s.data.toList ++ [46, 97]⟩, ⟨6, 0, 7, 0, []⟩, ⟨7, 6, 0, 0, []⟩, ⟨12, 0, 0, 0, []⟩, ⟨17, 0, 0, 0, s.data.toList ++ [46, 98]⟩])) = preC s.data.toList gc40 := by
  simp [preC, preI, gc40, takeCode, giveCode, joinCode, awayCode, eachCode, turnGo, waitGo, turnCode, List.append_assoc]
theorem gleave4_eq (s : ByteArray) : [] ++ ([⟨12, 0, 0, 0, []⟩, ⟨6, 0, 6, 0, []⟩, ⟨0, 1, 1, 0, []⟩, ⟨3, 0, 0, 1, []⟩, ⟨7, 6, 0, 0, []⟩]) = preC s.data.toList gc41 := by
  simp [preC, preI, gc41, takeCode, giveCode, joinCode, awayCode, eachCode, turnGo, waitGo, turnCode, List.append_assoc]
theorem gwait4_eq (s : ByteArray) : [] ++ ([⟨12, 0, 0, 0, []⟩] ++ (takeCode (s.data.toList ++ [116]) 7 1 0 ++ (turnCode 12 (s ++ ⟨#[46, 120]⟩) ++ (turnCode 12 (s ++ ⟨#[46, 121]⟩) ++ ([⟨12, 0, 0, 0, []⟩] ++ (giveCode 7 1 0)))))) = preC s.data.toList gc44 := by
  simp [preC, preI, gc44, takeCode, giveCode, joinCode, awayCode, eachCode, turnGo, waitGo, turnCode, List.append_assoc]
end Go.Proofs.YtamfbfajlfbooaaDoor
end
/- package grace, flavour 3: its code, made. -/
section
namespace Go.Proofs.YtamfbfajlfbooaaDoor
open Go.RowKit Qs Qh
variable {w0 w w1 : World} {b o : Nat} {v0 : Value} {l : List Instr} {br s : ByteArray} {fe jo co : Bool} {u : Value} {c : Nat}
set_option maxRecDepth 4000 in
set_option maxHeartbeats 8000000 in
theorem genter3_ok (s : ByteArray) (w : World) (hn : nameB s.data.toList = true) (hs : s.size ≤ 4) :
    Calls Tryd.prog 120 #[.int .i64 3, .string s] w fun e w' => ∃ v, e = .returned (.tuple #[v, .nilIface]) ∧ Made (preC s.data.toList gc30) w v w' := by
  have Hn := Lib.hid hn
  clear hn
  go_enter Tryd.func120, Tryd.ntmps120
  go_wp2_with fail
  refine (begin3_ok s w Hn.out hs).mono ?_
  rintro e x0 ⟨b, rfl, hm, hb, E, M⟩
  have h3 := M.c3
  have Hm := Lib.hid hm
  clear hm hb E M
  go_wp2
  go_ret2
  exact ⟨_, rfl, InsRow.nil _ _, Hm.out.toBelow, by simp [Value.ownBlock]⟩
set_option maxRecDepth 4000 in
set_option maxHeartbeats 8000000 in
theorem gleave3_ok (s : ByteArray) (w : World) (hn : nameB s.data.toList = true) (hs : s.size ≤ 4) :
    Calls Tryd.prog 121 #[.int .i64 3, .string s] w fun e w' => ∃ v, e = .returned (.tuple #[v, .nilIface]) ∧ Made (preC s.data.toList gc31) w v w' := by
  have Hn := Lib.hid hn
  clear hn
  go_enter Tryd.func121, Tryd.ntmps121
  go_wp2_with fail
  refine (begin3_ok s w Hn.out hs).mono ?_
  rintro e x0 ⟨b, rfl, hm, hb, E, M⟩
  have h3 := M.c3
  have Hm := Lib.hid hm
  clear hm hb E M
  go_wp2
  go_ret2
  exact ⟨_, rfl, InsRow.nil _ _, Hm.out.toBelow, by simp [Value.ownBlock]⟩
set_option maxRecDepth 4000 in
set_option maxHeartbeats 8000000 in
theorem grest3_ok (s : ByteArray) (w : World) (hn : nameB s.data.toList = true) (hs : s.size ≤ 4) :
    Calls Tryd.prog 122 #[.int .i64 3, .string s] w fun e w' => ∃ v, e = .returned (.tuple #[v, .nilIface]) ∧ Made (preC s.data.toList gc32) w v w' := by
  have Hn := Lib.hid hn
  clear hn
  go_enter Tryd.func122, Tryd.ntmps122
  go_wp2_with fail
  refine (begin3_ok s w Hn.out hs).mono ?_
  rintro e x0 ⟨b, rfl, hm, hb, E, M⟩
  have HC := Lib.hid (Chain.start E)
  have HM := Lib.hid M
  have Hm := Lib.hid hm
  clear hm E M
  have h0 := (HC.out.mk HM.out).c0
  have h1 := (HC.out.mk HM.out).c1
  have h2 := (HC.out.mk HM.out).c2
  have h3 := (HC.out.mk HM.out).c3
  go_wp2_with fail
  refine (op3_chain (HC.out.quiet ((Mod.refl _ _).alloc _)) (by first | omega | simp) 6 _ rfl x0.heap.size 0 7 0 3 (by simp) (by simp) (by simp) (by simp)).mono ?_
  clear h0 h1 h2 h3
  rintro e x1 ⟨rfl, C⟩
  have HC1 := Lib.hid C
  clear C
  have h0 := (HC1.out.mk HM.out).c0
  have h1 := (HC1.out.mk HM.out).c1
  have h2 := (HC1.out.mk HM.out).c2
  have h3 := (HC1.out.mk HM.out).c3
  go_wp2_with fail
  refine (op3_chain (HC1.out.quiet ((Mod.refl _ _).alloc _)) (by simp [takeCode, giveCode, joinCode, awayCode, eachCode, turnGo, waitGo, turnCode] <;> omega) 7 _ rfl x1.heap.size 6 0 0 3 (by simp) (by simp) (by simp) (by simp)).mono ?_
  clear h0 h1 h2 h3
  rintro e x2 ⟨rfl, C⟩
  have HC2 := Lib.hid C
  clear C
  have h0 := (HC2.out.mk HM.out).c0
  have h1 := (HC2.out.mk HM.out).c1
  have h2 := (HC2.out.mk HM.out).c2
  have h3 := (HC2.out.mk HM.out).c3
  go_wp2_with fail
  refine (op0_chain HC2.out (by simp [takeCode, giveCode, joinCode, awayCode, eachCode, turnGo, waitGo, turnCode] <;> omega) 12 _ rfl).mono ?_
  clear h0 h1 h2 h3
  rintro e x3 ⟨rfl, C⟩
  have HC3 := Lib.hid C
  clear C
  obtain ⟨v, ec, hv⟩ := HC3.out.made (w := w) (by simp [Value.ownBlock]) Hm.out hb
  have Hv := Lib.hid hv
  clear hv
  go_wp2
  go_ret2
  exact ⟨v, rfl, by rw [← grest3_eq]; simpa [List.append_assoc] using Hv.out⟩
set_option maxRecDepth 4000 in
set_option maxHeartbeats 8000000 in
theorem ggone3_ok (s : ByteArray) (w : World) (hn : nameB s.data.toList = true) (hs : s.size ≤ 4) :
    Calls Tryd.prog 123 #[.int .i64 3, .string s] w fun e w' => ∃ v, e = .returned (.tuple #[v, .nilIface]) ∧ Made (preC s.data.toList gc33) w v w' := by
  have Hn := Lib.hid hn
  clear hn
  go_enter Tryd.func123, Tryd.ntmps123
  go_wp2_with fail
  refine (begin3_ok s w Hn.out hs).mono ?_
  rintro e x0 ⟨b, rfl, hm, hb, E, M⟩
  have HC := Lib.hid (Chain.start E)
  have HM := Lib.hid M
  have Hm := Lib.hid hm
  clear hm E M
  have h0 := (HC.out.mk HM.out).c0
  have h1 := (HC.out.mk HM.out).c1
  have h2 := (HC.out.mk HM.out).c2
  have h3 := (HC.out.mk HM.out).c3
  go_wp2_with fail
  clear h0 h1 h2 h3
  have hg := gaway_chain HC.out (by first | omega | simp)
  refine hg.mono ?_
  rintro e x1 ⟨rfl, C⟩
  have HC1 := Lib.hid C
  clear C hg
  obtain ⟨v, ec, hv⟩ := HC1.out.made (w := w) (by simp [Value.ownBlock]) Hm.out hb
  have Hv := Lib.hid hv
  clear hv
  go_wp2
  go_ret2
  exact ⟨v, rfl, by rw [← ggone3_eq]; simpa [List.append_assoc] using Hv.out⟩
set_option maxRecDepth 4000 in
set_option maxHeartbeats 8000000 in
theorem gwait3_ok (s : ByteArray) (w : World) (hn : nameB s.data.toList = true) (hs : s.size ≤ 4) :
    Calls Tryd.prog 97 #[.int .i64 3, .string s] w fun e w' => ∃ v, e = .returned (.tuple #[v, .nilIface]) ∧ Made (preC s.data.toList gc34) w v w' := by
  have Hn := Lib.hid hn
  clear hn
  go_enter Tryd.func97, Tryd.ntmps97
  go_wp2_with fail
  refine (begin3_ok s _ Hn.out hs).mono ?_
  rintro e w1 ⟨b, rfl, hm, hb0, E, M⟩
  have hsw := hm.size
  have hlb := E.lt
  have hb1 : w.heap.size < b := by simp at hb0; omega
  have hp0 : w1.cell? ⟨w.heap.size, 0, none⟩ = some (.string s) := hm.cell (by simp) (fun e => e)
  have hq : Mod noF w1 (w1.alloc (.cells #[.pointer (some ⟨b, 0, none⟩)] 216)) := (Mod.refl _ _).alloc _
  have E1 := E.quiet hq
  have HC := Lib.hid (Chain.start E1)
  have HM := Lib.hid (M.quiet hq)
  have Hm := Lib.hid ((((Mod.refl noF w).alloc _).trans0 hm).trans0 hq)
  have Hv := Lib.hid E1.cell
  have hcp : w.heap.size < w1.heap.size := by simp at hsw; omega
  have hrow : ∀ (c : Nat) v, (w1.alloc (.cells #[.pointer (some ⟨b, 0, none⟩)] 216)).cell? ⟨b, 4, none⟩ = some v → v.ownBlock ≠ some c := fun c v h e => by
    rw [E1.cell] at h; cases h; cases e
  have HKm := Lib.hid (⟨by simp, by simp, by omega, hrow _⟩ : Cap (w1.alloc (.cells #[.pointer (some ⟨b, 0, none⟩)] 216)) b w1.heap.size (.pointer (some ⟨b, 0, none⟩)))
  have HKp := Lib.hid (⟨hq.cell hp0 (fun e => e), by simp; omega, by omega, hrow _⟩ : Cap (w1.alloc (.cells #[.pointer (some ⟨b, 0, none⟩)] 216)) b w.heap.size (.string s))
  have hb : w.heap.size ≤ b := by omega
  clear hm E M E1 hq hp0 hrow hsw hb0 hb1
  have h0 := (HC.out.mk HM.out).c0
  have h1 := (HC.out.mk HM.out).c1
  have h2 := (HC.out.mk HM.out).c2
  have h3 := (HC.out.mk HM.out).c3
  have hm := (HKm.out.next Hv.out HC.out).cell
  have hp := (HKp.out.next Hv.out HC.out).cell
  go_wp2_with fail
  clear h0 h1 h2 h3 hm hp
  have hg := gaway_chain HC.out (by first | omega | simp)
  refine hg.mono ?_
  rintro e x1 ⟨rfl, C⟩
  have HC1 := Lib.hid C
  clear C hg
  have h0 := (HC1.out.mk HM.out).c0
  have h1 := (HC1.out.mk HM.out).c1
  have h2 := (HC1.out.mk HM.out).c2
  have h3 := (HC1.out.mk HM.out).c3
  have hm := (HKm.out.next Hv.out HC1.out).cell
  have hp := (HKp.out.next Hv.out HC1.out).cell
  go_wp2_with fail
  clear h0 h1 h2 h3 hm hp
  have hg := gtake_chain HC1.out (HC1.out.mk HM.out) (by simp [takeCode, giveCode, joinCode, awayCode, eachCode, turnGo, waitGo, turnCode] <;> omega) Hn.out hs
  refine hg.mono ?_
  rintro e x2 ⟨rfl, C⟩
  have HC2 := Lib.hid C
  clear C hg
  have h0 := (HC2.out.mk HM.out).c0
  have h1 := (HC2.out.mk HM.out).c1
  have h2 := (HC2.out.mk HM.out).c2
  have h3 := (HC2.out.mk HM.out).c3
  have hm := (HKm.out.next Hv.out HC2.out).cell
  have hp := (HKp.out.next Hv.out HC2.out).cell
  go_wp2_with fail
  refine (op3_chain (HC2.out.quiet ((Mod.refl _ _).alloc _)) (by simp [takeCode, giveCode, joinCode, awayCode, eachCode, turnGo, waitGo, turnCode] <;> omega) 6 _ rfl x2.heap.size 0 7 0 3 (by simp) (by simp) (by simp) (by simp)).mono ?_
  clear h0 h1 h2 h3 hm hp
  rintro e x3 ⟨rfl, C⟩
  have HC3 := Lib.hid C
  clear C
  have h0 := (HC3.out.mk HM.out).c0
  have h1 := (HC3.out.mk HM.out).c1
  have h2 := (HC3.out.mk HM.out).c2
  have h3 := (HC3.out.mk HM.out).c3
  have hm := (HKm.out.next Hv.out HC3.out).cell
  have hp := (HKp.out.next Hv.out HC3.out).cell
  go_wp2_with fail
  refine (op2_chain (HC3.out.quiet ((Mod.refl _ _).alloc _)) (by simp [takeCode, giveCode, joinCode, awayCode, eachCode, turnGo, waitGo, turnCode] <;> omega) 0 _ rfl x3.heap.size 1 2 2 (by simp) (by simp) (by simp)).mono ?_
  clear h0 h1 h2 h3 hm hp
  rintro e x4 ⟨rfl, C⟩
  have HC4 := Lib.hid C
  clear C
  have h0 := (HC4.out.mk HM.out).c0
  have h1 := (HC4.out.mk HM.out).c1
  have h2 := (HC4.out.mk HM.out).c2
  have h3 := (HC4.out.mk HM.out).c3
  have hm := (HKm.out.next Hv.out HC4.out).cell
  have hp := (HKp.out.next Hv.out HC4.out).cell
  go_wp2_with fail
  refine (op3_chain (HC4.out.quiet ((Mod.refl _ _).alloc _)) (by simp [takeCode, giveCode, joinCode, awayCode, eachCode, turnGo, waitGo, turnCode] <;> omega) 2 _ rfl x4.heap.size 0 0 1 3 (by simp) (by simp) (by simp) (by simp)).mono ?_
  clear h0 h1 h2 h3 hm hp
  rintro e x5 ⟨rfl, C⟩
  have HC5 := Lib.hid C
  clear C
  have h0 := (HC5.out.mk HM.out).c0
  have h1 := (HC5.out.mk HM.out).c1
  have h2 := (HC5.out.mk HM.out).c2
  have h3 := (HC5.out.mk HM.out).c3
  have hm := (HKm.out.next Hv.out HC5.out).cell
  have hp := (HKp.out.next Hv.out HC5.out).cell
  go_wp2_with fail
  refine (op3_chain (HC5.out.quiet ((Mod.refl _ _).alloc _)) (by simp [takeCode, giveCode, joinCode, awayCode, eachCode, turnGo, waitGo, turnCode] <;> omega) 7 _ rfl x5.heap.size 7 0 0 3 (by simp) (by simp) (by simp) (by simp)).mono ?_
  clear h0 h1 h2 h3 hm hp
  rintro e x6 ⟨rfl, C⟩
  have HC6 := Lib.hid C
  clear C
  have h0 := (HC6.out.mk HM.out).c0
  have h1 := (HC6.out.mk HM.out).c1
  have h2 := (HC6.out.mk HM.out).c2
  have h3 := (HC6.out.mk HM.out).c3
  have hm := (HKm.out.next Hv.out HC6.out).cell
  have hp := (HKp.out.next Hv.out HC6.out).cell
  go_wp2_with fail
  refine (op0_chain HC6.out (by simp [takeCode, giveCode, joinCode, awayCode, eachCode, turnGo, waitGo, turnCode] <;> omega) 12 _ rfl).mono ?_
  clear h0 h1 h2 h3 hm hp
  rintro e x7 ⟨rfl, C⟩
  have HC7 := Lib.hid C
  clear C
  have h0 := (HC7.out.mk HM.out).c0
  have h1 := (HC7.out.mk HM.out).c1
  have h2 := (HC7.out.mk HM.out).c2
  have h3 := (HC7.out.mk HM.out).c3
  have hm := (HKm.out.next Hv.out HC7.out).cell
  have hp := (HKp.out.next Hv.out HC7.out).cell
  go_wp2_with fail
  clear h0 h1 h2 h3 hm hp
  have hg := eachWait_chain (s ++ ⟨#[46, 120]⟩) (size_plus2 s _ _ hs) HC7.out (HKm.out.next Hv.out HC7.out) (HKp.out.next Hv.out HC7.out) (by omega) (by simp [takeCode, giveCode, joinCode, awayCode, eachCode, turnGo, waitGo, turnCode] <;> omega)
  refine hg.mono ?_
  rintro e x8 ⟨rfl, C⟩
  have HC8 := Lib.hid C
  clear C hg
  have h0 := (HC8.out.mk HM.out).c0
  have h1 := (HC8.out.mk HM.out).c1
  have h2 := (HC8.out.mk HM.out).c2
  have h3 := (HC8.out.mk HM.out).c3
  have hm := (HKm.out.next Hv.out HC8.out).cell
  have hp := (HKp.out.next Hv.out HC8.out).cell
  go_wp2_with fail
  clear h0 h1 h2 h3 hm hp
  have hg := ggive_chain HC8.out (HC8.out.mk HM.out) (by simp [takeCode, giveCode, joinCode, awayCode, eachCode, turnGo, waitGo, turnCode] <;> omega) Hn.out hs
  refine hg.mono ?_
  rintro e x9 ⟨rfl, C⟩
  have HC9 := Lib.hid C
  clear C hg
  have h0 := (HC9.out.mk HM.out).c0
  have h1 := (HC9.out.mk HM.out).c1
  have h2 := (HC9.out.mk HM.out).c2
  have h3 := (HC9.out.mk HM.out).c3
  have hm := (HKm.out.next Hv.out HC9.out).cell
  have hp := (HKp.out.next Hv.out HC9.out).cell
  go_wp2_with fail
  refine (op3_chain (HC9.out.quiet ((Mod.refl _ _).alloc _)) (by simp [takeCode, giveCode, joinCode, awayCode, eachCode, turnGo, waitGo, turnCode] <;> omega) 6 _ rfl x9.heap.size 0 7 0 3 (by simp) (by simp) (by simp) (by simp)).mono ?_
  clear h0 h1 h2 h3 hm hp
  rintro e x10 ⟨rfl, C⟩
  have HC10 := Lib.hid C
  clear C
  have h0 := (HC10.out.mk HM.out).c0
  have h1 := (HC10.out.mk HM.out).c1
  have h2 := (HC10.out.mk HM.out).c2
  have h3 := (HC10.out.mk HM.out).c3
  have hm := (HKm.out.next Hv.out HC10.out).cell
  have hp := (HKp.out.next Hv.out HC10.out).cell
  go_wp2_with fail
  refine (op3_chain (HC10.out.quiet ((Mod.refl _ _).alloc _)) (by simp [takeCode, giveCode, joinCode, awayCode, eachCode, turnGo, waitGo, turnCode] <;> omega) 7 _ rfl x10.heap.size 6 0 0 3 (by simp) (by simp) (by simp) (by simp)).mono ?_
  clear h0 h1 h2 h3 hm hp
  rintro e x11 ⟨rfl, C⟩
  have HC11 := Lib.hid C
  clear C
  have h0 := (HC11.out.mk HM.out).c0
  have h1 := (HC11.out.mk HM.out).c1
  have h2 := (HC11.out.mk HM.out).c2
  have h3 := (HC11.out.mk HM.out).c3
  have hm := (HKm.out.next Hv.out HC11.out).cell
  have hp := (HKp.out.next Hv.out HC11.out).cell
  go_wp2_with fail
  refine (op0_chain HC11.out (by simp [takeCode, giveCode, joinCode, awayCode, eachCode, turnGo, waitGo, turnCode] <;> omega) 12 _ rfl).mono ?_
  clear h0 h1 h2 h3 hm hp
  rintro e x12 ⟨rfl, C⟩
  have HC12 := Lib.hid C
  clear C
  have h0 := (HC12.out.mk HM.out).c0
  have h1 := (HC12.out.mk HM.out).c1
  have h2 := (HC12.out.mk HM.out).c2
  have h3 := (HC12.out.mk HM.out).c3
  have hm := (HKm.out.next Hv.out HC12.out).cell
  have hp := (HKp.out.next Hv.out HC12.out).cell
  obtain ⟨v, ec, hv⟩ := HC12.out.made (w := w) (by simp [Value.ownBlock]) Hm.out hb
  have Hv := Lib.hid hv
  clear hv
  go_wp2
  go_ret2
  exact ⟨v, rfl, by rw [← gwait3_eq]; simpa [List.append_assoc] using Hv.out⟩
end Go.Proofs.YtamfbfajlfbooaaDoor
end
/- (*quiescentref1.Machine).Rest. -/
section
namespace Go.Proofs.YtamfbfajlfbooaaDoor
open Go.RowKit Qs Qh
variable {w : World} {L : Lay} {m : M} {N : Int}
theorem rest_no {m : M} {k : Nat} (hk : k < m.T.length) (h : m.done k = false ∨ m.waitsOf k ≠ []) : m.rest = false := by
  rw [← Bool.not_eq_true, M.rest_iff]
  intro e
  have := e k hk
  rcases h with h | h
  · rw [h] at this; cases this.1
  · exact h this.2
set_option maxHeartbeats 1000000 in
theorem rest_any (X : Mach ty w L m N) :
    Calls Tryd.prog 25 #[.pointer (some ⟨L.blk 0 0, 0, none⟩)] w fun e w' => e = .returned (.bool m.rest) ∧ Mod noF w w' := by
  have ht6 : m.T.length ≤ 6 := by have := X.om.waits; have := X.ot.len; omega
  have hwl := X.ot.len
  have HX := Lib.hid X
  have Hwl := Lib.hid hwl
  clear X hwl
  go_enter Tryd.func25, Tryd.ntmps25
  go_wp2
  go_loopw [3, 4] (fun i d wr => ∃ k : Nat, k ≤ m.T.length ∧ i = .int .i64 k ∧ Mod noF w wr ∧ ∀ j, j < k → m.done j = true ∧ m.waitsOf j = []) (fun i d _ => m.T.length - (intOf i).toNat)
  case atStart => exact ⟨0, Nat.zero_le _, rfl, Mod.refl _ _, fun j hj => absurd hj (by omega)⟩
  case round =>
    rename_i wr
    obtain ⟨k, hk, rfl, hmr, hall⟩ := hrel
    have Hall := Lib.hid hall
    clear hall
    have Xr := HX.out.frame0 hmr
    obtain ⟨t0, t1, t2, t3, t4, t5⟩ := Xr.top
    by_cases hlt : k < m.T.length
    · have hd : decide ((k : Int) < (m.T.length : Int)) = true := by simp; omega
      obtain ⟨l, hl⟩ : ∃ l, m.waits[k]? = some l := ⟨_, List.getElem?_eq_getElem (by rw [Hwl.out]; exact hlt)⟩
      have hwo : m.waitsOf k = l := by simp [M.waitsOf, List.getD, hl]
      have HXr := Lib.hid Xr
      have Hmr := Lib.hid hmr
      have Hl := Lib.hid hl
      have Hwo := Lib.hid hwo
      clear Xr hmr t4 hl hwo
      go_wp2_with fail
      refine (done_any HXr.out k hlt).mono ?_
      rintro e w1 ⟨rfl, hm1⟩
      have X1 := HXr.out.frame0 hm1
      obtain ⟨s0, s1, s2, s3, s4, s5⟩ := X1.top
      have pw0 := X1.rep.waits_at rfl X1.ol
      have pw1 := waits_row X1.rep rfl X1.ol (t := k) (l := l) Hl.out
      obtain ⟨ra, rcp, hrow⟩ := row_slice X1.ol (t := k) (l := l) Hl.out
      rw [hrow] at pw1
      have iT : (k : Int) < (m.waits.length : Int) := by have := Hwl.out; omega
      have Hm1 := Lib.hid hm1
      clear X1 s4 hm1 hrow
      cases hdn : m.done k with
      | false =>
        have hr := rest_no hlt (.inl hdn)
        have Hr := Lib.hid hr
        have Hdn := Lib.hid hdn
        clear hdn hr
        go_wp2
        go_ret
        exact ⟨ret_bool Hr.out.symm, Hmr.out.trans0 Hm1.out⟩
      | true =>
        have Hdn := Lib.hid hdn
        clear hdn
        by_cases hnil : l = []
        · subst hnil
          go_wp2
          go_roundw
          case rel =>
            refine ⟨k + 1, by omega, by go_num, Hmr.out.trans0 Hm1.out, fun j hj => ?_⟩
            by_cases e : j = k
            · subst e; exact ⟨Hdn.out, Hwo.out⟩
            · exact Hall.out j (by omega)
          case measure => simp [intOf]; omega
        · have hr := rest_no hlt (.inr (by rw [Hwo.out]; exact hnil))
          have hpos : 0 < l.length := List.length_pos_iff.2 hnil
          have hdp : decide (0 < (l.length : Int)) = true := by simp; omega
          have Hr := Lib.hid hr
          clear hr hnil
          go_wp2
          go_ret
          exact ⟨ret_bool Hr.out.symm, Hmr.out.trans0 Hm1.out⟩
    · have hd : decide ((k : Int) < (m.T.length : Int)) = false := by simp; omega
      have hr : m.rest = true := M.rest_iff.2 fun j hj => Hall.out j (by omega)
      have Hr := Lib.hid hr
      have Hmr := Lib.hid hmr
      clear Xr hmr t4 hr
      go_wp2
      go_ret
      exact ⟨ret_bool Hr.out.symm, Hmr.out⟩
end Go.Proofs.YtamfbfajlfbooaaDoor
end
