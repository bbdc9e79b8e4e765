/- Texts that belong together, joined. -/
import Derived.Test.YtamfbfajlfbooaaDoorENames
import Derived.Test.YtamfbfajlfbooaaDoorEm3
import Derived.Test.YtamfbfajlfbooaaDoorEm2
import Derived.StillTailTactics
import Derived.Test.YtamfbfajlfbooaaDoorEStore
import Derived.LoopTactic
import Derived.Test.YtamfbfajlfbooaaDoorEm1
import Derived.Outline
import Derived.Test.YtamfbfajlfbooaaDoorEm4
import Derived.Test.YtamfbfajlfbooaaDoorEGraceB
import Derived.Test.YtamfbfajlfbooaaDoorECritical
set_option linter.unusedVariables false
set_option linter.unusedSimpArgs false
set_option linter.unusedSectionVars false
/- (*quiescentref1.Machine).Done. -/
section
namespace Go.Proofs.YtamfbfajlfbooaaDoor
open Go.RowKit Qs Qh
variable {w : World} {L : Lay} {m : M} {N : Int}
/-- The instruction at a thread's place, in memory. -/
theorem code_cell (X : Mach ty w L m N) {t : Nat} {h : Thr} (ht : m.T[t]? = some h) {x : Instr} (hx : h.code[h.pc]? = some x) :
    ∃ b off c, L.code t = .slice (some ⟨b, off, none⟩) h.code.length c ∧ b < w.heap.size ∧ (∀ j y, (instrVals x)[j]? = some y → w.cell? ⟨b, off + h.pc * 5 + j, none⟩ = some y) := by
  obtain ⟨hc, _⟩ := X.codes t h ht
  obtain ⟨a, c, e, _, hi⟩ := hc.at_
  obtain ⟨b, off, rfl, hb, hcell⟩ := hi h.pc x hx
  exact ⟨b, off, c, e, hb, hcell⟩
theorem code_slice (X : Mach ty w L m N) {t : Nat} {h : Thr} (ht : m.T[t]? = some h) : ∃ a c, L.code t = .slice a h.code.length c := by
  obtain ⟨hc, _⟩ := X.codes t h ht
  obtain ⟨a, c, e, _⟩ := hc.at_
  exact ⟨a, c, e⟩
theorem label_callQ (X : Mach ty w L m N) {t : Nat} {h : Thr} (hh : m.T[t]? = some h) (hlt : h.pc < h.code.length) {a : Option Addr} {c : Nat} (e : L.code t = .slice a h.code.length c) {to : List UInt8} {dto : ByteArray} (hd : (⟨to.toArray⟩ : ByteArray) = dto) {i : Nat} (hi : labelAt to h.code 0 = some i) (W : World)
    (hq : Mod noF (w.setCell ⟨L.blk 4 0, t * 3 + 2, none⟩ (.int .i64 ((h.pc : Int) + 1))) W) :
    Calls Tryd.prog 127 #[.slice a h.code.length c, .string dto] W fun e w' => e = .returned (.int .i64 (i : Int)) ∧ w' = W := by
  subst hd
  have U := ((X.setPc hh (h.pc + 1) (by omega))).then0 hq
  have hlen : h.code.length ≤ 1000000 := by have := (X.ot.code t h hh).2.len; omega
  have hT : (m.setPc t (h.pc + 1)).T[t]? = some { h with pc := h.pc + 1 } := by
    have hl : t < m.T.length := (List.getElem?_eq_some_iff.1 hh).1
    unfold M.setPc; rw [modify_get _ hh]; simp [hl]
  obtain ⟨a', c', e', _, hx⟩ := (U.mach.codes t _ hT).1.at_
  rw [e] at e'
  cases e'
  refine (labelAt_any a c h.code to W hlen hx).mono fun e w' ⟨h1, h2⟩ => ⟨?_, h2.symm⟩
  rw [h1]
  unfold labE
  rw [hi]
set_option maxHeartbeats 1000000 in
theorem done_any (X : Mach ty w L m N) (t : Nat) (ht : t < m.T.length) :
    Calls Tryd.prog 91 #[.pointer (some ⟨L.blk 0 0, 0, none⟩), .int .i64 t] w fun e w' => e = .returned (.bool (m.done t)) ∧ Mod noF w w' := by
  obtain ⟨h, hh⟩ : ∃ h, m.T[t]? = some h := ⟨_, List.getElem?_eq_getElem ht⟩
  have hthr : m.thr t = h := by simp [M.thr, List.getD, hh]
  obtain ⟨t0, t1, t2, t3, t4, t5⟩ := X.top
  obtain ⟨r0, r1, r2, r3, r4⟩ := X.thr_at hh
  obtain ⟨hpc, hco⟩ := X.ot.code t h hh
  have hlen := hco.len
  have ht6 : m.T.length ≤ 6 := by have := X.om.waits; have := X.ot.len; omega
  have hsp := X.olt.sp4
  have hdone : m.done t = (match h.code[h.pc]? with | none => true | some x => x.op == 20) := by unfold M.done; rw [hthr]; cases h.code[h.pc]? <;> rfl
  have d0 : decide ((t : Int) < 0) = false := by simp
  have d1 : decide ((m.T.length : Int) ≤ (t : Int)) = false := by simp; omega
  cases hx : h.code[h.pc]? with
  | none =>
    rw [hx] at hdone
    obtain ⟨a, c, e⟩ := code_slice X hh
    rw [e] at r0
    have hge : h.code.length ≤ h.pc := by
      rcases Nat.lt_or_ge h.pc h.code.length with h' | h'
      · rw [List.getElem?_eq_getElem h'] at hx; cases hx
      · exact h'
    have d2 : decide ((h.code.length : Int) ≤ (h.pc : Int)) = true := by simp; omega
    have Hdone := Lib.hid hdone
    have Hh := Lib.hid hh
    clear hdone hthr hx X e hh t4 r3 hco
    go_enter Tryd.func91, Tryd.ntmps91
    go_wp2
    go_quiet (fail)
    go_wp2
    go_ret
    exact ⟨ret_bool (by rw [Hdone.out]), (Mod.refl _ _).drewN _⟩
  | some x =>
    rw [hx] at hdone
    obtain ⟨b, off, c, e, hb, hcell⟩ := code_cell X hh hx
    rw [e] at r0
    have hlt : h.pc < h.code.length := (List.getElem?_eq_some_iff.1 hx).1
    have d2 : decide ((h.code.length : Int) ≤ (h.pc : Int)) = false := by simp; omega
    have hmem : x ∈ h.code := List.mem_of_getElem? hx
    have hle := insOk_le (hco.ins x hmem)
    have c0 := hcell 0 _ rfl
    simp only [Nat.add_zero] at c0
    have hst : ((opStr x.op).toList == [115, 116, 111, 112]) = (x.op == 20) := by
      rw [Bool.eq_iff_iff, beq_iff_eq, beq_iff_eq]; exact opStr_stop hle
    generalize hs : opStr x.op = s at *
    have Hs := Lib.hid hs
    have Hdone := Lib.hid hdone
    have Hst := Lib.hid hst
    clear hdone hthr hx X e hh t4 r3 hco hcell hs hmem hst
    go_enter Tryd.func91, Tryd.ntmps91
    go_wp2
    go_quiet (fail)
    go_wp2
    go_ret
    exact ⟨ret_bool (by rw [Hdone.out, ← Hst.out, show decide (h.code.length ≤ h.pc) = false from decide_eq_false (by omega)]; rfl), (Mod.refl _ _).drewN _⟩
end Go.Proofs.YtamfbfajlfbooaaDoor
end
/- (*quiescentref1.Machine).fence. -/
section
namespace Go.Proofs.YtamfbfajlfbooaaDoor
open Go.RowKit Qs Qh
variable {w : World} {L : Lay} {m : M} {N : Int}
/-- A thread's fence: the model behind it keeps its sizes. -/
theorem fence_eq (m : M) (t : Nat) {l : List Wt} (hl : m.waits[t]? = some l) : m.fence t = { m with cells := (drainAll m.cells l).1, waits := m.waits.set t [], faults := m.faults + ((drainAll m.cells l).2 : Nat) } := by
  unfold M.fence
  have : m.waitsOf t = l := by simp [M.waitsOf, List.getD, hl]
  rw [this]
set_option maxHeartbeats 1000000 in
theorem machFence_ext (X : Mach ty w L m N) (hN : N ≤ 100000000000) (t : Nat) (ht : t < m.T.length) :
    Calls Tryd.prog 130 #[.pointer (some ⟨L.blk 0 0, 0, none⟩), .int .i64 t] w fun e w' => e = .returned (.tuple #[]) ∧ ∃ L', MUp ty w L m w' L' (m.fence t) (N + 8) ∧ Ext L L' := by
  obtain ⟨l, hl⟩ : ∃ l, m.waits[t]? = some l := ⟨_, List.getElem?_eq_getElem (by rw [X.ot.len]; exact ht)⟩
  obtain ⟨t0, t1, t2, t3, t4, t5⟩ := X.top
  have t43 := t4 3
  have hf := X.ot.f0
  have hl8 := X.om.wlen t l hl
  have hcount := drainAll_le l m.cells
  generalize hnf : (drainAll m.cells l).2 = nf at *
  have hnf8 : nf ≤ 8 := by omega
  have hcall := memFence_any (w := w.drew) (X.rep.frame0 (Mod.refl _ _).drew) rfl rfl rfl rfl rfl X.om X.ol (by omega) t hl
  rw [hnf] at hcall
  have Hcall := Lib.hid hcall
  have HX := Lib.hid X
  have Hl := Lib.hid hl
  have Hnf := Lib.hid hnf
  clear X hl hcall hnf hcount t4
  go_enter Tryd.func130, Tryd.ntmps130
  have hval := HX.out.om.wval t l Hl.out
  have om5 : OkM N { m with cells := (drainAll m.cells l).1, waits := m.waits.set t [] } := (drainAll_ok l HX.out.om (fun x hx => (hval x hx).1)).setWaits (by simp) (fun x hx => by cases hx)
  have Hom5 := Lib.hid om5
  clear om5 hval
  go_region_with (go_at_call 112; refine Hcall.out.mono ?_; rintro e w5 ⟨rfl, L5, hU5⟩; have U5 := (HX.out.frame0 (Mod.refl _ _).drew).up (Int.le_refl N) hU5 Hom5.out rfl rfl rfl (by simp); obtain ⟨x0, x1, x2, x3, x4, x5⟩ := U5.mach.top; have x43 := x4 3; have E0 := U5.top.1; have E1 := U5.top.2; rw [E0] at x0 x3 x43 x5; clear x1 x2 x4; have HE0 := Lib.hid E0; have HU5 := Lib.hid U5; have HE := Lib.hid hU5.ext; clear E0 E1 hU5 U5)
  all_goals
    refine bodyPost_end (results_none rfl _ _ _) rfl ⟨rfl, L5, ?_, HE.out⟩
    rw [fence_eq m t Hl.out, Hnf.out]
    have V := (MUp.quiet HX.out (Mod.refl _ _).drew).trans (HU5.out.trans (HU5.out.mach.setFaults (N' := N + 8) (m.faults + (nf : Int)) (by omega) (by omega) (by omega)))
    rw [HE0.out] at V
    rw [show IntKind.i64.wrap (m.faults + (nf : Int)) = m.faults + (nf : Int) from IntWalk.i64_in _ (by omega)]
    exact V
theorem machFence_any (X : Mach ty w L m N) (hN : N ≤ 100000000000) (t : Nat) (ht : t < m.T.length) :
    Calls Tryd.prog 130 #[.pointer (some ⟨L.blk 0 0, 0, none⟩), .int .i64 t] w fun e w' => e = .returned (.tuple #[]) ∧ ∃ L', MUp ty w L m w' L' (m.fence t) (N + 8) :=
  (machFence_ext X hN t ht).mono fun _ _ ⟨h, L', h1, _⟩ => ⟨h, L', h1⟩
end Go.Proofs.YtamfbfajlfbooaaDoor
end
/- (*quiescentref1.Machine).Step, instruction by instruction: fence. -/
section
namespace Go.Proofs.YtamfbfajlfbooaaDoor
open Go.RowKit Qs Qh
variable {w : World} {L : Lay} {m : M} {N : Int}
set_option maxRecDepth 100000 in
set_option maxHeartbeats 4000000 in
theorem step_fence (X : Mach ty w L m N) (hN : N ≤ 10000000000) (t : Nat) (ht : t < m.T.length) {h : Thr} (hh : m.T[t]? = some h) {a b c : Nat} {A B C : Int} {to : List UInt8} (hx : h.code[h.pc]? = some ⟨12, A, B, C, to⟩)  :
    Calls Tryd.prog 89 #[.pointer (some ⟨L.blk 0 0, 0, none⟩), .int .i64 t] w fun e w' => e = .returned (.int .i64 0) ∧ ∃ L', MUp ty w L m w' L' ((m.setPc t (h.pc + 1)).fence t) (N + 8) := by
  have hthr : m.thr t = h := by simp [M.thr, List.getD, hh]
  have hdone : m.done t = false := by unfold M.done; rw [hthr, hx]; rfl
  obtain ⟨t0, t1, t2, t3, t4, t5⟩ := X.top
  have ht6 : m.T.length ≤ 6 := by have := X.om.waits; have := X.ot.len; omega
  have hsp := X.olt.sp4
  have hsp8 := X.olt.sp8 t ht
  have d0 : decide ((t : Int) < 0) = false := by simp
  have d1 : decide ((m.T.length : Int) ≤ (t : Int)) = false := by simp; omega
  have HX := Lib.hid X
  have Hh := Lib.hid hh
  have Hx := Lib.hid hx
  have Hthr := Lib.hid hthr
  have Hdone := Lib.hid hdone
  clear X hh hx hthr hdone t4
  go_enter Tryd.func89, Tryd.ntmps89
  go_wp2_with fail
  refine (done_any HX.out t ht).mono ?_
  rintro e w1 ⟨rfl, hm⟩
  rw [Hdone.out]
  have X1 := HX.out.frame0 hm
  have HX1 := Lib.hid X1
  have Hm := Lib.hid hm
  clear t0 t1 t2 t3 t5
  obtain ⟨t0, t1, t2, t3, t4, t5⟩ := X1.top
  obtain ⟨r0, r1, r2, r3, r4⟩ := X1.thr_at Hh.out
  obtain ⟨cb, off, cc, e, hcb, hcell⟩ := code_cell X1 Hh.out Hx.out
  rw [e] at r0
  obtain ⟨hpc, hco⟩ := X1.ot.code t h Hh.out
  have hlen := hco.len
  have hlt : h.pc < h.code.length := (List.getElem?_eq_some_iff.1 Hx.out).1
  have c0 := hcell 0 _ rfl
  have c1 := hcell 1 _ rfl
  have c2 := hcell 2 _ rfl
  have c3 := hcell 3 _ rfl
  have c4 := hcell 4 _ rfl
  simp only [Nat.add_zero, opStr, iv, sv] at c0 c1 c2 c3 c4
  generalize hd4 : (⟨to.toArray⟩ : ByteArray) = dto at *
  have Hd4 := Lib.hid hd4
  have f4 := r3 (t * 3 + 2)
  have n48 : L.blk 4 0 ≠ L.blk 8 t := X1.ne (by rw [obj4 ty m X1.olt.n4]; rfl) (by rw [obj8 ty (X1.olt.n8 t ht) Hh.out]; rfl) (by omega)
  have n04 : L.blk 0 0 ≠ L.blk 4 0 := X1.ne rfl (by rw [obj4 ty m X1.olt.n4]; rfl) (by omega)
  have n08 : L.blk 0 0 ≠ L.blk 8 t := X1.ne rfl (by rw [obj8 ty (X1.olt.n8 t ht) Hh.out]; rfl) (by omega)
  have He := Lib.hid e
  clear hm X1 e hpc hco hcell t4 r3 hd4
  go_wp2
  go_region
  go_wp2_with fail
  have U0 := MUp.then0 ((MUp.quiet HX.out Hm.out).trans (HX1.out.pc Hh.out hlt)) (w3 := ((w1.setCell ⟨L.blk 4 0, t * 3 + 2, none⟩ (.int .i64 ((h.pc : Int) + 1))).alloc (.cells #[.string ⟨#[102, 101, 110, 99, 101]⟩, .int .i64 A, .int .i64 B, .int .i64 C, .string dto] 124)).drew) (by repeat (first | exact Mod.refl _ _ | refine Mod.drew ?_ | refine Mod.drewN ?_ _ | refine Mod.alloc ?_ _))
  have HU0 := Lib.hid U0
  clear U0
  refine (machFence_any HU0.out.mach (by omega) t (by simpa [M.setPc] using ht)).mono ?_
  rintro e w5 ⟨rfl, L5, hU5⟩
  go_wp2
  go_ret
  exact ⟨rfl, L5, HU0.out.trans hU5⟩
end Go.Proofs.YtamfbfajlfbooaaDoor
end
/- (*quiescentref1.Machine).Step, instruction by instruction: store: without a name; behind eight. -/
section
namespace Go.Proofs.YtamfbfajlfbooaaDoor
open Go.RowKit Qs Qh
variable {w : World} {L : Lay} {m : M} {N : Int}
set_option maxRecDepth 100000 in
set_option maxHeartbeats 4000000 in
theorem step_store_none (X : Mach ty w L m N) (hN : N ≤ 10000000000) (t : Nat) (ht : t < m.T.length) {h : Thr} (hh : m.T[t]? = some h) {a b c : Nat} {A B C : Int} {to : List UInt8} (hx : h.code[h.pc]? = some ⟨7, a, b, C, to⟩) (ha : a < 8) (hb : b < 8) (hn : m.names (h.regs.getD a 0) = none) :
    Calls Tryd.prog 89 #[.pointer (some ⟨L.blk 0 0, 0, none⟩), .int .i64 t] w fun e w' => e = .returned (.int .i64 0) ∧ ∃ L', MUp ty w L m w' L' ((m.setPc t (h.pc + 1)).fault) (N + 1) := by
  have hthr : m.thr t = h := by simp [M.thr, List.getD, hh]
  have hdone : m.done t = false := by unfold M.done; rw [hthr, hx]; rfl
  obtain ⟨t0, t1, t2, t3, t4, t5⟩ := X.top
  have ht6 : m.T.length ≤ 6 := by have := X.om.waits; have := X.ot.len; omega
  have hsp := X.olt.sp4
  have hsp8 := X.olt.sp8 t ht
  have d0 : decide ((t : Int) < 0) = false := by simp
  have d1 : decide ((m.T.length : Int) ≤ (t : Int)) = false := by simp; omega
  have HX := Lib.hid X
  have Hh := Lib.hid hh
  have Hx := Lib.hid hx
  have Hthr := Lib.hid hthr
  have Hdone := Lib.hid hdone
  clear X hh hx hthr hdone t4
  have Hn := Lib.hid hn
  clear hn
  go_enter Tryd.func89, Tryd.ntmps89
  go_wp2_with fail
  refine (done_any HX.out t ht).mono ?_
  rintro e w1 ⟨rfl, hm⟩
  rw [Hdone.out]
  have X1 := HX.out.frame0 hm
  have HX1 := Lib.hid X1
  have Hm := Lib.hid hm
  clear t0 t1 t2 t3 t5
  obtain ⟨t0, t1, t2, t3, t4, t5⟩ := X1.top
  obtain ⟨r0, r1, r2, r3, r4⟩ := X1.thr_at Hh.out
  obtain ⟨cb, off, cc, e, hcb, hcell⟩ := code_cell X1 Hh.out Hx.out
  rw [e] at r0
  obtain ⟨hpc, hco⟩ := X1.ot.code t h Hh.out
  have hlen := hco.len
  have hlt : h.pc < h.code.length := (List.getElem?_eq_some_iff.1 Hx.out).1
  have c0 := hcell 0 _ rfl
  have c1 := hcell 1 _ rfl
  have c2 := hcell 2 _ rfl
  have c3 := hcell 3 _ rfl
  have c4 := hcell 4 _ rfl
  simp only [Nat.add_zero, opStr, iv, sv] at c0 c1 c2 c3 c4
  generalize hd4 : (⟨to.toArray⟩ : ByteArray) = dto at *
  have Hd4 := Lib.hid hd4
  obtain ⟨ga0, ga1, ga2⟩ := X1.reg_at Hh.out ha
  have wa := X1.regWord Hh.out ha
  generalize hva : h.regs.getD a 0 = va at *
  obtain ⟨wa0, wa1⟩ := of_isWord wa
  have Hva := Lib.hid hva
  have Hwa := Lib.hid wa
  clear hva wa
  obtain ⟨gb0, gb1, gb2⟩ := X1.reg_at Hh.out hb
  have wb := X1.regWord Hh.out hb
  generalize hvb : h.regs.getD b 0 = vb at *
  obtain ⟨wb0, wb1⟩ := of_isWord wb
  have Hvb := Lib.hid hvb
  have Hwb := Lib.hid wb
  clear hvb wb
  have f4 := r3 (t * 3 + 2)
  have n48 : L.blk 4 0 ≠ L.blk 8 t := X1.ne (by rw [obj4 ty m X1.olt.n4]; rfl) (by rw [obj8 ty (X1.olt.n8 t ht) Hh.out]; rfl) (by omega)
  have n04 : L.blk 0 0 ≠ L.blk 4 0 := X1.ne rfl (by rw [obj4 ty m X1.olt.n4]; rfl) (by omega)
  have n08 : L.blk 0 0 ≠ L.blk 8 t := X1.ne rfl (by rw [obj8 ty (X1.olt.n8 t ht) Hh.out]; rfl) (by omega)
  have He := Lib.hid e
  clear hm X1 e hpc hco hcell t4 r3 hd4
  have iA : (a : Int) < 8 := by omega
  have iB : (b : Int) < 8 := by omega
  have iA0 : (0 : Int) ≤ (a : Int) := by omega
  have iB0 : (0 : Int) ≤ (b : Int) := by omega
  go_wp2
  go_region
  have U0 := MUp.then0 ((MUp.quiet HX.out Hm.out).trans (HX1.out.pc Hh.out hlt)) (w3 := ((w1.setCell ⟨L.blk 4 0, t * 3 + 2, none⟩ (.int .i64 ((h.pc : Int) + 1))).alloc (.cells #[.string ⟨#[115, 116, 111, 114, 101]⟩, .int .i64 a, .int .i64 b, .int .i64 C, .string dto] 124)).drew) (by repeat (first | exact Mod.refl _ _ | refine Mod.drew ?_ | refine Mod.drewN ?_ _ | refine Mod.alloc ?_ _))
  have hbx : ∀ k, Foot ty allK L (m.setPc t (h.pc + 1)) k → k < w1.heap.size := fun k hk => by
    have := (HX1.out.pc Hh.out hlt).mach.rep.lt hk
    simpa using this
  have HU0 := Lib.hid U0
  have Hbx := Lib.hid hbx
  clear U0 hbx
  go_wp2_with fail
  refine (names_none HU0.out.mach (by omega) va Hwa.out Hn.out).mono ?_
  rintro e w5 ⟨rc, rg, rfl, U5⟩
  have X5 := U5.mach
  have w5b0 : w5.cell? ⟨w1.heap.size, 0, none⟩ = some (.string ⟨#[115, 116, 111, 114, 101]⟩) := U5.mod.cell (by rw [box_cell]; rfl) (fun hf => by have := Hbx.out _ hf; simp at this)
  have w5b1 : w5.cell? ⟨w1.heap.size, 1, none⟩ = some (.int .i64 a) := U5.mod.cell (by rw [box_cell]; rfl) (fun hf => by have := Hbx.out _ hf; simp at this)
  have w5b2 : w5.cell? ⟨w1.heap.size, 2, none⟩ = some (.int .i64 b) := U5.mod.cell (by rw [box_cell]; rfl) (fun hf => by have := Hbx.out _ hf; simp at this)
  have w5b3 : w5.cell? ⟨w1.heap.size, 3, none⟩ = some (.int .i64 C) := U5.mod.cell (by rw [box_cell]; rfl) (fun hf => by have := Hbx.out _ hf; simp at this)
  have w5b4 : w5.cell? ⟨w1.heap.size, 4, none⟩ = some (.string dto) := U5.mod.cell (by rw [box_cell]; rfl) (fun hf => by have := Hbx.out _ hf; simp at this)
  obtain ⟨pt0, pt1, pt2, pt3, pt4, pt5⟩ := X5.top
  obtain ⟨pr0, pr1, pr2, pr3, pr4⟩ := X5.thr_at (setPc_T Hh.out _)
  obtain ⟨pga0, pga1, pga2⟩ := X5.reg_at (setPc_T Hh.out _) ha
  obtain ⟨pgb0, pgb1, pgb2⟩ := X5.reg_at (setPc_T Hh.out _) hb
  have hs5 : w1.heap.size < w5.heap.size := by have := U5.mod.size; simp at this; omega
  have HX5 := Lib.hid X5
  have HU5 := Lib.hid U5
  clear X5 U5 pt4 pr3 pt1 pt2 pt3 t0 t1 t2 t3 r0 r1 r2 c0 c1 c2 c3 c4 ga0 ga1 gb0 gb1
  go_wp2
  go_ret
  refine ⟨rfl, L, ?_⟩
  exact MUp.then0 (HU0.out.trans HU5.out) (by repeat (first | exact Mod.refl _ _ | refine Mod.drew ?_ | refine Mod.drewN ?_ _ | refine Mod.alloc ?_ _))
end Go.Proofs.YtamfbfajlfbooaaDoor
end
/- (*quiescentref1.Machine).Step, instruction by instruction: force. -/
section
namespace Go.Proofs.YtamfbfajlfbooaaDoor
open Go.RowKit Qs Qh
variable {w : World} {L : Lay} {m : M} {N : Int}
set_option maxRecDepth 100000 in
set_option maxHeartbeats 4000000 in
theorem step_force (X : Mach ty w L m N) (hN : N ≤ 10000000000) (t : Nat) (ht : t < m.T.length) {h : Thr} (hh : m.T[t]? = some h) {a b c : Nat} {A B C : Int} {to : List UInt8} (hx : h.code[h.pc]? = some ⟨13, A, B, C, to⟩)  :
    Calls Tryd.prog 89 #[.pointer (some ⟨L.blk 0 0, 0, none⟩), .int .i64 t] w fun e w' => e = .returned (.int .i64 0) ∧ ∃ L', MUp ty w L m w' L' ((m.setPc t (h.pc + 1)).force m.T.length) (N + 48) := by
  have hthr : m.thr t = h := by simp [M.thr, List.getD, hh]
  have hdone : m.done t = false := by unfold M.done; rw [hthr, hx]; rfl
  obtain ⟨t0, t1, t2, t3, t4, t5⟩ := X.top
  have ht6 : m.T.length ≤ 6 := by have := X.om.waits; have := X.ot.len; omega
  have hsp := X.olt.sp4
  have hsp8 := X.olt.sp8 t ht
  have d0 : decide ((t : Int) < 0) = false := by simp
  have d1 : decide ((m.T.length : Int) ≤ (t : Int)) = false := by simp; omega
  have HX := Lib.hid X
  have Hh := Lib.hid hh
  have Hx := Lib.hid hx
  have Hthr := Lib.hid hthr
  have Hdone := Lib.hid hdone
  clear X hh hx hthr hdone t4
  go_enter Tryd.func89, Tryd.ntmps89
  go_wp2_with fail
  refine (done_any HX.out t ht).mono ?_
  rintro e w1 ⟨rfl, hm⟩
  rw [Hdone.out]
  have X1 := HX.out.frame0 hm
  have HX1 := Lib.hid X1
  have Hm := Lib.hid hm
  clear t0 t1 t2 t3 t5
  obtain ⟨t0, t1, t2, t3, t4, t5⟩ := X1.top
  obtain ⟨r0, r1, r2, r3, r4⟩ := X1.thr_at Hh.out
  obtain ⟨cb, off, cc, e, hcb, hcell⟩ := code_cell X1 Hh.out Hx.out
  rw [e] at r0
  obtain ⟨hpc, hco⟩ := X1.ot.code t h Hh.out
  have hlen := hco.len
  have hlt : h.pc < h.code.length := (List.getElem?_eq_some_iff.1 Hx.out).1
  have c0 := hcell 0 _ rfl
  have c1 := hcell 1 _ rfl
  have c2 := hcell 2 _ rfl
  have c3 := hcell 3 _ rfl
  have c4 := hcell 4 _ rfl
  simp only [Nat.add_zero, opStr, iv, sv] at c0 c1 c2 c3 c4
  generalize hd4 : (⟨to.toArray⟩ : ByteArray) = dto at *
  have Hd4 := Lib.hid hd4
  have f4 := r3 (t * 3 + 2)
  have n48 : L.blk 4 0 ≠ L.blk 8 t := X1.ne (by rw [obj4 ty m X1.olt.n4]; rfl) (by rw [obj8 ty (X1.olt.n8 t ht) Hh.out]; rfl) (by omega)
  have n04 : L.blk 0 0 ≠ L.blk 4 0 := X1.ne rfl (by rw [obj4 ty m X1.olt.n4]; rfl) (by omega)
  have n08 : L.blk 0 0 ≠ L.blk 8 t := X1.ne rfl (by rw [obj8 ty (X1.olt.n8 t ht) Hh.out]; rfl) (by omega)
  have He := Lib.hid e
  clear hm X1 e hpc hco hcell t4 r3 hd4
  go_wp2
  go_region
  have U0 := MUp.then0 ((MUp.quiet HX.out Hm.out).trans (HX1.out.pc Hh.out hlt)) (w3 := ((w1.setCell ⟨L.blk 4 0, t * 3 + 2, none⟩ (.int .i64 ((h.pc : Int) + 1))).alloc (.cells #[.string ⟨#[102, 111, 114, 99, 101]⟩, .int .i64 A, .int .i64 B, .int .i64 C, .string dto] 124)).drew) (by repeat (first | exact Mod.refl _ _ | refine Mod.drew ?_ | refine Mod.drewN ?_ _ | refine Mod.alloc ?_ _))
  have hbx : ∀ k, Foot ty allK L (m.setPc t (h.pc + 1)) k → k < w1.heap.size := fun k hk => by
    have := (HX1.out.pc Hh.out hlt).mach.rep.lt hk
    simpa using this
  have HU0 := Lib.hid U0
  have Hbx := Lib.hid hbx
  clear U0 hbx
  go_wp2
  clear t0 t1 t2 t3 r0 r1 r2 c0 c1 c2 c3 c4
  go_loopw [29] (fun i wr => ∃ k : Nat, k ≤ m.T.length ∧ i = .int .i64 k ∧ ∃ Lr, MUp ty w L m wr Lr ((m.setPc t (h.pc + 1)).force k) (N + 8 * k)) (fun i _ => m.T.length - (intOf i).toNat)
  case atStart => exact ⟨0, Nat.zero_le _, rfl, L, by simpa [M.force] using HU0.out⟩
  case round =>
    rename_i wr
    obtain ⟨k, hk, rfl, Lr, Ur⟩ := hrel
    have hlenT : ((m.setPc t (h.pc + 1)).force k).T.length = m.T.length := by rw [force_T]; simp [M.setPc]
    obtain ⟨q0, q1, q2, q3, q4, q5⟩ := Ur.mach.top
    rw [Ur.top.1] at q0 q1 q5
    rw [hlenT] at q1
    have hcall := machFence_any Ur.mach (by omega) k
    rw [Ur.top.1] at hcall
    have HUr := Lib.hid Ur
    have Hcall := Lib.hid hcall
    clear Ur hcall q2 q3 q4
    by_cases hlt : k < m.T.length
    · have hd : decide ((k : Int) < (m.T.length : Int)) = true := by simp; omega
      go_wp2_with fail
      refine (Hcall.out (by rw [hlenT]; exact hlt)).mono ?_
      rintro e w7 ⟨rfl, L7, U7⟩
      have HU7 := Lib.hid U7
      clear U7
      go_wp2
      go_roundw
      case rel =>
        refine ⟨k + 1, by omega, by go_num, L7, ?_⟩
        rw [show N + 8 * ((k + 1 : Nat) : Int) = N + 8 * (k : Int) + 8 from by omega]
        exact HUr.out.trans HU7.out
      case measure => simp [intOf]; omega
    · have hd : decide ((k : Int) < (m.T.length : Int)) = false := by simp; omega
      obtain rfl : k = m.T.length := by omega
      go_wp2
      go_ret
      exact ⟨rfl, Lr, HUr.out.mono (by omega)⟩
end Go.Proofs.YtamfbfajlfbooaaDoor
end
/- (*quiescentref1.Machine).Drain. -/
section
namespace Go.Proofs.YtamfbfajlfbooaaDoor
open Go.RowKit Qs Qh
variable {w : World} {L : Lay} {m : M} {N : Int}
theorem mdrain_any (X : Mach ty w L m N) (hN : N ≤ 10000000000) (t : Nat) (ht : t < m.T.length) :
    Calls Tryd.prog 90 #[.pointer (some ⟨L.blk 0 0, 0, none⟩), .int .i64 t] w fun e w' => e = .returned (.int .i64 (m.drain t).2) ∧ ∃ L', MUp ty w L m w' L' (m.drain t).1 (N + 1) := by
  obtain ⟨l, hl⟩ : ∃ l, m.waits[t]? = some l := ⟨_, List.getElem?_eq_getElem (by rw [X.ot.len]; exact ht)⟩
  have hwo : m.waitsOf t = l := by simp [M.waitsOf, List.getD, hl]
  obtain ⟨t0, t1, t2, t3, t4, t5⟩ := X.top
  have hf := X.ot.f0
  have d0 : decide ((t : Int) < 0) = false := by simp
  have d1 : decide ((m.T.length : Int) ≤ (t : Int)) = false := by simp; omega
  have HX := Lib.hid X
  cases l with
  | nil =>
    have hcall := drain_none X.rep rfl rfl X.om X.ol t hl
    have hdr : m.drain t = (m, 5) := by unfold M.drain; rw [hwo]
    have Hdr := Lib.hid hdr
    have Hcall := Lib.hid hcall
    clear hdr hcall X t4 hl hwo
    go_enter Tryd.func90, Tryd.ntmps90
    go_wp2_with (go_at_call 116; refine Hcall.out.mono ?_; rintro e w5 ⟨rfl, rfl⟩)
    go_ret
    rw [Hdr.out]
    exact ⟨rfl, L, (MUp.quiet HX.out (Mod.refl _ _)).mono1⟩
  | cons x r =>
    have hcall := drain_some X.rep rfl rfl rfl rfl rfl X.om X.ol (by omega) t hl
    have hval := X.om.wval t _ hl
    have hx0 := (hval x (by simp)).1
    have om5 : OkM N { m with cells := (drain1 m.cells x).1, waits := m.waits.set t r } :=
      (X.om.drain1 hx0).setWaits (by have := X.om.wlen t _ hl; simp at this; omega) (fun y hy => by simpa [drain1_length] using hval y (by simp [hy]))
    have hdr : m.drain t = ({ m with cells := (drain1 m.cells x).1, waits := m.waits.set t r, faults := m.faults + (if (drain1 m.cells x).2 then 1 else 0) }, 0) := by unfold M.drain; rw [hwo]
    have hbad := drain1_bad m.cells x
    have Hdr := Lib.hid hdr
    have Hcall := Lib.hid hcall
    have Hom5 := Lib.hid om5
    cases hh : hereIn m.cells x.c x.g with
    | true =>
      rw [hh] at hbad
      have hde : drainE m.cells x = 0 := by unfold drainE; rw [if_pos hh]
      have Hde := Lib.hid hde
      have Hbad := Lib.hid hbad
      clear hdr hcall X t4 hl hwo hval om5 hbad hh hde hx0
      go_enter Tryd.func90, Tryd.ntmps90
      go_wp2_with (go_at_call 116; refine Hcall.out.mono ?_; rintro e w5 ⟨rfl, L5, hU5⟩; rw [show drainE _ x = 0 from Hde.out])
      go_ret
      rw [Hdr.out, Hbad.out]
      refine ⟨rfl, L5, ?_⟩
      have U := (HX.out.up (Int.le_refl N) hU5 Hom5.out rfl rfl rfl (by simp)).mono1
      simpa using U
    | false =>
      rw [hh] at hbad
      have hde : drainE m.cells x = 7 := by unfold drainE; rw [if_neg (by rw [hh]; decide)]
      have Hde := Lib.hid hde
      have Hbad := Lib.hid hbad
      clear hdr hcall X t4 hl hwo hval om5 hbad hh hde hx0
      go_enter Tryd.func90, Tryd.ntmps90
      go_wp2_with fail
      refine Hcall.out.mono ?_
      rintro e w5 ⟨rfl, L5, hU5⟩
      rw [show drainE _ x = 7 from Hde.out]
      have U5 := HX.out.up (Int.le_refl N) hU5 Hom5.out rfl rfl rfl (by simp)
      obtain ⟨x0, x1, x2, x3, x4, x5⟩ := U5.mach.top
      have x43 := x4 3
      have E0 := U5.top.1
      rw [E0] at x0 x3 x43 x5
      have HE0 := Lib.hid E0
      have HU5 := Lib.hid U5
      clear x1 x2 x4 E0 hU5 U5
      go_wp2
      go_ret
      rw [Hdr.out, Hbad.out]
      refine ⟨rfl, L5, ?_⟩
      have V := HU5.out.trans (HU5.out.mach.setFaults (N' := N + 1) (m.faults + 1) (by omega) (by omega) (by omega))
      rw [HE0.out] at V
      simpa using V
end Go.Proofs.YtamfbfajlfbooaaDoor
end
/- (*quiescentref1.Machine).Rest. -/
section
namespace Go.Proofs.YtamfbfajlfbooaaDoor
open Go.RowKit Qs Qh
variable {w : World} {L : Lay} {m : M} {N : Int}
theorem rest_no {m : M} {k : Nat} (hk : k < m.T.length) (h : m.done k = false ∨ m.waitsOf k ≠ []) : m.rest = false := by
  rw [← Bool.not_eq_true, M.rest_iff]
  intro e
  have := e k hk
  rcases h with h | h
  · rw [h] at this; cases this.1
  · exact h this.2
set_option maxHeartbeats 1000000 in
theorem rest_any (X : Mach ty w L m N) :
    Calls Tryd.prog 25 #[.pointer (some ⟨L.blk 0 0, 0, none⟩)] w fun e w' => e = .returned (.bool m.rest) ∧ Mod noF w w' := by
  have ht6 : m.T.length ≤ 6 := by have := X.om.waits; have := X.ot.len; omega
  have hwl := X.ot.len
  have HX := Lib.hid X
  have Hwl := Lib.hid hwl
  clear X hwl
  go_enter Tryd.func25, Tryd.ntmps25
  go_wp2
  go_loopw [3, 4] (fun i d wr => ∃ k : Nat, k ≤ m.T.length ∧ i = .int .i64 k ∧ Mod noF w wr ∧ ∀ j, j < k → m.done j = true ∧ m.waitsOf j = []) (fun i d _ => m.T.length - (intOf i).toNat)
  case atStart => exact ⟨0, Nat.zero_le _, rfl, Mod.refl _ _, fun j hj => absurd hj (by omega)⟩
  case round =>
    rename_i wr
    obtain ⟨k, hk, rfl, hmr, hall⟩ := hrel
    have Hall := Lib.hid hall
    clear hall
    have Xr := HX.out.frame0 hmr
    obtain ⟨t0, t1, t2, t3, t4, t5⟩ := Xr.top
    by_cases hlt : k < m.T.length
    · have hd : decide ((k : Int) < (m.T.length : Int)) = true := by simp; omega
      obtain ⟨l, hl⟩ : ∃ l, m.waits[k]? = some l := ⟨_, List.getElem?_eq_getElem (by rw [Hwl.out]; exact hlt)⟩
      have hwo : m.waitsOf k = l := by simp [M.waitsOf, List.getD, hl]
      have HXr := Lib.hid Xr
      have Hmr := Lib.hid hmr
      have Hl := Lib.hid hl
      have Hwo := Lib.hid hwo
      clear Xr hmr t4 hl hwo
      go_wp2_with fail
      refine (done_any HXr.out k hlt).mono ?_
      rintro e w1 ⟨rfl, hm1⟩
      have X1 := HXr.out.frame0 hm1
      obtain ⟨s0, s1, s2, s3, s4, s5⟩ := X1.top
      have pw0 := X1.rep.waits_at rfl X1.ol
      have pw1 := waits_row X1.rep rfl X1.ol (t := k) (l := l) Hl.out
      obtain ⟨ra, rcp, hrow⟩ := row_slice X1.ol (t := k) (l := l) Hl.out
      rw [hrow] at pw1
      have iT : (k : Int) < (m.waits.length : Int) := by have := Hwl.out; omega
      have Hm1 := Lib.hid hm1
      clear X1 s4 hm1 hrow
      cases hdn : m.done k with
      | false =>
        have hr := rest_no hlt (.inl hdn)
        have Hr := Lib.hid hr
        have Hdn := Lib.hid hdn
        clear hdn hr
        go_wp2
        go_ret
        exact ⟨ret_bool Hr.out.symm, Hmr.out.trans0 Hm1.out⟩
      | true =>
        have Hdn := Lib.hid hdn
        clear hdn
        by_cases hnil : l = []
        · subst hnil
          go_wp2
          go_roundw
          case rel =>
            refine ⟨k + 1, by omega, by go_num, Hmr.out.trans0 Hm1.out, fun j hj => ?_⟩
            by_cases e : j = k
            · subst e; exact ⟨Hdn.out, Hwo.out⟩
            · exact Hall.out j (by omega)
          case measure => simp [intOf]; omega
        · have hr := rest_no hlt (.inr (by rw [Hwo.out]; exact hnil))
          have hpos : 0 < l.length := List.length_pos_iff.2 hnil
          have hdp : decide (0 < (l.length : Int)) = true := by simp; omega
          have Hr := Lib.hid hr
          clear hr hnil
          go_wp2
          go_ret
          exact ⟨ret_bool Hr.out.symm, Hmr.out.trans0 Hm1.out⟩
    · have hd : decide ((k : Int) < (m.T.length : Int)) = false := by simp; omega
      have hr : m.rest = true := M.rest_iff.2 fun j hj => Hall.out j (by omega)
      have Hr := Lib.hid hr
      have Hmr := Lib.hid hmr
      clear Xr hmr t4 hr
      go_wp2
      go_ret
      exact ⟨ret_bool Hr.out.symm, Hmr.out⟩
end Go.Proofs.YtamfbfajlfbooaaDoor
end
/- package grace: flavours; begin. -/
section
namespace Go.Proofs.YtamfbfajlfbooaaDoor
open Go.RowKit Qs Qh
variable {w0 w w1 : World} {b o : Nat} {v0 : Value} {l : List Instr} {br s : ByteArray} {fe jo co : Bool} {u : Value} {c : Nat}
theorem size_plus2 (s : ByteArray) (a b : UInt8) (hs : s.size ≤ 4) : (s ++ ⟨[a, b].toArray⟩ : ByteArray).size ≤ 100 := by
  rw [ByteArray.size_append]
  have : (⟨[a, b].toArray⟩ : ByteArray).size = 2 := rfl
  omega
theorem flavours1 (w : World) : Calls Tryd.prog 124 #[.int .i64 1] w fun e w' => e = .returned (.tuple #[.agg #[.string ⟨#[102, 101, 110, 99, 101]⟩, .bool true, .bool false, .bool false], .bool true]) ∧ Mod noF w w' := by
  go_enter Tryd.func124, Tryd.ntmps124
  go_wp2
  refine bodyPost_ret (v := .tuple #[.agg #[.string ⟨#[102, 101, 110, 99, 101]⟩, .bool true, .bool false, .bool false], .bool true]) (by simp [results, Tryd.results124, go_sem]) rfl ⟨rfl, ?_⟩
  repeat (first | exact Mod.refl _ _ | refine Mod.drew ?_ | refine Mod.drewN ?_ _ | refine Mod.alloc ?_ _ | refine Mod.setCell ?_ (fun h => absurd h (by simp)) _)
theorem flavours2 (w : World) : Calls Tryd.prog 124 #[.int .i64 2] w fun e w' => e = .returned (.tuple #[.agg #[.string ⟨#[102, 111, 114, 99, 101]⟩, .bool false, .bool false, .bool false], .bool true]) ∧ Mod noF w w' := by
  go_enter Tryd.func124, Tryd.ntmps124
  go_wp2
  refine bodyPost_ret (v := .tuple #[.agg #[.string ⟨#[102, 111, 114, 99, 101]⟩, .bool false, .bool false, .bool false], .bool true]) (by simp [results, Tryd.results124, go_sem]) rfl ⟨rfl, ?_⟩
  repeat (first | exact Mod.refl _ _ | refine Mod.drew ?_ | refine Mod.drewN ?_ _ | refine Mod.alloc ?_ _ | refine Mod.setCell ?_ (fun h => absurd h (by simp)) _)
theorem flavours3 (w : World) : Calls Tryd.prog 124 #[.int .i64 3] w fun e w' => e = .returned (.tuple #[.agg #[.string ⟨#[102, 101, 110, 99, 101]⟩, .bool false, .bool false, .bool true], .bool true]) ∧ Mod noF w w' := by
  go_enter Tryd.func124, Tryd.ntmps124
  go_wp2
  refine bodyPost_ret (v := .tuple #[.agg #[.string ⟨#[102, 101, 110, 99, 101]⟩, .bool false, .bool false, .bool true], .bool true]) (by simp [results, Tryd.results124, go_sem]) rfl ⟨rfl, ?_⟩
  repeat (first | exact Mod.refl _ _ | refine Mod.drew ?_ | refine Mod.drewN ?_ _ | refine Mod.alloc ?_ _ | refine Mod.setCell ?_ (fun h => absurd h (by simp)) _)
theorem flavours4 (w : World) : Calls Tryd.prog 124 #[.int .i64 4] w fun e w' => e = .returned (.tuple #[.agg #[.string ⟨#[102, 101, 110, 99, 101]⟩, .bool true, .bool true, .bool false], .bool true]) ∧ Mod noF w w' := by
  go_enter Tryd.func124, Tryd.ntmps124
  go_wp2
  refine bodyPost_ret (v := .tuple #[.agg #[.string ⟨#[102, 101, 110, 99, 101]⟩, .bool true, .bool true, .bool false], .bool true]) (by simp [results, Tryd.results124, go_sem]) rfl ⟨rfl, ?_⟩
  repeat (first | exact Mod.refl _ _ | refine Mod.drew ?_ | refine Mod.drewN ?_ _ | refine Mod.alloc ?_ _ | refine Mod.setCell ?_ (fun h => absurd h (by simp)) _)
set_option maxHeartbeats 2000000 in
theorem begin1_ok (s : ByteArray) (w : World) (hn : nameB s.data.toList = true) (hs : s.size ≤ 4) :
    Calls Tryd.prog 138 #[.int .i64 1, .string s] w fun e w' => ∃ b, e = .returned (.tuple #[.pointer (some ⟨b, 0, none⟩), .nilIface]) ∧ Mod noF w w' ∧ w.heap.size ≤ b ∧ Emit insT w' b 4 (.slice none 0 0) [] ∧ MkAt w' b (opStr 12) true false false s := by
  have hsz : s.size ≤ maxLen := by unfold maxLen; omega
  have hm : (s.size : Int) ≤ 4 := by omega
  have Hn := Lib.hid hn
  clear hn
  go_enter Tryd.func138, Tryd.ntmps138
  go_wp2_with fail
  refine (flavours1 w).mono ?_
  rintro e w1 ⟨rfl, hm1⟩
  have Hm1 := Lib.hid hm1
  clear hm1
  go_wp2_with (go_at_call 101; refine (prefix_ok s 4 _ hsz Hn.out hm).mono ?_; rintro e w' ⟨rfl, rfl⟩)
  go_ret2
  have hs1 := Hm1.out.size
  exact ⟨w1.heap.size + 1, by simp, (Hm1.out.alloc _).alloc _, by omega, ⟨by simp, by simp, InsRow.nil _ _, by simp [Value.ownBlock], by simp⟩, ⟨by simp; rfl, by simp, by simp, by simp, by simp⟩⟩
set_option maxHeartbeats 2000000 in
theorem begin2_ok (s : ByteArray) (w : World) (hn : nameB s.data.toList = true) (hs : s.size ≤ 4) :
    Calls Tryd.prog 138 #[.int .i64 2, .string s] w fun e w' => ∃ b, e = .returned (.tuple #[.pointer (some ⟨b, 0, none⟩), .nilIface]) ∧ Mod noF w w' ∧ w.heap.size ≤ b ∧ Emit insT w' b 4 (.slice none 0 0) [] ∧ MkAt w' b (opStr 13) false false false s := by
  have hsz : s.size ≤ maxLen := by unfold maxLen; omega
  have hm : (s.size : Int) ≤ 4 := by omega
  have Hn := Lib.hid hn
  clear hn
  go_enter Tryd.func138, Tryd.ntmps138
  go_wp2_with fail
  refine (flavours2 w).mono ?_
  rintro e w1 ⟨rfl, hm1⟩
  have Hm1 := Lib.hid hm1
  clear hm1
  go_wp2_with (go_at_call 101; refine (prefix_ok s 4 _ hsz Hn.out hm).mono ?_; rintro e w' ⟨rfl, rfl⟩)
  go_ret2
  have hs1 := Hm1.out.size
  exact ⟨w1.heap.size + 1, by simp, (Hm1.out.alloc _).alloc _, by omega, ⟨by simp, by simp, InsRow.nil _ _, by simp [Value.ownBlock], by simp⟩, ⟨by simp; rfl, by simp, by simp, by simp, by simp⟩⟩
set_option maxHeartbeats 2000000 in
theorem begin3_ok (s : ByteArray) (w : World) (hn : nameB s.data.toList = true) (hs : s.size ≤ 4) :
    Calls Tryd.prog 138 #[.int .i64 3, .string s] w fun e w' => ∃ b, e = .returned (.tuple #[.pointer (some ⟨b, 0, none⟩), .nilIface]) ∧ Mod noF w w' ∧ w.heap.size ≤ b ∧ Emit insT w' b 4 (.slice none 0 0) [] ∧ MkAt w' b (opStr 12) false false true s := by
  have hsz : s.size ≤ maxLen := by unfold maxLen; omega
  have hm : (s.size : Int) ≤ 4 := by omega
  have Hn := Lib.hid hn
  clear hn
  go_enter Tryd.func138, Tryd.ntmps138
  go_wp2_with fail
  refine (flavours3 w).mono ?_
  rintro e w1 ⟨rfl, hm1⟩
  have Hm1 := Lib.hid hm1
  clear hm1
  go_wp2_with (go_at_call 101; refine (prefix_ok s 4 _ hsz Hn.out hm).mono ?_; rintro e w' ⟨rfl, rfl⟩)
  go_ret2
  have hs1 := Hm1.out.size
  exact ⟨w1.heap.size + 1, by simp, (Hm1.out.alloc _).alloc _, by omega, ⟨by simp, by simp, InsRow.nil _ _, by simp [Value.ownBlock], by simp⟩, ⟨by simp; rfl, by simp, by simp, by simp, by simp⟩⟩
set_option maxHeartbeats 2000000 in
theorem begin4_ok (s : ByteArray) (w : World) (hn : nameB s.data.toList = true) (hs : s.size ≤ 4) :
    Calls Tryd.prog 138 #[.int .i64 4, .string s] w fun e w' => ∃ b, e = .returned (.tuple #[.pointer (some ⟨b, 0, none⟩), .nilIface]) ∧ Mod noF w w' ∧ w.heap.size ≤ b ∧ Emit insT w' b 4 (.slice none 0 0) [] ∧ MkAt w' b (opStr 12) true true false s := by
  have hsz : s.size ≤ maxLen := by unfold maxLen; omega
  have hm : (s.size : Int) ≤ 4 := by omega
  have Hn := Lib.hid hn
  clear hn
  go_enter Tryd.func138, Tryd.ntmps138
  go_wp2_with fail
  refine (flavours4 w).mono ?_
  rintro e w1 ⟨rfl, hm1⟩
  have Hm1 := Lib.hid hm1
  clear hm1
  go_wp2_with (go_at_call 101; refine (prefix_ok s 4 _ hsz Hn.out hm).mono ?_; rintro e w' ⟨rfl, rfl⟩)
  go_ret2
  have hs1 := Hm1.out.size
  exact ⟨w1.heap.size + 1, by simp, (Hm1.out.alloc _).alloc _, by omega, ⟨by simp, by simp, InsRow.nil _ _, by simp [Value.ownBlock], by simp⟩, ⟨by simp; rfl, by simp, by simp, by simp, by simp⟩⟩
end Go.Proofs.YtamfbfajlfbooaaDoor
end
/- package grace: no such flavour, no such labels. -/
section
namespace Go.Proofs.YtamfbfajlfbooaaDoor
open Go.RowKit Qs Qh
variable {w0 w w1 : World} {b o : Nat} {v0 : Value} {l : List Instr} {br s : ByteArray} {fe jo co : Bool} {u : Value} {c : Nat}
/-- Cells at the beginning: four words. -/
def Four (w : World) (v : Value) (z : List Int) (w' : World) : Prop := ∃ b, v = .slice (some ⟨b, 0, none⟩) 4 4 ∧ w.heap.size ≤ b ∧ b < w'.heap.size ∧ (∀ (i : Nat) x, z[i]? = some x → w'.cell? ⟨b, i, none⟩ = some (.int .i64 x)) ∧ Mod noF w w'
theorem four_cells (w : World) (z : List Int) (T : TypeId) : ∀ (i : Nat) x, z[i]? = some x → (w.alloc (.cells (z.map (Value.int .i64)).toArray T)).cell? ⟨w.heap.size, i, none⟩ = some (.int .i64 x) := by
  intro i x h
  rw [World.cell?_alloc_new]
  simp [h]
theorem ghub1 (w : World) :
    Calls Tryd.prog 81 #[.int .i64 1] w fun e w' => ∃ v, e = .returned (.tuple #[v, .nilIface]) ∧ Four w v [1, 0, 0, 0] w' := by
  go_enter Tryd.func81, Tryd.ntmps81
  go_wp2_with fail
  refine (flavours1 w).mono ?_
  rintro e w1 ⟨rfl, hm1⟩
  have hs1 := hm1.size
  have Hm1 := Lib.hid hm1
  clear hm1
  go_wp2
  go_ret2
  exact ⟨_, rfl, _, rfl, by omega, by simp, fun i x h => by simpa using four_cells (w1.alloc (.cells #[.string ⟨#[102, 101, 110, 99, 101]⟩, .bool true, .bool false, .bool false] 190)) [1, 0, 0, 0] 3 i x h, (by repeat (first | exact Hm1.out | refine Mod.drew ?_ | refine Mod.drewN ?_ _ | refine Mod.alloc ?_ _ | refine Mod.setCell ?_ (fun h => absurd h (by have := Hm1.out.size; simp at *; omega)) _))⟩
theorem gown1 (w : World) :
    Calls Tryd.prog 82 #[.int .i64 1] w fun e w' => ∃ v, e = .returned (.tuple #[v, .nilIface]) ∧ Four w v [0, 0, 0, 0] w' := by
  go_enter Tryd.func82, Tryd.ntmps82
  go_wp2_with fail
  refine (flavours1 w).mono ?_
  rintro e w1 ⟨rfl, hm1⟩
  have hs1 := hm1.size
  have Hm1 := Lib.hid hm1
  clear hm1
  go_wp2
  go_ret2
  exact ⟨_, rfl, _, rfl, by omega, by simp, fun i x h => by simpa using four_cells (w1.alloc (.cells #[.string ⟨#[102, 101, 110, 99, 101]⟩, .bool true, .bool false, .bool false] 190)) [0, 0, 0, 0] 3 i x h, (by repeat (first | exact Hm1.out | refine Mod.drew ?_ | refine Mod.drewN ?_ _ | refine Mod.alloc ?_ _ | refine Mod.setCell ?_ (fun h => absurd h (by have := Hm1.out.size; simp at *; omega)) _))⟩
theorem glink1 (w : World) :
    Calls Tryd.prog 83 #[.int .i64 1] w fun e w' => e = .returned (.tuple #[.int .i64 2, .nilIface]) ∧ Mod noF w w' := by
  go_enter Tryd.func83, Tryd.ntmps83
  go_wp2_with fail
  refine (flavours1 w).mono ?_
  rintro e w1 ⟨rfl, hm1⟩
  have hs1 := hm1.size
  have Hm1 := Lib.hid hm1
  clear hm1
  go_wp2
  go_ret2
  exact ⟨rfl, (by repeat (first | exact Hm1.out | refine Mod.drew ?_ | refine Mod.drewN ?_ _ | refine Mod.alloc ?_ _ | refine Mod.setCell ?_ (fun h => absurd h (by have := Hm1.out.size; simp at *; omega)) _))⟩
theorem ghub2 (w : World) :
    Calls Tryd.prog 81 #[.int .i64 2] w fun e w' => ∃ v, e = .returned (.tuple #[v, .nilIface]) ∧ Four w v [1, 0, 0, 0] w' := by
  go_enter Tryd.func81, Tryd.ntmps81
  go_wp2_with fail
  refine (flavours2 w).mono ?_
  rintro e w1 ⟨rfl, hm1⟩
  have hs1 := hm1.size
  have Hm1 := Lib.hid hm1
  clear hm1
  go_wp2
  go_ret2
  exact ⟨_, rfl, _, rfl, by omega, by simp, fun i x h => by simpa using four_cells (w1.alloc (.cells #[.string ⟨#[102, 111, 114, 99, 101]⟩, .bool false, .bool false, .bool false] 190)) [1, 0, 0, 0] 3 i x h, (by repeat (first | exact Hm1.out | refine Mod.drew ?_ | refine Mod.drewN ?_ _ | refine Mod.alloc ?_ _ | refine Mod.setCell ?_ (fun h => absurd h (by have := Hm1.out.size; simp at *; omega)) _))⟩
theorem gown2 (w : World) :
    Calls Tryd.prog 82 #[.int .i64 2] w fun e w' => ∃ v, e = .returned (.tuple #[v, .nilIface]) ∧ Four w v [0, 0, 0, 0] w' := by
  go_enter Tryd.func82, Tryd.ntmps82
  go_wp2_with fail
  refine (flavours2 w).mono ?_
  rintro e w1 ⟨rfl, hm1⟩
  have hs1 := hm1.size
  have Hm1 := Lib.hid hm1
  clear hm1
  go_wp2
  go_ret2
  exact ⟨_, rfl, _, rfl, by omega, by simp, fun i x h => by simpa using four_cells (w1.alloc (.cells #[.string ⟨#[102, 111, 114, 99, 101]⟩, .bool false, .bool false, .bool false] 190)) [0, 0, 0, 0] 3 i x h, (by repeat (first | exact Hm1.out | refine Mod.drew ?_ | refine Mod.drewN ?_ _ | refine Mod.alloc ?_ _ | refine Mod.setCell ?_ (fun h => absurd h (by have := Hm1.out.size; simp at *; omega)) _))⟩
theorem glink2 (w : World) :
    Calls Tryd.prog 83 #[.int .i64 2] w fun e w' => e = .returned (.tuple #[.int .i64 2, .nilIface]) ∧ Mod noF w w' := by
  go_enter Tryd.func83, Tryd.ntmps83
  go_wp2_with fail
  refine (flavours2 w).mono ?_
  rintro e w1 ⟨rfl, hm1⟩
  have hs1 := hm1.size
  have Hm1 := Lib.hid hm1
  clear hm1
  go_wp2
  go_ret2
  exact ⟨rfl, (by repeat (first | exact Hm1.out | refine Mod.drew ?_ | refine Mod.drewN ?_ _ | refine Mod.alloc ?_ _ | refine Mod.setCell ?_ (fun h => absurd h (by have := Hm1.out.size; simp at *; omega)) _))⟩
theorem ghub3 (w : World) :
    Calls Tryd.prog 81 #[.int .i64 3] w fun e w' => ∃ v, e = .returned (.tuple #[v, .nilIface]) ∧ Four w v [1, 0, 0, 0] w' := by
  go_enter Tryd.func81, Tryd.ntmps81
  go_wp2_with fail
  refine (flavours3 w).mono ?_
  rintro e w1 ⟨rfl, hm1⟩
  have hs1 := hm1.size
  have Hm1 := Lib.hid hm1
  clear hm1
  go_wp2
  go_ret2
  exact ⟨_, rfl, _, rfl, by omega, by simp, fun i x h => by simpa using four_cells (w1.alloc (.cells #[.string ⟨#[102, 101, 110, 99, 101]⟩, .bool false, .bool false, .bool true] 190)) [1, 0, 0, 0] 3 i x h, (by repeat (first | exact Hm1.out | refine Mod.drew ?_ | refine Mod.drewN ?_ _ | refine Mod.alloc ?_ _ | refine Mod.setCell ?_ (fun h => absurd h (by have := Hm1.out.size; simp at *; omega)) _))⟩
theorem gown3 (w : World) :
    Calls Tryd.prog 82 #[.int .i64 3] w fun e w' => ∃ v, e = .returned (.tuple #[v, .nilIface]) ∧ Four w v [1, 0, 0, 0] w' := by
  go_enter Tryd.func82, Tryd.ntmps82
  go_wp2_with fail
  refine (flavours3 w).mono ?_
  rintro e w1 ⟨rfl, hm1⟩
  have hs1 := hm1.size
  have Hm1 := Lib.hid hm1
  clear hm1
  go_wp2
  go_ret2
  exact ⟨_, rfl, _, rfl, by omega, by simp, fun i x h => by simpa using four_cells (w1.alloc (.cells #[.string ⟨#[102, 101, 110, 99, 101]⟩, .bool false, .bool false, .bool true] 190)) [1, 0, 0, 0] 3 i x h, (by repeat (first | exact Hm1.out | refine Mod.drew ?_ | refine Mod.drewN ?_ _ | refine Mod.alloc ?_ _ | refine Mod.setCell ?_ (fun h => absurd h (by have := Hm1.out.size; simp at *; omega)) _))⟩
theorem glink3 (w : World) :
    Calls Tryd.prog 83 #[.int .i64 3] w fun e w' => e = .returned (.tuple #[.int .i64 2, .nilIface]) ∧ Mod noF w w' := by
  go_enter Tryd.func83, Tryd.ntmps83
  go_wp2_with fail
  refine (flavours3 w).mono ?_
  rintro e w1 ⟨rfl, hm1⟩
  have hs1 := hm1.size
  have Hm1 := Lib.hid hm1
  clear hm1
  go_wp2
  go_ret2
  exact ⟨rfl, (by repeat (first | exact Hm1.out | refine Mod.drew ?_ | refine Mod.drewN ?_ _ | refine Mod.alloc ?_ _ | refine Mod.setCell ?_ (fun h => absurd h (by have := Hm1.out.size; simp at *; omega)) _))⟩
theorem ghub4 (w : World) :
    Calls Tryd.prog 81 #[.int .i64 4] w fun e w' => ∃ v, e = .returned (.tuple #[v, .nilIface]) ∧ Four w v [1, 0, 0, 0] w' := by
  go_enter Tryd.func81, Tryd.ntmps81
  go_wp2_with fail
  refine (flavours4 w).mono ?_
  rintro e w1 ⟨rfl, hm1⟩
  have hs1 := hm1.size
  have Hm1 := Lib.hid hm1
  clear hm1
  go_wp2
  go_ret2
  exact ⟨_, rfl, _, rfl, by omega, by simp, fun i x h => by simpa using four_cells (w1.alloc (.cells #[.string ⟨#[102, 101, 110, 99, 101]⟩, .bool true, .bool true, .bool false] 190)) [1, 0, 0, 0] 3 i x h, (by repeat (first | exact Hm1.out | refine Mod.drew ?_ | refine Mod.drewN ?_ _ | refine Mod.alloc ?_ _ | refine Mod.setCell ?_ (fun h => absurd h (by have := Hm1.out.size; simp at *; omega)) _))⟩
theorem gown4 (w : World) :
    Calls Tryd.prog 82 #[.int .i64 4] w fun e w' => ∃ v, e = .returned (.tuple #[v, .nilIface]) ∧ Four w v [0, 0, 0, 0] w' := by
  go_enter Tryd.func82, Tryd.ntmps82
  go_wp2_with fail
  refine (flavours4 w).mono ?_
  rintro e w1 ⟨rfl, hm1⟩
  have hs1 := hm1.size
  have Hm1 := Lib.hid hm1
  clear hm1
  go_wp2
  go_ret2
  exact ⟨_, rfl, _, rfl, by omega, by simp, fun i x h => by simpa using four_cells (w1.alloc (.cells #[.string ⟨#[102, 101, 110, 99, 101]⟩, .bool true, .bool true, .bool false] 190)) [0, 0, 0, 0] 3 i x h, (by repeat (first | exact Hm1.out | refine Mod.drew ?_ | refine Mod.drewN ?_ _ | refine Mod.alloc ?_ _ | refine Mod.setCell ?_ (fun h => absurd h (by have := Hm1.out.size; simp at *; omega)) _))⟩
theorem glink4 (w : World) :
    Calls Tryd.prog 83 #[.int .i64 4] w fun e w' => e = .returned (.tuple #[.int .i64 (-1), .nilIface]) ∧ Mod noF w w' := by
  go_enter Tryd.func83, Tryd.ntmps83
  go_wp2_with fail
  refine (flavours4 w).mono ?_
  rintro e w1 ⟨rfl, hm1⟩
  have hs1 := hm1.size
  have Hm1 := Lib.hid hm1
  clear hm1
  go_wp2
  go_ret2
  exact ⟨rfl, (by repeat (first | exact Hm1.out | refine Mod.drew ?_ | refine Mod.drewN ?_ _ | refine Mod.alloc ?_ _ | refine Mod.setCell ?_ (fun h => absurd h (by have := Hm1.out.size; simp at *; omega)) _))⟩
end Go.Proofs.YtamfbfajlfbooaaDoor
end
/- The code of package grace, flavour by flavour, plain. -/
section
namespace Go.Proofs.YtamfbfajlfbooaaDoor
open Go.RowKit Qs Qh
variable {w0 w w1 : World} {b o : Nat} {v0 : Value} {l : List Instr} {br s : ByteArray} {fe jo co : Bool} {u : Value} {c : Nat}
def gc10 : List Instr := [⟨6, 0, 6, 0, []⟩, ⟨0, 1, 255, 0, []⟩, ⟨4, 1, 0, 1, []⟩, ⟨14, 1, 0, 0, [46, 97]⟩, ⟨0, 1, 1, 0, []⟩, ⟨2, 0, 0, 1, []⟩, ⟨7, 6, 0, 0, []⟩, ⟨16, 0, 0, 0, [46, 98]⟩, ⟨17, 0, 0, 0, [46, 97]⟩, ⟨6, 0, 7, 0, []⟩, ⟨7, 6, 0, 0, []⟩, ⟨12, 0, 0, 0, []⟩, ⟨17, 0, 0, 0, [46, 98]⟩]
def gc11 : List Instr := [⟨12, 0, 0, 0, []⟩, ⟨6, 0, 6, 0, []⟩, ⟨0, 1, 1, 0, []⟩, ⟨3, 0, 0, 1, []⟩, ⟨7, 6, 0, 0, []⟩]
def gc12 : List Instr := []
def gc13 : List Instr := []
def gc14 : List Instr := [⟨12, 0, 0, 0, []⟩, ⟨17, 0, 0, 0, [116, 46, 97]⟩, ⟨0, 0, 0, 0, []⟩, ⟨0, 1, 1, 0, []⟩, ⟨9, 7, 0, 1, []⟩, ⟨14, 0, 0, 0, [116, 46, 98]⟩, ⟨16, 0, 0, 0, [116, 46, 97]⟩, ⟨17, 0, 0, 0, [116, 46, 98]⟩, ⟨6, 0, 7, 0, []⟩, ⟨0, 1, 256, 0, []⟩, ⟨5, 0, 0, 1, []⟩, ⟨7, 7, 0, 0, []⟩, ⟨12, 0, 0, 0, []⟩, ⟨6, 2, 7, 2, []⟩, ⟨17, 0, 0, 0, [46, 120, 108]⟩, ⟨14, 2, 0, 0, [46, 120, 111]⟩, ⟨17, 0, 0, 0, [46, 120, 115]⟩, ⟨6, 0, 2, 0, []⟩, ⟨0, 1, 255, 0, []⟩, ⟨4, 1, 0, 1, []⟩, ⟨14, 1, 0, 0, [46, 120, 110]⟩, ⟨6, 1, 7, 0, []⟩, ⟨5, 1, 0, 1, []⟩, ⟨0, 0, 256, 0, []⟩, ⟨4, 1, 1, 0, []⟩, ⟨14, 1, 0, 0, [46, 120, 110]⟩, ⟨16, 0, 0, 0, [46, 120, 115]⟩, ⟨17, 0, 0, 0, [46, 120, 110]⟩, ⟨6, 2, 2, 1, []⟩, ⟨16, 0, 0, 0, [46, 120, 108]⟩, ⟨17, 0, 0, 0, [46, 120, 111]⟩, ⟨6, 0, 7, 0, []⟩, ⟨0, 1, 256, 0, []⟩, ⟨5, 0, 0, 1, []⟩, ⟨7, 7, 0, 0, []⟩, ⟨12, 0, 0, 0, []⟩, ⟨6, 2, 7, 2, []⟩, ⟨17, 0, 0, 0, [46, 121, 108]⟩, ⟨14, 2, 0, 0, [46, 121, 111]⟩, ⟨17, 0, 0, 0, [46, 121, 115]⟩, ⟨6, 0, 2, 0, []⟩, ⟨0, 1, 255, 0, []⟩, ⟨4, 1, 0, 1, []⟩, ⟨14, 1, 0, 0, [46, 121, 110]⟩, ⟨6, 1, 7, 0, []⟩, ⟨5, 1, 0, 1, []⟩, ⟨0, 0, 256, 0, []⟩, ⟨4, 1, 1, 0, []⟩, ⟨14, 1, 0, 0, [46, 121, 110]⟩, ⟨16, 0, 0, 0, [46, 121, 115]⟩, ⟨17, 0, 0, 0, [46, 121, 110]⟩, ⟨6, 2, 2, 1, []⟩, ⟨16, 0, 0, 0, [46, 121, 108]⟩, ⟨17, 0, 0, 0, [46, 121, 111]⟩, ⟨12, 0, 0, 0, []⟩, ⟨0, 0, 0, 0, []⟩, ⟨7, 7, 0, 1, []⟩, ⟨12, 0, 0, 0, []⟩]
def gc20 : List Instr := [⟨6, 0, 6, 0, []⟩, ⟨0, 1, 255, 0, []⟩, ⟨4, 1, 0, 1, []⟩, ⟨14, 1, 0, 0, [46, 97]⟩, ⟨0, 1, 1, 0, []⟩, ⟨2, 0, 0, 1, []⟩, ⟨7, 6, 0, 0, []⟩, ⟨16, 0, 0, 0, [46, 98]⟩, ⟨17, 0, 0, 0, [46, 97]⟩, ⟨6, 0, 7, 0, []⟩, ⟨7, 6, 0, 0, []⟩, ⟨17, 0, 0, 0, [46, 98]⟩]
def gc21 : List Instr := [⟨6, 0, 6, 0, []⟩, ⟨0, 1, 1, 0, []⟩, ⟨3, 0, 0, 1, []⟩, ⟨7, 6, 0, 0, []⟩]
def gc22 : List Instr := []
def gc23 : List Instr := []
def gc24 : List Instr := [⟨13, 0, 0, 0, []⟩, ⟨17, 0, 0, 0, [116, 46, 97]⟩, ⟨0, 0, 0, 0, []⟩, ⟨0, 1, 1, 0, []⟩, ⟨9, 7, 0, 1, []⟩, ⟨14, 0, 0, 0, [116, 46, 98]⟩, ⟨16, 0, 0, 0, [116, 46, 97]⟩, ⟨17, 0, 0, 0, [116, 46, 98]⟩, ⟨6, 0, 7, 0, []⟩, ⟨0, 1, 256, 0, []⟩, ⟨5, 0, 0, 1, []⟩, ⟨7, 7, 0, 0, []⟩, ⟨13, 0, 0, 0, []⟩, ⟨6, 2, 7, 2, []⟩, ⟨17, 0, 0, 0, [46, 120, 108]⟩, ⟨14, 2, 0, 0, [46, 120, 111]⟩, ⟨17, 0, 0, 0, [46, 120, 115]⟩, ⟨6, 0, 2, 0, []⟩, ⟨0, 1, 255, 0, []⟩, ⟨4, 1, 0, 1, []⟩, ⟨14, 1, 0, 0, [46, 120, 110]⟩, ⟨6, 1, 7, 0, []⟩, ⟨5, 1, 0, 1, []⟩, ⟨0, 0, 256, 0, []⟩, ⟨4, 1, 1, 0, []⟩, ⟨14, 1, 0, 0, [46, 120, 110]⟩, ⟨16, 0, 0, 0, [46, 120, 115]⟩, ⟨17, 0, 0, 0, [46, 120, 110]⟩, ⟨6, 2, 2, 1, []⟩, ⟨16, 0, 0, 0, [46, 120, 108]⟩, ⟨17, 0, 0, 0, [46, 120, 111]⟩, ⟨6, 0, 7, 0, []⟩, ⟨0, 1, 256, 0, []⟩, ⟨5, 0, 0, 1, []⟩, ⟨7, 7, 0, 0, []⟩, ⟨13, 0, 0, 0, []⟩, ⟨6, 2, 7, 2, []⟩, ⟨17, 0, 0, 0, [46, 121, 108]⟩, ⟨14, 2, 0, 0, [46, 121, 111]⟩, ⟨17, 0, 0, 0, [46, 121, 115]⟩, ⟨6, 0, 2, 0, []⟩, ⟨0, 1, 255, 0, []⟩, ⟨4, 1, 0, 1, []⟩, ⟨14, 1, 0, 0, [46, 121, 110]⟩, ⟨6, 1, 7, 0, []⟩, ⟨5, 1, 0, 1, []⟩, ⟨0, 0, 256, 0, []⟩, ⟨4, 1, 1, 0, []⟩, ⟨14, 1, 0, 0, [46, 121, 110]⟩, ⟨16, 0, 0, 0, [46, 121, 115]⟩, ⟨17, 0, 0, 0, [46, 121, 110]⟩, ⟨6, 2, 2, 1, []⟩, ⟨16, 0, 0, 0, [46, 121, 108]⟩, ⟨17, 0, 0, 0, [46, 121, 111]⟩, ⟨13, 0, 0, 0, []⟩, ⟨0, 0, 0, 0, []⟩, ⟨7, 7, 0, 1, []⟩, ⟨12, 0, 0, 0, []⟩]
def gc30 : List Instr := []
def gc31 : List Instr := []
def gc32 : List Instr := [⟨6, 0, 7, 0, []⟩, ⟨7, 6, 0, 0, []⟩, ⟨12, 0, 0, 0, []⟩]
def gc33 : List Instr := [⟨0, 0, 0, 0, []⟩, ⟨7, 6, 0, 0, []⟩, ⟨12, 0, 0, 0, []⟩]
def gc34 : List Instr := [⟨0, 0, 0, 0, []⟩, ⟨7, 6, 0, 0, []⟩, ⟨12, 0, 0, 0, []⟩, ⟨17, 0, 0, 0, [116, 46, 97]⟩, ⟨0, 0, 0, 0, []⟩, ⟨0, 1, 1, 0, []⟩, ⟨9, 7, 0, 1, []⟩, ⟨14, 0, 0, 0, [116, 46, 98]⟩, ⟨16, 0, 0, 0, [116, 46, 97]⟩, ⟨17, 0, 0, 0, [116, 46, 98]⟩, ⟨6, 0, 7, 0, []⟩, ⟨0, 1, 2, 0, []⟩, ⟨2, 0, 0, 1, []⟩, ⟨7, 7, 0, 0, []⟩, ⟨12, 0, 0, 0, []⟩, ⟨6, 2, 7, 2, []⟩, ⟨17, 0, 0, 0, [46, 120, 108]⟩, ⟨14, 2, 0, 0, [46, 120, 111]⟩, ⟨17, 0, 0, 0, [46, 120, 115]⟩, ⟨6, 0, 2, 0, []⟩, ⟨14, 0, 0, 0, [46, 120, 110]⟩, ⟨6, 1, 7, 0, []⟩, ⟨15, 0, 1, 0, [46, 120, 110]⟩, ⟨16, 0, 0, 0, [46, 120, 115]⟩, ⟨17, 0, 0, 0, [46, 120, 110]⟩, ⟨6, 2, 2, 1, []⟩, ⟨16, 0, 0, 0, [46, 120, 108]⟩, ⟨17, 0, 0, 0, [46, 120, 111]⟩, ⟨0, 0, 0, 0, []⟩, ⟨7, 7, 0, 1, []⟩, ⟨12, 0, 0, 0, []⟩, ⟨6, 0, 7, 0, []⟩, ⟨7, 6, 0, 0, []⟩, ⟨12, 0, 0, 0, []⟩]
def gc40 : List Instr := [⟨6, 0, 6, 2, []⟩, ⟨14, 0, 0, 0, [46, 106]⟩, ⟨16, 0, 0, 0, [46, 107]⟩, ⟨17, 0, 0, 0, [46, 106]⟩, ⟨17, 0, 0, 0, [116, 46, 97]⟩, ⟨0, 0, 0, 0, []⟩, ⟨0, 1, 1, 0, []⟩, ⟨9, 7, 0, 1, []⟩, ⟨14, 0, 0, 0, [116, 46, 98]⟩, ⟨16, 0, 0, 0, [116, 46, 97]⟩, ⟨17, 0, 0, 0, [116, 46, 98]⟩, ⟨6, 0, 7, 2, []⟩, ⟨7, 6, 0, 1, []⟩, ⟨7, 7, 6, 2, []⟩, ⟨0, 0, 1, 0, []⟩, ⟨7, 6, 0, 2, []⟩, ⟨0, 0, 0, 0, []⟩, ⟨7, 7, 0, 1, []⟩, ⟨12, 0, 0, 0, []⟩, ⟨17, 0, 0, 0, [46, 107]⟩, ⟨6, 0, 6, 0, []⟩, ⟨0, 1, 255, 0, []⟩, ⟨4, 1, 0, 1, []⟩, ⟨14, 1, 0, 0, [46, 97]⟩, ⟨0, 1, 1, 0, []⟩, ⟨2, 0, 0, 1, []⟩, ⟨7, 6, 0, 0, []⟩, ⟨16, 0, 0, 0, [46, 98]⟩, ⟨17, 0, 0, 0, [46, 97]⟩, ⟨6, 0, 7, 0, []⟩, ⟨7, 6, 0, 0, []⟩, ⟨12, 0, 0, 0, []⟩, ⟨17, 0, 0, 0, [46, 98]⟩]
def gc41 : List Instr := [⟨12, 0, 0, 0, []⟩, ⟨6, 0, 6, 0, []⟩, ⟨0, 1, 1, 0, []⟩, ⟨3, 0, 0, 1, []⟩, ⟨7, 6, 0, 0, []⟩]
def gc42 : List Instr := []
def gc43 : List Instr := []
def gc44 : List Instr := [⟨12, 0, 0, 0, []⟩, ⟨17, 0, 0, 0, [116, 46, 97]⟩, ⟨0, 0, 0, 0, []⟩, ⟨0, 1, 1, 0, []⟩, ⟨9, 7, 0, 1, []⟩, ⟨14, 0, 0, 0, [116, 46, 98]⟩, ⟨16, 0, 0, 0, [116, 46, 97]⟩, ⟨17, 0, 0, 0, [116, 46, 98]⟩, ⟨6, 0, 7, 0, []⟩, ⟨0, 1, 256, 0, []⟩, ⟨5, 0, 0, 1, []⟩, ⟨7, 7, 0, 0, []⟩, ⟨12, 0, 0, 0, []⟩, ⟨6, 2, 7, 2, []⟩, ⟨17, 0, 0, 0, [46, 120, 108]⟩, ⟨14, 2, 0, 0, [46, 120, 111]⟩, ⟨17, 0, 0, 0, [46, 120, 115]⟩, ⟨6, 0, 2, 0, []⟩, ⟨0, 1, 255, 0, []⟩, ⟨4, 1, 0, 1, []⟩, ⟨14, 1, 0, 0, [46, 120, 110]⟩, ⟨6, 1, 7, 0, []⟩, ⟨5, 1, 0, 1, []⟩, ⟨0, 0, 256, 0, []⟩, ⟨4, 1, 1, 0, []⟩, ⟨14, 1, 0, 0, [46, 120, 110]⟩, ⟨16, 0, 0, 0, [46, 120, 115]⟩, ⟨17, 0, 0, 0, [46, 120, 110]⟩, ⟨6, 2, 2, 1, []⟩, ⟨16, 0, 0, 0, [46, 120, 108]⟩, ⟨17, 0, 0, 0, [46, 120, 111]⟩, ⟨6, 0, 7, 0, []⟩, ⟨0, 1, 256, 0, []⟩, ⟨5, 0, 0, 1, []⟩, ⟨7, 7, 0, 0, []⟩, ⟨12, 0, 0, 0, []⟩, ⟨6, 2, 7, 2, []⟩, ⟨17, 0, 0, 0, [46, 121, 108]⟩, ⟨14, 2, 0, 0, [46, 121, 111]⟩, ⟨17, 0, 0, 0, [46, 121, 115]⟩, ⟨6, 0, 2, 0, []⟩, ⟨0, 1, 255, 0, []⟩, ⟨4, 1, 0, 1, []⟩, ⟨14, 1, 0, 0, [46, 121, 110]⟩, ⟨6, 1, 7, 0, []⟩, ⟨5, 1, 0, 1, []⟩, ⟨0, 0, 256, 0, []⟩, ⟨4, 1, 1, 0, []⟩, ⟨14, 1, 0, 0, [46, 121, 110]⟩, ⟨16, 0, 0, 0, [46, 121, 115]⟩, ⟨17, 0, 0, 0, [46, 121, 110]⟩, ⟨6, 2, 2, 1, []⟩, ⟨16, 0, 0, 0, [46, 121, 108]⟩, ⟨17, 0, 0, 0, [46, 121, 111]⟩, ⟨12, 0, 0, 0, []⟩, ⟨0, 0, 0, 0, []⟩, ⟨7, 7, 0, 1, []⟩, ⟨12, 0, 0, 0, []⟩]
def gcode (f k : Nat) : List Instr := match f, k with
  | 1, 0 => gc10
  | 1, 1 => gc11
  | 1, 2 => gc12
  | 1, 3 => gc13
  | 1, 4 => gc14
  | 2, 0 => gc20
  | 2, 1 => gc21
  | 2, 2 => gc22
  | 2, 3 => gc23
  | 2, 4 => gc24
  | 3, 0 => gc30
  | 3, 1 => gc31
  | 3, 2 => gc32
  | 3, 3 => gc33
  | 3, 4 => gc34
  | 4, 0 => gc40
  | 4, 1 => gc41
  | 4, 2 => gc42
  | 4, 3 => gc43
  | 4, 4 => gc44
  | _, _ => []
theorem genter1_eq (s : ByteArray) : [] ++ ([⟨6, 0, 6, 0, []⟩, ⟨0, 1, 255, 0, []⟩, ⟨4, 1, 0, 1, []⟩, ⟨14, 1, 0, 0, s.data.toList ++ [46, 97]⟩, ⟨0, 1, 1, 0, []⟩, ⟨2, 0, 0, 1, []⟩, ⟨7, 6, 0, 0, []⟩, ⟨16, 0, 0, 0, s.data.toList ++ [46, 98]⟩, ⟨17, 0, 0, 0, s.data.toList ++ [46, 97]⟩, ⟨6, 0, 7, 0, []⟩, ⟨7, 6, 0, 0, []⟩, ⟨12, 0, 0, 0, []⟩, ⟨17, 0, 0, 0, s.data.toList ++ [46, 98]⟩]) = preC s.data.toList gc10 := by
  simp [preC, preI, gc10, takeCode, giveCode, joinCode, awayCode, eachCode, turnGo, waitGo, turnCode, List.append_assoc]
theorem gleave1_eq (s : ByteArray) : [] ++ ([⟨12, 0, 0, 0, []⟩, ⟨6, 0, 6, 0, []⟩, ⟨0, 1, 1, 0, []⟩, ⟨3, 0, 0, 1, []⟩, ⟨7, 6, 0, 0, []⟩]) = preC s.data.toList gc11 := by
  simp [preC, preI, gc11, takeCode, giveCode, joinCode, awayCode, eachCode, turnGo, waitGo, turnCode, List.append_assoc]
theorem gwait1_eq (s : ByteArray) : [] ++ ([⟨12, 0, 0, 0, []⟩] ++ (takeCode (s.data.toList ++ [116]) 7 1 0 ++ (turnCode 12 (s ++ ⟨#[46, 120]⟩) ++ (turnCode 12 (s ++ ⟨#[46, 121]⟩) ++ ([⟨12, 0, 0, 0, []⟩] ++ (giveCode 7 1 0)))))) = preC s.data.toList gc14 := by
  simp [preC, preI, gc14, takeCode, giveCode, joinCode, awayCode, eachCode, turnGo, waitGo, turnCode, List.append_assoc]
theorem genter2_eq (s : ByteArray) : [] ++ ([⟨6, 0, 6, 0, []⟩, ⟨0, 1, 255, 0, []⟩, ⟨4, 1, 0, 1, []⟩, ⟨14, 1, 0, 0, s.data.toList ++ [46, 97]⟩, ⟨0, 1, 1, 0, []⟩, ⟨2, 0, 0, 1, []⟩, ⟨7, 6, 0, 0, []⟩, ⟨16, 0, 0, 0, s.data.toList ++ [46, 98]⟩, ⟨17, 0, 0, 0, s.data.toList ++ [46, 97]⟩, ⟨6, 0, 7, 0, []⟩, ⟨7, 6, 0, 0, []⟩, ⟨17, 0, 0, 0, s.data.toList ++ [46, 98]⟩]) = preC s.data.toList gc20 := by
  simp [preC, preI, gc20, takeCode, giveCode, joinCode, awayCode, eachCode, turnGo, waitGo, turnCode, List.append_assoc]
theorem gleave2_eq (s : ByteArray) : [] ++ ([⟨6, 0, 6, 0, []⟩, ⟨0, 1, 1, 0, []⟩, ⟨3, 0, 0, 1, []⟩, ⟨7, 6, 0, 0, []⟩]) = preC s.data.toList gc21 := by
  simp [preC, preI, gc21, takeCode, giveCode, joinCode, awayCode, eachCode, turnGo, waitGo, turnCode, List.append_assoc]
theorem gwait2_eq (s : ByteArray) : [] ++ ([⟨13, 0, 0, 0, []⟩] ++ (takeCode (s.data.toList ++ [116]) 7 1 0 ++ (turnCode 13 (s ++ ⟨#[46, 120]⟩) ++ (turnCode 13 (s ++ ⟨#[46, 121]⟩) ++ ([⟨13, 0, 0, 0, []⟩] ++ (giveCode 7 1 0)))))) = preC s.data.toList gc24 := by
  simp [preC, preI, gc24, takeCode, giveCode, joinCode, awayCode, eachCode, turnGo, waitGo, turnCode, List.append_assoc]
theorem grest3_eq (s : ByteArray) : [] ++ ([⟨6, 0, 7, 0, []⟩, ⟨7, 6, 0, 0, []⟩, ⟨12, 0, 0, 0, []⟩]) = preC s.data.toList gc32 := by
  simp [preC, preI, gc32, takeCode, giveCode, joinCode, awayCode, eachCode, turnGo, waitGo, turnCode, List.append_assoc]
theorem ggone3_eq (s : ByteArray) : [] ++ (awayCode) = preC s.data.toList gc33 := by
  simp [preC, preI, gc33, takeCode, giveCode, joinCode, awayCode, eachCode, turnGo, waitGo, turnCode, List.append_assoc]
theorem gwait3_eq (s : ByteArray) : [] ++ (awayCode ++ (takeCode (s.data.toList ++ [116]) 7 1 0 ++ ([⟨6, 0, 7, 0, []⟩, ⟨0, 1, 2, 0, []⟩, ⟨2, 0, 0, 1, []⟩, ⟨7, 7, 0, 0, []⟩, ⟨12, 0, 0, 0, []⟩] ++ (eachCode (waitGo s) (s ++ ⟨#[46, 120]⟩) ++ (giveCode 7 1 0 ++ ([⟨6, 0, 7, 0, []⟩, ⟨7, 6, 0, 0, []⟩, ⟨12, 0, 0, 0, []⟩])))))) = preC s.data.toList gc34 := by
  simp [preC, preI, gc34, takeCode, giveCode, joinCode, awayCode, eachCode, turnGo, waitGo, turnCode, List.append_assoc]
theorem genter4_eq (s : ByteArray) : [] ++ (joinCode s ++ ([⟨6, 0, 6, 0, []⟩, ⟨0, 1, 255, 0, []⟩, ⟨4, 1, 0, 1, []⟩, ⟨14, 1, 0, 0, s.data.toList ++ [46, 97]⟩, ⟨0, 1, 1, 0, []⟩, ⟨2, 0, 0, 1, []⟩, ⟨7, 6, 0, 0, []⟩, ⟨16, 0, 0, 0, s.data.toList ++ [46, 98]⟩, ⟨17, 0, 0, 0, s.data.toList ++ [46, 97]⟩, ⟨6, 0, 7, 0, []⟩, ⟨7, 6, 0, 0, []⟩, ⟨12, 0, 0, 0, []⟩, ⟨17, 0, 0, 0, s.data.toList ++ [46, 98]⟩])) = preC s.data.toList gc40 := by
  simp [preC, preI, gc40, takeCode, giveCode, joinCode, awayCode, eachCode, turnGo, waitGo, turnCode, List.append_assoc]
theorem gleave4_eq (s : ByteArray) : [] ++ ([⟨12, 0, 0, 0, []⟩, ⟨6, 0, 6, 0, []⟩, ⟨0, 1, 1, 0, []⟩, ⟨3, 0, 0, 1, []⟩, ⟨7, 6, 0, 0, []⟩]) = preC s.data.toList gc41 := by
  simp [preC, preI, gc41, takeCode, giveCode, joinCode, awayCode, eachCode, turnGo, waitGo, turnCode, List.append_assoc]
theorem gwait4_eq (s : ByteArray) : [] ++ ([⟨12, 0, 0, 0, []⟩] ++ (takeCode (s.data.toList ++ [116]) 7 1 0 ++ (turnCode 12 (s ++ ⟨#[46, 120]⟩) ++ (turnCode 12 (s ++ ⟨#[46, 121]⟩) ++ ([⟨12, 0, 0, 0, []⟩] ++ (giveCode 7 1 0)))))) = preC s.data.toList gc44 := by
  simp [preC, preI, gc44, takeCode, giveCode, joinCode, awayCode, eachCode, turnGo, waitGo, turnCode, List.append_assoc]
end Go.Proofs.YtamfbfajlfbooaaDoor
end
/- package grace, flavour 1: its code, made. -/
section
namespace Go.Proofs.YtamfbfajlfbooaaDoor
open Go.RowKit Qs Qh
variable {w0 w w1 : World} {b o : Nat} {v0 : Value} {l : List Instr} {br s : ByteArray} {fe jo co : Bool} {u : Value} {c : Nat}
set_option maxRecDepth 4000 in
set_option maxHeartbeats 8000000 in
theorem genter1_ok (s : ByteArray) (w : World) (hn : nameB s.data.toList = true) (hs : s.size ≤ 4) :
    Calls Tryd.prog 120 #[.int .i64 1, .string s] w fun e w' => ∃ v, e = .returned (.tuple #[v, .nilIface]) ∧ Made (preC s.data.toList gc10) w v w' := by
  have Hn := Lib.hid hn
  clear hn
  go_enter Tryd.func120, Tryd.ntmps120
  go_wp2_with fail
  refine (begin1_ok s w Hn.out hs).mono ?_
  rintro e x0 ⟨b, rfl, hm, hb, E, M⟩
  have HC := Lib.hid (Chain.start E)
  have HM := Lib.hid M
  have Hm := Lib.hid hm
  clear hm E M
  have h0 := (HC.out.mk HM.out).c0
  have h1 := (HC.out.mk HM.out).c1
  have h2 := (HC.out.mk HM.out).c2
  have h3 := (HC.out.mk HM.out).c3
  go_wp2_with fail
  refine (op3_chain (HC.out.quiet ((Mod.refl _ _).alloc _)) (by first | omega | simp) 6 _ rfl x0.heap.size 0 6 0 3 (by simp) (by simp) (by simp) (by simp)).mono ?_
  clear h0 h1 h2 h3
  rintro e x1 ⟨rfl, C⟩
  have HC1 := Lib.hid C
  clear C
  have h0 := (HC1.out.mk HM.out).c0
  have h1 := (HC1.out.mk HM.out).c1
  have h2 := (HC1.out.mk HM.out).c2
  have h3 := (HC1.out.mk HM.out).c3
  go_wp2_with fail
  refine (op2_chain (HC1.out.quiet ((Mod.refl _ _).alloc _)) (by simp [takeCode, giveCode, joinCode, awayCode, eachCode, turnGo, waitGo, turnCode] <;> omega) 0 _ rfl x1.heap.size 1 255 2 (by simp) (by simp) (by simp)).mono ?_
  clear h0 h1 h2 h3
  rintro e x2 ⟨rfl, C⟩
  have HC2 := Lib.hid C
  clear C
  have h0 := (HC2.out.mk HM.out).c0
  have h1 := (HC2.out.mk HM.out).c1
  have h2 := (HC2.out.mk HM.out).c2
  have h3 := (HC2.out.mk HM.out).c3
  go_wp2_with fail
  refine (op3_chain (HC2.out.quiet ((Mod.refl _ _).alloc _)) (by simp [takeCode, giveCode, joinCode, awayCode, eachCode, turnGo, waitGo, turnCode] <;> omega) 4 _ rfl x2.heap.size 1 0 1 3 (by simp) (by simp) (by simp) (by simp)).mono ?_
  clear h0 h1 h2 h3
  rintro e x3 ⟨rfl, C⟩
  have HC3 := Lib.hid C
  clear C
  have h0 := (HC3.out.mk HM.out).c0
  have h1 := (HC3.out.mk HM.out).c1
  have h2 := (HC3.out.mk HM.out).c2
  have h3 := (HC3.out.mk HM.out).c3
  go_wp2_with fail
  refine (to1_chain (HC3.out.quiet ((Mod.refl _ _).alloc _)) (by simp [takeCode, giveCode, joinCode, awayCode, eachCode, turnGo, waitGo, turnCode] <;> omega) 14 _ rfl (s.data.toList ++ [46, 97]) _ (bytes_cat s _) x3.heap.size 1 1 (by simp) (by simp)).mono ?_
  clear h0 h1 h2 h3
  rintro e x4 ⟨rfl, C⟩
  have HC4 := Lib.hid C
  clear C
  have h0 := (HC4.out.mk HM.out).c0
  have h1 := (HC4.out.mk HM.out).c1
  have h2 := (HC4.out.mk HM.out).c2
  have h3 := (HC4.out.mk HM.out).c3
  go_wp2_with fail
  refine (op2_chain (HC4.out.quiet ((Mod.refl _ _).alloc _)) (by simp [takeCode, giveCode, joinCode, awayCode, eachCode, turnGo, waitGo, turnCode] <;> omega) 0 _ rfl x4.heap.size 1 1 2 (by simp) (by simp) (by simp)).mono ?_
  clear h0 h1 h2 h3
  rintro e x5 ⟨rfl, C⟩
  have HC5 := Lib.hid C
  clear C
  have h0 := (HC5.out.mk HM.out).c0
  have h1 := (HC5.out.mk HM.out).c1
  have h2 := (HC5.out.mk HM.out).c2
  have h3 := (HC5.out.mk HM.out).c3
  go_wp2_with fail
  refine (op3_chain (HC5.out.quiet ((Mod.refl _ _).alloc _)) (by simp [takeCode, giveCode, joinCode, awayCode, eachCode, turnGo, waitGo, turnCode] <;> omega) 2 _ rfl x5.heap.size 0 0 1 3 (by simp) (by simp) (by simp) (by simp)).mono ?_
  clear h0 h1 h2 h3
  rintro e x6 ⟨rfl, C⟩
  have HC6 := Lib.hid C
  clear C
  have h0 := (HC6.out.mk HM.out).c0
  have h1 := (HC6.out.mk HM.out).c1
  have h2 := (HC6.out.mk HM.out).c2
  have h3 := (HC6.out.mk HM.out).c3
  go_wp2_with fail
  refine (op3_chain (HC6.out.quiet ((Mod.refl _ _).alloc _)) (by simp [takeCode, giveCode, joinCode, awayCode, eachCode, turnGo, waitGo, turnCode] <;> omega) 7 _ rfl x6.heap.size 6 0 0 3 (by simp) (by simp) (by simp) (by simp)).mono ?_
  clear h0 h1 h2 h3
  rintro e x7 ⟨rfl, C⟩
  have HC7 := Lib.hid C
  clear C
  have h0 := (HC7.out.mk HM.out).c0
  have h1 := (HC7.out.mk HM.out).c1
  have h2 := (HC7.out.mk HM.out).c2
  have h3 := (HC7.out.mk HM.out).c3
  go_wp2_with fail
  refine (to0_chain HC7.out (by simp [takeCode, giveCode, joinCode, awayCode, eachCode, turnGo, waitGo, turnCode] <;> omega) 16 _ rfl (s.data.toList ++ [46, 98]) _ (bytes_cat s _)).mono ?_
  clear h0 h1 h2 h3
  rintro e x8 ⟨rfl, C⟩
  have HC8 := Lib.hid C
  clear C
  have h0 := (HC8.out.mk HM.out).c0
  have h1 := (HC8.out.mk HM.out).c1
  have h2 := (HC8.out.mk HM.out).c2
  have h3 := (HC8.out.mk HM.out).c3
  go_wp2_with fail
  refine (label_chain HC8.out (by simp [takeCode, giveCode, joinCode, awayCode, eachCode, turnGo, waitGo, turnCode] <;> omega) (s.data.toList ++ [46, 97]) _ (bytes_cat s _)).mono ?_
  clear h0 h1 h2 h3
  rintro e x9 ⟨rfl, C⟩
  have HC9 := Lib.hid C
  clear C
  have h0 := (HC9.out.mk HM.out).c0
  have h1 := (HC9.out.mk HM.out).c1
  have h2 := (HC9.out.mk HM.out).c2
  have h3 := (HC9.out.mk HM.out).c3
  go_wp2_with fail
  refine (op3_chain (HC9.out.quiet ((Mod.refl _ _).alloc _)) (by simp [takeCode, giveCode, joinCode, awayCode, eachCode, turnGo, waitGo, turnCode] <;> omega) 6 _ rfl x9.heap.size 0 7 0 3 (by simp) (by simp) (by simp) (by simp)).mono ?_
  clear h0 h1 h2 h3
  rintro e x10 ⟨rfl, C⟩
  have HC10 := Lib.hid C
  clear C
  have h0 := (HC10.out.mk HM.out).c0
  have h1 := (HC10.out.mk HM.out).c1
  have h2 := (HC10.out.mk HM.out).c2
  have h3 := (HC10.out.mk HM.out).c3
  go_wp2_with fail
  refine (op3_chain (HC10.out.quiet ((Mod.refl _ _).alloc _)) (by simp [takeCode, giveCode, joinCode, awayCode, eachCode, turnGo, waitGo, turnCode] <;> omega) 7 _ rfl x10.heap.size 6 0 0 3 (by simp) (by simp) (by simp) (by simp)).mono ?_
  clear h0 h1 h2 h3
  rintro e x11 ⟨rfl, C⟩
  have HC11 := Lib.hid C
  clear C
  have h0 := (HC11.out.mk HM.out).c0
  have h1 := (HC11.out.mk HM.out).c1
  have h2 := (HC11.out.mk HM.out).c2
  have h3 := (HC11.out.mk HM.out).c3
  go_wp2_with fail
  refine (op0_chain HC11.out (by simp [takeCode, giveCode, joinCode, awayCode, eachCode, turnGo, waitGo, turnCode] <;> omega) 12 _ rfl).mono ?_
  clear h0 h1 h2 h3
  rintro e x12 ⟨rfl, C⟩
  have HC12 := Lib.hid C
  clear C
  have h0 := (HC12.out.mk HM.out).c0
  have h1 := (HC12.out.mk HM.out).c1
  have h2 := (HC12.out.mk HM.out).c2
  have h3 := (HC12.out.mk HM.out).c3
  go_wp2_with fail
  refine (label_chain HC12.out (by simp [takeCode, giveCode, joinCode, awayCode, eachCode, turnGo, waitGo, turnCode] <;> omega) (s.data.toList ++ [46, 98]) _ (bytes_cat s _)).mono ?_
  clear h0 h1 h2 h3
  rintro e x13 ⟨rfl, C⟩
  have HC13 := Lib.hid C
  clear C
  obtain ⟨v, ec, hv⟩ := HC13.out.made (w := w) (by simp [Value.ownBlock]) Hm.out hb
  have Hv := Lib.hid hv
  clear hv
  go_wp2
  go_ret2
  exact ⟨v, rfl, by rw [← genter1_eq]; simpa [List.append_assoc] using Hv.out⟩
set_option maxRecDepth 4000 in
set_option maxHeartbeats 8000000 in
theorem gleave1_ok (s : ByteArray) (w : World) (hn : nameB s.data.toList = true) (hs : s.size ≤ 4) :
    Calls Tryd.prog 121 #[.int .i64 1, .string s] w fun e w' => ∃ v, e = .returned (.tuple #[v, .nilIface]) ∧ Made (preC s.data.toList gc11) w v w' := by
  have Hn := Lib.hid hn
  clear hn
  go_enter Tryd.func121, Tryd.ntmps121
  go_wp2_with fail
  refine (begin1_ok s w Hn.out hs).mono ?_
  rintro e x0 ⟨b, rfl, hm, hb, E, M⟩
  have HC := Lib.hid (Chain.start E)
  have HM := Lib.hid M
  have Hm := Lib.hid hm
  clear hm E M
  have h0 := (HC.out.mk HM.out).c0
  have h1 := (HC.out.mk HM.out).c1
  have h2 := (HC.out.mk HM.out).c2
  have h3 := (HC.out.mk HM.out).c3
  go_wp2_with fail
  refine (op0_chain HC.out (by first | omega | simp) 12 _ rfl).mono ?_
  clear h0 h1 h2 h3
  rintro e x1 ⟨rfl, C⟩
  have HC1 := Lib.hid C
  clear C
  have h0 := (HC1.out.mk HM.out).c0
  have h1 := (HC1.out.mk HM.out).c1
  have h2 := (HC1.out.mk HM.out).c2
  have h3 := (HC1.out.mk HM.out).c3
  go_wp2_with fail
  refine (op3_chain (HC1.out.quiet ((Mod.refl _ _).alloc _)) (by simp [takeCode, giveCode, joinCode, awayCode, eachCode, turnGo, waitGo, turnCode] <;> omega) 6 _ rfl x1.heap.size 0 6 0 3 (by simp) (by simp) (by simp) (by simp)).mono ?_
  clear h0 h1 h2 h3
  rintro e x2 ⟨rfl, C⟩
  have HC2 := Lib.hid C
  clear C
  have h0 := (HC2.out.mk HM.out).c0
  have h1 := (HC2.out.mk HM.out).c1
  have h2 := (HC2.out.mk HM.out).c2
  have h3 := (HC2.out.mk HM.out).c3
  go_wp2_with fail
  refine (op2_chain (HC2.out.quiet ((Mod.refl _ _).alloc _)) (by simp [takeCode, giveCode, joinCode, awayCode, eachCode, turnGo, waitGo, turnCode] <;> omega) 0 _ rfl x2.heap.size 1 1 2 (by simp) (by simp) (by simp)).mono ?_
  clear h0 h1 h2 h3
  rintro e x3 ⟨rfl, C⟩
  have HC3 := Lib.hid C
  clear C
  have h0 := (HC3.out.mk HM.out).c0
  have h1 := (HC3.out.mk HM.out).c1
  have h2 := (HC3.out.mk HM.out).c2
  have h3 := (HC3.out.mk HM.out).c3
  go_wp2_with fail
  refine (op3_chain (HC3.out.quiet ((Mod.refl _ _).alloc _)) (by simp [takeCode, giveCode, joinCode, awayCode, eachCode, turnGo, waitGo, turnCode] <;> omega) 3 _ rfl x3.heap.size 0 0 1 3 (by simp) (by simp) (by simp) (by simp)).mono ?_
  clear h0 h1 h2 h3
  rintro e x4 ⟨rfl, C⟩
  have HC4 := Lib.hid C
  clear C
  have h0 := (HC4.out.mk HM.out).c0
  have h1 := (HC4.out.mk HM.out).c1
  have h2 := (HC4.out.mk HM.out).c2
  have h3 := (HC4.out.mk HM.out).c3
  go_wp2_with fail
  refine (op3_chain (HC4.out.quiet ((Mod.refl _ _).alloc _)) (by simp [takeCode, giveCode, joinCode, awayCode, eachCode, turnGo, waitGo, turnCode] <;> omega) 7 _ rfl x4.heap.size 6 0 0 3 (by simp) (by simp) (by simp) (by simp)).mono ?_
  clear h0 h1 h2 h3
  rintro e x5 ⟨rfl, C⟩
  have HC5 := Lib.hid C
  clear C
  obtain ⟨v, ec, hv⟩ := HC5.out.made (w := w) (by simp [Value.ownBlock]) Hm.out hb
  have Hv := Lib.hid hv
  clear hv
  go_wp2
  go_ret2
  exact ⟨v, rfl, by rw [← gleave1_eq]; simpa [List.append_assoc] using Hv.out⟩
set_option maxRecDepth 4000 in
set_option maxHeartbeats 8000000 in
theorem grest1_ok (s : ByteArray) (w : World) (hn : nameB s.data.toList = true) (hs : s.size ≤ 4) :
    Calls Tryd.prog 122 #[.int .i64 1, .string s] w fun e w' => ∃ v, e = .returned (.tuple #[v, .nilIface]) ∧ Made (preC s.data.toList gc12) w v w' := by
  have Hn := Lib.hid hn
  clear hn
  go_enter Tryd.func122, Tryd.ntmps122
  go_wp2_with fail
  refine (begin1_ok s w Hn.out hs).mono ?_
  rintro e x0 ⟨b, rfl, hm, hb, E, M⟩
  have h3 := M.c3
  have Hm := Lib.hid hm
  clear hm hb E M
  go_wp2
  go_ret2
  exact ⟨_, rfl, InsRow.nil _ _, Hm.out.toBelow, by simp [Value.ownBlock]⟩
set_option maxRecDepth 4000 in
set_option maxHeartbeats 8000000 in
theorem ggone1_ok (s : ByteArray) (w : World) (hn : nameB s.data.toList = true) (hs : s.size ≤ 4) :
    Calls Tryd.prog 123 #[.int .i64 1, .string s] w fun e w' => ∃ v, e = .returned (.tuple #[v, .nilIface]) ∧ Made (preC s.data.toList gc13) w v w' := by
  have Hn := Lib.hid hn
  clear hn
  go_enter Tryd.func123, Tryd.ntmps123
  go_wp2_with fail
  refine (begin1_ok s w Hn.out hs).mono ?_
  rintro e x0 ⟨b, rfl, hm, hb, E, M⟩
  have h3 := M.c3
  have Hm := Lib.hid hm
  clear hm hb E M
  go_wp2
  go_ret2
  exact ⟨_, rfl, InsRow.nil _ _, Hm.out.toBelow, by simp [Value.ownBlock]⟩
set_option maxRecDepth 4000 in
set_option maxHeartbeats 8000000 in
theorem gwait1_ok (s : ByteArray) (w : World) (hn : nameB s.data.toList = true) (hs : s.size ≤ 4) :
    Calls Tryd.prog 97 #[.int .i64 1, .string s] w fun e w' => ∃ v, e = .returned (.tuple #[v, .nilIface]) ∧ Made (preC s.data.toList gc14) w v w' := by
  have Hn := Lib.hid hn
  clear hn
  go_enter Tryd.func97, Tryd.ntmps97
  go_wp2_with fail
  refine (begin1_ok s _ Hn.out hs).mono ?_
  rintro e w1 ⟨b, rfl, hm, hb0, E, M⟩
  have hsw := hm.size
  have hlb := E.lt
  have hb1 : w.heap.size < b := by simp at hb0; omega
  have hp0 : w1.cell? ⟨w.heap.size, 0, none⟩ = some (.string s) := hm.cell (by simp) (fun e => e)
  have hq : Mod noF w1 (w1.alloc (.cells #[.pointer (some ⟨b, 0, none⟩)] 216)) := (Mod.refl _ _).alloc _
  have E1 := E.quiet hq
  have HC := Lib.hid (Chain.start E1)
  have HM := Lib.hid (M.quiet hq)
  have Hm := Lib.hid ((((Mod.refl noF w).alloc _).trans0 hm).trans0 hq)
  have Hv := Lib.hid E1.cell
  have hcp : w.heap.size < w1.heap.size := by simp at hsw; omega
  have hrow : ∀ (c : Nat) v, (w1.alloc (.cells #[.pointer (some ⟨b, 0, none⟩)] 216)).cell? ⟨b, 4, none⟩ = some v → v.ownBlock ≠ some c := fun c v h e => by
    rw [E1.cell] at h; cases h; cases e
  have HKm := Lib.hid (⟨by simp, by simp, by omega, hrow _⟩ : Cap (w1.alloc (.cells #[.pointer (some ⟨b, 0, none⟩)] 216)) b w1.heap.size (.pointer (some ⟨b, 0, none⟩)))
  have HKp := Lib.hid (⟨hq.cell hp0 (fun e => e), by simp; omega, by omega, hrow _⟩ : Cap (w1.alloc (.cells #[.pointer (some ⟨b, 0, none⟩)] 216)) b w.heap.size (.string s))
  have hb : w.heap.size ≤ b := by omega
  clear hm E M E1 hq hp0 hrow hsw hb0 hb1
  have h0 := (HC.out.mk HM.out).c0
  have h1 := (HC.out.mk HM.out).c1
  have h2 := (HC.out.mk HM.out).c2
  have h3 := (HC.out.mk HM.out).c3
  have hm := (HKm.out.next Hv.out HC.out).cell
  have hp := (HKp.out.next Hv.out HC.out).cell
  go_wp2
  clear h0 h1 h2 h3 hm hp
  go_wp2
  refine wp_region_held_drew (S := fun W => W.cell? ⟨w1.heap.size, 0, none⟩ = some (.pointer (some ⟨b, 0, none⟩)) ∧ W.cell? ⟨b, 0, none⟩ = some (.string (opStr 12))) (by kernel_rfl) ⟨(Mod.refl noF _).drew.cell (HKm.out.next Hv.out HC.out).cell (fun e => e), (Mod.refl noF _).drew.cell (HC.out.mk HM.out).c0 (fun e => e)⟩ (fun hHeld => ?_)
  refine wpAnyH_take (i := 0) (oi := ?o0x0) (v := ?v0x0) ?q0x0 (by kernel_rfl) ?f0x0 ?g0x0 ?p0x0 ?u0x0 (by assumption) ?r0x0
  case q0x0 => (rw [List.getElem?_toArray]; rfl)
  case f0x0 => kernel_rfl
  case g0x0 => kernel_rfl
  case p0x0 => exact (fun _ _ _ h => h)
  case u0x0 => (refine Or.inl ⟨by rfl, ?_⟩; intro w hSw; (try dsimp only at hSw); go_simp; (try rw [if_neg (by omega)]); try with_reducible rfl)
  try simp only [Act.put, List.setIfInBounds_toArray, List.set_cons_zero, List.set_cons_succ]
  refine wpAnyH_take (i := 1) (oi := ?o0x1) (v := ?v0x1) ?q0x1 (by kernel_rfl) ?f0x1 ?g0x1 ?p0x1 ?u0x1 (by assumption) ?r0x1
  case q0x1 => (rw [List.getElem?_toArray]; rfl)
  case f0x1 => kernel_rfl
  case g0x1 => kernel_rfl
  case p0x1 => exact (fun _ _ _ h => h)
  case u0x1 => (refine Or.inl ⟨by rfl, ?_⟩; intro w hSw; (try dsimp only at hSw); go_simp; (try rw [if_neg (by omega)]); try with_reducible rfl)
  try simp only [Act.put, List.setIfInBounds_toArray, List.set_cons_zero, List.set_cons_succ]
  refine wpAnyH_take (i := 2) (oi := ?o0x2) (v := ?v0x2) ?q0x2 (by kernel_rfl) ?f0x2 ?g0x2 ?p0x2 ?u0x2 (by assumption) ?r0x2
  case q0x2 => (rw [List.getElem?_toArray]; rfl)
  case f0x2 => kernel_rfl
  case g0x2 => kernel_rfl
  case p0x2 => exact (fun _ _ _ h => h)
  case u0x2 => (refine Or.inl ⟨by rfl, ?_⟩; intro w hSw; (try dsimp only at hSw); go_simp; (try rw [if_neg (by omega)]); try with_reducible rfl)
  try simp only [Act.put, List.setIfInBounds_toArray, List.set_cons_zero, List.set_cons_succ]
  refine wpAnyH_take (i := 3) (oi := ?o0x3) (v := ?v0x3) ?q0x3 (by kernel_rfl) ?f0x3 ?g0x3 ?p0x3 ?u0x3 (by assumption) ?r0x3
  case q0x3 => (rw [List.getElem?_toArray]; rfl)
  case f0x3 => kernel_rfl
  case g0x3 => kernel_rfl
  case p0x3 => exact (fun _ _ _ h => h)
  case u0x3 => (refine Or.inl ⟨by rfl, ?_⟩; intro w hSw; (try dsimp only at hSw); go_simp; (try rw [if_neg (by omega)]); try with_reducible rfl)
  try simp only [Act.put, List.setIfInBounds_toArray, List.set_cons_zero, List.set_cons_succ]
  refine wpAnyH_take (i := 4) (oi := ?o0x4) (v := ?v0x4) ?q0x4 (by kernel_rfl) ?f0x4 ?g0x4 ?p0x4 ?u0x4 (by assumption) ?r0x4
  case q0x4 => (rw [List.getElem?_toArray]; rfl)
  case f0x4 => kernel_rfl
  case g0x4 => kernel_rfl
  case p0x4 => exact (fun _ _ _ h => h)
  case u0x4 => (refine Or.inl ⟨by rfl, ?_⟩; intro w hSw; (try dsimp only at hSw); go_simp; (try rw [if_neg (by omega)]); try with_reducible rfl)
  try simp only [Act.put, List.setIfInBounds_toArray, List.set_cons_zero, List.set_cons_succ]
  refine wpAnyH_take (i := 5) (oi := ?o0x5) (v := ?v0x5) ?q0x5 (by kernel_rfl) ?f0x5 ?g0x5 ?p0x5 ?u0x5 (by assumption) ?r0x5
  case q0x5 => (rw [List.getElem?_toArray]; rfl)
  case f0x5 => kernel_rfl
  case g0x5 => kernel_rfl
  case p0x5 => exact (fun _ _ _ h => h)
  case u0x5 => (refine Or.inl ⟨by rfl, ?_⟩; intro w hSw; (try dsimp only at hSw); go_simp; (try rw [if_neg (by omega)]); try with_reducible rfl)
  try simp only [Act.put, List.setIfInBounds_toArray, List.set_cons_zero, List.set_cons_succ]
  refine wpAnyH_take (i := 6) (oi := ?o0x6) (v := ?v0x6) ?q0x6 (by kernel_rfl) ?f0x6 ?g0x6 ?p0x6 ?u0x6 (by assumption) ?r0x6
  case q0x6 => (rw [List.getElem?_toArray]; rfl)
  case f0x6 => kernel_rfl
  case g0x6 => kernel_rfl
  case p0x6 => exact (fun _ _ _ h => h)
  case u0x6 => (refine Or.inl ⟨by rfl, ?_⟩; intro w hSw; (try dsimp only at hSw); go_simp; (try rw [if_neg (by omega)]); try with_reducible rfl)
  try simp only [Act.put, List.setIfInBounds_toArray, List.set_cons_zero, List.set_cons_succ]
  refine wpAnyH_take (i := 7) (oi := ?o0x7) (v := ?v0x7) ?q0x7 (by kernel_rfl) ?f0x7 ?g0x7 ?p0x7 ?u0x7 (by assumption) ?r0x7
  case q0x7 => (rw [List.getElem?_toArray]; rfl)
  case f0x7 => kernel_rfl
  case g0x7 => kernel_rfl
  case p0x7 => exact (fun _ _ _ h => h)
  case u0x7 => (refine Or.inl ⟨by rfl, ?_⟩; intro w hSw; (try dsimp only at hSw); go_simp; (try rw [if_neg (by omega)]); try with_reducible rfl)
  try simp only [Act.put, List.setIfInBounds_toArray, List.set_cons_zero, List.set_cons_succ]
  refine em_spine (items := [⟨none, 8, 31⟩]) (E := [⟨12, [], [], 3, 30⟩]) (r0 := 25) (by kernel_rfl) (by kernel_rfl) (by kernel_rfl) (by rfl) ?lb1 (by rfl) (by rfl) ?len1 (fun w' l' C => ⟨(HKm.out.next Hv.out C).cell, (C.mk HM.out).c0⟩) (HC.out.quiet (Mod.refl _ _).drew) (by kernel_rfl) ?_
  case lb1 => (intro e he hk; simp only [List.mem_cons, List.not_mem_nil, or_false] at he; rcases he with rfl <;> (first | exact absurd rfl hk | exact congrArg Value.string (rfl)))
  case len1 => (first | (simp [takeCode, giveCode, joinCode, awayCode, eachCode, turnGo, waitGo, turnCode] <;> omega) | (simp <;> omega))
  intro U x1 C hU
  have u31 : U 31 = _ := hU 0 _ rfl
  simp only [spTmps, SpI.tmps, List.flatMap_cons, List.flatMap_nil, Option.map_some, Option.map_none, Option.toList_some, Option.toList_none, List.cons_append, List.nil_append, List.append_nil, patch, List.foldl_cons, List.foldl_nil, Act.put, List.setIfInBounds_toArray, List.set_cons_zero, List.set_cons_succ, u31]
  clear u31 hU hHeld
  simp only [List.map_cons, List.map_nil, EmC.ins, List.getD_cons_zero, List.getD_cons_succ, List.getD_nil] at C
  have HC1 := Lib.hid C
  clear C
  have h0 := (HC1.out.mk HM.out).c0
  have h1 := (HC1.out.mk HM.out).c1
  have h2 := (HC1.out.mk HM.out).c2
  have h3 := (HC1.out.mk HM.out).c3
  have hm := (HKm.out.next Hv.out HC1.out).cell
  have hp := (HKp.out.next Hv.out HC1.out).cell
  go_wp2_with fail
  clear h0 h1 h2 h3 hm hp
  have hg := gtake_chain HC1.out (HC1.out.mk HM.out) (by simp [takeCode, giveCode, joinCode, awayCode, eachCode, turnGo, waitGo, turnCode] <;> omega) Hn.out hs
  refine hg.mono ?_
  rintro e x2 ⟨rfl, C⟩
  have HC2 := Lib.hid C
  clear C hg
  have h0 := (HC2.out.mk HM.out).c0
  have h1 := (HC2.out.mk HM.out).c1
  have h2 := (HC2.out.mk HM.out).c2
  have h3 := (HC2.out.mk HM.out).c3
  have hm := (HKm.out.next Hv.out HC2.out).cell
  have hp := (HKp.out.next Hv.out HC2.out).cell
  go_wp2_with fail
  clear h0 h1 h2 h3 hm hp
  have hg := gturn_chain (s ++ ⟨#[46, 120]⟩) (size_plus2 s _ _ hs) 12 rfl HC2.out (HC2.out.mk HM.out) (by simp [takeCode, giveCode, joinCode, awayCode, eachCode, turnGo, waitGo, turnCode] <;> omega)
  refine hg.mono ?_
  rintro e x3 ⟨rfl, C⟩
  have HC3 := Lib.hid C
  clear C hg
  have h0 := (HC3.out.mk HM.out).c0
  have h1 := (HC3.out.mk HM.out).c1
  have h2 := (HC3.out.mk HM.out).c2
  have h3 := (HC3.out.mk HM.out).c3
  have hm := (HKm.out.next Hv.out HC3.out).cell
  have hp := (HKp.out.next Hv.out HC3.out).cell
  go_wp2_with fail
  clear h0 h1 h2 h3 hm hp
  have hg := gturn_chain (s ++ ⟨#[46, 121]⟩) (size_plus2 s _ _ hs) 12 rfl HC3.out (HC3.out.mk HM.out) (by simp [takeCode, giveCode, joinCode, awayCode, eachCode, turnGo, waitGo, turnCode] <;> omega)
  refine hg.mono ?_
  rintro e x4 ⟨rfl, C⟩
  have HC4 := Lib.hid C
  clear C hg
  go_wp2
  refine wp_region_held_drew (S := fun W => W.cell? ⟨w1.heap.size, 0, none⟩ = some (.pointer (some ⟨b, 0, none⟩)) ∧ W.cell? ⟨b, 0, none⟩ = some (.string (opStr 12))) (by kernel_rfl) ⟨(Mod.refl noF _).drew.cell (HKm.out.next Hv.out HC4.out).cell (fun e => e), (Mod.refl noF _).drew.cell (HC4.out.mk HM.out).c0 (fun e => e)⟩ (fun hHeld => ?_)
  refine wpAnyH_take (i := 0) (oi := ?o4x0) (v := ?v4x0) ?q4x0 (by kernel_rfl) ?f4x0 ?g4x0 ?p4x0 ?u4x0 (by assumption) ?r4x0
  case q4x0 => (rw [List.getElem?_toArray]; rfl)
  case f4x0 => kernel_rfl
  case g4x0 => kernel_rfl
  case p4x0 => exact (fun _ _ _ h => h)
  case u4x0 => (refine Or.inl ⟨by rfl, ?_⟩; intro w hSw; (try dsimp only at hSw); go_simp; (try rw [if_neg (by omega)]); try with_reducible rfl)
  try simp only [Act.put, List.setIfInBounds_toArray, List.set_cons_zero, List.set_cons_succ]
  refine wpAnyH_take (i := 1) (oi := ?o4x1) (v := ?v4x1) ?q4x1 (by kernel_rfl) ?f4x1 ?g4x1 ?p4x1 ?u4x1 (by assumption) ?r4x1
  case q4x1 => (rw [List.getElem?_toArray]; rfl)
  case f4x1 => kernel_rfl
  case g4x1 => kernel_rfl
  case p4x1 => exact (fun _ _ _ h => h)
  case u4x1 => (refine Or.inl ⟨by rfl, ?_⟩; intro w hSw; (try dsimp only at hSw); go_simp; (try rw [if_neg (by omega)]); try with_reducible rfl)
  try simp only [Act.put, List.setIfInBounds_toArray, List.set_cons_zero, List.set_cons_succ]
  refine wpAnyH_take (i := 2) (oi := ?o4x2) (v := ?v4x2) ?q4x2 (by kernel_rfl) ?f4x2 ?g4x2 ?p4x2 ?u4x2 (by assumption) ?r4x2
  case q4x2 => (rw [List.getElem?_toArray]; rfl)
  case f4x2 => kernel_rfl
  case g4x2 => kernel_rfl
  case p4x2 => exact (fun _ _ _ h => h)
  case u4x2 => (refine Or.inl ⟨by rfl, ?_⟩; intro w hSw; (try dsimp only at hSw); go_simp; (try rw [if_neg (by omega)]); try with_reducible rfl)
  try simp only [Act.put, List.setIfInBounds_toArray, List.set_cons_zero, List.set_cons_succ]
  refine wpAnyH_take (i := 3) (oi := ?o4x3) (v := ?v4x3) ?q4x3 (by kernel_rfl) ?f4x3 ?g4x3 ?p4x3 ?u4x3 (by assumption) ?r4x3
  case q4x3 => (rw [List.getElem?_toArray]; rfl)
  case f4x3 => kernel_rfl
  case g4x3 => kernel_rfl
  case p4x3 => exact (fun _ _ _ h => h)
  case u4x3 => (refine Or.inl ⟨by rfl, ?_⟩; intro w hSw; (try dsimp only at hSw); go_simp; (try rw [if_neg (by omega)]); try with_reducible rfl)
  try simp only [Act.put, List.setIfInBounds_toArray, List.set_cons_zero, List.set_cons_succ]
  refine wpAnyH_take (i := 4) (oi := ?o4x4) (v := ?v4x4) ?q4x4 (by kernel_rfl) ?f4x4 ?g4x4 ?p4x4 ?u4x4 (by assumption) ?r4x4
  case q4x4 => (rw [List.getElem?_toArray]; rfl)
  case f4x4 => kernel_rfl
  case g4x4 => kernel_rfl
  case p4x4 => exact (fun _ _ _ h => h)
  case u4x4 => (refine Or.inl ⟨by rfl, ?_⟩; intro w hSw; (try dsimp only at hSw); go_simp; (try rw [if_neg (by omega)]); try with_reducible rfl)
  try simp only [Act.put, List.setIfInBounds_toArray, List.set_cons_zero, List.set_cons_succ]
  refine wpAnyH_take (i := 5) (oi := ?o4x5) (v := ?v4x5) ?q4x5 (by kernel_rfl) ?f4x5 ?g4x5 ?p4x5 ?u4x5 (by assumption) ?r4x5
  case q4x5 => (rw [List.getElem?_toArray]; rfl)
  case f4x5 => kernel_rfl
  case g4x5 => kernel_rfl
  case p4x5 => exact (fun _ _ _ h => h)
  case u4x5 => (refine Or.inl ⟨by rfl, ?_⟩; intro w hSw; (try dsimp only at hSw); go_simp; (try rw [if_neg (by omega)]); try with_reducible rfl)
  try simp only [Act.put, List.setIfInBounds_toArray, List.set_cons_zero, List.set_cons_succ]
  refine wpAnyH_take (i := 6) (oi := ?o4x6) (v := ?v4x6) ?q4x6 (by kernel_rfl) ?f4x6 ?g4x6 ?p4x6 ?u4x6 (by assumption) ?r4x6
  case q4x6 => (rw [List.getElem?_toArray]; rfl)
  case f4x6 => kernel_rfl
  case g4x6 => kernel_rfl
  case p4x6 => exact (fun _ _ _ h => h)
  case u4x6 => (refine Or.inl ⟨by rfl, ?_⟩; intro w hSw; (try dsimp only at hSw); go_simp; (try rw [if_neg (by omega)]); try with_reducible rfl)
  try simp only [Act.put, List.setIfInBounds_toArray, List.set_cons_zero, List.set_cons_succ]
  refine wpAnyH_take (i := 7) (oi := ?o4x7) (v := ?v4x7) ?q4x7 (by kernel_rfl) ?f4x7 ?g4x7 ?p4x7 ?u4x7 (by assumption) ?r4x7
  case q4x7 => (rw [List.getElem?_toArray]; rfl)
  case f4x7 => kernel_rfl
  case g4x7 => kernel_rfl
  case p4x7 => exact (fun _ _ _ h => h)
  case u4x7 => (refine Or.inl ⟨by rfl, ?_⟩; intro w hSw; (try dsimp only at hSw); go_simp; (try rw [if_neg (by omega)]); try with_reducible rfl)
  try simp only [Act.put, List.setIfInBounds_toArray, List.set_cons_zero, List.set_cons_succ]
  refine em_spine (items := [⟨none, 8, 50⟩]) (E := [⟨12, [], [], 3, 49⟩]) (r0 := 44) (by kernel_rfl) (by kernel_rfl) (by kernel_rfl) (by rfl) ?lb5 (by rfl) (by rfl) ?len5 (fun w' l' C => ⟨(HKm.out.next Hv.out C).cell, (C.mk HM.out).c0⟩) (HC4.out.quiet (Mod.refl _ _).drew) (by kernel_rfl) ?_
  case lb5 => (intro e he hk; simp only [List.mem_cons, List.not_mem_nil, or_false] at he; rcases he with rfl <;> (first | exact absurd rfl hk | exact congrArg Value.string (rfl)))
  case len5 => (first | (simp [takeCode, giveCode, joinCode, awayCode, eachCode, turnGo, waitGo, turnCode] <;> omega) | (simp <;> omega))
  intro U x5 C hU
  have u50 : U 50 = _ := hU 0 _ rfl
  simp only [spTmps, SpI.tmps, List.flatMap_cons, List.flatMap_nil, Option.map_some, Option.map_none, Option.toList_some, Option.toList_none, List.cons_append, List.nil_append, List.append_nil, patch, List.foldl_cons, List.foldl_nil, Act.put, List.setIfInBounds_toArray, List.set_cons_zero, List.set_cons_succ, u50]
  clear u50 hU hHeld
  simp only [List.map_cons, List.map_nil, EmC.ins, List.getD_cons_zero, List.getD_cons_succ, List.getD_nil] at C
  have HC5 := Lib.hid C
  clear C
  have h0 := (HC5.out.mk HM.out).c0
  have h1 := (HC5.out.mk HM.out).c1
  have h2 := (HC5.out.mk HM.out).c2
  have h3 := (HC5.out.mk HM.out).c3
  have hm := (HKm.out.next Hv.out HC5.out).cell
  have hp := (HKp.out.next Hv.out HC5.out).cell
  go_wp2_with fail
  clear h0 h1 h2 h3 hm hp
  have hg := ggive_chain HC5.out (HC5.out.mk HM.out) (by simp [takeCode, giveCode, joinCode, awayCode, eachCode, turnGo, waitGo, turnCode] <;> omega) Hn.out hs
  refine hg.mono ?_
  rintro e x6 ⟨rfl, C⟩
  have HC6 := Lib.hid C
  clear C hg
  have h0 := (HC6.out.mk HM.out).c0
  have h1 := (HC6.out.mk HM.out).c1
  have h2 := (HC6.out.mk HM.out).c2
  have h3 := (HC6.out.mk HM.out).c3
  have hm := (HKm.out.next Hv.out HC6.out).cell
  have hp := (HKp.out.next Hv.out HC6.out).cell
  obtain ⟨v, ec, hv⟩ := HC6.out.made (w := w) (by simp [Value.ownBlock]) Hm.out hb
  have Hv := Lib.hid hv
  clear hv
  go_wp2
  go_ret2
  exact ⟨v, rfl, by rw [← gwait1_eq]; simpa [List.append_assoc] using Hv.out⟩
end Go.Proofs.YtamfbfajlfbooaaDoor
end
/- package grace, flavour 2: its code, made. -/
section
namespace Go.Proofs.YtamfbfajlfbooaaDoor
open Go.RowKit Qs Qh
variable {w0 w w1 : World} {b o : Nat} {v0 : Value} {l : List Instr} {br s : ByteArray} {fe jo co : Bool} {u : Value} {c : Nat}
set_option maxRecDepth 4000 in
set_option maxHeartbeats 8000000 in
theorem genter2_ok (s : ByteArray) (w : World) (hn : nameB s.data.toList = true) (hs : s.size ≤ 4) :
    Calls Tryd.prog 120 #[.int .i64 2, .string s] w fun e w' => ∃ v, e = .returned (.tuple #[v, .nilIface]) ∧ Made (preC s.data.toList gc20) w v w' := by
  have Hn := Lib.hid hn
  clear hn
  go_enter Tryd.func120, Tryd.ntmps120
  go_wp2_with fail
  refine (begin2_ok s w Hn.out hs).mono ?_
  rintro e x0 ⟨b, rfl, hm, hb, E, M⟩
  have HC := Lib.hid (Chain.start E)
  have HM := Lib.hid M
  have Hm := Lib.hid hm
  clear hm E M
  have h0 := (HC.out.mk HM.out).c0
  have h1 := (HC.out.mk HM.out).c1
  have h2 := (HC.out.mk HM.out).c2
  have h3 := (HC.out.mk HM.out).c3
  go_wp2_with fail
  refine (op3_chain (HC.out.quiet ((Mod.refl _ _).alloc _)) (by first | omega | simp) 6 _ rfl x0.heap.size 0 6 0 3 (by simp) (by simp) (by simp) (by simp)).mono ?_
  clear h0 h1 h2 h3
  rintro e x1 ⟨rfl, C⟩
  have HC1 := Lib.hid C
  clear C
  have h0 := (HC1.out.mk HM.out).c0
  have h1 := (HC1.out.mk HM.out).c1
  have h2 := (HC1.out.mk HM.out).c2
  have h3 := (HC1.out.mk HM.out).c3
  go_wp2_with fail
  refine (op2_chain (HC1.out.quiet ((Mod.refl _ _).alloc _)) (by simp [takeCode, giveCode, joinCode, awayCode, eachCode, turnGo, waitGo, turnCode] <;> omega) 0 _ rfl x1.heap.size 1 255 2 (by simp) (by simp) (by simp)).mono ?_
  clear h0 h1 h2 h3
  rintro e x2 ⟨rfl, C⟩
  have HC2 := Lib.hid C
  clear C
  have h0 := (HC2.out.mk HM.out).c0
  have h1 := (HC2.out.mk HM.out).c1
  have h2 := (HC2.out.mk HM.out).c2
  have h3 := (HC2.out.mk HM.out).c3
  go_wp2_with fail
  refine (op3_chain (HC2.out.quiet ((Mod.refl _ _).alloc _)) (by simp [takeCode, giveCode, joinCode, awayCode, eachCode, turnGo, waitGo, turnCode] <;> omega) 4 _ rfl x2.heap.size 1 0 1 3 (by simp) (by simp) (by simp) (by simp)).mono ?_
  clear h0 h1 h2 h3
  rintro e x3 ⟨rfl, C⟩
  have HC3 := Lib.hid C
  clear C
  have h0 := (HC3.out.mk HM.out).c0
  have h1 := (HC3.out.mk HM.out).c1
  have h2 := (HC3.out.mk HM.out).c2
  have h3 := (HC3.out.mk HM.out).c3
  go_wp2_with fail
  refine (to1_chain (HC3.out.quiet ((Mod.refl _ _).alloc _)) (by simp [takeCode, giveCode, joinCode, awayCode, eachCode, turnGo, waitGo, turnCode] <;> omega) 14 _ rfl (s.data.toList ++ [46, 97]) _ (bytes_cat s _) x3.heap.size 1 1 (by simp) (by simp)).mono ?_
  clear h0 h1 h2 h3
  rintro e x4 ⟨rfl, C⟩
  have HC4 := Lib.hid C
  clear C
  have h0 := (HC4.out.mk HM.out).c0
  have h1 := (HC4.out.mk HM.out).c1
  have h2 := (HC4.out.mk HM.out).c2
  have h3 := (HC4.out.mk HM.out).c3
  go_wp2_with fail
  refine (op2_chain (HC4.out.quiet ((Mod.refl _ _).alloc _)) (by simp [takeCode, giveCode, joinCode, awayCode, eachCode, turnGo, waitGo, turnCode] <;> omega) 0 _ rfl x4.heap.size 1 1 2 (by simp) (by simp) (by simp)).mono ?_
  clear h0 h1 h2 h3
  rintro e x5 ⟨rfl, C⟩
  have HC5 := Lib.hid C
  clear C
  have h0 := (HC5.out.mk HM.out).c0
  have h1 := (HC5.out.mk HM.out).c1
  have h2 := (HC5.out.mk HM.out).c2
  have h3 := (HC5.out.mk HM.out).c3
  go_wp2_with fail
  refine (op3_chain (HC5.out.quiet ((Mod.refl _ _).alloc _)) (by simp [takeCode, giveCode, joinCode, awayCode, eachCode, turnGo, waitGo, turnCode] <;> omega) 2 _ rfl x5.heap.size 0 0 1 3 (by simp) (by simp) (by simp) (by simp)).mono ?_
  clear h0 h1 h2 h3
  rintro e x6 ⟨rfl, C⟩
  have HC6 := Lib.hid C
  clear C
  have h0 := (HC6.out.mk HM.out).c0
  have h1 := (HC6.out.mk HM.out).c1
  have h2 := (HC6.out.mk HM.out).c2
  have h3 := (HC6.out.mk HM.out).c3
  go_wp2_with fail
  refine (op3_chain (HC6.out.quiet ((Mod.refl _ _).alloc _)) (by simp [takeCode, giveCode, joinCode, awayCode, eachCode, turnGo, waitGo, turnCode] <;> omega) 7 _ rfl x6.heap.size 6 0 0 3 (by simp) (by simp) (by simp) (by simp)).mono ?_
  clear h0 h1 h2 h3
  rintro e x7 ⟨rfl, C⟩
  have HC7 := Lib.hid C
  clear C
  have h0 := (HC7.out.mk HM.out).c0
  have h1 := (HC7.out.mk HM.out).c1
  have h2 := (HC7.out.mk HM.out).c2
  have h3 := (HC7.out.mk HM.out).c3
  go_wp2_with fail
  refine (to0_chain HC7.out (by simp [takeCode, giveCode, joinCode, awayCode, eachCode, turnGo, waitGo, turnCode] <;> omega) 16 _ rfl (s.data.toList ++ [46, 98]) _ (bytes_cat s _)).mono ?_
  clear h0 h1 h2 h3
  rintro e x8 ⟨rfl, C⟩
  have HC8 := Lib.hid C
  clear C
  have h0 := (HC8.out.mk HM.out).c0
  have h1 := (HC8.out.mk HM.out).c1
  have h2 := (HC8.out.mk HM.out).c2
  have h3 := (HC8.out.mk HM.out).c3
  go_wp2_with fail
  refine (label_chain HC8.out (by simp [takeCode, giveCode, joinCode, awayCode, eachCode, turnGo, waitGo, turnCode] <;> omega) (s.data.toList ++ [46, 97]) _ (bytes_cat s _)).mono ?_
  clear h0 h1 h2 h3
  rintro e x9 ⟨rfl, C⟩
  have HC9 := Lib.hid C
  clear C
  have h0 := (HC9.out.mk HM.out).c0
  have h1 := (HC9.out.mk HM.out).c1
  have h2 := (HC9.out.mk HM.out).c2
  have h3 := (HC9.out.mk HM.out).c3
  go_wp2_with fail
  refine (op3_chain (HC9.out.quiet ((Mod.refl _ _).alloc _)) (by simp [takeCode, giveCode, joinCode, awayCode, eachCode, turnGo, waitGo, turnCode] <;> omega) 6 _ rfl x9.heap.size 0 7 0 3 (by simp) (by simp) (by simp) (by simp)).mono ?_
  clear h0 h1 h2 h3
  rintro e x10 ⟨rfl, C⟩
  have HC10 := Lib.hid C
  clear C
  have h0 := (HC10.out.mk HM.out).c0
  have h1 := (HC10.out.mk HM.out).c1
  have h2 := (HC10.out.mk HM.out).c2
  have h3 := (HC10.out.mk HM.out).c3
  go_wp2_with fail
  refine (op3_chain (HC10.out.quiet ((Mod.refl _ _).alloc _)) (by simp [takeCode, giveCode, joinCode, awayCode, eachCode, turnGo, waitGo, turnCode] <;> omega) 7 _ rfl x10.heap.size 6 0 0 3 (by simp) (by simp) (by simp) (by simp)).mono ?_
  clear h0 h1 h2 h3
  rintro e x11 ⟨rfl, C⟩
  have HC11 := Lib.hid C
  clear C
  have h0 := (HC11.out.mk HM.out).c0
  have h1 := (HC11.out.mk HM.out).c1
  have h2 := (HC11.out.mk HM.out).c2
  have h3 := (HC11.out.mk HM.out).c3
  go_wp2_with fail
  refine (label_chain HC11.out (by simp [takeCode, giveCode, joinCode, awayCode, eachCode, turnGo, waitGo, turnCode] <;> omega) (s.data.toList ++ [46, 98]) _ (bytes_cat s _)).mono ?_
  clear h0 h1 h2 h3
  rintro e x12 ⟨rfl, C⟩
  have HC12 := Lib.hid C
  clear C
  obtain ⟨v, ec, hv⟩ := HC12.out.made (w := w) (by simp [Value.ownBlock]) Hm.out hb
  have Hv := Lib.hid hv
  clear hv
  go_wp2
  go_ret2
  exact ⟨v, rfl, by rw [← genter2_eq]; simpa [List.append_assoc] using Hv.out⟩
set_option maxRecDepth 4000 in
set_option maxHeartbeats 8000000 in
theorem gleave2_ok (s : ByteArray) (w : World) (hn : nameB s.data.toList = true) (hs : s.size ≤ 4) :
    Calls Tryd.prog 121 #[.int .i64 2, .string s] w fun e w' => ∃ v, e = .returned (.tuple #[v, .nilIface]) ∧ Made (preC s.data.toList gc21) w v w' := by
  have Hn := Lib.hid hn
  clear hn
  go_enter Tryd.func121, Tryd.ntmps121
  go_wp2_with fail
  refine (begin2_ok s w Hn.out hs).mono ?_
  rintro e x0 ⟨b, rfl, hm, hb, E, M⟩
  have HC := Lib.hid (Chain.start E)
  have HM := Lib.hid M
  have Hm := Lib.hid hm
  clear hm E M
  have h0 := (HC.out.mk HM.out).c0
  have h1 := (HC.out.mk HM.out).c1
  have h2 := (HC.out.mk HM.out).c2
  have h3 := (HC.out.mk HM.out).c3
  go_wp2_with fail
  refine (op3_chain (HC.out.quiet ((Mod.refl _ _).alloc _)) (by first | omega | simp) 6 _ rfl x0.heap.size 0 6 0 3 (by simp) (by simp) (by simp) (by simp)).mono ?_
  clear h0 h1 h2 h3
  rintro e x1 ⟨rfl, C⟩
  have HC1 := Lib.hid C
  clear C
  have h0 := (HC1.out.mk HM.out).c0
  have h1 := (HC1.out.mk HM.out).c1
  have h2 := (HC1.out.mk HM.out).c2
  have h3 := (HC1.out.mk HM.out).c3
  go_wp2_with fail
  refine (op2_chain (HC1.out.quiet ((Mod.refl _ _).alloc _)) (by simp [takeCode, giveCode, joinCode, awayCode, eachCode, turnGo, waitGo, turnCode] <;> omega) 0 _ rfl x1.heap.size 1 1 2 (by simp) (by simp) (by simp)).mono ?_
  clear h0 h1 h2 h3
  rintro e x2 ⟨rfl, C⟩
  have HC2 := Lib.hid C
  clear C
  have h0 := (HC2.out.mk HM.out).c0
  have h1 := (HC2.out.mk HM.out).c1
  have h2 := (HC2.out.mk HM.out).c2
  have h3 := (HC2.out.mk HM.out).c3
  go_wp2_with fail
  refine (op3_chain (HC2.out.quiet ((Mod.refl _ _).alloc _)) (by simp [takeCode, giveCode, joinCode, awayCode, eachCode, turnGo, waitGo, turnCode] <;> omega) 3 _ rfl x2.heap.size 0 0 1 3 (by simp) (by simp) (by simp) (by simp)).mono ?_
  clear h0 h1 h2 h3
  rintro e x3 ⟨rfl, C⟩
  have HC3 := Lib.hid C
  clear C
  have h0 := (HC3.out.mk HM.out).c0
  have h1 := (HC3.out.mk HM.out).c1
  have h2 := (HC3.out.mk HM.out).c2
  have h3 := (HC3.out.mk HM.out).c3
  go_wp2_with fail
  refine (op3_chain (HC3.out.quiet ((Mod.refl _ _).alloc _)) (by simp [takeCode, giveCode, joinCode, awayCode, eachCode, turnGo, waitGo, turnCode] <;> omega) 7 _ rfl x3.heap.size 6 0 0 3 (by simp) (by simp) (by simp) (by simp)).mono ?_
  clear h0 h1 h2 h3
  rintro e x4 ⟨rfl, C⟩
  have HC4 := Lib.hid C
  clear C
  obtain ⟨v, ec, hv⟩ := HC4.out.made (w := w) (by simp [Value.ownBlock]) Hm.out hb
  have Hv := Lib.hid hv
  clear hv
  go_wp2
  go_ret2
  exact ⟨v, rfl, by rw [← gleave2_eq]; simpa [List.append_assoc] using Hv.out⟩
set_option maxRecDepth 4000 in
set_option maxHeartbeats 8000000 in
theorem grest2_ok (s : ByteArray) (w : World) (hn : nameB s.data.toList = true) (hs : s.size ≤ 4) :
    Calls Tryd.prog 122 #[.int .i64 2, .string s] w fun e w' => ∃ v, e = .returned (.tuple #[v, .nilIface]) ∧ Made (preC s.data.toList gc22) w v w' := by
  have Hn := Lib.hid hn
  clear hn
  go_enter Tryd.func122, Tryd.ntmps122
  go_wp2_with fail
  refine (begin2_ok s w Hn.out hs).mono ?_
  rintro e x0 ⟨b, rfl, hm, hb, E, M⟩
  have h3 := M.c3
  have Hm := Lib.hid hm
  clear hm hb E M
  go_wp2
  go_ret2
  exact ⟨_, rfl, InsRow.nil _ _, Hm.out.toBelow, by simp [Value.ownBlock]⟩
set_option maxRecDepth 4000 in
set_option maxHeartbeats 8000000 in
theorem ggone2_ok (s : ByteArray) (w : World) (hn : nameB s.data.toList = true) (hs : s.size ≤ 4) :
    Calls Tryd.prog 123 #[.int .i64 2, .string s] w fun e w' => ∃ v, e = .returned (.tuple #[v, .nilIface]) ∧ Made (preC s.data.toList gc23) w v w' := by
  have Hn := Lib.hid hn
  clear hn
  go_enter Tryd.func123, Tryd.ntmps123
  go_wp2_with fail
  refine (begin2_ok s w Hn.out hs).mono ?_
  rintro e x0 ⟨b, rfl, hm, hb, E, M⟩
  have h3 := M.c3
  have Hm := Lib.hid hm
  clear hm hb E M
  go_wp2
  go_ret2
  exact ⟨_, rfl, InsRow.nil _ _, Hm.out.toBelow, by simp [Value.ownBlock]⟩
set_option maxRecDepth 4000 in
set_option maxHeartbeats 8000000 in
theorem gwait2_ok (s : ByteArray) (w : World) (hn : nameB s.data.toList = true) (hs : s.size ≤ 4) :
    Calls Tryd.prog 97 #[.int .i64 2, .string s] w fun e w' => ∃ v, e = .returned (.tuple #[v, .nilIface]) ∧ Made (preC s.data.toList gc24) w v w' := by
  have Hn := Lib.hid hn
  clear hn
  go_enter Tryd.func97, Tryd.ntmps97
  go_wp2_with fail
  refine (begin2_ok s _ Hn.out hs).mono ?_
  rintro e w1 ⟨b, rfl, hm, hb0, E, M⟩
  have hsw := hm.size
  have hlb := E.lt
  have hb1 : w.heap.size < b := by simp at hb0; omega
  have hp0 : w1.cell? ⟨w.heap.size, 0, none⟩ = some (.string s) := hm.cell (by simp) (fun e => e)
  have hq : Mod noF w1 (w1.alloc (.cells #[.pointer (some ⟨b, 0, none⟩)] 216)) := (Mod.refl _ _).alloc _
  have E1 := E.quiet hq
  have HC := Lib.hid (Chain.start E1)
  have HM := Lib.hid (M.quiet hq)
  have Hm := Lib.hid ((((Mod.refl noF w).alloc _).trans0 hm).trans0 hq)
  have Hv := Lib.hid E1.cell
  have hcp : w.heap.size < w1.heap.size := by simp at hsw; omega
  have hrow : ∀ (c : Nat) v, (w1.alloc (.cells #[.pointer (some ⟨b, 0, none⟩)] 216)).cell? ⟨b, 4, none⟩ = some v → v.ownBlock ≠ some c := fun c v h e => by
    rw [E1.cell] at h; cases h; cases e
  have HKm := Lib.hid (⟨by simp, by simp, by omega, hrow _⟩ : Cap (w1.alloc (.cells #[.pointer (some ⟨b, 0, none⟩)] 216)) b w1.heap.size (.pointer (some ⟨b, 0, none⟩)))
  have HKp := Lib.hid (⟨hq.cell hp0 (fun e => e), by simp; omega, by omega, hrow _⟩ : Cap (w1.alloc (.cells #[.pointer (some ⟨b, 0, none⟩)] 216)) b w.heap.size (.string s))
  have hb : w.heap.size ≤ b := by omega
  clear hm E M E1 hq hp0 hrow hsw hb0 hb1
  have h0 := (HC.out.mk HM.out).c0
  have h1 := (HC.out.mk HM.out).c1
  have h2 := (HC.out.mk HM.out).c2
  have h3 := (HC.out.mk HM.out).c3
  have hm := (HKm.out.next Hv.out HC.out).cell
  have hp := (HKp.out.next Hv.out HC.out).cell
  go_wp2
  clear h0 h1 h2 h3 hm hp
  go_wp2
  refine wp_region_held_drew (S := fun W => W.cell? ⟨w1.heap.size, 0, none⟩ = some (.pointer (some ⟨b, 0, none⟩)) ∧ W.cell? ⟨b, 0, none⟩ = some (.string (opStr 13))) (by kernel_rfl) ⟨(Mod.refl noF _).drew.cell (HKm.out.next Hv.out HC.out).cell (fun e => e), (Mod.refl noF _).drew.cell (HC.out.mk HM.out).c0 (fun e => e)⟩ (fun hHeld => ?_)
  refine wpAnyH_take (i := 0) (oi := ?o0x0) (v := ?v0x0) ?q0x0 (by kernel_rfl) ?f0x0 ?g0x0 ?p0x0 ?u0x0 (by assumption) ?r0x0
  case q0x0 => (rw [List.getElem?_toArray]; rfl)
  case f0x0 => kernel_rfl
  case g0x0 => kernel_rfl
  case p0x0 => exact (fun _ _ _ h => h)
  case u0x0 => (refine Or.inl ⟨by rfl, ?_⟩; intro w hSw; (try dsimp only at hSw); go_simp; (try rw [if_neg (by omega)]); try with_reducible rfl)
  try simp only [Act.put, List.setIfInBounds_toArray, List.set_cons_zero, List.set_cons_succ]
  refine wpAnyH_take (i := 1) (oi := ?o0x1) (v := ?v0x1) ?q0x1 (by kernel_rfl) ?f0x1 ?g0x1 ?p0x1 ?u0x1 (by assumption) ?r0x1
  case q0x1 => (rw [List.getElem?_toArray]; rfl)
  case f0x1 => kernel_rfl
  case g0x1 => kernel_rfl
  case p0x1 => exact (fun _ _ _ h => h)
  case u0x1 => (refine Or.inl ⟨by rfl, ?_⟩; intro w hSw; (try dsimp only at hSw); go_simp; (try rw [if_neg (by omega)]); try with_reducible rfl)
  try simp only [Act.put, List.setIfInBounds_toArray, List.set_cons_zero, List.set_cons_succ]
  refine wpAnyH_take (i := 2) (oi := ?o0x2) (v := ?v0x2) ?q0x2 (by kernel_rfl) ?f0x2 ?g0x2 ?p0x2 ?u0x2 (by assumption) ?r0x2
  case q0x2 => (rw [List.getElem?_toArray]; rfl)
  case f0x2 => kernel_rfl
  case g0x2 => kernel_rfl
  case p0x2 => exact (fun _ _ _ h => h)
  case u0x2 => (refine Or.inl ⟨by rfl, ?_⟩; intro w hSw; (try dsimp only at hSw); go_simp; (try rw [if_neg (by omega)]); try with_reducible rfl)
  try simp only [Act.put, List.setIfInBounds_toArray, List.set_cons_zero, List.set_cons_succ]
  refine wpAnyH_take (i := 3) (oi := ?o0x3) (v := ?v0x3) ?q0x3 (by kernel_rfl) ?f0x3 ?g0x3 ?p0x3 ?u0x3 (by assumption) ?r0x3
  case q0x3 => (rw [List.getElem?_toArray]; rfl)
  case f0x3 => kernel_rfl
  case g0x3 => kernel_rfl
  case p0x3 => exact (fun _ _ _ h => h)
  case u0x3 => (refine Or.inl ⟨by rfl, ?_⟩; intro w hSw; (try dsimp only at hSw); go_simp; (try rw [if_neg (by omega)]); try with_reducible rfl)
  try simp only [Act.put, List.setIfInBounds_toArray, List.set_cons_zero, List.set_cons_succ]
  refine wpAnyH_take (i := 4) (oi := ?o0x4) (v := ?v0x4) ?q0x4 (by kernel_rfl) ?f0x4 ?g0x4 ?p0x4 ?u0x4 (by assumption) ?r0x4
  case q0x4 => (rw [List.getElem?_toArray]; rfl)
  case f0x4 => kernel_rfl
  case g0x4 => kernel_rfl
  case p0x4 => exact (fun _ _ _ h => h)
  case u0x4 => (refine Or.inl ⟨by rfl, ?_⟩; intro w hSw; (try dsimp only at hSw); go_simp; (try rw [if_neg (by omega)]); try with_reducible rfl)
  try simp only [Act.put, List.setIfInBounds_toArray, List.set_cons_zero, List.set_cons_succ]
  refine wpAnyH_take (i := 5) (oi := ?o0x5) (v := ?v0x5) ?q0x5 (by kernel_rfl) ?f0x5 ?g0x5 ?p0x5 ?u0x5 (by assumption) ?r0x5
  case q0x5 => (rw [List.getElem?_toArray]; rfl)
  case f0x5 => kernel_rfl
  case g0x5 => kernel_rfl
  case p0x5 => exact (fun _ _ _ h => h)
  case u0x5 => (refine Or.inl ⟨by rfl, ?_⟩; intro w hSw; (try dsimp only at hSw); go_simp; (try rw [if_neg (by omega)]); try with_reducible rfl)
  try simp only [Act.put, List.setIfInBounds_toArray, List.set_cons_zero, List.set_cons_succ]
  refine wpAnyH_take (i := 6) (oi := ?o0x6) (v := ?v0x6) ?q0x6 (by kernel_rfl) ?f0x6 ?g0x6 ?p0x6 ?u0x6 (by assumption) ?r0x6
  case q0x6 => (rw [List.getElem?_toArray]; rfl)
  case f0x6 => kernel_rfl
  case g0x6 => kernel_rfl
  case p0x6 => exact (fun _ _ _ h => h)
  case u0x6 => (refine Or.inl ⟨by rfl, ?_⟩; intro w hSw; (try dsimp only at hSw); go_simp; (try rw [if_neg (by omega)]); try with_reducible rfl)
  try simp only [Act.put, List.setIfInBounds_toArray, List.set_cons_zero, List.set_cons_succ]
  refine wpAnyH_take (i := 7) (oi := ?o0x7) (v := ?v0x7) ?q0x7 (by kernel_rfl) ?f0x7 ?g0x7 ?p0x7 ?u0x7 (by assumption) ?r0x7
  case q0x7 => (rw [List.getElem?_toArray]; rfl)
  case f0x7 => kernel_rfl
  case g0x7 => kernel_rfl
  case p0x7 => exact (fun _ _ _ h => h)
  case u0x7 => (refine Or.inl ⟨by rfl, ?_⟩; intro w hSw; (try dsimp only at hSw); go_simp; (try rw [if_neg (by omega)]); try with_reducible rfl)
  try simp only [Act.put, List.setIfInBounds_toArray, List.set_cons_zero, List.set_cons_succ]
  refine em_spine (items := [⟨none, 8, 31⟩]) (E := [⟨13, [], [], 3, 30⟩]) (r0 := 25) (by kernel_rfl) (by kernel_rfl) (by kernel_rfl) (by rfl) ?lb1 (by rfl) (by rfl) ?len1 (fun w' l' C => ⟨(HKm.out.next Hv.out C).cell, (C.mk HM.out).c0⟩) (HC.out.quiet (Mod.refl _ _).drew) (by kernel_rfl) ?_
  case lb1 => (intro e he hk; simp only [List.mem_cons, List.not_mem_nil, or_false] at he; rcases he with rfl <;> (first | exact absurd rfl hk | exact congrArg Value.string (rfl)))
  case len1 => (first | (simp [takeCode, giveCode, joinCode, awayCode, eachCode, turnGo, waitGo, turnCode] <;> omega) | (simp <;> omega))
  intro U x1 C hU
  have u31 : U 31 = _ := hU 0 _ rfl
  simp only [spTmps, SpI.tmps, List.flatMap_cons, List.flatMap_nil, Option.map_some, Option.map_none, Option.toList_some, Option.toList_none, List.cons_append, List.nil_append, List.append_nil, patch, List.foldl_cons, List.foldl_nil, Act.put, List.setIfInBounds_toArray, List.set_cons_zero, List.set_cons_succ, u31]
  clear u31 hU hHeld
  simp only [List.map_cons, List.map_nil, EmC.ins, List.getD_cons_zero, List.getD_cons_succ, List.getD_nil] at C
  have HC1 := Lib.hid C
  clear C
  have h0 := (HC1.out.mk HM.out).c0
  have h1 := (HC1.out.mk HM.out).c1
  have h2 := (HC1.out.mk HM.out).c2
  have h3 := (HC1.out.mk HM.out).c3
  have hm := (HKm.out.next Hv.out HC1.out).cell
  have hp := (HKp.out.next Hv.out HC1.out).cell
  go_wp2_with fail
  clear h0 h1 h2 h3 hm hp
  have hg := gtake_chain HC1.out (HC1.out.mk HM.out) (by simp [takeCode, giveCode, joinCode, awayCode, eachCode, turnGo, waitGo, turnCode] <;> omega) Hn.out hs
  refine hg.mono ?_
  rintro e x2 ⟨rfl, C⟩
  have HC2 := Lib.hid C
  clear C hg
  have h0 := (HC2.out.mk HM.out).c0
  have h1 := (HC2.out.mk HM.out).c1
  have h2 := (HC2.out.mk HM.out).c2
  have h3 := (HC2.out.mk HM.out).c3
  have hm := (HKm.out.next Hv.out HC2.out).cell
  have hp := (HKp.out.next Hv.out HC2.out).cell
  go_wp2_with fail
  clear h0 h1 h2 h3 hm hp
  have hg := gturn_chain (s ++ ⟨#[46, 120]⟩) (size_plus2 s _ _ hs) 13 rfl HC2.out (HC2.out.mk HM.out) (by simp [takeCode, giveCode, joinCode, awayCode, eachCode, turnGo, waitGo, turnCode] <;> omega)
  refine hg.mono ?_
  rintro e x3 ⟨rfl, C⟩
  have HC3 := Lib.hid C
  clear C hg
  have h0 := (HC3.out.mk HM.out).c0
  have h1 := (HC3.out.mk HM.out).c1
  have h2 := (HC3.out.mk HM.out).c2
  have h3 := (HC3.out.mk HM.out).c3
  have hm := (HKm.out.next Hv.out HC3.out).cell
  have hp := (HKp.out.next Hv.out HC3.out).cell
  go_wp2_with fail
  clear h0 h1 h2 h3 hm hp
  have hg := gturn_chain (s ++ ⟨#[46, 121]⟩) (size_plus2 s _ _ hs) 13 rfl HC3.out (HC3.out.mk HM.out) (by simp [takeCode, giveCode, joinCode, awayCode, eachCode, turnGo, waitGo, turnCode] <;> omega)
  refine hg.mono ?_
  rintro e x4 ⟨rfl, C⟩
  have HC4 := Lib.hid C
  clear C hg
  go_wp2
  refine wp_region_held_drew (S := fun W => W.cell? ⟨w1.heap.size, 0, none⟩ = some (.pointer (some ⟨b, 0, none⟩)) ∧ W.cell? ⟨b, 0, none⟩ = some (.string (opStr 13))) (by kernel_rfl) ⟨(Mod.refl noF _).drew.cell (HKm.out.next Hv.out HC4.out).cell (fun e => e), (Mod.refl noF _).drew.cell (HC4.out.mk HM.out).c0 (fun e => e)⟩ (fun hHeld => ?_)
  refine wpAnyH_take (i := 0) (oi := ?o4x0) (v := ?v4x0) ?q4x0 (by kernel_rfl) ?f4x0 ?g4x0 ?p4x0 ?u4x0 (by assumption) ?r4x0
  case q4x0 => (rw [List.getElem?_toArray]; rfl)
  case f4x0 => kernel_rfl
  case g4x0 => kernel_rfl
  case p4x0 => exact (fun _ _ _ h => h)
  case u4x0 => (refine Or.inl ⟨by rfl, ?_⟩; intro w hSw; (try dsimp only at hSw); go_simp; (try rw [if_neg (by omega)]); try with_reducible rfl)
  try simp only [Act.put, List.setIfInBounds_toArray, List.set_cons_zero, List.set_cons_succ]
  refine wpAnyH_take (i := 1) (oi := ?o4x1) (v := ?v4x1) ?q4x1 (by kernel_rfl) ?f4x1 ?g4x1 ?p4x1 ?u4x1 (by assumption) ?r4x1
  case q4x1 => (rw [List.getElem?_toArray]; rfl)
  case f4x1 => kernel_rfl
  case g4x1 => kernel_rfl
  case p4x1 => exact (fun _ _ _ h => h)
  case u4x1 => (refine Or.inl ⟨by rfl, ?_⟩; intro w hSw; (try dsimp only at hSw); go_simp; (try rw [if_neg (by omega)]); try with_reducible rfl)
  try simp only [Act.put, List.setIfInBounds_toArray, List.set_cons_zero, List.set_cons_succ]
  refine wpAnyH_take (i := 2) (oi := ?o4x2) (v := ?v4x2) ?q4x2 (by kernel_rfl) ?f4x2 ?g4x2 ?p4x2 ?u4x2 (by assumption) ?r4x2
  case q4x2 => (rw [List.getElem?_toArray]; rfl)
  case f4x2 => kernel_rfl
  case g4x2 => kernel_rfl
  case p4x2 => exact (fun _ _ _ h => h)
  case u4x2 => (refine Or.inl ⟨by rfl, ?_⟩; intro w hSw; (try dsimp only at hSw); go_simp; (try rw [if_neg (by omega)]); try with_reducible rfl)
  try simp only [Act.put, List.setIfInBounds_toArray, List.set_cons_zero, List.set_cons_succ]
  refine wpAnyH_take (i := 3) (oi := ?o4x3) (v := ?v4x3) ?q4x3 (by kernel_rfl) ?f4x3 ?g4x3 ?p4x3 ?u4x3 (by assumption) ?r4x3
  case q4x3 => (rw [List.getElem?_toArray]; rfl)
  case f4x3 => kernel_rfl
  case g4x3 => kernel_rfl
  case p4x3 => exact (fun _ _ _ h => h)
  case u4x3 => (refine Or.inl ⟨by rfl, ?_⟩; intro w hSw; (try dsimp only at hSw); go_simp; (try rw [if_neg (by omega)]); try with_reducible rfl)
  try simp only [Act.put, List.setIfInBounds_toArray, List.set_cons_zero, List.set_cons_succ]
  refine wpAnyH_take (i := 4) (oi := ?o4x4) (v := ?v4x4) ?q4x4 (by kernel_rfl) ?f4x4 ?g4x4 ?p4x4 ?u4x4 (by assumption) ?r4x4
  case q4x4 => (rw [List.getElem?_toArray]; rfl)
  case f4x4 => kernel_rfl
  case g4x4 => kernel_rfl
  case p4x4 => exact (fun _ _ _ h => h)
  case u4x4 => (refine Or.inl ⟨by rfl, ?_⟩; intro w hSw; (try dsimp only at hSw); go_simp; (try rw [if_neg (by omega)]); try with_reducible rfl)
  try simp only [Act.put, List.setIfInBounds_toArray, List.set_cons_zero, List.set_cons_succ]
  refine wpAnyH_take (i := 5) (oi := ?o4x5) (v := ?v4x5) ?q4x5 (by kernel_rfl) ?f4x5 ?g4x5 ?p4x5 ?u4x5 (by assumption) ?r4x5
  case q4x5 => (rw [List.getElem?_toArray]; rfl)
  case f4x5 => kernel_rfl
  case g4x5 => kernel_rfl
  case p4x5 => exact (fun _ _ _ h => h)
  case u4x5 => (refine Or.inl ⟨by rfl, ?_⟩; intro w hSw; (try dsimp only at hSw); go_simp; (try rw [if_neg (by omega)]); try with_reducible rfl)
  try simp only [Act.put, List.setIfInBounds_toArray, List.set_cons_zero, List.set_cons_succ]
  refine wpAnyH_take (i := 6) (oi := ?o4x6) (v := ?v4x6) ?q4x6 (by kernel_rfl) ?f4x6 ?g4x6 ?p4x6 ?u4x6 (by assumption) ?r4x6
  case q4x6 => (rw [List.getElem?_toArray]; rfl)
  case f4x6 => kernel_rfl
  case g4x6 => kernel_rfl
  case p4x6 => exact (fun _ _ _ h => h)
  case u4x6 => (refine Or.inl ⟨by rfl, ?_⟩; intro w hSw; (try dsimp only at hSw); go_simp; (try rw [if_neg (by omega)]); try with_reducible rfl)
  try simp only [Act.put, List.setIfInBounds_toArray, List.set_cons_zero, List.set_cons_succ]
  refine wpAnyH_take (i := 7) (oi := ?o4x7) (v := ?v4x7) ?q4x7 (by kernel_rfl) ?f4x7 ?g4x7 ?p4x7 ?u4x7 (by assumption) ?r4x7
  case q4x7 => (rw [List.getElem?_toArray]; rfl)
  case f4x7 => kernel_rfl
  case g4x7 => kernel_rfl
  case p4x7 => exact (fun _ _ _ h => h)
  case u4x7 => (refine Or.inl ⟨by rfl, ?_⟩; intro w hSw; (try dsimp only at hSw); go_simp; (try rw [if_neg (by omega)]); try with_reducible rfl)
  try simp only [Act.put, List.setIfInBounds_toArray, List.set_cons_zero, List.set_cons_succ]
  refine em_spine (items := [⟨none, 8, 50⟩]) (E := [⟨13, [], [], 3, 49⟩]) (r0 := 44) (by kernel_rfl) (by kernel_rfl) (by kernel_rfl) (by rfl) ?lb5 (by rfl) (by rfl) ?len5 (fun w' l' C => ⟨(HKm.out.next Hv.out C).cell, (C.mk HM.out).c0⟩) (HC4.out.quiet (Mod.refl _ _).drew) (by kernel_rfl) ?_
  case lb5 => (intro e he hk; simp only [List.mem_cons, List.not_mem_nil, or_false] at he; rcases he with rfl <;> (first | exact absurd rfl hk | exact congrArg Value.string (rfl)))
  case len5 => (first | (simp [takeCode, giveCode, joinCode, awayCode, eachCode, turnGo, waitGo, turnCode] <;> omega) | (simp <;> omega))
  intro U x5 C hU
  have u50 : U 50 = _ := hU 0 _ rfl
  simp only [spTmps, SpI.tmps, List.flatMap_cons, List.flatMap_nil, Option.map_some, Option.map_none, Option.toList_some, Option.toList_none, List.cons_append, List.nil_append, List.append_nil, patch, List.foldl_cons, List.foldl_nil, Act.put, List.setIfInBounds_toArray, List.set_cons_zero, List.set_cons_succ, u50]
  clear u50 hU hHeld
  simp only [List.map_cons, List.map_nil, EmC.ins, List.getD_cons_zero, List.getD_cons_succ, List.getD_nil] at C
  have HC5 := Lib.hid C
  clear C
  have h0 := (HC5.out.mk HM.out).c0
  have h1 := (HC5.out.mk HM.out).c1
  have h2 := (HC5.out.mk HM.out).c2
  have h3 := (HC5.out.mk HM.out).c3
  have hm := (HKm.out.next Hv.out HC5.out).cell
  have hp := (HKp.out.next Hv.out HC5.out).cell
  go_wp2_with fail
  clear h0 h1 h2 h3 hm hp
  have hg := ggive_chain HC5.out (HC5.out.mk HM.out) (by simp [takeCode, giveCode, joinCode, awayCode, eachCode, turnGo, waitGo, turnCode] <;> omega) Hn.out hs
  refine hg.mono ?_
  rintro e x6 ⟨rfl, C⟩
  have HC6 := Lib.hid C
  clear C hg
  have h0 := (HC6.out.mk HM.out).c0
  have h1 := (HC6.out.mk HM.out).c1
  have h2 := (HC6.out.mk HM.out).c2
  have h3 := (HC6.out.mk HM.out).c3
  have hm := (HKm.out.next Hv.out HC6.out).cell
  have hp := (HKp.out.next Hv.out HC6.out).cell
  obtain ⟨v, ec, hv⟩ := HC6.out.made (w := w) (by simp [Value.ownBlock]) Hm.out hb
  have Hv := Lib.hid hv
  clear hv
  go_wp2
  go_ret2
  exact ⟨v, rfl, by rw [← gwait2_eq]; simpa [List.append_assoc] using Hv.out⟩
end Go.Proofs.YtamfbfajlfbooaaDoor
end
/- package grace, flavour 3: its code, made. -/
section
namespace Go.Proofs.YtamfbfajlfbooaaDoor
open Go.RowKit Qs Qh
variable {w0 w w1 : World} {b o : Nat} {v0 : Value} {l : List Instr} {br s : ByteArray} {fe jo co : Bool} {u : Value} {c : Nat}
set_option maxRecDepth 4000 in
set_option maxHeartbeats 8000000 in
theorem genter3_ok (s : ByteArray) (w : World) (hn : nameB s.data.toList = true) (hs : s.size ≤ 4) :
    Calls Tryd.prog 120 #[.int .i64 3, .string s] w fun e w' => ∃ v, e = .returned (.tuple #[v, .nilIface]) ∧ Made (preC s.data.toList gc30) w v w' := by
  have Hn := Lib.hid hn
  clear hn
  go_enter Tryd.func120, Tryd.ntmps120
  go_wp2_with fail
  refine (begin3_ok s w Hn.out hs).mono ?_
  rintro e x0 ⟨b, rfl, hm, hb, E, M⟩
  have h3 := M.c3
  have Hm := Lib.hid hm
  clear hm hb E M
  go_wp2
  go_ret2
  exact ⟨_, rfl, InsRow.nil _ _, Hm.out.toBelow, by simp [Value.ownBlock]⟩
set_option maxRecDepth 4000 in
set_option maxHeartbeats 8000000 in
theorem gleave3_ok (s : ByteArray) (w : World) (hn : nameB s.data.toList = true) (hs : s.size ≤ 4) :
    Calls Tryd.prog 121 #[.int .i64 3, .string s] w fun e w' => ∃ v, e = .returned (.tuple #[v, .nilIface]) ∧ Made (preC s.data.toList gc31) w v w' := by
  have Hn := Lib.hid hn
  clear hn
  go_enter Tryd.func121, Tryd.ntmps121
  go_wp2_with fail
  refine (begin3_ok s w Hn.out hs).mono ?_
  rintro e x0 ⟨b, rfl, hm, hb, E, M⟩
  have h3 := M.c3
  have Hm := Lib.hid hm
  clear hm hb E M
  go_wp2
  go_ret2
  exact ⟨_, rfl, InsRow.nil _ _, Hm.out.toBelow, by simp [Value.ownBlock]⟩
set_option maxRecDepth 4000 in
set_option maxHeartbeats 8000000 in
theorem grest3_ok (s : ByteArray) (w : World) (hn : nameB s.data.toList = true) (hs : s.size ≤ 4) :
    Calls Tryd.prog 122 #[.int .i64 3, .string s] w fun e w' => ∃ v, e = .returned (.tuple #[v, .nilIface]) ∧ Made (preC s.data.toList gc32) w v w' := by
  have Hn := Lib.hid hn
  clear hn
  go_enter Tryd.func122, Tryd.ntmps122
  go_wp2_with fail
  refine (begin3_ok s w Hn.out hs).mono ?_
  rintro e x0 ⟨b, rfl, hm, hb, E, M⟩
  have HC := Lib.hid (Chain.start E)
  have HM := Lib.hid M
  have Hm := Lib.hid hm
  clear hm E M
  have h0 := (HC.out.mk HM.out).c0
  have h1 := (HC.out.mk HM.out).c1
  have h2 := (HC.out.mk HM.out).c2
  have h3 := (HC.out.mk HM.out).c3
  go_wp2_with fail
  refine (op3_chain (HC.out.quiet ((Mod.refl _ _).alloc _)) (by first | omega | simp) 6 _ rfl x0.heap.size 0 7 0 3 (by simp) (by simp) (by simp) (by simp)).mono ?_
  clear h0 h1 h2 h3
  rintro e x1 ⟨rfl, C⟩
  have HC1 := Lib.hid C
  clear C
  have h0 := (HC1.out.mk HM.out).c0
  have h1 := (HC1.out.mk HM.out).c1
  have h2 := (HC1.out.mk HM.out).c2
  have h3 := (HC1.out.mk HM.out).c3
  go_wp2_with fail
  refine (op3_chain (HC1.out.quiet ((Mod.refl _ _).alloc _)) (by simp [takeCode, giveCode, joinCode, awayCode, eachCode, turnGo, waitGo, turnCode] <;> omega) 7 _ rfl x1.heap.size 6 0 0 3 (by simp) (by simp) (by simp) (by simp)).mono ?_
  clear h0 h1 h2 h3
  rintro e x2 ⟨rfl, C⟩
  have HC2 := Lib.hid C
  clear C
  have h0 := (HC2.out.mk HM.out).c0
  have h1 := (HC2.out.mk HM.out).c1
  have h2 := (HC2.out.mk HM.out).c2
  have h3 := (HC2.out.mk HM.out).c3
  go_wp2_with fail
  refine (op0_chain HC2.out (by simp [takeCode, giveCode, joinCode, awayCode, eachCode, turnGo, waitGo, turnCode] <;> omega) 12 _ rfl).mono ?_
  clear h0 h1 h2 h3
  rintro e x3 ⟨rfl, C⟩
  have HC3 := Lib.hid C
  clear C
  obtain ⟨v, ec, hv⟩ := HC3.out.made (w := w) (by simp [Value.ownBlock]) Hm.out hb
  have Hv := Lib.hid hv
  clear hv
  go_wp2
  go_ret2
  exact ⟨v, rfl, by rw [← grest3_eq]; simpa [List.append_assoc] using Hv.out⟩
set_option maxRecDepth 4000 in
set_option maxHeartbeats 8000000 in
theorem ggone3_ok (s : ByteArray) (w : World) (hn : nameB s.data.toList = true) (hs : s.size ≤ 4) :
    Calls Tryd.prog 123 #[.int .i64 3, .string s] w fun e w' => ∃ v, e = .returned (.tuple #[v, .nilIface]) ∧ Made (preC s.data.toList gc33) w v w' := by
  have Hn := Lib.hid hn
  clear hn
  go_enter Tryd.func123, Tryd.ntmps123
  go_wp2_with fail
  refine (begin3_ok s w Hn.out hs).mono ?_
  rintro e x0 ⟨b, rfl, hm, hb, E, M⟩
  have HC := Lib.hid (Chain.start E)
  have HM := Lib.hid M
  have Hm := Lib.hid hm
  clear hm E M
  have h0 := (HC.out.mk HM.out).c0
  have h1 := (HC.out.mk HM.out).c1
  have h2 := (HC.out.mk HM.out).c2
  have h3 := (HC.out.mk HM.out).c3
  go_wp2_with fail
  clear h0 h1 h2 h3
  have hg := gaway_chain HC.out (by first | omega | simp)
  refine hg.mono ?_
  rintro e x1 ⟨rfl, C⟩
  have HC1 := Lib.hid C
  clear C hg
  obtain ⟨v, ec, hv⟩ := HC1.out.made (w := w) (by simp [Value.ownBlock]) Hm.out hb
  have Hv := Lib.hid hv
  clear hv
  go_wp2
  go_ret2
  exact ⟨v, rfl, by rw [← ggone3_eq]; simpa [List.append_assoc] using Hv.out⟩
set_option maxRecDepth 4000 in
set_option maxHeartbeats 8000000 in
theorem gwait3_ok (s : ByteArray) (w : World) (hn : nameB s.data.toList = true) (hs : s.size ≤ 4) :
    Calls Tryd.prog 97 #[.int .i64 3, .string s] w fun e w' => ∃ v, e = .returned (.tuple #[v, .nilIface]) ∧ Made (preC s.data.toList gc34) w v w' := by
  have Hn := Lib.hid hn
  clear hn
  go_enter Tryd.func97, Tryd.ntmps97
  go_wp2_with fail
  refine (begin3_ok s _ Hn.out hs).mono ?_
  rintro e w1 ⟨b, rfl, hm, hb0, E, M⟩
  have hsw := hm.size
  have hlb := E.lt
  have hb1 : w.heap.size < b := by simp at hb0; omega
  have hp0 : w1.cell? ⟨w.heap.size, 0, none⟩ = some (.string s) := hm.cell (by simp) (fun e => e)
  have hq : Mod noF w1 (w1.alloc (.cells #[.pointer (some ⟨b, 0, none⟩)] 216)) := (Mod.refl _ _).alloc _
  have E1 := E.quiet hq
  have HC := Lib.hid (Chain.start E1)
  have HM := Lib.hid (M.quiet hq)
  have Hm := Lib.hid ((((Mod.refl noF w).alloc _).trans0 hm).trans0 hq)
  have Hv := Lib.hid E1.cell
  have hcp : w.heap.size < w1.heap.size := by simp at hsw; omega
  have hrow : ∀ (c : Nat) v, (w1.alloc (.cells #[.pointer (some ⟨b, 0, none⟩)] 216)).cell? ⟨b, 4, none⟩ = some v → v.ownBlock ≠ some c := fun c v h e => by
    rw [E1.cell] at h; cases h; cases e
  have HKm := Lib.hid (⟨by simp, by simp, by omega, hrow _⟩ : Cap (w1.alloc (.cells #[.pointer (some ⟨b, 0, none⟩)] 216)) b w1.heap.size (.pointer (some ⟨b, 0, none⟩)))
  have HKp := Lib.hid (⟨hq.cell hp0 (fun e => e), by simp; omega, by omega, hrow _⟩ : Cap (w1.alloc (.cells #[.pointer (some ⟨b, 0, none⟩)] 216)) b w.heap.size (.string s))
  have hb : w.heap.size ≤ b := by omega
  clear hm E M E1 hq hp0 hrow hsw hb0 hb1
  have h0 := (HC.out.mk HM.out).c0
  have h1 := (HC.out.mk HM.out).c1
  have h2 := (HC.out.mk HM.out).c2
  have h3 := (HC.out.mk HM.out).c3
  have hm := (HKm.out.next Hv.out HC.out).cell
  have hp := (HKp.out.next Hv.out HC.out).cell
  go_wp2_with fail
  clear h0 h1 h2 h3 hm hp
  have hg := gaway_chain HC.out (by first | omega | simp)
  refine hg.mono ?_
  rintro e x1 ⟨rfl, C⟩
  have HC1 := Lib.hid C
  clear C hg
  have h0 := (HC1.out.mk HM.out).c0
  have h1 := (HC1.out.mk HM.out).c1
  have h2 := (HC1.out.mk HM.out).c2
  have h3 := (HC1.out.mk HM.out).c3
  have hm := (HKm.out.next Hv.out HC1.out).cell
  have hp := (HKp.out.next Hv.out HC1.out).cell
  go_wp2_with fail
  clear h0 h1 h2 h3 hm hp
  have hg := gtake_chain HC1.out (HC1.out.mk HM.out) (by simp [takeCode, giveCode, joinCode, awayCode, eachCode, turnGo, waitGo, turnCode] <;> omega) Hn.out hs
  refine hg.mono ?_
  rintro e x2 ⟨rfl, C⟩
  have HC2 := Lib.hid C
  clear C hg
  have h0 := (HC2.out.mk HM.out).c0
  have h1 := (HC2.out.mk HM.out).c1
  have h2 := (HC2.out.mk HM.out).c2
  have h3 := (HC2.out.mk HM.out).c3
  have hm := (HKm.out.next Hv.out HC2.out).cell
  have hp := (HKp.out.next Hv.out HC2.out).cell
  go_wp2_with fail
  refine (op3_chain (HC2.out.quiet ((Mod.refl _ _).alloc _)) (by simp [takeCode, giveCode, joinCode, awayCode, eachCode, turnGo, waitGo, turnCode] <;> omega) 6 _ rfl x2.heap.size 0 7 0 3 (by simp) (by simp) (by simp) (by simp)).mono ?_
  clear h0 h1 h2 h3 hm hp
  rintro e x3 ⟨rfl, C⟩
  have HC3 := Lib.hid C
  clear C
  have h0 := (HC3.out.mk HM.out).c0
  have h1 := (HC3.out.mk HM.out).c1
  have h2 := (HC3.out.mk HM.out).c2
  have h3 := (HC3.out.mk HM.out).c3
  have hm := (HKm.out.next Hv.out HC3.out).cell
  have hp := (HKp.out.next Hv.out HC3.out).cell
  go_wp2_with fail
  refine (op2_chain (HC3.out.quiet ((Mod.refl _ _).alloc _)) (by simp [takeCode, giveCode, joinCode, awayCode, eachCode, turnGo, waitGo, turnCode] <;> omega) 0 _ rfl x3.heap.size 1 2 2 (by simp) (by simp) (by simp)).mono ?_
  clear h0 h1 h2 h3 hm hp
  rintro e x4 ⟨rfl, C⟩
  have HC4 := Lib.hid C
  clear C
  have h0 := (HC4.out.mk HM.out).c0
  have h1 := (HC4.out.mk HM.out).c1
  have h2 := (HC4.out.mk HM.out).c2
  have h3 := (HC4.out.mk HM.out).c3
  have hm := (HKm.out.next Hv.out HC4.out).cell
  have hp := (HKp.out.next Hv.out HC4.out).cell
  go_wp2_with fail
  refine (op3_chain (HC4.out.quiet ((Mod.refl _ _).alloc _)) (by simp [takeCode, giveCode, joinCode, awayCode, eachCode, turnGo, waitGo, turnCode] <;> omega) 2 _ rfl x4.heap.size 0 0 1 3 (by simp) (by simp) (by simp) (by simp)).mono ?_
  clear h0 h1 h2 h3 hm hp
  rintro e x5 ⟨rfl, C⟩
  have HC5 := Lib.hid C
  clear C
  have h0 := (HC5.out.mk HM.out).c0
  have h1 := (HC5.out.mk HM.out).c1
  have h2 := (HC5.out.mk HM.out).c2
  have h3 := (HC5.out.mk HM.out).c3
  have hm := (HKm.out.next Hv.out HC5.out).cell
  have hp := (HKp.out.next Hv.out HC5.out).cell
  go_wp2_with fail
  refine (op3_chain (HC5.out.quiet ((Mod.refl _ _).alloc _)) (by simp [takeCode, giveCode, joinCode, awayCode, eachCode, turnGo, waitGo, turnCode] <;> omega) 7 _ rfl x5.heap.size 7 0 0 3 (by simp) (by simp) (by simp) (by simp)).mono ?_
  clear h0 h1 h2 h3 hm hp
  rintro e x6 ⟨rfl, C⟩
  have HC6 := Lib.hid C
  clear C
  have h0 := (HC6.out.mk HM.out).c0
  have h1 := (HC6.out.mk HM.out).c1
  have h2 := (HC6.out.mk HM.out).c2
  have h3 := (HC6.out.mk HM.out).c3
  have hm := (HKm.out.next Hv.out HC6.out).cell
  have hp := (HKp.out.next Hv.out HC6.out).cell
  go_wp2_with fail
  refine (op0_chain HC6.out (by simp [takeCode, giveCode, joinCode, awayCode, eachCode, turnGo, waitGo, turnCode] <;> omega) 12 _ rfl).mono ?_
  clear h0 h1 h2 h3 hm hp
  rintro e x7 ⟨rfl, C⟩
  have HC7 := Lib.hid C
  clear C
  have h0 := (HC7.out.mk HM.out).c0
  have h1 := (HC7.out.mk HM.out).c1
  have h2 := (HC7.out.mk HM.out).c2
  have h3 := (HC7.out.mk HM.out).c3
  have hm := (HKm.out.next Hv.out HC7.out).cell
  have hp := (HKp.out.next Hv.out HC7.out).cell
  go_wp2_with fail
  clear h0 h1 h2 h3 hm hp
  have hg := eachWait_chain (s ++ ⟨#[46, 120]⟩) (size_plus2 s _ _ hs) HC7.out (HKm.out.next Hv.out HC7.out) (HKp.out.next Hv.out HC7.out) (by omega) (by simp [takeCode, giveCode, joinCode, awayCode, eachCode, turnGo, waitGo, turnCode] <;> omega)
  refine hg.mono ?_
  rintro e x8 ⟨rfl, C⟩
  have HC8 := Lib.hid C
  clear C hg
  have h0 := (HC8.out.mk HM.out).c0
  have h1 := (HC8.out.mk HM.out).c1
  have h2 := (HC8.out.mk HM.out).c2
  have h3 := (HC8.out.mk HM.out).c3
  have hm := (HKm.out.next Hv.out HC8.out).cell
  have hp := (HKp.out.next Hv.out HC8.out).cell
  go_wp2_with fail
  clear h0 h1 h2 h3 hm hp
  have hg := ggive_chain HC8.out (HC8.out.mk HM.out) (by simp [takeCode, giveCode, joinCode, awayCode, eachCode, turnGo, waitGo, turnCode] <;> omega) Hn.out hs
  refine hg.mono ?_
  rintro e x9 ⟨rfl, C⟩
  have HC9 := Lib.hid C
  clear C hg
  have h0 := (HC9.out.mk HM.out).c0
  have h1 := (HC9.out.mk HM.out).c1
  have h2 := (HC9.out.mk HM.out).c2
  have h3 := (HC9.out.mk HM.out).c3
  have hm := (HKm.out.next Hv.out HC9.out).cell
  have hp := (HKp.out.next Hv.out HC9.out).cell
  go_wp2_with fail
  refine (op3_chain (HC9.out.quiet ((Mod.refl _ _).alloc _)) (by simp [takeCode, giveCode, joinCode, awayCode, eachCode, turnGo, waitGo, turnCode] <;> omega) 6 _ rfl x9.heap.size 0 7 0 3 (by simp) (by simp) (by simp) (by simp)).mono ?_
  clear h0 h1 h2 h3 hm hp
  rintro e x10 ⟨rfl, C⟩
  have HC10 := Lib.hid C
  clear C
  have h0 := (HC10.out.mk HM.out).c0
  have h1 := (HC10.out.mk HM.out).c1
  have h2 := (HC10.out.mk HM.out).c2
  have h3 := (HC10.out.mk HM.out).c3
  have hm := (HKm.out.next Hv.out HC10.out).cell
  have hp := (HKp.out.next Hv.out HC10.out).cell
  go_wp2_with fail
  refine (op3_chain (HC10.out.quiet ((Mod.refl _ _).alloc _)) (by simp [takeCode, giveCode, joinCode, awayCode, eachCode, turnGo, waitGo, turnCode] <;> omega) 7 _ rfl x10.heap.size 6 0 0 3 (by simp) (by simp) (by simp) (by simp)).mono ?_
  clear h0 h1 h2 h3 hm hp
  rintro e x11 ⟨rfl, C⟩
  have HC11 := Lib.hid C
  clear C
  have h0 := (HC11.out.mk HM.out).c0
  have h1 := (HC11.out.mk HM.out).c1
  have h2 := (HC11.out.mk HM.out).c2
  have h3 := (HC11.out.mk HM.out).c3
  have hm := (HKm.out.next Hv.out HC11.out).cell
  have hp := (HKp.out.next Hv.out HC11.out).cell
  go_wp2_with fail
  refine (op0_chain HC11.out (by simp [takeCode, giveCode, joinCode, awayCode, eachCode, turnGo, waitGo, turnCode] <;> omega) 12 _ rfl).mono ?_
  clear h0 h1 h2 h3 hm hp
  rintro e x12 ⟨rfl, C⟩
  have HC12 := Lib.hid C
  clear C
  have h0 := (HC12.out.mk HM.out).c0
  have h1 := (HC12.out.mk HM.out).c1
  have h2 := (HC12.out.mk HM.out).c2
  have h3 := (HC12.out.mk HM.out).c3
  have hm := (HKm.out.next Hv.out HC12.out).cell
  have hp := (HKp.out.next Hv.out HC12.out).cell
  obtain ⟨v, ec, hv⟩ := HC12.out.made (w := w) (by simp [Value.ownBlock]) Hm.out hb
  have Hv := Lib.hid hv
  clear hv
  go_wp2
  go_ret2
  exact ⟨v, rfl, by rw [← gwait3_eq]; simpa [List.append_assoc] using Hv.out⟩
end Go.Proofs.YtamfbfajlfbooaaDoor
end
/- package grace, flavour 4: its code, made. -/
section
namespace Go.Proofs.YtamfbfajlfbooaaDoor
open Go.RowKit Qs Qh
variable {w0 w w1 : World} {b o : Nat} {v0 : Value} {l : List Instr} {br s : ByteArray} {fe jo co : Bool} {u : Value} {c : Nat}
set_option maxRecDepth 4000 in
set_option maxHeartbeats 8000000 in
theorem genter4_ok (s : ByteArray) (w : World) (hn : nameB s.data.toList = true) (hs : s.size ≤ 4) :
    Calls Tryd.prog 120 #[.int .i64 4, .string s] w fun e w' => ∃ v, e = .returned (.tuple #[v, .nilIface]) ∧ Made (preC s.data.toList gc40) w v w' := by
  have Hn := Lib.hid hn
  clear hn
  go_enter Tryd.func120, Tryd.ntmps120
  go_wp2_with fail
  refine (begin4_ok s w Hn.out hs).mono ?_
  rintro e x0 ⟨b, rfl, hm, hb, E, M⟩
  have HC := Lib.hid (Chain.start E)
  have HM := Lib.hid M
  have Hm := Lib.hid hm
  clear hm E M
  have h0 := (HC.out.mk HM.out).c0
  have h1 := (HC.out.mk HM.out).c1
  have h2 := (HC.out.mk HM.out).c2
  have h3 := (HC.out.mk HM.out).c3
  go_wp2_with fail
  clear h0 h1 h2 h3
  have hg := gjoin_chain HC.out (HC.out.mk HM.out) (by first | omega | simp) Hn.out hs
  refine hg.mono ?_
  rintro e x1 ⟨rfl, C⟩
  have HC1 := Lib.hid C
  clear C hg
  have h0 := (HC1.out.mk HM.out).c0
  have h1 := (HC1.out.mk HM.out).c1
  have h2 := (HC1.out.mk HM.out).c2
  have h3 := (HC1.out.mk HM.out).c3
  go_wp2_with fail
  refine (op3_chain (HC1.out.quiet ((Mod.refl _ _).alloc _)) (by simp [takeCode, giveCode, joinCode, awayCode, eachCode, turnGo, waitGo, turnCode] <;> omega) 6 _ rfl x1.heap.size 0 6 0 3 (by simp) (by simp) (by simp) (by simp)).mono ?_
  clear h0 h1 h2 h3
  rintro e x2 ⟨rfl, C⟩
  have HC2 := Lib.hid C
  clear C
  have h0 := (HC2.out.mk HM.out).c0
  have h1 := (HC2.out.mk HM.out).c1
  have h2 := (HC2.out.mk HM.out).c2
  have h3 := (HC2.out.mk HM.out).c3
  go_wp2_with fail
  refine (op2_chain (HC2.out.quiet ((Mod.refl _ _).alloc _)) (by simp [takeCode, giveCode, joinCode, awayCode, eachCode, turnGo, waitGo, turnCode] <;> omega) 0 _ rfl x2.heap.size 1 255 2 (by simp) (by simp) (by simp)).mono ?_
  clear h0 h1 h2 h3
  rintro e x3 ⟨rfl, C⟩
  have HC3 := Lib.hid C
  clear C
  have h0 := (HC3.out.mk HM.out).c0
  have h1 := (HC3.out.mk HM.out).c1
  have h2 := (HC3.out.mk HM.out).c2
  have h3 := (HC3.out.mk HM.out).c3
  go_wp2_with fail
  refine (op3_chain (HC3.out.quiet ((Mod.refl _ _).alloc _)) (by simp [takeCode, giveCode, joinCode, awayCode, eachCode, turnGo, waitGo, turnCode] <;> omega) 4 _ rfl x3.heap.size 1 0 1 3 (by simp) (by simp) (by simp) (by simp)).mono ?_
  clear h0 h1 h2 h3
  rintro e x4 ⟨rfl, C⟩
  have HC4 := Lib.hid C
  clear C
  have h0 := (HC4.out.mk HM.out).c0
  have h1 := (HC4.out.mk HM.out).c1
  have h2 := (HC4.out.mk HM.out).c2
  have h3 := (HC4.out.mk HM.out).c3
  go_wp2_with fail
  refine (to1_chain (HC4.out.quiet ((Mod.refl _ _).alloc _)) (by simp [takeCode, giveCode, joinCode, awayCode, eachCode, turnGo, waitGo, turnCode] <;> omega) 14 _ rfl (s.data.toList ++ [46, 97]) _ (bytes_cat s _) x4.heap.size 1 1 (by simp) (by simp)).mono ?_
  clear h0 h1 h2 h3
  rintro e x5 ⟨rfl, C⟩
  have HC5 := Lib.hid C
  clear C
  have h0 := (HC5.out.mk HM.out).c0
  have h1 := (HC5.out.mk HM.out).c1
  have h2 := (HC5.out.mk HM.out).c2
  have h3 := (HC5.out.mk HM.out).c3
  go_wp2_with fail
  refine (op2_chain (HC5.out.quiet ((Mod.refl _ _).alloc _)) (by simp [takeCode, giveCode, joinCode, awayCode, eachCode, turnGo, waitGo, turnCode] <;> omega) 0 _ rfl x5.heap.size 1 1 2 (by simp) (by simp) (by simp)).mono ?_
  clear h0 h1 h2 h3
  rintro e x6 ⟨rfl, C⟩
  have HC6 := Lib.hid C
  clear C
  have h0 := (HC6.out.mk HM.out).c0
  have h1 := (HC6.out.mk HM.out).c1
  have h2 := (HC6.out.mk HM.out).c2
  have h3 := (HC6.out.mk HM.out).c3
  go_wp2_with fail
  refine (op3_chain (HC6.out.quiet ((Mod.refl _ _).alloc _)) (by simp [takeCode, giveCode, joinCode, awayCode, eachCode, turnGo, waitGo, turnCode] <;> omega) 2 _ rfl x6.heap.size 0 0 1 3 (by simp) (by simp) (by simp) (by simp)).mono ?_
  clear h0 h1 h2 h3
  rintro e x7 ⟨rfl, C⟩
  have HC7 := Lib.hid C
  clear C
  have h0 := (HC7.out.mk HM.out).c0
  have h1 := (HC7.out.mk HM.out).c1
  have h2 := (HC7.out.mk HM.out).c2
  have h3 := (HC7.out.mk HM.out).c3
  go_wp2_with fail
  refine (op3_chain (HC7.out.quiet ((Mod.refl _ _).alloc _)) (by simp [takeCode, giveCode, joinCode, awayCode, eachCode, turnGo, waitGo, turnCode] <;> omega) 7 _ rfl x7.heap.size 6 0 0 3 (by simp) (by simp) (by simp) (by simp)).mono ?_
  clear h0 h1 h2 h3
  rintro e x8 ⟨rfl, C⟩
  have HC8 := Lib.hid C
  clear C
  have h0 := (HC8.out.mk HM.out).c0
  have h1 := (HC8.out.mk HM.out).c1
  have h2 := (HC8.out.mk HM.out).c2
  have h3 := (HC8.out.mk HM.out).c3
  go_wp2_with fail
  refine (to0_chain HC8.out (by simp [takeCode, giveCode, joinCode, awayCode, eachCode, turnGo, waitGo, turnCode] <;> omega) 16 _ rfl (s.data.toList ++ [46, 98]) _ (bytes_cat s _)).mono ?_
  clear h0 h1 h2 h3
  rintro e x9 ⟨rfl, C⟩
  have HC9 := Lib.hid C
  clear C
  have h0 := (HC9.out.mk HM.out).c0
  have h1 := (HC9.out.mk HM.out).c1
  have h2 := (HC9.out.mk HM.out).c2
  have h3 := (HC9.out.mk HM.out).c3
  go_wp2_with fail
  refine (label_chain HC9.out (by simp [takeCode, giveCode, joinCode, awayCode, eachCode, turnGo, waitGo, turnCode] <;> omega) (s.data.toList ++ [46, 97]) _ (bytes_cat s _)).mono ?_
  clear h0 h1 h2 h3
  rintro e x10 ⟨rfl, C⟩
  have HC10 := Lib.hid C
  clear C
  have h0 := (HC10.out.mk HM.out).c0
  have h1 := (HC10.out.mk HM.out).c1
  have h2 := (HC10.out.mk HM.out).c2
  have h3 := (HC10.out.mk HM.out).c3
  go_wp2_with fail
  refine (op3_chain (HC10.out.quiet ((Mod.refl _ _).alloc _)) (by simp [takeCode, giveCode, joinCode, awayCode, eachCode, turnGo, waitGo, turnCode] <;> omega) 6 _ rfl x10.heap.size 0 7 0 3 (by simp) (by simp) (by simp) (by simp)).mono ?_
  clear h0 h1 h2 h3
  rintro e x11 ⟨rfl, C⟩
  have HC11 := Lib.hid C
  clear C
  have h0 := (HC11.out.mk HM.out).c0
  have h1 := (HC11.out.mk HM.out).c1
  have h2 := (HC11.out.mk HM.out).c2
  have h3 := (HC11.out.mk HM.out).c3
  go_wp2_with fail
  refine (op3_chain (HC11.out.quiet ((Mod.refl _ _).alloc _)) (by simp [takeCode, giveCode, joinCode, awayCode, eachCode, turnGo, waitGo, turnCode] <;> omega) 7 _ rfl x11.heap.size 6 0 0 3 (by simp) (by simp) (by simp) (by simp)).mono ?_
  clear h0 h1 h2 h3
  rintro e x12 ⟨rfl, C⟩
  have HC12 := Lib.hid C
  clear C
  have h0 := (HC12.out.mk HM.out).c0
  have h1 := (HC12.out.mk HM.out).c1
  have h2 := (HC12.out.mk HM.out).c2
  have h3 := (HC12.out.mk HM.out).c3
  go_wp2_with fail
  refine (op0_chain HC12.out (by simp [takeCode, giveCode, joinCode, awayCode, eachCode, turnGo, waitGo, turnCode] <;> omega) 12 _ rfl).mono ?_
  clear h0 h1 h2 h3
  rintro e x13 ⟨rfl, C⟩
  have HC13 := Lib.hid C
  clear C
  have h0 := (HC13.out.mk HM.out).c0
  have h1 := (HC13.out.mk HM.out).c1
  have h2 := (HC13.out.mk HM.out).c2
  have h3 := (HC13.out.mk HM.out).c3
  go_wp2_with fail
  refine (label_chain HC13.out (by simp [takeCode, giveCode, joinCode, awayCode, eachCode, turnGo, waitGo, turnCode] <;> omega) (s.data.toList ++ [46, 98]) _ (bytes_cat s _)).mono ?_
  clear h0 h1 h2 h3
  rintro e x14 ⟨rfl, C⟩
  have HC14 := Lib.hid C
  clear C
  obtain ⟨v, ec, hv⟩ := HC14.out.made (w := w) (by simp [Value.ownBlock]) Hm.out hb
  have Hv := Lib.hid hv
  clear hv
  go_wp2
  go_ret2
  exact ⟨v, rfl, by rw [← genter4_eq]; simpa [List.append_assoc] using Hv.out⟩
set_option maxRecDepth 4000 in
set_option maxHeartbeats 8000000 in
theorem gleave4_ok (s : ByteArray) (w : World) (hn : nameB s.data.toList = true) (hs : s.size ≤ 4) :
    Calls Tryd.prog 121 #[.int .i64 4, .string s] w fun e w' => ∃ v, e = .returned (.tuple #[v, .nilIface]) ∧ Made (preC s.data.toList gc41) w v w' := by
  have Hn := Lib.hid hn
  clear hn
  go_enter Tryd.func121, Tryd.ntmps121
  go_wp2_with fail
  refine (begin4_ok s w Hn.out hs).mono ?_
  rintro e x0 ⟨b, rfl, hm, hb, E, M⟩
  have HC := Lib.hid (Chain.start E)
  have HM := Lib.hid M
  have Hm := Lib.hid hm
  clear hm E M
  have h0 := (HC.out.mk HM.out).c0
  have h1 := (HC.out.mk HM.out).c1
  have h2 := (HC.out.mk HM.out).c2
  have h3 := (HC.out.mk HM.out).c3
  go_wp2_with fail
  refine (op0_chain HC.out (by first | omega | simp) 12 _ rfl).mono ?_
  clear h0 h1 h2 h3
  rintro e x1 ⟨rfl, C⟩
  have HC1 := Lib.hid C
  clear C
  have h0 := (HC1.out.mk HM.out).c0
  have h1 := (HC1.out.mk HM.out).c1
  have h2 := (HC1.out.mk HM.out).c2
  have h3 := (HC1.out.mk HM.out).c3
  go_wp2_with fail
  refine (op3_chain (HC1.out.quiet ((Mod.refl _ _).alloc _)) (by simp [takeCode, giveCode, joinCode, awayCode, eachCode, turnGo, waitGo, turnCode] <;> omega) 6 _ rfl x1.heap.size 0 6 0 3 (by simp) (by simp) (by simp) (by simp)).mono ?_
  clear h0 h1 h2 h3
  rintro e x2 ⟨rfl, C⟩
  have HC2 := Lib.hid C
  clear C
  have h0 := (HC2.out.mk HM.out).c0
  have h1 := (HC2.out.mk HM.out).c1
  have h2 := (HC2.out.mk HM.out).c2
  have h3 := (HC2.out.mk HM.out).c3
  go_wp2_with fail
  refine (op2_chain (HC2.out.quiet ((Mod.refl _ _).alloc _)) (by simp [takeCode, giveCode, joinCode, awayCode, eachCode, turnGo, waitGo, turnCode] <;> omega) 0 _ rfl x2.heap.size 1 1 2 (by simp) (by simp) (by simp)).mono ?_
  clear h0 h1 h2 h3
  rintro e x3 ⟨rfl, C⟩
  have HC3 := Lib.hid C
  clear C
  have h0 := (HC3.out.mk HM.out).c0
  have h1 := (HC3.out.mk HM.out).c1
  have h2 := (HC3.out.mk HM.out).c2
  have h3 := (HC3.out.mk HM.out).c3
  go_wp2_with fail
  refine (op3_chain (HC3.out.quiet ((Mod.refl _ _).alloc _)) (by simp [takeCode, giveCode, joinCode, awayCode, eachCode, turnGo, waitGo, turnCode] <;> omega) 3 _ rfl x3.heap.size 0 0 1 3 (by simp) (by simp) (by simp) (by simp)).mono ?_
  clear h0 h1 h2 h3
  rintro e x4 ⟨rfl, C⟩
  have HC4 := Lib.hid C
  clear C
  have h0 := (HC4.out.mk HM.out).c0
  have h1 := (HC4.out.mk HM.out).c1
  have h2 := (HC4.out.mk HM.out).c2
  have h3 := (HC4.out.mk HM.out).c3
  go_wp2_with fail
  refine (op3_chain (HC4.out.quiet ((Mod.refl _ _).alloc _)) (by simp [takeCode, giveCode, joinCode, awayCode, eachCode, turnGo, waitGo, turnCode] <;> omega) 7 _ rfl x4.heap.size 6 0 0 3 (by simp) (by simp) (by simp) (by simp)).mono ?_
  clear h0 h1 h2 h3
  rintro e x5 ⟨rfl, C⟩
  have HC5 := Lib.hid C
  clear C
  obtain ⟨v, ec, hv⟩ := HC5.out.made (w := w) (by simp [Value.ownBlock]) Hm.out hb
  have Hv := Lib.hid hv
  clear hv
  go_wp2
  go_ret2
  exact ⟨v, rfl, by rw [← gleave4_eq]; simpa [List.append_assoc] using Hv.out⟩
set_option maxRecDepth 4000 in
set_option maxHeartbeats 8000000 in
theorem grest4_ok (s : ByteArray) (w : World) (hn : nameB s.data.toList = true) (hs : s.size ≤ 4) :
    Calls Tryd.prog 122 #[.int .i64 4, .string s] w fun e w' => ∃ v, e = .returned (.tuple #[v, .nilIface]) ∧ Made (preC s.data.toList gc42) w v w' := by
  have Hn := Lib.hid hn
  clear hn
  go_enter Tryd.func122, Tryd.ntmps122
  go_wp2_with fail
  refine (begin4_ok s w Hn.out hs).mono ?_
  rintro e x0 ⟨b, rfl, hm, hb, E, M⟩
  have h3 := M.c3
  have Hm := Lib.hid hm
  clear hm hb E M
  go_wp2
  go_ret2
  exact ⟨_, rfl, InsRow.nil _ _, Hm.out.toBelow, by simp [Value.ownBlock]⟩
set_option maxRecDepth 4000 in
set_option maxHeartbeats 8000000 in
theorem ggone4_ok (s : ByteArray) (w : World) (hn : nameB s.data.toList = true) (hs : s.size ≤ 4) :
    Calls Tryd.prog 123 #[.int .i64 4, .string s] w fun e w' => ∃ v, e = .returned (.tuple #[v, .nilIface]) ∧ Made (preC s.data.toList gc43) w v w' := by
  have Hn := Lib.hid hn
  clear hn
  go_enter Tryd.func123, Tryd.ntmps123
  go_wp2_with fail
  refine (begin4_ok s w Hn.out hs).mono ?_
  rintro e x0 ⟨b, rfl, hm, hb, E, M⟩
  have h3 := M.c3
  have Hm := Lib.hid hm
  clear hm hb E M
  go_wp2
  go_ret2
  exact ⟨_, rfl, InsRow.nil _ _, Hm.out.toBelow, by simp [Value.ownBlock]⟩
set_option maxRecDepth 4000 in
set_option maxHeartbeats 8000000 in
theorem gwait4_ok (s : ByteArray) (w : World) (hn : nameB s.data.toList = true) (hs : s.size ≤ 4) :
    Calls Tryd.prog 97 #[.int .i64 4, .string s] w fun e w' => ∃ v, e = .returned (.tuple #[v, .nilIface]) ∧ Made (preC s.data.toList gc44) w v w' := by
  have Hn := Lib.hid hn
  clear hn
  go_enter Tryd.func97, Tryd.ntmps97
  go_wp2_with fail
  refine (begin4_ok s _ Hn.out hs).mono ?_
  rintro e w1 ⟨b, rfl, hm, hb0, E, M⟩
  have hsw := hm.size
  have hlb := E.lt
  have hb1 : w.heap.size < b := by simp at hb0; omega
  have hp0 : w1.cell? ⟨w.heap.size, 0, none⟩ = some (.string s) := hm.cell (by simp) (fun e => e)
  have hq : Mod noF w1 (w1.alloc (.cells #[.pointer (some ⟨b, 0, none⟩)] 216)) := (Mod.refl _ _).alloc _
  have E1 := E.quiet hq
  have HC := Lib.hid (Chain.start E1)
  have HM := Lib.hid (M.quiet hq)
  have Hm := Lib.hid ((((Mod.refl noF w).alloc _).trans0 hm).trans0 hq)
  have Hv := Lib.hid E1.cell
  have hcp : w.heap.size < w1.heap.size := by simp at hsw; omega
  have hrow : ∀ (c : Nat) v, (w1.alloc (.cells #[.pointer (some ⟨b, 0, none⟩)] 216)).cell? ⟨b, 4, none⟩ = some v → v.ownBlock ≠ some c := fun c v h e => by
    rw [E1.cell] at h; cases h; cases e
  have HKm := Lib.hid (⟨by simp, by simp, by omega, hrow _⟩ : Cap (w1.alloc (.cells #[.pointer (some ⟨b, 0, none⟩)] 216)) b w1.heap.size (.pointer (some ⟨b, 0, none⟩)))
  have HKp := Lib.hid (⟨hq.cell hp0 (fun e => e), by simp; omega, by omega, hrow _⟩ : Cap (w1.alloc (.cells #[.pointer (some ⟨b, 0, none⟩)] 216)) b w.heap.size (.string s))
  have hb : w.heap.size ≤ b := by omega
  clear hm E M E1 hq hp0 hrow hsw hb0 hb1
  have h0 := (HC.out.mk HM.out).c0
  have h1 := (HC.out.mk HM.out).c1
  have h2 := (HC.out.mk HM.out).c2
  have h3 := (HC.out.mk HM.out).c3
  have hm := (HKm.out.next Hv.out HC.out).cell
  have hp := (HKp.out.next Hv.out HC.out).cell
  go_wp2
  clear h0 h1 h2 h3 hm hp
  go_wp2
  refine wp_region_held_drew (S := fun W => W.cell? ⟨w1.heap.size, 0, none⟩ = some (.pointer (some ⟨b, 0, none⟩)) ∧ W.cell? ⟨b, 0, none⟩ = some (.string (opStr 12))) (by kernel_rfl) ⟨(Mod.refl noF _).drew.cell (HKm.out.next Hv.out HC.out).cell (fun e => e), (Mod.refl noF _).drew.cell (HC.out.mk HM.out).c0 (fun e => e)⟩ (fun hHeld => ?_)
  refine wpAnyH_take (i := 0) (oi := ?o0x0) (v := ?v0x0) ?q0x0 (by kernel_rfl) ?f0x0 ?g0x0 ?p0x0 ?u0x0 (by assumption) ?r0x0
  case q0x0 => (rw [List.getElem?_toArray]; rfl)
  case f0x0 => kernel_rfl
  case g0x0 => kernel_rfl
  case p0x0 => exact (fun _ _ _ h => h)
  case u0x0 => (refine Or.inl ⟨by rfl, ?_⟩; intro w hSw; (try dsimp only at hSw); go_simp; (try rw [if_neg (by omega)]); try with_reducible rfl)
  try simp only [Act.put, List.setIfInBounds_toArray, List.set_cons_zero, List.set_cons_succ]
  refine wpAnyH_take (i := 1) (oi := ?o0x1) (v := ?v0x1) ?q0x1 (by kernel_rfl) ?f0x1 ?g0x1 ?p0x1 ?u0x1 (by assumption) ?r0x1
  case q0x1 => (rw [List.getElem?_toArray]; rfl)
  case f0x1 => kernel_rfl
  case g0x1 => kernel_rfl
  case p0x1 => exact (fun _ _ _ h => h)
  case u0x1 => (refine Or.inl ⟨by rfl, ?_⟩; intro w hSw; (try dsimp only at hSw); go_simp; (try rw [if_neg (by omega)]); try with_reducible rfl)
  try simp only [Act.put, List.setIfInBounds_toArray, List.set_cons_zero, List.set_cons_succ]
  refine wpAnyH_take (i := 2) (oi := ?o0x2) (v := ?v0x2) ?q0x2 (by kernel_rfl) ?f0x2 ?g0x2 ?p0x2 ?u0x2 (by assumption) ?r0x2
  case q0x2 => (rw [List.getElem?_toArray]; rfl)
  case f0x2 => kernel_rfl
  case g0x2 => kernel_rfl
  case p0x2 => exact (fun _ _ _ h => h)
  case u0x2 => (refine Or.inl ⟨by rfl, ?_⟩; intro w hSw; (try dsimp only at hSw); go_simp; (try rw [if_neg (by omega)]); try with_reducible rfl)
  try simp only [Act.put, List.setIfInBounds_toArray, List.set_cons_zero, List.set_cons_succ]
  refine wpAnyH_take (i := 3) (oi := ?o0x3) (v := ?v0x3) ?q0x3 (by kernel_rfl) ?f0x3 ?g0x3 ?p0x3 ?u0x3 (by assumption) ?r0x3
  case q0x3 => (rw [List.getElem?_toArray]; rfl)
  case f0x3 => kernel_rfl
  case g0x3 => kernel_rfl
  case p0x3 => exact (fun _ _ _ h => h)
  case u0x3 => (refine Or.inl ⟨by rfl, ?_⟩; intro w hSw; (try dsimp only at hSw); go_simp; (try rw [if_neg (by omega)]); try with_reducible rfl)
  try simp only [Act.put, List.setIfInBounds_toArray, List.set_cons_zero, List.set_cons_succ]
  refine wpAnyH_take (i := 4) (oi := ?o0x4) (v := ?v0x4) ?q0x4 (by kernel_rfl) ?f0x4 ?g0x4 ?p0x4 ?u0x4 (by assumption) ?r0x4
  case q0x4 => (rw [List.getElem?_toArray]; rfl)
  case f0x4 => kernel_rfl
  case g0x4 => kernel_rfl
  case p0x4 => exact (fun _ _ _ h => h)
  case u0x4 => (refine Or.inl ⟨by rfl, ?_⟩; intro w hSw; (try dsimp only at hSw); go_simp; (try rw [if_neg (by omega)]); try with_reducible rfl)
  try simp only [Act.put, List.setIfInBounds_toArray, List.set_cons_zero, List.set_cons_succ]
  refine wpAnyH_take (i := 5) (oi := ?o0x5) (v := ?v0x5) ?q0x5 (by kernel_rfl) ?f0x5 ?g0x5 ?p0x5 ?u0x5 (by assumption) ?r0x5
  case q0x5 => (rw [List.getElem?_toArray]; rfl)
  case f0x5 => kernel_rfl
  case g0x5 => kernel_rfl
  case p0x5 => exact (fun _ _ _ h => h)
  case u0x5 => (refine Or.inl ⟨by rfl, ?_⟩; intro w hSw; (try dsimp only at hSw); go_simp; (try rw [if_neg (by omega)]); try with_reducible rfl)
  try simp only [Act.put, List.setIfInBounds_toArray, List.set_cons_zero, List.set_cons_succ]
  refine wpAnyH_take (i := 6) (oi := ?o0x6) (v := ?v0x6) ?q0x6 (by kernel_rfl) ?f0x6 ?g0x6 ?p0x6 ?u0x6 (by assumption) ?r0x6
  case q0x6 => (rw [List.getElem?_toArray]; rfl)
  case f0x6 => kernel_rfl
  case g0x6 => kernel_rfl
  case p0x6 => exact (fun _ _ _ h => h)
  case u0x6 => (refine Or.inl ⟨by rfl, ?_⟩; intro w hSw; (try dsimp only at hSw); go_simp; (try rw [if_neg (by omega)]); try with_reducible rfl)
  try simp only [Act.put, List.setIfInBounds_toArray, List.set_cons_zero, List.set_cons_succ]
  refine wpAnyH_take (i := 7) (oi := ?o0x7) (v := ?v0x7) ?q0x7 (by kernel_rfl) ?f0x7 ?g0x7 ?p0x7 ?u0x7 (by assumption) ?r0x7
  case q0x7 => (rw [List.getElem?_toArray]; rfl)
  case f0x7 => kernel_rfl
  case g0x7 => kernel_rfl
  case p0x7 => exact (fun _ _ _ h => h)
  case u0x7 => (refine Or.inl ⟨by rfl, ?_⟩; intro w hSw; (try dsimp only at hSw); go_simp; (try rw [if_neg (by omega)]); try with_reducible rfl)
  try simp only [Act.put, List.setIfInBounds_toArray, List.set_cons_zero, List.set_cons_succ]
  refine em_spine (items := [⟨none, 8, 31⟩]) (E := [⟨12, [], [], 3, 30⟩]) (r0 := 25) (by kernel_rfl) (by kernel_rfl) (by kernel_rfl) (by rfl) ?lb1 (by rfl) (by rfl) ?len1 (fun w' l' C => ⟨(HKm.out.next Hv.out C).cell, (C.mk HM.out).c0⟩) (HC.out.quiet (Mod.refl _ _).drew) (by kernel_rfl) ?_
  case lb1 => (intro e he hk; simp only [List.mem_cons, List.not_mem_nil, or_false] at he; rcases he with rfl <;> (first | exact absurd rfl hk | exact congrArg Value.string (rfl)))
  case len1 => (first | (simp [takeCode, giveCode, joinCode, awayCode, eachCode, turnGo, waitGo, turnCode] <;> omega) | (simp <;> omega))
  intro U x1 C hU
  have u31 : U 31 = _ := hU 0 _ rfl
  simp only [spTmps, SpI.tmps, List.flatMap_cons, List.flatMap_nil, Option.map_some, Option.map_none, Option.toList_some, Option.toList_none, List.cons_append, List.nil_append, List.append_nil, patch, List.foldl_cons, List.foldl_nil, Act.put, List.setIfInBounds_toArray, List.set_cons_zero, List.set_cons_succ, u31]
  clear u31 hU hHeld
  simp only [List.map_cons, List.map_nil, EmC.ins, List.getD_cons_zero, List.getD_cons_succ, List.getD_nil] at C
  have HC1 := Lib.hid C
  clear C
  have h0 := (HC1.out.mk HM.out).c0
  have h1 := (HC1.out.mk HM.out).c1
  have h2 := (HC1.out.mk HM.out).c2
  have h3 := (HC1.out.mk HM.out).c3
  have hm := (HKm.out.next Hv.out HC1.out).cell
  have hp := (HKp.out.next Hv.out HC1.out).cell
  go_wp2_with fail
  clear h0 h1 h2 h3 hm hp
  have hg := gtake_chain HC1.out (HC1.out.mk HM.out) (by simp [takeCode, giveCode, joinCode, awayCode, eachCode, turnGo, waitGo, turnCode] <;> omega) Hn.out hs
  refine hg.mono ?_
  rintro e x2 ⟨rfl, C⟩
  have HC2 := Lib.hid C
  clear C hg
  have h0 := (HC2.out.mk HM.out).c0
  have h1 := (HC2.out.mk HM.out).c1
  have h2 := (HC2.out.mk HM.out).c2
  have h3 := (HC2.out.mk HM.out).c3
  have hm := (HKm.out.next Hv.out HC2.out).cell
  have hp := (HKp.out.next Hv.out HC2.out).cell
  go_wp2_with fail
  clear h0 h1 h2 h3 hm hp
  have hg := gturn_chain (s ++ ⟨#[46, 120]⟩) (size_plus2 s _ _ hs) 12 rfl HC2.out (HC2.out.mk HM.out) (by simp [takeCode, giveCode, joinCode, awayCode, eachCode, turnGo, waitGo, turnCode] <;> omega)
  refine hg.mono ?_
  rintro e x3 ⟨rfl, C⟩
  have HC3 := Lib.hid C
  clear C hg
  have h0 := (HC3.out.mk HM.out).c0
  have h1 := (HC3.out.mk HM.out).c1
  have h2 := (HC3.out.mk HM.out).c2
  have h3 := (HC3.out.mk HM.out).c3
  have hm := (HKm.out.next Hv.out HC3.out).cell
  have hp := (HKp.out.next Hv.out HC3.out).cell
  go_wp2_with fail
  clear h0 h1 h2 h3 hm hp
  have hg := gturn_chain (s ++ ⟨#[46, 121]⟩) (size_plus2 s _ _ hs) 12 rfl HC3.out (HC3.out.mk HM.out) (by simp [takeCode, giveCode, joinCode, awayCode, eachCode, turnGo, waitGo, turnCode] <;> omega)
  refine hg.mono ?_
  rintro e x4 ⟨rfl, C⟩
  have HC4 := Lib.hid C
  clear C hg
  go_wp2
  refine wp_region_held_drew (S := fun W => W.cell? ⟨w1.heap.size, 0, none⟩ = some (.pointer (some ⟨b, 0, none⟩)) ∧ W.cell? ⟨b, 0, none⟩ = some (.string (opStr 12))) (by kernel_rfl) ⟨(Mod.refl noF _).drew.cell (HKm.out.next Hv.out HC4.out).cell (fun e => e), (Mod.refl noF _).drew.cell (HC4.out.mk HM.out).c0 (fun e => e)⟩ (fun hHeld => ?_)
  refine wpAnyH_take (i := 0) (oi := ?o4x0) (v := ?v4x0) ?q4x0 (by kernel_rfl) ?f4x0 ?g4x0 ?p4x0 ?u4x0 (by assumption) ?r4x0
  case q4x0 => (rw [List.getElem?_toArray]; rfl)
  case f4x0 => kernel_rfl
  case g4x0 => kernel_rfl
  case p4x0 => exact (fun _ _ _ h => h)
  case u4x0 => (refine Or.inl ⟨by rfl, ?_⟩; intro w hSw; (try dsimp only at hSw); go_simp; (try rw [if_neg (by omega)]); try with_reducible rfl)
  try simp only [Act.put, List.setIfInBounds_toArray, List.set_cons_zero, List.set_cons_succ]
  refine wpAnyH_take (i := 1) (oi := ?o4x1) (v := ?v4x1) ?q4x1 (by kernel_rfl) ?f4x1 ?g4x1 ?p4x1 ?u4x1 (by assumption) ?r4x1
  case q4x1 => (rw [List.getElem?_toArray]; rfl)
  case f4x1 => kernel_rfl
  case g4x1 => kernel_rfl
  case p4x1 => exact (fun _ _ _ h => h)
  case u4x1 => (refine Or.inl ⟨by rfl, ?_⟩; intro w hSw; (try dsimp only at hSw); go_simp; (try rw [if_neg (by omega)]); try with_reducible rfl)
  try simp only [Act.put, List.setIfInBounds_toArray, List.set_cons_zero, List.set_cons_succ]
  refine wpAnyH_take (i := 2) (oi := ?o4x2) (v := ?v4x2) ?q4x2 (by kernel_rfl) ?f4x2 ?g4x2 ?p4x2 ?u4x2 (by assumption) ?r4x2
  case q4x2 => (rw [List.getElem?_toArray]; rfl)
  case f4x2 => kernel_rfl
  case g4x2 => kernel_rfl
  case p4x2 => exact (fun _ _ _ h => h)
  case u4x2 => (refine Or.inl ⟨by rfl, ?_⟩; intro w hSw; (try dsimp only at hSw); go_simp; (try rw [if_neg (by omega)]); try with_reducible rfl)
  try simp only [Act.put, List.setIfInBounds_toArray, List.set_cons_zero, List.set_cons_succ]
  refine wpAnyH_take (i := 3) (oi := ?o4x3) (v := ?v4x3) ?q4x3 (by kernel_rfl) ?f4x3 ?g4x3 ?p4x3 ?u4x3 (by assumption) ?r4x3
  case q4x3 => (rw [List.getElem?_toArray]; rfl)
  case f4x3 => kernel_rfl
  case g4x3 => kernel_rfl
  case p4x3 => exact (fun _ _ _ h => h)
  case u4x3 => (refine Or.inl ⟨by rfl, ?_⟩; intro w hSw; (try dsimp only at hSw); go_simp; (try rw [if_neg (by omega)]); try with_reducible rfl)
  try simp only [Act.put, List.setIfInBounds_toArray, List.set_cons_zero, List.set_cons_succ]
  refine wpAnyH_take (i := 4) (oi := ?o4x4) (v := ?v4x4) ?q4x4 (by kernel_rfl) ?f4x4 ?g4x4 ?p4x4 ?u4x4 (by assumption) ?r4x4
  case q4x4 => (rw [List.getElem?_toArray]; rfl)
  case f4x4 => kernel_rfl
  case g4x4 => kernel_rfl
  case p4x4 => exact (fun _ _ _ h => h)
  case u4x4 => (refine Or.inl ⟨by rfl, ?_⟩; intro w hSw; (try dsimp only at hSw); go_simp; (try rw [if_neg (by omega)]); try with_reducible rfl)
  try simp only [Act.put, List.setIfInBounds_toArray, List.set_cons_zero, List.set_cons_succ]
  refine wpAnyH_take (i := 5) (oi := ?o4x5) (v := ?v4x5) ?q4x5 (by kernel_rfl) ?f4x5 ?g4x5 ?p4x5 ?u4x5 (by assumption) ?r4x5
  case q4x5 => (rw [List.getElem?_toArray]; rfl)
  case f4x5 => kernel_rfl
  case g4x5 => kernel_rfl
  case p4x5 => exact (fun _ _ _ h => h)
  case u4x5 => (refine Or.inl ⟨by rfl, ?_⟩; intro w hSw; (try dsimp only at hSw); go_simp; (try rw [if_neg (by omega)]); try with_reducible rfl)
  try simp only [Act.put, List.setIfInBounds_toArray, List.set_cons_zero, List.set_cons_succ]
  refine wpAnyH_take (i := 6) (oi := ?o4x6) (v := ?v4x6) ?q4x6 (by kernel_rfl) ?f4x6 ?g4x6 ?p4x6 ?u4x6 (by assumption) ?r4x6
  case q4x6 => (rw [List.getElem?_toArray]; rfl)
  case f4x6 => kernel_rfl
  case g4x6 => kernel_rfl
  case p4x6 => exact (fun _ _ _ h => h)
  case u4x6 => (refine Or.inl ⟨by rfl, ?_⟩; intro w hSw; (try dsimp only at hSw); go_simp; (try rw [if_neg (by omega)]); try with_reducible rfl)
  try simp only [Act.put, List.setIfInBounds_toArray, List.set_cons_zero, List.set_cons_succ]
  refine wpAnyH_take (i := 7) (oi := ?o4x7) (v := ?v4x7) ?q4x7 (by kernel_rfl) ?f4x7 ?g4x7 ?p4x7 ?u4x7 (by assumption) ?r4x7
  case q4x7 => (rw [List.getElem?_toArray]; rfl)
  case f4x7 => kernel_rfl
  case g4x7 => kernel_rfl
  case p4x7 => exact (fun _ _ _ h => h)
  case u4x7 => (refine Or.inl ⟨by rfl, ?_⟩; intro w hSw; (try dsimp only at hSw); go_simp; (try rw [if_neg (by omega)]); try with_reducible rfl)
  try simp only [Act.put, List.setIfInBounds_toArray, List.set_cons_zero, List.set_cons_succ]
  refine em_spine (items := [⟨none, 8, 50⟩]) (E := [⟨12, [], [], 3, 49⟩]) (r0 := 44) (by kernel_rfl) (by kernel_rfl) (by kernel_rfl) (by rfl) ?lb5 (by rfl) (by rfl) ?len5 (fun w' l' C => ⟨(HKm.out.next Hv.out C).cell, (C.mk HM.out).c0⟩) (HC4.out.quiet (Mod.refl _ _).drew) (by kernel_rfl) ?_
  case lb5 => (intro e he hk; simp only [List.mem_cons, List.not_mem_nil, or_false] at he; rcases he with rfl <;> (first | exact absurd rfl hk | exact congrArg Value.string (rfl)))
  case len5 => (first | (simp [takeCode, giveCode, joinCode, awayCode, eachCode, turnGo, waitGo, turnCode] <;> omega) | (simp <;> omega))
  intro U x5 C hU
  have u50 : U 50 = _ := hU 0 _ rfl
  simp only [spTmps, SpI.tmps, List.flatMap_cons, List.flatMap_nil, Option.map_some, Option.map_none, Option.toList_some, Option.toList_none, List.cons_append, List.nil_append, List.append_nil, patch, List.foldl_cons, List.foldl_nil, Act.put, List.setIfInBounds_toArray, List.set_cons_zero, List.set_cons_succ, u50]
  clear u50 hU hHeld
  simp only [List.map_cons, List.map_nil, EmC.ins, List.getD_cons_zero, List.getD_cons_succ, List.getD_nil] at C
  have HC5 := Lib.hid C
  clear C
  have h0 := (HC5.out.mk HM.out).c0
  have h1 := (HC5.out.mk HM.out).c1
  have h2 := (HC5.out.mk HM.out).c2
  have h3 := (HC5.out.mk HM.out).c3
  have hm := (HKm.out.next Hv.out HC5.out).cell
  have hp := (HKp.out.next Hv.out HC5.out).cell
  go_wp2_with fail
  clear h0 h1 h2 h3 hm hp
  have hg := ggive_chain HC5.out (HC5.out.mk HM.out) (by simp [takeCode, giveCode, joinCode, awayCode, eachCode, turnGo, waitGo, turnCode] <;> omega) Hn.out hs
  refine hg.mono ?_
  rintro e x6 ⟨rfl, C⟩
  have HC6 := Lib.hid C
  clear C hg
  have h0 := (HC6.out.mk HM.out).c0
  have h1 := (HC6.out.mk HM.out).c1
  have h2 := (HC6.out.mk HM.out).c2
  have h3 := (HC6.out.mk HM.out).c3
  have hm := (HKm.out.next Hv.out HC6.out).cell
  have hp := (HKp.out.next Hv.out HC6.out).cell
  obtain ⟨v, ec, hv⟩ := HC6.out.made (w := w) (by simp [Value.ownBlock]) Hm.out hb
  have Hv := Lib.hid hv
  clear hv
  go_wp2
  go_ret2
  exact ⟨v, rfl, by rw [← gwait4_eq]; simpa [List.append_assoc] using Hv.out⟩
end Go.Proofs.YtamfbfajlfbooaaDoor
end
/- package grace: its parts, by flavour and number; where it has none. -/
section
namespace Go.Proofs.YtamfbfajlfbooaaDoor
open Go.RowKit Qs Qh
variable {w0 w w1 : World} {b o : Nat} {v0 : Value} {l : List Instr} {br s : ByteArray} {fe jo co : Bool} {u : Value} {c : Nat}
theorem gcode_all : ((List.range 5).all fun f => (List.range 5).all fun k => preOk (gcode f k) && decide ((gcode f k).length ≤ 70) && (List.range 8).all fun i => decide (i < 3) || !(writtenL (gcode f k)).getD i false) = true := by decide +kernel
theorem gcode_ok {f k : Nat} (hf : f < 5) (hk : k < 5) : preOk (gcode f k) = true ∧ (gcode f k).length ≤ 70 ∧ ∀ i, 3 ≤ i → i < 8 → (writtenL (gcode f k)).getD i false = false := by
  have h := List.all_eq_true.1 (List.all_eq_true.1 gcode_all f (List.mem_range.2 hf)) k (List.mem_range.2 hk)
  simp only [Bool.and_eq_true, decide_eq_true_eq, List.all_eq_true, Bool.or_eq_true, List.mem_range] at h
  obtain ⟨⟨h1, h2⟩, h3⟩ := h
  refine ⟨h1, h2, fun i hi h8 => ?_⟩
  have := h3 i h8
  simp at this
  rcases this with h | h
  · omega
  · simpa using h
theorem parts10 (s : ByteArray) (w : World) (hn : nameB s.data.toList = true) (hs : s.size ≤ 4) :
    Calls Tryd.prog 80 #[.int .i64 1, .string s, .int .i64 0] w fun e w' => ∃ v, e = .returned (.tuple #[v, .nilIface]) ∧ Made (preC s.data.toList gc10) w v w' := by
  have Hn := Lib.hid hn
  clear hn
  go_enter Tryd.func80, Tryd.ntmps80
  go_wp2_with fail
  refine (genter1_ok s w Hn.out hs).mono ?_
  rintro e x1 ⟨v, rfl, hv⟩
  have Hv := Lib.hid hv
  clear hv
  go_wp2
  go_ret2
  exact ⟨v, rfl, Hv.out⟩
theorem parts11 (s : ByteArray) (w : World) (hn : nameB s.data.toList = true) (hs : s.size ≤ 4) :
    Calls Tryd.prog 80 #[.int .i64 1, .string s, .int .i64 1] w fun e w' => ∃ v, e = .returned (.tuple #[v, .nilIface]) ∧ Made (preC s.data.toList gc11) w v w' := by
  have Hn := Lib.hid hn
  clear hn
  go_enter Tryd.func80, Tryd.ntmps80
  go_wp2_with fail
  refine (gleave1_ok s w Hn.out hs).mono ?_
  rintro e x1 ⟨v, rfl, hv⟩
  have Hv := Lib.hid hv
  clear hv
  go_wp2
  go_ret2
  exact ⟨v, rfl, Hv.out⟩
theorem parts12 (s : ByteArray) (w : World) (hn : nameB s.data.toList = true) (hs : s.size ≤ 4) :
    Calls Tryd.prog 80 #[.int .i64 1, .string s, .int .i64 2] w fun e w' => ∃ v, e = .returned (.tuple #[v, .nilIface]) ∧ Made (preC s.data.toList gc12) w v w' := by
  have Hn := Lib.hid hn
  clear hn
  go_enter Tryd.func80, Tryd.ntmps80
  go_wp2_with fail
  refine (grest1_ok s w Hn.out hs).mono ?_
  rintro e x1 ⟨v, rfl, hv⟩
  have Hv := Lib.hid hv
  clear hv
  go_wp2
  go_ret2
  exact ⟨v, rfl, Hv.out⟩
theorem parts13 (s : ByteArray) (w : World) (hn : nameB s.data.toList = true) (hs : s.size ≤ 4) :
    Calls Tryd.prog 80 #[.int .i64 1, .string s, .int .i64 3] w fun e w' => ∃ v, e = .returned (.tuple #[v, .nilIface]) ∧ Made (preC s.data.toList gc13) w v w' := by
  have Hn := Lib.hid hn
  clear hn
  go_enter Tryd.func80, Tryd.ntmps80
  go_wp2_with fail
  refine (ggone1_ok s w Hn.out hs).mono ?_
  rintro e x1 ⟨v, rfl, hv⟩
  have Hv := Lib.hid hv
  clear hv
  go_wp2
  go_ret2
  exact ⟨v, rfl, Hv.out⟩
theorem parts14 (s : ByteArray) (w : World) (hn : nameB s.data.toList = true) (hs : s.size ≤ 4) :
    Calls Tryd.prog 80 #[.int .i64 1, .string s, .int .i64 4] w fun e w' => ∃ v, e = .returned (.tuple #[v, .nilIface]) ∧ Made (preC s.data.toList gc14) w v w' := by
  have Hn := Lib.hid hn
  clear hn
  go_enter Tryd.func80, Tryd.ntmps80
  go_wp2_with fail
  refine (gwait1_ok s w Hn.out hs).mono ?_
  rintro e x1 ⟨v, rfl, hv⟩
  have Hv := Lib.hid hv
  clear hv
  go_wp2
  go_ret2
  exact ⟨v, rfl, Hv.out⟩
theorem parts20 (s : ByteArray) (w : World) (hn : nameB s.data.toList = true) (hs : s.size ≤ 4) :
    Calls Tryd.prog 80 #[.int .i64 2, .string s, .int .i64 0] w fun e w' => ∃ v, e = .returned (.tuple #[v, .nilIface]) ∧ Made (preC s.data.toList gc20) w v w' := by
  have Hn := Lib.hid hn
  clear hn
  go_enter Tryd.func80, Tryd.ntmps80
  go_wp2_with fail
  refine (genter2_ok s w Hn.out hs).mono ?_
  rintro e x1 ⟨v, rfl, hv⟩
  have Hv := Lib.hid hv
  clear hv
  go_wp2
  go_ret2
  exact ⟨v, rfl, Hv.out⟩
theorem parts21 (s : ByteArray) (w : World) (hn : nameB s.data.toList = true) (hs : s.size ≤ 4) :
    Calls Tryd.prog 80 #[.int .i64 2, .string s, .int .i64 1] w fun e w' => ∃ v, e = .returned (.tuple #[v, .nilIface]) ∧ Made (preC s.data.toList gc21) w v w' := by
  have Hn := Lib.hid hn
  clear hn
  go_enter Tryd.func80, Tryd.ntmps80
  go_wp2_with fail
  refine (gleave2_ok s w Hn.out hs).mono ?_
  rintro e x1 ⟨v, rfl, hv⟩
  have Hv := Lib.hid hv
  clear hv
  go_wp2
  go_ret2
  exact ⟨v, rfl, Hv.out⟩
theorem parts22 (s : ByteArray) (w : World) (hn : nameB s.data.toList = true) (hs : s.size ≤ 4) :
    Calls Tryd.prog 80 #[.int .i64 2, .string s, .int .i64 2] w fun e w' => ∃ v, e = .returned (.tuple #[v, .nilIface]) ∧ Made (preC s.data.toList gc22) w v w' := by
  have Hn := Lib.hid hn
  clear hn
  go_enter Tryd.func80, Tryd.ntmps80
  go_wp2_with fail
  refine (grest2_ok s w Hn.out hs).mono ?_
  rintro e x1 ⟨v, rfl, hv⟩
  have Hv := Lib.hid hv
  clear hv
  go_wp2
  go_ret2
  exact ⟨v, rfl, Hv.out⟩
theorem parts23 (s : ByteArray) (w : World) (hn : nameB s.data.toList = true) (hs : s.size ≤ 4) :
    Calls Tryd.prog 80 #[.int .i64 2, .string s, .int .i64 3] w fun e w' => ∃ v, e = .returned (.tuple #[v, .nilIface]) ∧ Made (preC s.data.toList gc23) w v w' := by
  have Hn := Lib.hid hn
  clear hn
  go_enter Tryd.func80, Tryd.ntmps80
  go_wp2_with fail
  refine (ggone2_ok s w Hn.out hs).mono ?_
  rintro e x1 ⟨v, rfl, hv⟩
  have Hv := Lib.hid hv
  clear hv
  go_wp2
  go_ret2
  exact ⟨v, rfl, Hv.out⟩
theorem parts24 (s : ByteArray) (w : World) (hn : nameB s.data.toList = true) (hs : s.size ≤ 4) :
    Calls Tryd.prog 80 #[.int .i64 2, .string s, .int .i64 4] w fun e w' => ∃ v, e = .returned (.tuple #[v, .nilIface]) ∧ Made (preC s.data.toList gc24) w v w' := by
  have Hn := Lib.hid hn
  clear hn
  go_enter Tryd.func80, Tryd.ntmps80
  go_wp2_with fail
  refine (gwait2_ok s w Hn.out hs).mono ?_
  rintro e x1 ⟨v, rfl, hv⟩
  have Hv := Lib.hid hv
  clear hv
  go_wp2
  go_ret2
  exact ⟨v, rfl, Hv.out⟩
theorem parts30 (s : ByteArray) (w : World) (hn : nameB s.data.toList = true) (hs : s.size ≤ 4) :
    Calls Tryd.prog 80 #[.int .i64 3, .string s, .int .i64 0] w fun e w' => ∃ v, e = .returned (.tuple #[v, .nilIface]) ∧ Made (preC s.data.toList gc30) w v w' := by
  have Hn := Lib.hid hn
  clear hn
  go_enter Tryd.func80, Tryd.ntmps80
  go_wp2_with fail
  refine (genter3_ok s w Hn.out hs).mono ?_
  rintro e x1 ⟨v, rfl, hv⟩
  have Hv := Lib.hid hv
  clear hv
  go_wp2
  go_ret2
  exact ⟨v, rfl, Hv.out⟩
theorem parts31 (s : ByteArray) (w : World) (hn : nameB s.data.toList = true) (hs : s.size ≤ 4) :
    Calls Tryd.prog 80 #[.int .i64 3, .string s, .int .i64 1] w fun e w' => ∃ v, e = .returned (.tuple #[v, .nilIface]) ∧ Made (preC s.data.toList gc31) w v w' := by
  have Hn := Lib.hid hn
  clear hn
  go_enter Tryd.func80, Tryd.ntmps80
  go_wp2_with fail
  refine (gleave3_ok s w Hn.out hs).mono ?_
  rintro e x1 ⟨v, rfl, hv⟩
  have Hv := Lib.hid hv
  clear hv
  go_wp2
  go_ret2
  exact ⟨v, rfl, Hv.out⟩
theorem parts32 (s : ByteArray) (w : World) (hn : nameB s.data.toList = true) (hs : s.size ≤ 4) :
    Calls Tryd.prog 80 #[.int .i64 3, .string s, .int .i64 2] w fun e w' => ∃ v, e = .returned (.tuple #[v, .nilIface]) ∧ Made (preC s.data.toList gc32) w v w' := by
  have Hn := Lib.hid hn
  clear hn
  go_enter Tryd.func80, Tryd.ntmps80
  go_wp2_with fail
  refine (grest3_ok s w Hn.out hs).mono ?_
  rintro e x1 ⟨v, rfl, hv⟩
  have Hv := Lib.hid hv
  clear hv
  go_wp2
  go_ret2
  exact ⟨v, rfl, Hv.out⟩
theorem parts33 (s : ByteArray) (w : World) (hn : nameB s.data.toList = true) (hs : s.size ≤ 4) :
    Calls Tryd.prog 80 #[.int .i64 3, .string s, .int .i64 3] w fun e w' => ∃ v, e = .returned (.tuple #[v, .nilIface]) ∧ Made (preC s.data.toList gc33) w v w' := by
  have Hn := Lib.hid hn
  clear hn
  go_enter Tryd.func80, Tryd.ntmps80
  go_wp2_with fail
  refine (ggone3_ok s w Hn.out hs).mono ?_
  rintro e x1 ⟨v, rfl, hv⟩
  have Hv := Lib.hid hv
  clear hv
  go_wp2
  go_ret2
  exact ⟨v, rfl, Hv.out⟩
theorem parts34 (s : ByteArray) (w : World) (hn : nameB s.data.toList = true) (hs : s.size ≤ 4) :
    Calls Tryd.prog 80 #[.int .i64 3, .string s, .int .i64 4] w fun e w' => ∃ v, e = .returned (.tuple #[v, .nilIface]) ∧ Made (preC s.data.toList gc34) w v w' := by
  have Hn := Lib.hid hn
  clear hn
  go_enter Tryd.func80, Tryd.ntmps80
  go_wp2_with fail
  refine (gwait3_ok s w Hn.out hs).mono ?_
  rintro e x1 ⟨v, rfl, hv⟩
  have Hv := Lib.hid hv
  clear hv
  go_wp2
  go_ret2
  exact ⟨v, rfl, Hv.out⟩
theorem parts40 (s : ByteArray) (w : World) (hn : nameB s.data.toList = true) (hs : s.size ≤ 4) :
    Calls Tryd.prog 80 #[.int .i64 4, .string s, .int .i64 0] w fun e w' => ∃ v, e = .returned (.tuple #[v, .nilIface]) ∧ Made (preC s.data.toList gc40) w v w' := by
  have Hn := Lib.hid hn
  clear hn
  go_enter Tryd.func80, Tryd.ntmps80
  go_wp2_with fail
  refine (genter4_ok s w Hn.out hs).mono ?_
  rintro e x1 ⟨v, rfl, hv⟩
  have Hv := Lib.hid hv
  clear hv
  go_wp2
  go_ret2
  exact ⟨v, rfl, Hv.out⟩
theorem parts41 (s : ByteArray) (w : World) (hn : nameB s.data.toList = true) (hs : s.size ≤ 4) :
    Calls Tryd.prog 80 #[.int .i64 4, .string s, .int .i64 1] w fun e w' => ∃ v, e = .returned (.tuple #[v, .nilIface]) ∧ Made (preC s.data.toList gc41) w v w' := by
  have Hn := Lib.hid hn
  clear hn
  go_enter Tryd.func80, Tryd.ntmps80
  go_wp2_with fail
  refine (gleave4_ok s w Hn.out hs).mono ?_
  rintro e x1 ⟨v, rfl, hv⟩
  have Hv := Lib.hid hv
  clear hv
  go_wp2
  go_ret2
  exact ⟨v, rfl, Hv.out⟩
theorem parts42 (s : ByteArray) (w : World) (hn : nameB s.data.toList = true) (hs : s.size ≤ 4) :
    Calls Tryd.prog 80 #[.int .i64 4, .string s, .int .i64 2] w fun e w' => ∃ v, e = .returned (.tuple #[v, .nilIface]) ∧ Made (preC s.data.toList gc42) w v w' := by
  have Hn := Lib.hid hn
  clear hn
  go_enter Tryd.func80, Tryd.ntmps80
  go_wp2_with fail
  refine (grest4_ok s w Hn.out hs).mono ?_
  rintro e x1 ⟨v, rfl, hv⟩
  have Hv := Lib.hid hv
  clear hv
  go_wp2
  go_ret2
  exact ⟨v, rfl, Hv.out⟩
theorem parts43 (s : ByteArray) (w : World) (hn : nameB s.data.toList = true) (hs : s.size ≤ 4) :
    Calls Tryd.prog 80 #[.int .i64 4, .string s, .int .i64 3] w fun e w' => ∃ v, e = .returned (.tuple #[v, .nilIface]) ∧ Made (preC s.data.toList gc43) w v w' := by
  have Hn := Lib.hid hn
  clear hn
  go_enter Tryd.func80, Tryd.ntmps80
  go_wp2_with fail
  refine (ggone4_ok s w Hn.out hs).mono ?_
  rintro e x1 ⟨v, rfl, hv⟩
  have Hv := Lib.hid hv
  clear hv
  go_wp2
  go_ret2
  exact ⟨v, rfl, Hv.out⟩
theorem parts44 (s : ByteArray) (w : World) (hn : nameB s.data.toList = true) (hs : s.size ≤ 4) :
    Calls Tryd.prog 80 #[.int .i64 4, .string s, .int .i64 4] w fun e w' => ∃ v, e = .returned (.tuple #[v, .nilIface]) ∧ Made (preC s.data.toList gc44) w v w' := by
  have Hn := Lib.hid hn
  clear hn
  go_enter Tryd.func80, Tryd.ntmps80
  go_wp2_with fail
  refine (gwait4_ok s w Hn.out hs).mono ?_
  rintro e x1 ⟨v, rfl, hv⟩
  have Hv := Lib.hid hv
  clear hv
  go_wp2
  go_ret2
  exact ⟨v, rfl, Hv.out⟩
theorem parts_good {f k : Nat} (h1 : 1 ≤ f) (h4 : f ≤ 4) (hk : k < 5) (s : ByteArray) (w : World) (hn : nameB s.data.toList = true) (hs : s.size ≤ 4) :
    Calls Tryd.prog 80 #[.int .i64 f, .string s, .int .i64 k] w fun e w' => ∃ v, e = .returned (.tuple #[v, .nilIface]) ∧ Made (preC s.data.toList (gcode f k)) w v w' := by
  match f, h1, h4, k, hk with
  | 1, _, _, 0, _ => exact parts10 s w hn hs
  | 1, _, _, 1, _ => exact parts11 s w hn hs
  | 1, _, _, 2, _ => exact parts12 s w hn hs
  | 1, _, _, 3, _ => exact parts13 s w hn hs
  | 1, _, _, 4, _ => exact parts14 s w hn hs
  | 2, _, _, 0, _ => exact parts20 s w hn hs
  | 2, _, _, 1, _ => exact parts21 s w hn hs
  | 2, _, _, 2, _ => exact parts22 s w hn hs
  | 2, _, _, 3, _ => exact parts23 s w hn hs
  | 2, _, _, 4, _ => exact parts24 s w hn hs
  | 3, _, _, 0, _ => exact parts30 s w hn hs
  | 3, _, _, 1, _ => exact parts31 s w hn hs
  | 3, _, _, 2, _ => exact parts32 s w hn hs
  | 3, _, _, 3, _ => exact parts33 s w hn hs
  | 3, _, _, 4, _ => exact parts34 s w hn hs
  | 4, _, _, 0, _ => exact parts40 s w hn hs
  | 4, _, _, 1, _ => exact parts41 s w hn hs
  | 4, _, _, 2, _ => exact parts42 s w hn hs
  | 4, _, _, 3, _ => exact parts43 s w hn hs
  | 4, _, _, 4, _ => exact parts44 s w hn hs
end Go.Proofs.YtamfbfajlfbooaaDoor
end
/- quiescentlaw2.add: a part's code behind the code so far. -/
section
namespace Go.Proofs.YtamfbfajlfbooaaDoor
open Go.RowKit Qs Qh
/-- Code of one's own that grows: it is new, or where it was. -/
structure Own (W w : World) (v : Value) (l : List Instr) : Prop where
  row : InsRow insT w v l
  below : Below W.heap.size W w
  own : ∀ g, v.ownBlock = some g → W.heap.size ≤ g
theorem Own.start (W : World) : Own W W (.slice none 0 0) [] := ⟨InsRow.nil _ _, Below.refl _ _, fun g h => by cases h⟩
theorem Own.quiet {W w w' : World} {v : Value} {l : List Instr} (h : Own W w v l) (hq : Mod noF w w') : Own W w' v l :=
  ⟨h.row.keep hq (fun _ _ e => e), h.below.trans (hq.toBelow.mono h.below.size), h.own⟩
theorem Own.append {W w w1 w2 : World} {v v1 : Value} {l x : List Instr} (h : Own W w v l) (hq : Mod noF w w1)
    (hown2 : w2.ownsRow 0 insT 5 v1 (l.length + x.length) (flat insV 0 l ++ flat insV 0 x)) (hg : w1.grownBy w2 v.ownBlock) (hfr : ∀ g, v1.ownBlock = some g → v.ownBlock = some g ∨ w1.heap.size ≤ g) : Own W w2 v1 (l ++ x) := by
  have hm := appended hg hq
  have hsz := h.below.size
  have hsz1 := hq.size
  refine ⟨by unfold InsRow; rw [List.length_append, insV_append]; exact hown2, h.below.trans (hm.under hsz fun k hk => h.own k hk), fun g hg' => ?_⟩
  rcases hfr g hg' with e | e
  · exact h.own g e
  · omega
/-- The first bytes of a part's labels. -/
def qn (at_ : Nat) : List UInt8 := [113, digB (at_ / 10), digB (at_ % 10)]
theorem digB_ok {k : Nat} (h : k < 10) : chB (digB k) = true := by
  rcases (by omega : k = 0 ∨ k = 1 ∨ k = 2 ∨ k = 3 ∨ k = 4 ∨ k = 5 ∨ k = 6 ∨ k = 7 ∨ k = 8 ∨ k = 9) with rfl | rfl | rfl | rfl | rfl | rfl | rfl | rfl | rfl | rfl <;> decide
theorem qn_name {a : Nat} (h : a < 100) : nameB (qn a) = true := by
  have h1 := digB_ok (k := a / 10) (by omega)
  have h2 := digB_ok (k := a % 10) (by omega)
  simp [qn, nameB, h1, h2]
  decide
theorem qn_bytes (x y : UInt8) : ((⟨#[113]⟩ : ByteArray) ++ ⟨#[x]⟩ ++ ⟨#[y]⟩).data.toList = [113, x, y] := by simp
theorem qn_size (x y : UInt8) : ((⟨#[113]⟩ : ByteArray) ++ ⟨#[x]⟩ ++ ⟨#[y]⟩).size ≤ 4 := by
  rw [← bytes_len, qn_bytes]; simp
theorem InsRow.src2 {w : World} {v : Value} {l : List Instr} (h : InsRow insT w v l) : (v = .slice none 0 0 ∧ l = []) ∨ ∃ g c, v = .slice (some ⟨g, 0, none⟩) l.length c ∧ ∀ j u, (flat insV 0 l)[j]? = some u → w.cell? ((⟨g, 0, none⟩ : Addr).add j) = some u := by
  rcases h.2 with ⟨rfl, h0⟩ | ⟨g, cap, cur, rfl, _, hg, _⟩
  · exact .inl ⟨rfl, List.length_eq_zero_iff.1 h0⟩
  · exact .inr ⟨g, cap, rfl, World.ownsRow.cells h (g := g) rfl⟩
theorem step_append_none {P : Program} {w : World} {ops : Array Oper} {o : Oper} {a : Act} {K : Act → World → Prop} {Q : Exit → Act → World → Prop} {E : Prop} (hgd : o.guard = none) (s x : Operand) (t : TypeId)
    (ho : o.op = .call { callee := .builtin .append, args := #[s, x], argTypes := #[t, t] })
    (base : Nat) (e : TypeId) (i : TypeInfo) (size : Nat) (ht : P.underlying t = some (.slice e)) (hi : P.info? e = some i)
    (v : Value) (n : Nat) (xs : List Value) (hs : a.eval s = v) (hown : w.ownsRow base e size v n xs) (hx : a.eval x = .slice none 0 0)
    (h : K (a.put o.dst v) w) : if Region.wanted o (yielded ops a.tmps) = true then Oper.wp P o a w K Q else E := by
  have hw : Region.wanted o (yielded ops a.tmps) = true := by simp [Region.wanted, hgd]
  rw [if_pos hw]
  have hrun := run_append_owned_none (P := P) (w := w) base t o.type e i size ht hi v n xs hown
  unfold Oper.wp
  simp [execOp, ho, resolve, invoke, builtin, hs, hx, hrun, Result.andThen]
  exact h
set_option maxHeartbeats 4000000 in
theorem add_ok {f k a : Nat} (h1 : 1 ≤ f) (h4 : f ≤ 4) (hk : k < 5) (ha : a < 100) {W w : World} {v : Value} {l : List Instr} (E : Own W w v l) (hlen : l.length ≤ 1000) :
    Calls Tryd.prog 145 #[v, .int .i64 f, .int .i64 k, .int .i64 a] w fun e w' => ∃ v', e = .returned (.tuple #[v', .bool true]) ∧ Own W w' v' (l ++ preC (qn a) (gcode f k)) := by
  have HE := Lib.hid E
  obtain ⟨i0, hi, hz0, hz1, hz2⟩ := info_parts insInfo
  have hcl : (preC (qn a) (gcode f k)).length ≤ 70 := by rw [preC_len]; exact (gcode_ok (by omega) hk).2.1
  have hpg := fun w2 : World => parts_good h1 h4 hk (⟨#[113]⟩ ++ ⟨#[digB (a / 10)]⟩ ++ ⟨#[digB (a % 10)]⟩) w2 (by rw [qn_bytes]; exact qn_name ha) (qn_size _ _)
  rw [qn_bytes, show preC [113, digB (a / 10), digB (a % 10)] (gcode f k) = preC (qn a) (gcode f k) from rfl] at hpg
  generalize preC (qn a) (gcode f k) = c at hpg hcl ⊢
  have Hpg := Lib.hid hpg
  clear E hpg
  go_enter Tryd.func145, Tryd.ntmps145
  go_wp2_with fail
  rw [show ((a : Int) / 10) = ((a / 10 : Nat) : Int) from by omega]
  refine (decimal_digit (a / 10) _ (by omega)).mono ?_
  rintro e w1 ⟨rfl, hm1⟩
  have HE1 := Lib.hid (HE.out.quiet hm1)
  clear hm1 HE
  go_wp2_with fail
  rw [show ((a : Int) % 10) = ((a % 10 : Nat) : Int) from by omega]
  refine (decimal_digit (a % 10) _ (by omega)).mono ?_
  rintro e w2 ⟨rfl, hm2⟩
  have HE2 := Lib.hid (HE1.out.quiet hm2)
  clear hm2 HE1
  go_wp2_with fail
  refine (Hpg.out w2).mono ?_
  rintro e w3 ⟨x, rfl, hx⟩
  have HE3 := Lib.hid (HE2.out.quiet (Mod.below hx.2.1))
  have hsrc := InsRow.src2 hx.1
  clear hx HE2 Hpg
  rcases hsrc with ⟨rfl, rfl⟩ | ⟨g, cc, rfl, hs⟩
  · obtain ⟨va, vc, rfl, -, -⟩ := HE3.out.row.slice
    go_wp2
    go_region_law (refine step_append_none rfl (.tmp 26) (.tmp 27) 28 rfl 0 124 i0 5 Tryd.underlying28 hi _ l.length (flat insV 0 l) rfl (by first | exact HE3.out.row | exact World.ownsRow.drew HE3.out.row) rfl ?_)
    all_goals
      go_wp2
      go_ret2
      exact ⟨.slice va l.length vc, rfl, by rw [List.append_nil]; first | exact HE3.out | exact HE3.out.quiet (Mod.refl _ _).drew⟩
  · obtain ⟨va, vc, rfl, -, -⟩ := HE3.out.row.slice
    have Hs := Lib.hid hs
    clear hs
    go_wp2
    go_region_law (refine step_append_mine _ rfl (.tmp 26) (.tmp 27) 28 rfl 124 i0 (.agg #[.string ⟨#[]⟩, .int .i64 0, .int .i64 0, .int .i64 0, .string ⟨#[]⟩]) 5 56 Tryd.underlying28 hi hz0 hz1 hz2 rfl (by decide) _ l.length (flat insV 0 l) rfl (by first | exact HE3.out.row | exact World.ownsRow.drew HE3.out.row) ⟨g, 0, none⟩ c.length cc (flat insV 0 c) rfl (insV_len c 0) (by exact Hs.out) (insV_one _ _) (len_ok hlen (by omega)) (len_ok2 hlen (by omega)) ?_; intro v1 w4 hown2 hgr2 hfr2 _; obtain ⟨xa, xb, xc, rfl⟩ := slice_of_own hown2; have HE4 := Lib.hid (HE3.out.append (by first | exact Mod.refl _ _ | exact (Mod.refl _ _).drew) hown2 hgr2 hfr2); clear hown2 hgr2 hfr2)
    all_goals
      go_wp2
      go_ret2
      exact ⟨.slice xa xb xc, rfl, by first | exact HE4.out | exact HE4.out.quiet (Mod.refl _ _).drew⟩
end Go.Proofs.YtamfbfajlfbooaaDoor
end
/- quiescentlaw2.writer, reader: their codes. -/
section
namespace Go.Proofs.YtamfbfajlfbooaaDoor
open Go.RowKit Qs Qh
def wrHead (i : Nat) : List Instr := [⟨10, 3, 0, 0, []⟩, ⟨0, 4, (i : Int) + 2, 0, []⟩, ⟨7, 3, 4, 0, []⟩, ⟨8, 3, 5, 0, []⟩]
def wrMid (f : Nat) (wait : Bool) (i : Nat) : List Instr := if wait then preC (qn (i + 1)) (gcode f 4) else []
def wrTail : List Instr := [⟨11, 3, 0, 0, []⟩]
def wrSecs (f : Nat) (wait : Bool) : Nat → List Instr
  | 0 => []
  | i + 1 => ((wrSecs f wait i ++ wrHead i) ++ wrMid f wait i) ++ wrTail
def wrCode (f : Nat) (wait : Bool) (n : Nat) : List Instr := wrSecs f wait n ++ preC (qn ((if wait then n else 0) + 1)) (gcode f 3)
def grParts (f k at_ : Nat) : Nat → List Instr
  | 0 => []
  | n + 1 => grParts f k at_ n ++ preC (qn (at_ + n + 1)) (gcode f k)
def rdReads : Nat → List Instr
  | 0 => []
  | n + 1 => rdReads n ++ [⟨6, 4, 3, 0, []⟩, ⟨19, 4, 0, 0, []⟩]
def rdLoad : List Instr := [⟨6, 3, 5, 0, []⟩]
def rdAt (d i : Nat) : Nat := i * (2 * d + 1)
def rdSec (f d r i : Nat) (l : List Instr) : List Instr := (((l ++ grParts f 0 (rdAt d i) d) ++ rdLoad) ++ rdReads r) ++ grParts f 1 (rdAt d i + d) d ++ preC (qn (rdAt d i + 2 * d + 1)) (gcode f 2)
def rdSecs (f d r : Nat) : Nat → List Instr
  | 0 => []
  | i + 1 => rdSec f d r i (rdSecs f d r i)
def rdCode (f d r n : Nat) : List Instr := rdSecs f d r n ++ preC (qn (rdAt d n + 1)) (gcode f 3)
theorem part_len {f k : Nat} (h4 : f ≤ 4) (hk : k < 5) (p : List UInt8) : (preC p (gcode f k)).length ≤ 70 := by
  rw [preC_len]; exact (gcode_ok (by omega) hk).2.1
theorem wrSecs_len {f : Nat} (h4 : f ≤ 4) (wait : Bool) : ∀ n, (wrSecs f wait n).length ≤ 75 * n
  | 0 => by simp [wrSecs]
  | n + 1 => by
    have h := wrSecs_len h4 wait n
    have hm : (wrMid f wait n).length ≤ 70 := by
      unfold wrMid
      split
      · exact part_len h4 (by omega) _
      · simp
    simp only [wrSecs, List.length_append, wrHead, wrTail, List.length_cons, List.length_nil]
    omega
theorem rdReads_len : ∀ n, (rdReads n).length = 2 * n
  | 0 => rfl
  | n + 1 => by simp [rdReads, rdReads_len n]; omega
set_option maxRecDepth 100000 in
set_option maxHeartbeats 8000000 in
theorem writer_ok {f n : Nat} (h1 : 1 ≤ f) (h4 : f ≤ 4) (hn : n ≤ 3) (wait : Bool) (w : World) :
    Calls Tryd.prog 99 #[.int .i64 f, .int .i64 n, .bool wait] w fun e w' => ∃ v, e = .returned (.tuple #[v, .bool true]) ∧ Own w w' v (wrCode f wait n) := by
  obtain ⟨i0, hi, hz0, hz1, hz2⟩ := info_parts insInfo
  go_enter Tryd.func99, Tryd.ntmps99
  go_wp2
  go_loopw [8, 9, 10, 11, 12, 13] (fun v g a i _ _ wr => ∃ k : Nat, k ≤ n ∧ i = .int .i64 k ∧ a = .int .i64 ((if wait then k else 0 : Nat) : Int) ∧ g = .bool true ∧ Own w wr v (wrSecs f wait k)) (fun _ _ _ i _ _ _ => n - (intOf i).toNat)
  case atStart => exact ⟨0, Nat.zero_le _, rfl, by cases wait <;> rfl, rfl, Own.start w⟩
  case round =>
    obtain ⟨k, hk, rfl, rfl, rfl, E⟩ := hrel
    obtain ⟨va, vb, vc, rfl⟩ := slice_of_own E.row
    have hlen := wrSecs_len h4 wait k
    have HE := Lib.hid E
    clear E
    by_cases hlt : k < n
    · have hd : decide ((k : Int) < (n : Int)) = true := by simp; omega
      cases wait with
      | true =>
        simp only [if_true]
        go_wp2_with (at_builtin; refine wpList_append_mine _ rfl (.tmp 21) (.tmp 28) 28 rfl 124 i0 (.agg #[.string ⟨#[]⟩, .int .i64 0, .int .i64 0, .int .i64 0, .string ⟨#[]⟩]) 5 56 Tryd.underlying28 hi hz0 hz1 hz2 rfl (by decide) _ _ (flat insV 0 (wrSecs f true k)) rfl (World.ownsRow.alloc HE.out.row _) ⟨wr.heap.size, 0, none⟩ 4 4 (flat insV 0 (wrHead k)) rfl rfl (new_cells wr (flat insV 0 (wrHead k)) _) (insV_one _ _) (len_ok (by omega) (by simp)) (len_ok2 (by omega) (by simp)) ?_; intro vw1 w1 hown hgr hfr hz; have R := HE.out.append (x := wrHead k) ((Mod.refl _ _).alloc _) hown hgr hfr; obtain ⟨aw1, bw1, cw1, rfl⟩ := slice_of_own hown; have HEw1 := Lib.hid R; clear R hown hgr hfr hz)
        have hlen2 : (wrSecs f true k ++ wrHead k).length ≤ 1000 := by simp [wrHead]; omega
        rw [show ((k : Int) + 1) = ((k + 1 : Nat) : Int) from by omega]
        refine (add_ok (k := 4) h1 h4 (by omega) (a := k + 1) (by omega) HEw1.out hlen2).mono ?_
        rintro e w2 ⟨v2, rfl, E2⟩
        obtain ⟨a2, b2, c2, rfl⟩ := slice_of_own E2.row
        have hlen3 : ((wrSecs f true k ++ wrHead k) ++ preC (qn (k + 1)) (gcode f 4)).length ≤ 1000 := by
          have := part_len (f := f) h4 (show 4 < 5 by omega) (qn (k + 1))
          simp only [List.length_append, wrHead, List.length_cons, List.length_nil]; omega
        have HE2 := Lib.hid E2
        clear E2
        go_wp2_with (at_builtin; refine wpList_append_mine _ rfl (.tmp 45) (.tmp 47) 28 rfl 124 i0 (.agg #[.string ⟨#[]⟩, .int .i64 0, .int .i64 0, .int .i64 0, .string ⟨#[]⟩]) 5 56 Tryd.underlying28 hi hz0 hz1 hz2 rfl (by decide) _ _ (flat insV 0 ((wrSecs f true k ++ wrHead k) ++ preC (qn (k + 1)) (gcode f 4))) rfl (World.ownsRow.alloc HE2.out.row _) ⟨w2.heap.size, 0, none⟩ 1 1 (flat insV 0 (wrTail)) rfl rfl (new_cells w2 (flat insV 0 (wrTail)) _) (insV_one _ _) (len_ok hlen3 (by simp)) (len_ok2 hlen3 (by simp)) ?_; intro vw3 w3 hown hgr hfr hz; have R := HE2.out.append (x := wrTail) ((Mod.refl _ _).alloc _) hown hgr hfr; obtain ⟨aw3, bw3, cw3, rfl⟩ := slice_of_own hown; have HEw3 := Lib.hid R; clear R hown hgr hfr hz)
        go_roundw
        case rel => exact ⟨k + 1, by omega, by go_num, by go_num, rfl, HEw3.out⟩
        case measure => simp [intOf]; omega
      | false =>
        simp only [Bool.false_eq_true, if_false]
        have hlen2 : ((wrSecs f false k ++ wrHead k) ++ wrMid f false k).length ≤ 1000 := by simp [wrHead, wrMid]; omega
        go_wp2_with (first | (at_builtin; refine wpList_append_mine _ rfl (.tmp 21) (.tmp 28) 28 rfl 124 i0 (.agg #[.string ⟨#[]⟩, .int .i64 0, .int .i64 0, .int .i64 0, .string ⟨#[]⟩]) 5 56 Tryd.underlying28 hi hz0 hz1 hz2 rfl (by decide) _ _ (flat insV 0 (wrSecs f false k)) rfl (World.ownsRow.alloc HE.out.row _) ⟨wr.heap.size, 0, none⟩ 4 4 (flat insV 0 (wrHead k)) rfl rfl (new_cells wr (flat insV 0 (wrHead k)) _) (insV_one _ _) (len_ok (by omega) (by simp)) (len_ok2 (by omega) (by simp)) ?_; intro vw1 w1 hown hgr hfr hz; have R := HE.out.append (x := wrHead k) ((Mod.refl _ _).alloc _) hown hgr hfr; obtain ⟨aw1, bw1, cw1, rfl⟩ := slice_of_own hown; have HEw1 := Lib.hid R; clear R hown hgr hfr hz) | (rw [show wrSecs f false k ++ wrHead k = (wrSecs f false k ++ wrHead k) ++ wrMid f false k from by simp [wrMid]] at HEw1; (at_builtin; refine wpList_append_mine _ rfl (.tmp 45) (.tmp 47) 28 rfl 124 i0 (.agg #[.string ⟨#[]⟩, .int .i64 0, .int .i64 0, .int .i64 0, .string ⟨#[]⟩]) 5 56 Tryd.underlying28 hi hz0 hz1 hz2 rfl (by decide) _ _ (flat insV 0 ((wrSecs f false k ++ wrHead k) ++ wrMid f false k)) rfl (World.ownsRow.alloc HEw1.out.row _) ⟨w1.heap.size, 0, none⟩ 1 1 (flat insV 0 (wrTail)) rfl rfl (new_cells w1 (flat insV 0 (wrTail)) _) (insV_one _ _) (len_ok hlen2 (by simp)) (len_ok2 hlen2 (by simp)) ?_; intro vw3 w3 hown hgr hfr hz; have R := HEw1.out.append (x := wrTail) ((Mod.refl _ _).alloc _) hown hgr hfr; obtain ⟨aw3, bw3, cw3, rfl⟩ := slice_of_own hown; have HEw3 := Lib.hid R; clear R hown hgr hfr hz)))
        go_roundw
        case rel => exact ⟨k + 1, by omega, by go_num, by go_num, rfl, HEw3.out⟩
        case measure => simp [intOf]; omega
    · have hd : decide ((k : Int) < (n : Int)) = false := by simp; omega
      obtain rfl : k = n := by omega
      have hq3 : (if wait then k else 0) ≤ 3 := by split <;> omega
      generalize hq : (if wait then k else 0) = q at hq3 ⊢
      have Hq := Lib.hid hq
      clear hq
      go_wp2_with fail
      rw [show ((q : Int) + 1) = ((q + 1 : Nat) : Int) from by omega]
      refine (add_ok (k := 3) h1 h4 (by omega) (a := q + 1) (by omega) HE.out (by omega)).mono ?_
      rintro e w2 ⟨v2, rfl, E2⟩
      obtain ⟨a2, b2, c2, rfl⟩ := slice_of_own E2.row
      have HE2 := Lib.hid E2
      clear E2
      go_wp2
      go_ret2
      exact ⟨_, rfl, by unfold wrCode; rw [Hq.out]; exact HE2.out⟩
end Go.Proofs.YtamfbfajlfbooaaDoor
end
/- flavoured: each flavour has code to wait. -/
section
namespace Go.Proofs.YtamfbfajlfbooaaDoor
open Go.RowKit Qs Qh
variable {w0 w w1 : World} {b o : Nat} {v0 : Value} {l : List Instr} {br s : ByteArray} {fe jo co : Bool} {u : Value} {c : Nat}
theorem nameW : nameB (⟨#[119]⟩ : ByteArray).data.toList = true := by decide
theorem gwait_any {f : Nat} (h1 : 1 ≤ f) (h4 : f ≤ 4) (s : ByteArray) (w : World) (hn : nameB s.data.toList = true) (hs : s.size ≤ 4) :
    Calls Tryd.prog 97 #[.int .i64 f, .string s] w fun e w' => ∃ v, e = .returned (.tuple #[v, .nilIface]) ∧ Made (preC s.data.toList (gcode f 4)) w v w' := by
  match f, h1, h4 with
  | 1, _, _ => exact gwait1_ok s w hn hs
  | 2, _, _ => exact gwait2_ok s w hn hs
  | 3, _, _ => exact gwait3_ok s w hn hs
  | 4, _, _ => exact gwait4_ok s w hn hs
theorem gwait_pos {f : Nat} (h1 : 1 ≤ f) (h4 : f ≤ 4) (p : List UInt8) : 0 < (preC p (gcode f 4)).length := by
  rw [preC_len]
  match f, h1, h4 with
  | 1, _, _ => decide
  | 2, _, _ => decide
  | 3, _, _ => decide
  | 4, _, _ => decide
set_option maxHeartbeats 4000000 in
theorem flavoured_any (w : World) : Calls Tryd.prog 40 #[] w fun e w' => e = .returned (.bool true) ∧ Mod noF w w' := by
  go_enter Tryd.func40, Tryd.ntmps40
  go_wp2
  go_loopw [1, 2, 3] (fun i _ _ wr => ∃ k : Nat, 1 ≤ k ∧ k ≤ 5 ∧ i = .int .i64 k ∧ Mod noF w wr) (fun i _ _ _ => 5 - (intOf i).toNat)
  case atStart => exact ⟨1, by omega, by omega, rfl, Mod.refl _ _⟩
  case round =>
    rename_i wr
    obtain ⟨k, hk1, hk, rfl, hm⟩ := hrel
    have Hm := Lib.hid hm
    clear hm
    by_cases hlt : k ≤ 4
    · have hd : decide ((k : Int) ≤ 4) = true := by simp; omega
      go_wp2_with fail
      refine (gwait_any hk1 hlt ⟨#[119]⟩ _ nameW (by decide)).mono ?_
      rintro e x1 ⟨v, rfl, hv⟩
      obtain ⟨g, c, rfl, _⟩ := InsRow.src hv.1 (gwait_pos hk1 hlt _)
      have Hv := Lib.hid (Hm.out.trans0 (Mod.below hv.2.1))
      have hp := gwait_pos hk1 hlt (⟨#[119]⟩ : ByteArray).data.toList
      generalize (preC (⟨#[119]⟩ : ByteArray).data.toList (gcode k 4)).length = n at hp
      have h0 : ((n : Int) == 0) = false := by rw [beq_eq_false_iff_ne]; omega
      clear hv
      go_wp2
      go_roundw
      case rel => exact ⟨k + 1, by omega, by omega, by go_num, Hv.out⟩
      case measure => simp [intOf]; omega
    · have hd : decide ((k : Int) ≤ 4) = false := by simp; omega
      go_wp2
      go_ret
      exact ⟨rfl, Hm.out⟩
end Go.Proofs.YtamfbfajlfbooaaDoor
end
