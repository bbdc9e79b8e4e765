/- Texts that belong together, joined. -/
import Derived.Test.YtppihkneeolomaaDoorSANames
import Derived.Test.YtppihkneeolomaaDoorSAm3
import Derived.Test.YtppihkneeolomaaDoorSAm2
import Derived.StillTailTactics
import Derived.Test.YtppihkneeolomaaDoorSAStore
import Derived.LoopTactic
set_option linter.unusedVariables false
set_option linter.unusedSimpArgs false
set_option linter.unusedSectionVars false
/- (*quiescentref1.Machine).Done. -/
section
namespace Go.Proofs.YtppihkneeolomaaDoor
open Go.RowKit Qs Qh
variable {w : World} {L : Lay} {m : M} {N : Int}
/-- The instruction at a thread's place, in memory. -/
theorem code_cell (X : Mach ty w L m N) {t : Nat} {h : Thr} (ht : m.T[t]? = some h) {x : Instr} (hx : h.code[h.pc]? = some x) :
    ∃ b off c, L.code t = .slice (some ⟨b, off, none⟩) h.code.length c ∧ b < w.heap.size ∧ (∀ j y, (instrVals x)[j]? = some y → w.cell? ⟨b, off + h.pc * 5 + j, none⟩ = some y) := by
  obtain ⟨hc, _⟩ := X.codes t h ht
  obtain ⟨a, c, e, _, hi⟩ := hc.at_
  obtain ⟨b, off, rfl, hb, hcell⟩ := hi h.pc x hx
  exact ⟨b, off, c, e, hb, hcell⟩
theorem code_slice (X : Mach ty w L m N) {t : Nat} {h : Thr} (ht : m.T[t]? = some h) : ∃ a c, L.code t = .slice a h.code.length c := by
  obtain ⟨hc, _⟩ := X.codes t h ht
  obtain ⟨a, c, e, _⟩ := hc.at_
  exact ⟨a, c, e⟩
theorem label_callQ (X : Mach ty w L m N) {t : Nat} {h : Thr} (hh : m.T[t]? = some h) (hlt : h.pc < h.code.length) {a : Option Addr} {c : Nat} (e : L.code t = .slice a h.code.length c) {to : List UInt8} {dto : ByteArray} (hd : (⟨to.toArray⟩ : ByteArray) = dto) {i : Nat} (hi : labelAt to h.code 0 = some i) (W : World)
    (hq : Mod noF (w.setCell ⟨L.blk 4 0, t * 3 + 2, none⟩ (.int .i64 ((h.pc : Int) + 1))) W) :
    Calls Tryd.prog 72 #[.slice a h.code.length c, .string dto] W fun e w' => e = .returned (.int .i64 (i : Int)) ∧ w' = W := by
  subst hd
  have U := ((X.setPc hh (h.pc + 1) (by omega))).then0 hq
  have hlen : h.code.length ≤ 1000000 := by have := (X.ot.code t h hh).2.len; omega
  have hT : (m.setPc t (h.pc + 1)).T[t]? = some { h with pc := h.pc + 1 } := by
    have hl : t < m.T.length := (List.getElem?_eq_some_iff.1 hh).1
    unfold M.setPc; rw [modify_get _ hh]; simp [hl]
  obtain ⟨a', c', e', _, hx⟩ := (U.mach.codes t _ hT).1.at_
  rw [e] at e'
  cases e'
  refine (labelAt_any a c h.code to W hlen hx).mono fun e w' ⟨h1, h2⟩ => ⟨?_, h2.symm⟩
  rw [h1]
  unfold labE
  rw [hi]
set_option maxHeartbeats 1000000 in
theorem done_any (X : Mach ty w L m N) (t : Nat) (ht : t < m.T.length) :
    Calls Tryd.prog 27 #[.pointer (some ⟨L.blk 0 0, 0, none⟩), .int .i64 t] w fun e w' => e = .returned (.bool (m.done t)) ∧ Mod noF w w' := by
  obtain ⟨h, hh⟩ : ∃ h, m.T[t]? = some h := ⟨_, List.getElem?_eq_getElem ht⟩
  have hthr : m.thr t = h := by simp [M.thr, List.getD, hh]
  obtain ⟨t0, t1, t2, t3, t4, t5⟩ := X.top
  obtain ⟨r0, r1, r2, r3, r4⟩ := X.thr_at hh
  obtain ⟨hpc, hco⟩ := X.ot.code t h hh
  have hlen := hco.len
  have ht6 : m.T.length ≤ 6 := by have := X.om.waits; have := X.ot.len; omega
  have hsp := X.olt.sp4
  have hdone : m.done t = (match h.code[h.pc]? with | none => true | some x => x.op == 20) := by unfold M.done; rw [hthr]; cases h.code[h.pc]? <;> rfl
  have d0 : decide ((t : Int) < 0) = false := by simp
  have d1 : decide ((m.T.length : Int) ≤ (t : Int)) = false := by simp; omega
  cases hx : h.code[h.pc]? with
  | none =>
    rw [hx] at hdone
    obtain ⟨a, c, e⟩ := code_slice X hh
    rw [e] at r0
    have hge : h.code.length ≤ h.pc := by
      rcases Nat.lt_or_ge h.pc h.code.length with h' | h'
      · rw [List.getElem?_eq_getElem h'] at hx; cases hx
      · exact h'
    have d2 : decide ((h.code.length : Int) ≤ (h.pc : Int)) = true := by simp; omega
    have Hdone := Lib.hid hdone
    have Hh := Lib.hid hh
    clear hdone hthr hx X e hh t4 r3 hco
    go_enter Tryd.func27, Tryd.ntmps27
    go_wp2
    go_quiet (fail)
    go_wp2
    go_ret
    exact ⟨ret_bool (by rw [Hdone.out]), (Mod.refl _ _).drewN _⟩
  | some x =>
    rw [hx] at hdone
    obtain ⟨b, off, c, e, hb, hcell⟩ := code_cell X hh hx
    rw [e] at r0
    have hlt : h.pc < h.code.length := (List.getElem?_eq_some_iff.1 hx).1
    have d2 : decide ((h.code.length : Int) ≤ (h.pc : Int)) = false := by simp; omega
    have hmem : x ∈ h.code := List.mem_of_getElem? hx
    have hle := insOk_le (hco.ins x hmem)
    have c0 := hcell 0 _ rfl
    simp only [Nat.add_zero] at c0
    have hst : ((opStr x.op).toList == [115, 116, 111, 112]) = (x.op == 20) := by
      rw [Bool.eq_iff_iff, beq_iff_eq, beq_iff_eq]; exact opStr_stop hle
    generalize hs : opStr x.op = s at *
    have Hs := Lib.hid hs
    have Hdone := Lib.hid hdone
    have Hst := Lib.hid hst
    clear hdone hthr hx X e hh t4 r3 hco hcell hs hmem hst
    go_enter Tryd.func27, Tryd.ntmps27
    go_wp2
    go_quiet (fail)
    go_wp2
    go_ret
    exact ⟨ret_bool (by rw [Hdone.out, ← Hst.out, show decide (h.code.length ≤ h.pc) = false from decide_eq_false (by omega)]; rfl), (Mod.refl _ _).drewN _⟩
end Go.Proofs.YtppihkneeolomaaDoor
end
/- (*quiescentref1.Machine).fence. -/
section
namespace Go.Proofs.YtppihkneeolomaaDoor
open Go.RowKit Qs Qh
variable {w : World} {L : Lay} {m : M} {N : Int}
/-- A thread's fence: the model behind it keeps its sizes. -/
theorem fence_eq (m : M) (t : Nat) {l : List Wt} (hl : m.waits[t]? = some l) : m.fence t = { m with cells := (drainAll m.cells l).1, waits := m.waits.set t [], faults := m.faults + ((drainAll m.cells l).2 : Nat) } := by
  unfold M.fence
  have : m.waitsOf t = l := by simp [M.waitsOf, List.getD, hl]
  rw [this]
set_option maxHeartbeats 1000000 in
theorem machFence_ext (X : Mach ty w L m N) (hN : N ≤ 100000000000) (t : Nat) (ht : t < m.T.length) :
    Calls Tryd.prog 90 #[.pointer (some ⟨L.blk 0 0, 0, none⟩), .int .i64 t] w fun e w' => e = .returned (.tuple #[]) ∧ ∃ L', MUp ty w L m w' L' (m.fence t) (N + 8) ∧ Ext L L' := by
  obtain ⟨l, hl⟩ : ∃ l, m.waits[t]? = some l := ⟨_, List.getElem?_eq_getElem (by rw [X.ot.len]; exact ht)⟩
  obtain ⟨t0, t1, t2, t3, t4, t5⟩ := X.top
  have t43 := t4 3
  have hf := X.ot.f0
  have hl8 := X.om.wlen t l hl
  have hcount := drainAll_le l m.cells
  generalize hnf : (drainAll m.cells l).2 = nf at *
  have hnf8 : nf ≤ 8 := by omega
  have hcall := memFence_any (w := w.drew) (X.rep.frame0 (Mod.refl _ _).drew) rfl rfl rfl rfl rfl X.om X.ol (by omega) t hl
  rw [hnf] at hcall
  have Hcall := Lib.hid hcall
  have HX := Lib.hid X
  have Hl := Lib.hid hl
  have Hnf := Lib.hid hnf
  clear X hl hcall hnf hcount t4
  go_enter Tryd.func90, Tryd.ntmps90
  have hval := HX.out.om.wval t l Hl.out
  have om5 : OkM N { m with cells := (drainAll m.cells l).1, waits := m.waits.set t [] } := (drainAll_ok l HX.out.om (fun x hx => (hval x hx).1)).setWaits (by simp) (fun x hx => by cases hx)
  have Hom5 := Lib.hid om5
  clear om5 hval
  go_region_with (go_at_call 112; refine Hcall.out.mono ?_; rintro e w5 ⟨rfl, L5, hU5⟩; have U5 := (HX.out.frame0 (Mod.refl _ _).drew).up (Int.le_refl N) hU5 Hom5.out rfl rfl rfl (by simp); obtain ⟨x0, x1, x2, x3, x4, x5⟩ := U5.mach.top; have x43 := x4 3; have E0 := U5.top.1; have E1 := U5.top.2; rw [E0] at x0 x3 x43 x5; clear x1 x2 x4; have HE0 := Lib.hid E0; have HU5 := Lib.hid U5; have HE := Lib.hid hU5.ext; clear E0 E1 hU5 U5)
  all_goals
    refine bodyPost_end (results_none rfl _ _ _) rfl ⟨rfl, L5, ?_, HE.out⟩
    rw [fence_eq m t Hl.out, Hnf.out]
    have V := (MUp.quiet HX.out (Mod.refl _ _).drew).trans (HU5.out.trans (HU5.out.mach.setFaults (N' := N + 8) (m.faults + (nf : Int)) (by omega) (by omega) (by omega)))
    rw [HE0.out] at V
    rw [show IntKind.i64.wrap (m.faults + (nf : Int)) = m.faults + (nf : Int) from IntWalk.i64_in _ (by omega)]
    exact V
theorem machFence_any (X : Mach ty w L m N) (hN : N ≤ 100000000000) (t : Nat) (ht : t < m.T.length) :
    Calls Tryd.prog 90 #[.pointer (some ⟨L.blk 0 0, 0, none⟩), .int .i64 t] w fun e w' => e = .returned (.tuple #[]) ∧ ∃ L', MUp ty w L m w' L' (m.fence t) (N + 8) :=
  (machFence_ext X hN t ht).mono fun _ _ ⟨h, L', h1, _⟩ => ⟨h, L', h1⟩
end Go.Proofs.YtppihkneeolomaaDoor
end
/- (*quiescentref1.Machine).Step, instruction by instruction: fence. -/
section
namespace Go.Proofs.YtppihkneeolomaaDoor
open Go.RowKit Qs Qh
variable {w : World} {L : Lay} {m : M} {N : Int}
set_option maxRecDepth 100000 in
set_option maxHeartbeats 4000000 in
theorem step_fence (X : Mach ty w L m N) (hN : N ≤ 10000000000) (t : Nat) (ht : t < m.T.length) {h : Thr} (hh : m.T[t]? = some h) {a b c : Nat} {A B C : Int} {to : List UInt8} (hx : h.code[h.pc]? = some ⟨12, A, B, C, to⟩)  :
    Calls Tryd.prog 55 #[.pointer (some ⟨L.blk 0 0, 0, none⟩), .int .i64 t] w fun e w' => e = .returned (.int .i64 0) ∧ ∃ L', MUp ty w L m w' L' ((m.setPc t (h.pc + 1)).fence t) (N + 8) := by
  have hthr : m.thr t = h := by simp [M.thr, List.getD, hh]
  have hdone : m.done t = false := by unfold M.done; rw [hthr, hx]; rfl
  obtain ⟨t0, t1, t2, t3, t4, t5⟩ := X.top
  have ht6 : m.T.length ≤ 6 := by have := X.om.waits; have := X.ot.len; omega
  have hsp := X.olt.sp4
  have hsp8 := X.olt.sp8 t ht
  have d0 : decide ((t : Int) < 0) = false := by simp
  have d1 : decide ((m.T.length : Int) ≤ (t : Int)) = false := by simp; omega
  have HX := Lib.hid X
  have Hh := Lib.hid hh
  have Hx := Lib.hid hx
  have Hthr := Lib.hid hthr
  have Hdone := Lib.hid hdone
  clear X hh hx hthr hdone t4
  go_enter Tryd.func55, Tryd.ntmps55
  go_wp2_with fail
  refine (done_any HX.out t ht).mono ?_
  rintro e w1 ⟨rfl, hm⟩
  rw [Hdone.out]
  have X1 := HX.out.frame0 hm
  have HX1 := Lib.hid X1
  have Hm := Lib.hid hm
  clear t0 t1 t2 t3 t5
  obtain ⟨t0, t1, t2, t3, t4, t5⟩ := X1.top
  obtain ⟨r0, r1, r2, r3, r4⟩ := X1.thr_at Hh.out
  obtain ⟨cb, off, cc, e, hcb, hcell⟩ := code_cell X1 Hh.out Hx.out
  rw [e] at r0
  obtain ⟨hpc, hco⟩ := X1.ot.code t h Hh.out
  have hlen := hco.len
  have hlt : h.pc < h.code.length := (List.getElem?_eq_some_iff.1 Hx.out).1
  have c0 := hcell 0 _ rfl
  have c1 := hcell 1 _ rfl
  have c2 := hcell 2 _ rfl
  have c3 := hcell 3 _ rfl
  have c4 := hcell 4 _ rfl
  simp only [Nat.add_zero, opStr, iv, sv] at c0 c1 c2 c3 c4
  generalize hd4 : (⟨to.toArray⟩ : ByteArray) = dto at *
  have Hd4 := Lib.hid hd4
  have f4 := r3 (t * 3 + 2)
  have n48 : L.blk 4 0 ≠ L.blk 8 t := X1.ne (by rw [obj4 ty m X1.olt.n4]; rfl) (by rw [obj8 ty (X1.olt.n8 t ht) Hh.out]; rfl) (by omega)
  have n04 : L.blk 0 0 ≠ L.blk 4 0 := X1.ne rfl (by rw [obj4 ty m X1.olt.n4]; rfl) (by omega)
  have n08 : L.blk 0 0 ≠ L.blk 8 t := X1.ne rfl (by rw [obj8 ty (X1.olt.n8 t ht) Hh.out]; rfl) (by omega)
  have He := Lib.hid e
  clear hm X1 e hpc hco hcell t4 r3 hd4
  go_wp2
  go_region
  go_wp2_with fail
  have U0 := MUp.then0 ((MUp.quiet HX.out Hm.out).trans (HX1.out.pc Hh.out hlt)) (w3 := ((w1.setCell ⟨L.blk 4 0, t * 3 + 2, none⟩ (.int .i64 ((h.pc : Int) + 1))).alloc (.cells #[.string ⟨#[102, 101, 110, 99, 101]⟩, .int .i64 A, .int .i64 B, .int .i64 C, .string dto] 113)).drew) (by repeat (first | exact Mod.refl _ _ | refine Mod.drew ?_ | refine Mod.drewN ?_ _ | refine Mod.alloc ?_ _))
  have HU0 := Lib.hid U0
  clear U0
  refine (machFence_any HU0.out.mach (by omega) t (by simpa [M.setPc] using ht)).mono ?_
  rintro e w5 ⟨rfl, L5, hU5⟩
  go_wp2
  go_ret
  exact ⟨rfl, L5, HU0.out.trans hU5⟩
end Go.Proofs.YtppihkneeolomaaDoor
end
/- (*quiescentref1.Machine).Step, instruction by instruction: store: without a name; behind eight. -/
section
namespace Go.Proofs.YtppihkneeolomaaDoor
open Go.RowKit Qs Qh
variable {w : World} {L : Lay} {m : M} {N : Int}
set_option maxRecDepth 100000 in
set_option maxHeartbeats 4000000 in
theorem step_store_none (X : Mach ty w L m N) (hN : N ≤ 10000000000) (t : Nat) (ht : t < m.T.length) {h : Thr} (hh : m.T[t]? = some h) {a b c : Nat} {A B C : Int} {to : List UInt8} (hx : h.code[h.pc]? = some ⟨7, a, b, C, to⟩) (ha : a < 8) (hb : b < 8) (hn : m.names (h.regs.getD a 0) = none) :
    Calls Tryd.prog 55 #[.pointer (some ⟨L.blk 0 0, 0, none⟩), .int .i64 t] w fun e w' => e = .returned (.int .i64 0) ∧ ∃ L', MUp ty w L m w' L' ((m.setPc t (h.pc + 1)).fault) (N + 1) := by
  have hthr : m.thr t = h := by simp [M.thr, List.getD, hh]
  have hdone : m.done t = false := by unfold M.done; rw [hthr, hx]; rfl
  obtain ⟨t0, t1, t2, t3, t4, t5⟩ := X.top
  have ht6 : m.T.length ≤ 6 := by have := X.om.waits; have := X.ot.len; omega
  have hsp := X.olt.sp4
  have hsp8 := X.olt.sp8 t ht
  have d0 : decide ((t : Int) < 0) = false := by simp
  have d1 : decide ((m.T.length : Int) ≤ (t : Int)) = false := by simp; omega
  have HX := Lib.hid X
  have Hh := Lib.hid hh
  have Hx := Lib.hid hx
  have Hthr := Lib.hid hthr
  have Hdone := Lib.hid hdone
  clear X hh hx hthr hdone t4
  have Hn := Lib.hid hn
  clear hn
  go_enter Tryd.func55, Tryd.ntmps55
  go_wp2_with fail
  refine (done_any HX.out t ht).mono ?_
  rintro e w1 ⟨rfl, hm⟩
  rw [Hdone.out]
  have X1 := HX.out.frame0 hm
  have HX1 := Lib.hid X1
  have Hm := Lib.hid hm
  clear t0 t1 t2 t3 t5
  obtain ⟨t0, t1, t2, t3, t4, t5⟩ := X1.top
  obtain ⟨r0, r1, r2, r3, r4⟩ := X1.thr_at Hh.out
  obtain ⟨cb, off, cc, e, hcb, hcell⟩ := code_cell X1 Hh.out Hx.out
  rw [e] at r0
  obtain ⟨hpc, hco⟩ := X1.ot.code t h Hh.out
  have hlen := hco.len
  have hlt : h.pc < h.code.length := (List.getElem?_eq_some_iff.1 Hx.out).1
  have c0 := hcell 0 _ rfl
  have c1 := hcell 1 _ rfl
  have c2 := hcell 2 _ rfl
  have c3 := hcell 3 _ rfl
  have c4 := hcell 4 _ rfl
  simp only [Nat.add_zero, opStr, iv, sv] at c0 c1 c2 c3 c4
  generalize hd4 : (⟨to.toArray⟩ : ByteArray) = dto at *
  have Hd4 := Lib.hid hd4
  obtain ⟨ga0, ga1, ga2⟩ := X1.reg_at Hh.out ha
  have wa := X1.regWord Hh.out ha
  generalize hva : h.regs.getD a 0 = va at *
  obtain ⟨wa0, wa1⟩ := of_isWord wa
  have Hva := Lib.hid hva
  have Hwa := Lib.hid wa
  clear hva wa
  obtain ⟨gb0, gb1, gb2⟩ := X1.reg_at Hh.out hb
  have wb := X1.regWord Hh.out hb
  generalize hvb : h.regs.getD b 0 = vb at *
  obtain ⟨wb0, wb1⟩ := of_isWord wb
  have Hvb := Lib.hid hvb
  have Hwb := Lib.hid wb
  clear hvb wb
  have f4 := r3 (t * 3 + 2)
  have n48 : L.blk 4 0 ≠ L.blk 8 t := X1.ne (by rw [obj4 ty m X1.olt.n4]; rfl) (by rw [obj8 ty (X1.olt.n8 t ht) Hh.out]; rfl) (by omega)
  have n04 : L.blk 0 0 ≠ L.blk 4 0 := X1.ne rfl (by rw [obj4 ty m X1.olt.n4]; rfl) (by omega)
  have n08 : L.blk 0 0 ≠ L.blk 8 t := X1.ne rfl (by rw [obj8 ty (X1.olt.n8 t ht) Hh.out]; rfl) (by omega)
  have He := Lib.hid e
  clear hm X1 e hpc hco hcell t4 r3 hd4
  have iA : (a : Int) < 8 := by omega
  have iB : (b : Int) < 8 := by omega
  have iA0 : (0 : Int) ≤ (a : Int) := by omega
  have iB0 : (0 : Int) ≤ (b : Int) := by omega
  go_wp2
  go_region
  have U0 := MUp.then0 ((MUp.quiet HX.out Hm.out).trans (HX1.out.pc Hh.out hlt)) (w3 := ((w1.setCell ⟨L.blk 4 0, t * 3 + 2, none⟩ (.int .i64 ((h.pc : Int) + 1))).alloc (.cells #[.string ⟨#[115, 116, 111, 114, 101]⟩, .int .i64 a, .int .i64 b, .int .i64 C, .string dto] 113)).drew) (by repeat (first | exact Mod.refl _ _ | refine Mod.drew ?_ | refine Mod.drewN ?_ _ | refine Mod.alloc ?_ _))
  have hbx : ∀ k, Foot ty allK L (m.setPc t (h.pc + 1)) k → k < w1.heap.size := fun k hk => by
    have := (HX1.out.pc Hh.out hlt).mach.rep.lt hk
    simpa using this
  have HU0 := Lib.hid U0
  have Hbx := Lib.hid hbx
  clear U0 hbx
  go_wp2_with fail
  refine (names_none HU0.out.mach (by omega) va Hwa.out Hn.out).mono ?_
  rintro e w5 ⟨rc, rg, rfl, U5⟩
  have X5 := U5.mach
  have w5b0 : w5.cell? ⟨w1.heap.size, 0, none⟩ = some (.string ⟨#[115, 116, 111, 114, 101]⟩) := U5.mod.cell (by rw [box_cell]; rfl) (fun hf => by have := Hbx.out _ hf; simp at this)
  have w5b1 : w5.cell? ⟨w1.heap.size, 1, none⟩ = some (.int .i64 a) := U5.mod.cell (by rw [box_cell]; rfl) (fun hf => by have := Hbx.out _ hf; simp at this)
  have w5b2 : w5.cell? ⟨w1.heap.size, 2, none⟩ = some (.int .i64 b) := U5.mod.cell (by rw [box_cell]; rfl) (fun hf => by have := Hbx.out _ hf; simp at this)
  have w5b3 : w5.cell? ⟨w1.heap.size, 3, none⟩ = some (.int .i64 C) := U5.mod.cell (by rw [box_cell]; rfl) (fun hf => by have := Hbx.out _ hf; simp at this)
  have w5b4 : w5.cell? ⟨w1.heap.size, 4, none⟩ = some (.string dto) := U5.mod.cell (by rw [box_cell]; rfl) (fun hf => by have := Hbx.out _ hf; simp at this)
  obtain ⟨pt0, pt1, pt2, pt3, pt4, pt5⟩ := X5.top
  obtain ⟨pr0, pr1, pr2, pr3, pr4⟩ := X5.thr_at (setPc_T Hh.out _)
  obtain ⟨pga0, pga1, pga2⟩ := X5.reg_at (setPc_T Hh.out _) ha
  obtain ⟨pgb0, pgb1, pgb2⟩ := X5.reg_at (setPc_T Hh.out _) hb
  have hs5 : w1.heap.size < w5.heap.size := by have := U5.mod.size; simp at this; omega
  have HX5 := Lib.hid X5
  have HU5 := Lib.hid U5
  clear X5 U5 pt4 pr3 pt1 pt2 pt3 t0 t1 t2 t3 r0 r1 r2 c0 c1 c2 c3 c4 ga0 ga1 gb0 gb1
  go_wp2
  go_ret
  refine ⟨rfl, L, ?_⟩
  exact MUp.then0 (HU0.out.trans HU5.out) (by repeat (first | exact Mod.refl _ _ | refine Mod.drew ?_ | refine Mod.drewN ?_ _ | refine Mod.alloc ?_ _))
end Go.Proofs.YtppihkneeolomaaDoor
end
/- (*quiescentref1.Machine).Step, instruction by instruction: force. -/
section
namespace Go.Proofs.YtppihkneeolomaaDoor
open Go.RowKit Qs Qh
variable {w : World} {L : Lay} {m : M} {N : Int}
set_option maxRecDepth 100000 in
set_option maxHeartbeats 4000000 in
theorem step_force (X : Mach ty w L m N) (hN : N ≤ 10000000000) (t : Nat) (ht : t < m.T.length) {h : Thr} (hh : m.T[t]? = some h) {a b c : Nat} {A B C : Int} {to : List UInt8} (hx : h.code[h.pc]? = some ⟨13, A, B, C, to⟩)  :
    Calls Tryd.prog 55 #[.pointer (some ⟨L.blk 0 0, 0, none⟩), .int .i64 t] w fun e w' => e = .returned (.int .i64 0) ∧ ∃ L', MUp ty w L m w' L' ((m.setPc t (h.pc + 1)).force m.T.length) (N + 48) := by
  have hthr : m.thr t = h := by simp [M.thr, List.getD, hh]
  have hdone : m.done t = false := by unfold M.done; rw [hthr, hx]; rfl
  obtain ⟨t0, t1, t2, t3, t4, t5⟩ := X.top
  have ht6 : m.T.length ≤ 6 := by have := X.om.waits; have := X.ot.len; omega
  have hsp := X.olt.sp4
  have hsp8 := X.olt.sp8 t ht
  have d0 : decide ((t : Int) < 0) = false := by simp
  have d1 : decide ((m.T.length : Int) ≤ (t : Int)) = false := by simp; omega
  have HX := Lib.hid X
  have Hh := Lib.hid hh
  have Hx := Lib.hid hx
  have Hthr := Lib.hid hthr
  have Hdone := Lib.hid hdone
  clear X hh hx hthr hdone t4
  go_enter Tryd.func55, Tryd.ntmps55
  go_wp2_with fail
  refine (done_any HX.out t ht).mono ?_
  rintro e w1 ⟨rfl, hm⟩
  rw [Hdone.out]
  have X1 := HX.out.frame0 hm
  have HX1 := Lib.hid X1
  have Hm := Lib.hid hm
  clear t0 t1 t2 t3 t5
  obtain ⟨t0, t1, t2, t3, t4, t5⟩ := X1.top
  obtain ⟨r0, r1, r2, r3, r4⟩ := X1.thr_at Hh.out
  obtain ⟨cb, off, cc, e, hcb, hcell⟩ := code_cell X1 Hh.out Hx.out
  rw [e] at r0
  obtain ⟨hpc, hco⟩ := X1.ot.code t h Hh.out
  have hlen := hco.len
  have hlt : h.pc < h.code.length := (List.getElem?_eq_some_iff.1 Hx.out).1
  have c0 := hcell 0 _ rfl
  have c1 := hcell 1 _ rfl
  have c2 := hcell 2 _ rfl
  have c3 := hcell 3 _ rfl
  have c4 := hcell 4 _ rfl
  simp only [Nat.add_zero, opStr, iv, sv] at c0 c1 c2 c3 c4
  generalize hd4 : (⟨to.toArray⟩ : ByteArray) = dto at *
  have Hd4 := Lib.hid hd4
  have f4 := r3 (t * 3 + 2)
  have n48 : L.blk 4 0 ≠ L.blk 8 t := X1.ne (by rw [obj4 ty m X1.olt.n4]; rfl) (by rw [obj8 ty (X1.olt.n8 t ht) Hh.out]; rfl) (by omega)
  have n04 : L.blk 0 0 ≠ L.blk 4 0 := X1.ne rfl (by rw [obj4 ty m X1.olt.n4]; rfl) (by omega)
  have n08 : L.blk 0 0 ≠ L.blk 8 t := X1.ne rfl (by rw [obj8 ty (X1.olt.n8 t ht) Hh.out]; rfl) (by omega)
  have He := Lib.hid e
  clear hm X1 e hpc hco hcell t4 r3 hd4
  go_wp2
  go_region
  have U0 := MUp.then0 ((MUp.quiet HX.out Hm.out).trans (HX1.out.pc Hh.out hlt)) (w3 := ((w1.setCell ⟨L.blk 4 0, t * 3 + 2, none⟩ (.int .i64 ((h.pc : Int) + 1))).alloc (.cells #[.string ⟨#[102, 111, 114, 99, 101]⟩, .int .i64 A, .int .i64 B, .int .i64 C, .string dto] 113)).drew) (by repeat (first | exact Mod.refl _ _ | refine Mod.drew ?_ | refine Mod.drewN ?_ _ | refine Mod.alloc ?_ _))
  have hbx : ∀ k, Foot ty allK L (m.setPc t (h.pc + 1)) k → k < w1.heap.size := fun k hk => by
    have := (HX1.out.pc Hh.out hlt).mach.rep.lt hk
    simpa using this
  have HU0 := Lib.hid U0
  have Hbx := Lib.hid hbx
  clear U0 hbx
  go_wp2
  clear t0 t1 t2 t3 r0 r1 r2 c0 c1 c2 c3 c4
  go_loopw [29] (fun i wr => ∃ k : Nat, k ≤ m.T.length ∧ i = .int .i64 k ∧ ∃ Lr, MUp ty w L m wr Lr ((m.setPc t (h.pc + 1)).force k) (N + 8 * k)) (fun i _ => m.T.length - (intOf i).toNat)
  case atStart => exact ⟨0, Nat.zero_le _, rfl, L, by simpa [M.force] using HU0.out⟩
  case round =>
    rename_i wr
    obtain ⟨k, hk, rfl, Lr, Ur⟩ := hrel
    have hlenT : ((m.setPc t (h.pc + 1)).force k).T.length = m.T.length := by rw [force_T]; simp [M.setPc]
    obtain ⟨q0, q1, q2, q3, q4, q5⟩ := Ur.mach.top
    rw [Ur.top.1] at q0 q1 q5
    rw [hlenT] at q1
    have hcall := machFence_any Ur.mach (by omega) k
    rw [Ur.top.1] at hcall
    have HUr := Lib.hid Ur
    have Hcall := Lib.hid hcall
    clear Ur hcall q2 q3 q4
    by_cases hlt : k < m.T.length
    · have hd : decide ((k : Int) < (m.T.length : Int)) = true := by simp; omega
      go_wp2_with fail
      refine (Hcall.out (by rw [hlenT]; exact hlt)).mono ?_
      rintro e w7 ⟨rfl, L7, U7⟩
      have HU7 := Lib.hid U7
      clear U7
      go_wp2
      go_roundw
      case rel =>
        refine ⟨k + 1, by omega, by go_num, L7, ?_⟩
        rw [show N + 8 * ((k + 1 : Nat) : Int) = N + 8 * (k : Int) + 8 from by omega]
        exact HUr.out.trans HU7.out
      case measure => simp [intOf]; omega
    · have hd : decide ((k : Int) < (m.T.length : Int)) = false := by simp; omega
      obtain rfl : k = m.T.length := by omega
      go_wp2
      go_ret
      exact ⟨rfl, Lr, HUr.out.mono (by omega)⟩
end Go.Proofs.YtppihkneeolomaaDoor
end
/- (*quiescentref1.Machine).Drain. -/
section
namespace Go.Proofs.YtppihkneeolomaaDoor
open Go.RowKit Qs Qh
variable {w : World} {L : Lay} {m : M} {N : Int}
theorem mdrain_any (X : Mach ty w L m N) (hN : N ≤ 10000000000) (t : Nat) (ht : t < m.T.length) :
    Calls Tryd.prog 56 #[.pointer (some ⟨L.blk 0 0, 0, none⟩), .int .i64 t] w fun e w' => e = .returned (.int .i64 (m.drain t).2) ∧ ∃ L', MUp ty w L m w' L' (m.drain t).1 (N + 1) := by
  obtain ⟨l, hl⟩ : ∃ l, m.waits[t]? = some l := ⟨_, List.getElem?_eq_getElem (by rw [X.ot.len]; exact ht)⟩
  have hwo : m.waitsOf t = l := by simp [M.waitsOf, List.getD, hl]
  obtain ⟨t0, t1, t2, t3, t4, t5⟩ := X.top
  have hf := X.ot.f0
  have d0 : decide ((t : Int) < 0) = false := by simp
  have d1 : decide ((m.T.length : Int) ≤ (t : Int)) = false := by simp; omega
  have HX := Lib.hid X
  cases l with
  | nil =>
    have hcall := drain_none X.rep rfl rfl X.om X.ol t hl
    have hdr : m.drain t = (m, 5) := by unfold M.drain; rw [hwo]
    have Hdr := Lib.hid hdr
    have Hcall := Lib.hid hcall
    clear hdr hcall X t4 hl hwo
    go_enter Tryd.func56, Tryd.ntmps56
    go_wp2_with (go_at_call 88; refine Hcall.out.mono ?_; rintro e w5 ⟨rfl, rfl⟩)
    go_ret
    rw [Hdr.out]
    exact ⟨rfl, L, (MUp.quiet HX.out (Mod.refl _ _)).mono1⟩
  | cons x r =>
    have hcall := drain_some X.rep rfl rfl rfl rfl rfl X.om X.ol (by omega) t hl
    have hval := X.om.wval t _ hl
    have hx0 := (hval x (by simp)).1
    have om5 : OkM N { m with cells := (drain1 m.cells x).1, waits := m.waits.set t r } :=
      (X.om.drain1 hx0).setWaits (by have := X.om.wlen t _ hl; simp at this; omega) (fun y hy => by simpa [drain1_length] using hval y (by simp [hy]))
    have hdr : m.drain t = ({ m with cells := (drain1 m.cells x).1, waits := m.waits.set t r, faults := m.faults + (if (drain1 m.cells x).2 then 1 else 0) }, 0) := by unfold M.drain; rw [hwo]
    have hbad := drain1_bad m.cells x
    have Hdr := Lib.hid hdr
    have Hcall := Lib.hid hcall
    have Hom5 := Lib.hid om5
    cases hh : hereIn m.cells x.c x.g with
    | true =>
      rw [hh] at hbad
      have hde : drainE m.cells x = 0 := by unfold drainE; rw [if_pos hh]
      have Hde := Lib.hid hde
      have Hbad := Lib.hid hbad
      clear hdr hcall X t4 hl hwo hval om5 hbad hh hde hx0
      go_enter Tryd.func56, Tryd.ntmps56
      go_wp2_with (go_at_call 88; refine Hcall.out.mono ?_; rintro e w5 ⟨rfl, L5, hU5⟩; rw [show drainE _ x = 0 from Hde.out])
      go_ret
      rw [Hdr.out, Hbad.out]
      refine ⟨rfl, L5, ?_⟩
      have U := (HX.out.up (Int.le_refl N) hU5 Hom5.out rfl rfl rfl (by simp)).mono1
      simpa using U
    | false =>
      rw [hh] at hbad
      have hde : drainE m.cells x = 7 := by unfold drainE; rw [if_neg (by rw [hh]; decide)]
      have Hde := Lib.hid hde
      have Hbad := Lib.hid hbad
      clear hdr hcall X t4 hl hwo hval om5 hbad hh hde hx0
      go_enter Tryd.func56, Tryd.ntmps56
      go_wp2_with fail
      refine Hcall.out.mono ?_
      rintro e w5 ⟨rfl, L5, hU5⟩
      rw [show drainE _ x = 7 from Hde.out]
      have U5 := HX.out.up (Int.le_refl N) hU5 Hom5.out rfl rfl rfl (by simp)
      obtain ⟨x0, x1, x2, x3, x4, x5⟩ := U5.mach.top
      have x43 := x4 3
      have E0 := U5.top.1
      rw [E0] at x0 x3 x43 x5
      have HE0 := Lib.hid E0
      have HU5 := Lib.hid U5
      clear x1 x2 x4 E0 hU5 U5
      go_wp2
      go_ret
      rw [Hdr.out, Hbad.out]
      refine ⟨rfl, L5, ?_⟩
      have V := HU5.out.trans (HU5.out.mach.setFaults (N' := N + 1) (m.faults + 1) (by omega) (by omega) (by omega))
      rw [HE0.out] at V
      simpa using V
end Go.Proofs.YtppihkneeolomaaDoor
end
