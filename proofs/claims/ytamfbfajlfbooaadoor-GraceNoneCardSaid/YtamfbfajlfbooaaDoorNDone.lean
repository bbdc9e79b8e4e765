/- (*quiescentref1.Machine).Done. -/
import Derived.Test.YtamfbfajlfbooaaDoorNNames
import Derived.Test.YtamfbfajlfbooaaDoorNm3
set_option linter.unusedVariables false
set_option linter.unusedSimpArgs false
set_option linter.unusedSectionVars false
namespace Go.Proofs.YtamfbfajlfbooaaDoor
open Go.RowKit Qs Qh
variable {w : World} {L : Lay} {m : M} {N : Int}
/-- The instruction at a thread's place, in memory. -/
theorem code_cell (X : Mach ty w L m N) {t : Nat} {h : Thr} (ht : m.T[t]? = some h) {x : Instr} (hx : h.code[h.pc]? = some x) :
    ∃ b off c, L.code t = .slice (some ⟨b, off, none⟩) h.code.length c ∧ b < w.heap.size ∧ (∀ j y, (instrVals x)[j]? = some y → w.cell? ⟨b, off + h.pc * 5 + j, none⟩ = some y) := by
  obtain ⟨hc, _⟩ := X.codes t h ht
  obtain ⟨a, c, e, _, hi⟩ := hc.at_
  obtain ⟨b, off, rfl, hb, hcell⟩ := hi h.pc x hx
  exact ⟨b, off, c, e, hb, hcell⟩
theorem code_slice (X : Mach ty w L m N) {t : Nat} {h : Thr} (ht : m.T[t]? = some h) : ∃ a c, L.code t = .slice a h.code.length c := by
  obtain ⟨hc, _⟩ := X.codes t h ht
  obtain ⟨a, c, e, _⟩ := hc.at_
  exact ⟨a, c, e⟩
theorem label_callQ (X : Mach ty w L m N) {t : Nat} {h : Thr} (hh : m.T[t]? = some h) (hlt : h.pc < h.code.length) {a : Option Addr} {c : Nat} (e : L.code t = .slice a h.code.length c) {to : List UInt8} {dto : ByteArray} (hd : (⟨to.toArray⟩ : ByteArray) = dto) {i : Nat} (hi : labelAt to h.code 0 = some i) (W : World)
    (hq : Mod noF (w.setCell ⟨L.blk 4 0, t * 3 + 2, none⟩ (.int .i64 ((h.pc : Int) + 1))) W) :
    Calls Tryd.prog 127 #[.slice a h.code.length c, .string dto] W fun e w' => e = .returned (.int .i64 (i : Int)) ∧ w' = W := by
  subst hd
  have U := ((X.setPc hh (h.pc + 1) (by omega))).then0 hq
  have hlen : h.code.length ≤ 1000000 := by have := (X.ot.code t h hh).2.len; omega
  have hT : (m.setPc t (h.pc + 1)).T[t]? = some { h with pc := h.pc + 1 } := by
    have hl : t < m.T.length := (List.getElem?_eq_some_iff.1 hh).1
    unfold M.setPc; rw [modify_get _ hh]; simp [hl]
  obtain ⟨a', c', e', _, hx⟩ := (U.mach.codes t _ hT).1.at_
  rw [e] at e'
  cases e'
  refine (labelAt_any a c h.code to W hlen hx).mono fun e w' ⟨h1, h2⟩ => ⟨?_, h2.symm⟩
  rw [h1]
  unfold labE
  rw [hi]
theorem done_out (X : Mach ty w L m N) (t : Int) (ht : t < 0 ∨ (m.T.length : Int) ≤ t) :
    Calls Tryd.prog 91 #[.pointer (some ⟨L.blk 0 0, 0, none⟩), .int .i64 t] w fun e w' => e = .returned (.bool true) ∧ w = w' := by
  obtain ⟨t0, t1, t2, t3, t4, t5⟩ := X.top
  clear X t4
  by_cases h : t < 0
  · have hd : decide (t < 0) = true := by simpa using h
    go_enter Tryd.func91, Tryd.ntmps91
    go_wp2
    go_ret
    exact ⟨rfl, rfl⟩
  · have hd : decide (t < 0) = false := by simpa using h
    have hd2 : decide ((m.T.length : Int) ≤ t) = true := by simpa using ht.resolve_left h
    go_enter Tryd.func91, Tryd.ntmps91
    go_wp2
    go_ret
    exact ⟨rfl, rfl⟩
set_option maxHeartbeats 1000000 in
theorem done_any (X : Mach ty w L m N) (t : Nat) (ht : t < m.T.length) :
    Calls Tryd.prog 91 #[.pointer (some ⟨L.blk 0 0, 0, none⟩), .int .i64 t] w fun e w' => e = .returned (.bool (m.done t)) ∧ Mod noF w w' := by
  obtain ⟨h, hh⟩ : ∃ h, m.T[t]? = some h := ⟨_, List.getElem?_eq_getElem ht⟩
  have hthr : m.thr t = h := by simp [M.thr, List.getD, hh]
  obtain ⟨t0, t1, t2, t3, t4, t5⟩ := X.top
  obtain ⟨r0, r1, r2, r3, r4⟩ := X.thr_at hh
  obtain ⟨hpc, hco⟩ := X.ot.code t h hh
  have hlen := hco.len
  have ht6 : m.T.length ≤ 6 := by have := X.om.waits; have := X.ot.len; omega
  have hsp := X.olt.sp4
  have hdone : m.done t = (match h.code[h.pc]? with | none => true | some x => x.op == 20) := by unfold M.done; rw [hthr]; cases h.code[h.pc]? <;> rfl
  have d0 : decide ((t : Int) < 0) = false := by simp
  have d1 : decide ((m.T.length : Int) ≤ (t : Int)) = false := by simp; omega
  cases hx : h.code[h.pc]? with
  | none =>
    rw [hx] at hdone
    obtain ⟨a, c, e⟩ := code_slice X hh
    rw [e] at r0
    have hge : h.code.length ≤ h.pc := by
      rcases Nat.lt_or_ge h.pc h.code.length with h' | h'
      · rw [List.getElem?_eq_getElem h'] at hx; cases hx
      · exact h'
    have d2 : decide ((h.code.length : Int) ≤ (h.pc : Int)) = true := by simp; omega
    have Hdone := Lib.hid hdone
    have Hh := Lib.hid hh
    clear hdone hthr hx X e hh t4 r3 hco
    go_enter Tryd.func91, Tryd.ntmps91
    go_wp2
    go_quiet (fail)
    go_wp2
    go_ret
    exact ⟨ret_bool (by rw [Hdone.out]), (Mod.refl _ _).drewN _⟩
  | some x =>
    rw [hx] at hdone
    obtain ⟨b, off, c, e, hb, hcell⟩ := code_cell X hh hx
    rw [e] at r0
    have hlt : h.pc < h.code.length := (List.getElem?_eq_some_iff.1 hx).1
    have d2 : decide ((h.code.length : Int) ≤ (h.pc : Int)) = false := by simp; omega
    have hmem : x ∈ h.code := List.mem_of_getElem? hx
    have hle := insOk_le (hco.ins x hmem)
    have c0 := hcell 0 _ rfl
    simp only [Nat.add_zero] at c0
    have hst : ((opStr x.op).toList == [115, 116, 111, 112]) = (x.op == 20) := by
      rw [Bool.eq_iff_iff, beq_iff_eq, beq_iff_eq]; exact opStr_stop hle
    generalize hs : opStr x.op = s at *
    have Hs := Lib.hid hs
    have Hdone := Lib.hid hdone
    have Hst := Lib.hid hst
    clear hdone hthr hx X e hh t4 r3 hco hcell hs hmem hst
    go_enter Tryd.func91, Tryd.ntmps91
    go_wp2
    go_quiet (fail)
    go_wp2
    go_ret
    exact ⟨ret_bool (by rw [Hdone.out, ← Hst.out, show decide (h.code.length ≤ h.pc) = false from decide_eq_false (by omega)]; rfl), (Mod.refl _ _).drewN _⟩
end Go.Proofs.YtamfbfajlfbooaaDoor
