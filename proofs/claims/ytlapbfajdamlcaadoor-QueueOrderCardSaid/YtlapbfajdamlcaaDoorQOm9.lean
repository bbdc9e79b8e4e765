/- Texts that belong together, joined. -/
import Derived.Test.YtlapbfajdamlcaaDoorQOm3
import Derived.Test.YtlapbfajdamlcaaDoorQOStepA
import Derived.Test.YtlapbfajdamlcaaDoorQOStepB
import Derived.Test.YtlapbfajdamlcaaDoorQOStepC
import Derived.Test.YtlapbfajdamlcaaDoorQOStepD
import Derived.Test.YtlapbfajdamlcaaDoorQOStepE
import Derived.Test.YtlapbfajdamlcaaDoorQOm8
import Derived.Test.YtlapbfajdamlcaaDoorQOStepG
import Derived.Test.YtlapbfajdamlcaaDoorQOStepH
import Derived.Test.YtlapbfajdamlcaaDoorQOStepI
import Derived.Test.YtlapbfajdamlcaaDoorQOStepJ
import Derived.Test.YtlapbfajdamlcaaDoorQOStepL
import Derived.Test.YtlapbfajdamlcaaDoorQOStepM
import Derived.Test.YtlapbfajdamlcaaDoorQOStepN
import Derived.Test.YtlapbfajdamlcaaDoorQOStepO
import Derived.Test.YtlapbfajdamlcaaDoorQOStepP
import Derived.Test.YtlapbfajdamlcaaDoorQOStepR
import Derived.Test.YtlapbfajdamlcaaDoorQOStepS
import Derived.Outline
import Derived.Test.YtlapbfajdamlcaaDoorQOm2
import Derived.Test.YtlapbfajdamlcaaDoorQOm7
import Derived.Test.YtlapbfajdamlcaaDoorQOm6
import Derived.Test.YtlapbfajdamlcaaDoorQONewWalk
set_option linter.unusedVariables false
set_option linter.unusedSimpArgs false
set_option linter.unusedSectionVars false
/- (*quiescentref1.Machine).Step, by all instructions. -/
section
namespace Go.Proofs.YtlapbfajdamlcaaDoor
open Go.RowKit Qs Qh
variable {w : World} {L : Lay} {m : M} {N : Int}
def easyOp (_ : Nat) : Bool := true
def Easy (m : M) : Prop := ∀ (t : Nat) h, m.T[t]? = some h → ∀ x ∈ h.code, easyOp x.op = true
set_option maxRecDepth 100000 in
theorem step_done (X : Mach ty w L m N) (t : Nat) (ht : t < m.T.length) (hd : m.done t = true) :
    Calls Tryd.prog 66 #[.pointer (some ⟨L.blk 0 0, 0, none⟩), .int .i64 t] w fun e w' => e = .returned (.int .i64 9) ∧ Mod noF w w' := by
  obtain ⟨t0, t1, t2, t3, t4, t5⟩ := X.top
  have d0 : decide ((t : Int) < 0) = false := by simp
  have d1 : decide ((m.T.length : Int) ≤ (t : Int)) = false := by simp; omega
  have HX := Lib.hid X
  have Hdone := Lib.hid hd
  clear X hd t4
  go_enter Tryd.func66, Tryd.ntmps66
  go_wp2_with fail
  refine (done_any HX.out t ht).mono ?_
  rintro e w1 ⟨rfl, hm⟩
  rw [Hdone.out]
  have Hm := Lib.hid hm
  clear hm
  go_wp2
  go_ret
  exact ⟨rfl, Hm.out⟩
theorem reg_nat {n k : Int} (h : isReg n k) : ∃ a : Nat, n = a ∧ (a : Int) < k := by
  obtain ⟨h0, h1⟩ := h
  obtain ⟨a, rfl⟩ := Int.eq_ofNat_of_zero_le h0
  exact ⟨a, rfl, h1⟩
theorem names_nat {m : M} {n rc rg : Int} (h : m.names n = some (rc, rg)) : ∃ k : Nat, rc = k ∧ k < m.cells.length := by
  unfold M.names at h
  cases hr : refOf n with
  | none => rw [hr] at h; cases h
  | some p =>
    obtain ⟨a, b⟩ := p
    rw [hr] at h
    simp only at h
    split at h
    · rename_i hh
      cases h
      obtain ⟨h0, h1, _⟩ := hereIn_ge hh
      obtain ⟨k, rfl⟩ := Int.eq_ofNat_of_zero_le h0
      exact ⟨k, rfl, by omega⟩
    · cases h
theorem exec_mark_ok {m : M} {t a p : Nat} {B C : Int} {to : List UInt8} {h : Thr} (hh : m.T[t]? = some h) (h5 : m.marks.length < 500) : (m.setPc t p).exec t ⟨18, a, B, C, to⟩ = { m.setPc t p with marks := m.marks ++ [((t : Int), h.regs.getD a 0)] } := by
  simp only [M.exec, thr_setPc hh, Thr.reg, Int.toNat_natCast]
  rw [if_pos (show (m.setPc t p).marks.length < 500 from h5)]
  rfl
theorem exec_mark_full {m : M} {t a p : Nat} {B C : Int} {to : List UInt8} (h5 : ¬ m.marks.length < 500) : (m.setPc t p).exec t ⟨18, a, B, C, to⟩ = m.setPc t p := by
  simp only [M.exec]
  rw [if_neg (show ¬ (m.setPc t p).marks.length < 500 from h5)]
/-- How a step is told. -/
def StepTold (w : World) (L : Lay) (m : M) (N : Int) (t : Nat) : Prop :=
  Calls Tryd.prog 66 #[.pointer (some ⟨L.blk 0 0, 0, none⟩), .int .i64 t] w fun e w' => e = .returned (.int .i64 (m.step t).2) ∧ ∃ L', MUp ty w L m w' L' (m.step t).1 (N + 48)
theorem told {t : Nat} {h : Thr} {x : Instr} (hh : m.T[t]? = some h) (hx : h.code[h.pc]? = some x) (h20 : x.op ≠ 20) {m' : M} {N' : Int} (hN' : N' ≤ N + 48) (he : (m.setPc t (h.pc + 1)).exec t x = m')
    (hc : Calls Tryd.prog 66 #[.pointer (some ⟨L.blk 0 0, 0, none⟩), .int .i64 t] w fun e w' => e = .returned (.int .i64 0) ∧ ∃ L', MUp ty w L m w' L' m' N') : StepTold w L m N t := by
  unfold StepTold
  rw [step_eq hh hx h20]
  refine hc.mono ?_
  rintro e w' ⟨rfl, L', U⟩
  refine ⟨rfl, L', ?_⟩
  rw [he]
  exact U.mono hN'
theorem step_any (X : Mach ty w L m N) (hE : Easy m) (hN : N ≤ 10000000000) (t : Nat) (ht : t < m.T.length) :
    Calls Tryd.prog 66 #[.pointer (some ⟨L.blk 0 0, 0, none⟩), .int .i64 t] w fun e w' => e = .returned (.int .i64 (m.step t).2) ∧ ∃ L', MUp ty w L m w' L' (m.step t).1 (N + 48) := by
  show StepTold w L m N t
  obtain ⟨h, hh⟩ : ∃ h, m.T[t]? = some h := ⟨_, List.getElem?_eq_getElem ht⟩
  cases hx : h.code[h.pc]? with
  | none =>
    have hs := Qh.step_end hh hx
    have hd : m.done t = true := by unfold M.done; rw [thr_of hh, hx]
    unfold StepTold
    rw [hs]
    refine (step_done X t ht hd).mono ?_
    rintro e w' ⟨rfl, hm⟩
    exact ⟨rfl, L, (MUp.quiet X hm).mono (by omega)⟩
  | some x =>
    by_cases h20 : x.op = 20
    · have hs := step_stop hh hx h20
      have hd : m.done t = true := by unfold M.done; rw [thr_of hh, hx]; simp [h20]
      unfold StepTold
      rw [hs]
      refine (step_done X t ht hd).mono ?_
      rintro e w' ⟨rfl, hm⟩
      exact ⟨rfl, L, (MUp.quiet X hm).mono (by omega)⟩
    · have hmem : x ∈ h.code := List.mem_of_getElem? hx
      have hco := (X.ot.code t h hh).2
      have hi := hco.ins x hmem
      have hlab := hco.lab x hmem
      obtain ⟨op, A, B, C, to⟩ := x
      rcases op_cases op with rfl | rfl | rfl | rfl | rfl | rfl | rfl | rfl | rfl | rfl | rfl | rfl | rfl | rfl | rfl | rfl | rfl | rfl | rfl | rfl | hbig
      · obtain ⟨h1, hB⟩ := hi
        obtain ⟨a, rfl, ha⟩ := reg_nat h1
        exact told hh hx h20 (by omega) (exec_const hh) (step_const (b := 0) (c := 0) (A := 0) X hN t ht hh hx (by omega) hB)
      · obtain ⟨h1, h2⟩ := hi
        obtain ⟨a, rfl, ha⟩ := reg_nat h1
        obtain ⟨b, rfl, hb⟩ := reg_nat h2
        exact told hh hx h20 (by omega) (exec_move hh) (step_move (c := 0) (A := 0) (B := 0) X hN t ht hh hx (by omega) (by omega))
      · obtain ⟨h1, h2, h3⟩ := hi
        obtain ⟨a, rfl, ha⟩ := reg_nat h1
        obtain ⟨b, rfl, hb⟩ := reg_nat h2
        obtain ⟨c, rfl, hc⟩ := reg_nat h3
        exact told hh hx h20 (by omega) (exec_add hh) (step_add (A := 0) (B := 0) (C := 0) X hN t ht hh hx (by omega) (by omega) (by omega))
      · obtain ⟨h1, h2, h3⟩ := hi
        obtain ⟨a, rfl, ha⟩ := reg_nat h1
        obtain ⟨b, rfl, hb⟩ := reg_nat h2
        obtain ⟨c, rfl, hc⟩ := reg_nat h3
        exact told hh hx h20 (by omega) (exec_sub hh) (step_sub (A := 0) (B := 0) (C := 0) X hN t ht hh hx (by omega) (by omega) (by omega))
      · obtain ⟨h1, h2, h3⟩ := hi
        obtain ⟨a, rfl, ha⟩ := reg_nat h1
        obtain ⟨b, rfl, hb⟩ := reg_nat h2
        obtain ⟨c, rfl, hc⟩ := reg_nat h3
        exact told hh hx h20 (by omega) (exec_and hh) (step_and (A := 0) (B := 0) (C := 0) X hN t ht hh hx (by omega) (by omega) (by omega))
      · obtain ⟨h1, h2, h3⟩ := hi
        obtain ⟨a, rfl, ha⟩ := reg_nat h1
        obtain ⟨b, rfl, hb⟩ := reg_nat h2
        obtain ⟨c, rfl, hc⟩ := reg_nat h3
        exact told hh hx h20 (by omega) (exec_xor hh) (step_xor (A := 0) (B := 0) (C := 0) X hN t ht hh hx (by omega) (by omega) (by omega))
      · obtain ⟨h1, h2, h3⟩ := hi
        obtain ⟨a, rfl, ha⟩ := reg_nat h1
        obtain ⟨b, rfl, hb⟩ := reg_nat h2
        cases hn : m.names (h.regs.getD b 0) with
        | none => exact told hh hx h20 (by omega) (exec_load_none hh hn) (step_load_none (c := 0) (A := 0) (B := 0) X hN t ht hh hx (by omega) (by omega) hn)
        | some r => exact told hh hx h20 (by omega) (exec_load_ok hh (rc := r.1) (rg := r.2) hn) (step_load_ok (c := 0) (A := 0) (B := 0) X hN t ht hh hx (by omega) (by omega) h3 hn)
      · obtain ⟨h1, h2, h3⟩ := hi
        obtain ⟨a, rfl, ha⟩ := reg_nat h1
        obtain ⟨b, rfl, hb⟩ := reg_nat h2
        cases hn : m.names (h.regs.getD a 0) with
        | none => exact told hh hx h20 (by omega) (exec_store_none hh hn) (step_store_none (c := 0) (A := 0) (B := 0) X hN t ht hh hx (by omega) (by omega) hn)
        | some r =>
          obtain ⟨l, hl⟩ : ∃ l, m.waits[t]? = some l := ⟨_, List.getElem?_eq_getElem (by rw [X.ot.len]; exact ht)⟩
          have h8 := X.om.wlen t l hl
          by_cases h9 : l.length < 8
          · exact told hh hx h20 (by omega) (exec_store_ok hh (rc := r.1) (rg := r.2) hn hl h9) (step_store_ok (c := 0) (A := 0) (B := 0) X hN t ht hh hx (by omega) (by omega) h3 hn hl h9)
          · obtain ⟨y, q, rfl⟩ : ∃ y q, l = y :: q := by
              cases l with
              | nil => simp at h9
              | cons y q => exact ⟨y, q, rfl⟩
            have h7 : q.length = 7 := by simp at h8 h9; omega
            cases hin : hereIn m.cells y.c y.g with
            | true => exact told hh hx h20 (by omega) (exec_store_full hh (rc := r.1) (rg := r.2) hn hl h7 hin) (step_store_full_ok (c := 0) (A := 0) (B := 0) X hN t ht hh hx (by omega) (by omega) h3 hn hl h7 hin)
            | false => exact told hh hx h20 (by omega) (exec_store_full_bad hh (rc := r.1) (rg := r.2) hn hl h7 hin) (step_store_full_bad (c := 0) (A := 0) (B := 0) X hN t ht hh hx (by omega) (by omega) h3 hn hl h7 hin)
      · obtain ⟨h1, h2, h3⟩ := hi
        obtain ⟨a, rfl, ha⟩ := reg_nat h1
        obtain ⟨b, rfl, hb⟩ := reg_nat h2
        obtain ⟨c, rfl, hc⟩ := reg_nat h3
        cases hn : m.names (h.regs.getD b 0) with
        | none => exact told hh hx h20 (by omega) (exec_swap_none hh hn) (step_swap_none (c := 0) (A := 0) (B := 0) X hN t ht hh hx (by omega) (by omega) hn)
        | some r =>
          obtain ⟨rc, rg⟩ := r
          obtain ⟨k, rfl, hk⟩ := names_nat hn
          exact told hh hx h20 (by omega) (exec_swap_ok hh hn) (step_swap_ok (A := 0) (B := 0) (C := 0) X hN t ht hh hx (by omega) (by omega) (by omega) hk hn)
      · obtain ⟨h1, h2, h3⟩ := hi
        obtain ⟨a, rfl, ha⟩ := reg_nat h1
        obtain ⟨b, rfl, hb⟩ := reg_nat h2
        obtain ⟨c, rfl, hc⟩ := reg_nat h3
        cases hn : m.names (h.regs.getD a 0) with
        | none => exact told hh hx h20 (by omega) (exec_cas_none hh hn) (step_cas_none (c := 0) (A := 0) (B := 0) X hN t ht hh hx (by omega) (by omega) hn)
        | some r =>
          obtain ⟨rc, rg⟩ := r
          obtain ⟨k, rfl, hk⟩ := names_nat hn
          exact told hh hx h20 (by omega) (exec_cas_ok hh hn) (step_cas_ok (A := 0) (B := 0) (C := 0) X hN t ht hh hx (by omega) (by omega) (by omega) (by omega) hk hn)
      · obtain ⟨a, rfl, ha⟩ := reg_nat hi
        cases hal : allocAt m.cells 0 with
        | none => exact told hh hx h20 (by omega) (exec_alloc_none hal) (step_alloc_none (b := 0) (c := 0) (A := 0) X hN t ht hh hx (by omega) hal)
        | some r => exact told hh hx h20 (by omega) (exec_alloc_ok (i := r.1) (n := r.2) hal) (step_alloc_ok (b := 0) (c := 0) (A := 0) X hN t ht hh hx (by omega) hal)
      · obtain ⟨a, rfl, ha⟩ := reg_nat hi
        cases hn : m.names (h.regs.getD a 0) with
        | none => exact told hh hx h20 (by omega) (exec_free_none hh hn) (step_free_none (b := 0) (c := 0) (A := 0) X hN t ht hh hx (by omega) hn)
        | some r =>
          obtain ⟨rc, rg⟩ := r
          obtain ⟨k, rfl, hk⟩ := names_nat hn
          exact told hh hx h20 (by omega) (exec_free_ok hh hn) (step_free_ok (b := 0) (c := 0) (A := 0) X hN t ht hh hx (by omega) hk hn)
      · exact told hh hx h20 (by omega) exec_fence (step_fence (a := 0) (b := 0) (c := 0) X hN t ht hh hx)
      · exact told hh hx h20 (by omega) exec_force (step_force (a := 0) (b := 0) (c := 0) X hN t ht hh hx)
      · obtain ⟨a, rfl, ha⟩ := reg_nat hi
        obtain ⟨i, hi⟩ := Option.isSome_iff_exists.1 (hlab (.inl rfl))
        by_cases hz : h.regs.getD a 0 = 0
        · exact told hh hx h20 (by omega) (exec_zero_yes hh hi hz) (step_zero_yes (b := 0) (c := 0) (A := 0) X hN t ht hh hx (by omega) hi hz)
        · exact told hh hx h20 (by omega) (exec_zero_no hh hz) (step_zero_no (b := 0) (c := 0) (A := 0) X hN t ht hh hx (by omega) hz)
      · obtain ⟨h1, h2⟩ := hi
        obtain ⟨a, rfl, ha⟩ := reg_nat h1
        obtain ⟨b, rfl, hb⟩ := reg_nat h2
        obtain ⟨i, hi⟩ := Option.isSome_iff_exists.1 (hlab (.inr (.inl rfl)))
        by_cases hz : h.regs.getD a 0 = h.regs.getD b 0
        · exact told hh hx h20 (by omega) (exec_same_yes hh hi hz) (step_same_yes (c := 0) (A := 0) (B := 0) X hN t ht hh hx (by omega) (by omega) hi hz)
        · exact told hh hx h20 (by omega) (exec_same_no hh hz) (step_same_no (c := 0) (A := 0) (B := 0) X hN t ht hh hx (by omega) (by omega) hz)
      · obtain ⟨i, hi⟩ := Option.isSome_iff_exists.1 (hlab (.inr (.inr rfl)))
        exact told hh hx h20 (by omega) (exec_goto hh hi) (step_goto (a := 0) (b := 0) (c := 0) X hN t ht hh hx hi)
      · exact told hh hx h20 (by omega) exec_label (step_label (a := 0) (b := 0) (c := 0) X hN t ht hh hx)
      · obtain ⟨a, rfl, ha⟩ := reg_nat hi
        by_cases h5 : m.marks.length < 500
        · exact told hh hx h20 (by omega) (exec_mark_ok hh h5) (step_mark (b := 0) (c := 0) (A := 0) X hN t ht hh hx (by omega) h5)
        · exact told hh hx h20 (by omega) (exec_mark_full h5) (step_mark_full (b := 0) (c := 0) (A := 0) X hN t ht hh hx (by omega) h5)
      · obtain ⟨a, rfl, ha⟩ := reg_nat hi
        exact told hh hx h20 (by omega) (exec_need hh) (step_need (b := 0) (c := 0) (A := 0) X hN t ht hh hx (by omega))
      · have h21 : ¬ op = 20 := h20
        have : op ≤ 20 := insOk_le hi
        omega
end Go.Proofs.YtlapbfajdamlcaaDoor
end
/- (*quiescentref1.Machine).Turn. -/
section
namespace Go.Proofs.YtlapbfajdamlcaaDoor
open Go.RowKit Qs Qh
variable {w : World} {L : Lay} {m : M} {N : Int}
theorem tmod_fix (n k : Int) (hk : 0 < k) : (if n.tmod k < 0 then n.tmod k + k else n.tmod k) = n % k := by
  have h1 := Int.emod_nonneg n (show k ≠ 0 by omega)
  have h2 := Int.emod_lt_of_pos n hk
  by_cases h0 : 0 ≤ n
  · rw [Int.tmod_eq_emod_of_nonneg h0, if_neg (by omega)]
  · have e : n.tmod k = if k ∣ n then 0 else n % k - k := by
      rw [Int.tmod_eq_emod]
      by_cases hd : k ∣ n
      · have : n % k = 0 := Int.emod_eq_zero_of_dvd hd
        simp [hd, this]
      · simp [hd, h0]; omega
    by_cases hd : k ∣ n
    · have h3 : n % k = 0 := Int.emod_eq_zero_of_dvd hd
      rw [e, if_pos hd, if_neg (by omega), h3]
    · rw [e, if_neg hd, if_pos (by omega)]; omega
theorem turn_at (m : M) (n : Int) {q : Nat} (hq : n % (2 * (m.T.length : Int)) = q) : m.turn n = if q < m.T.length then m.step q else m.drain (q - m.T.length) := by
  unfold M.turn
  simp only [hq, Int.toNat_natCast]
set_option maxHeartbeats 1000000 in
theorem turn_any (X : Mach ty w L m N) (hE : Easy m) (hN : N ≤ 1000000000) (n : Int) (hlo : -9223372036854775808 ≤ n) (hhi : n ≤ 9223372036854775807) :
    Calls Tryd.prog 28 #[.pointer (some ⟨L.blk 0 0, 0, none⟩), .int .i64 n] w fun e w' => e = .returned (.int .i64 (m.turn n).2) ∧ ∃ L', MUp ty w L m w' L' (m.turn n).1 (N + 48) := by
  obtain ⟨t0, t1, t2, t3, t4, t5⟩ := X.top
  have ht6 : m.T.length ≤ 6 := by have := X.om.waits; have := X.ot.len; omega
  have ht1 := X.ot.t1
  have hk : (0 : Int) < 2 * (m.T.length : Int) := by omega
  have hk0 : (2 * (m.T.length : Int) == 0) = false := by rw [beq_eq_false_iff_ne]; omega
  have hfix := tmod_fix n (2 * (m.T.length : Int)) hk
  have h1 := Int.emod_nonneg n (show (2 * (m.T.length : Int)) ≠ 0 by omega)
  have h2 := Int.emod_lt_of_pos n hk
  clear t4
  obtain ⟨q, hq⟩ := Int.eq_ofNat_of_zero_le h1
  have hta := turn_at m n hq
  rw [hq] at hfix h2
  have HX := Lib.hid X
  have HE := Lib.hid hE
  have Hta := Lib.hid hta
  clear X hE hq hta h1
  obtain ⟨r, hr⟩ : ∃ r, n.tmod (2 * (m.T.length : Int)) = r := ⟨_, rfl⟩
  rw [hr] at hfix
  by_cases hneg : r < 0
  · rw [if_pos hneg] at hfix
    by_cases hqt : q < m.T.length
    · have hd : decide ((q : Int) < (m.T.length : Int)) = true := by simp; omega
      go_enter Tryd.func28, Tryd.ntmps28
      go_wp2_with fail
      refine (step_any HX.out HE.out (by omega) q hqt).mono ?_
      rintro e w5 ⟨rfl, h5⟩
      have H5 := Lib.hid h5
      clear h5
      go_wp2
      go_ret
      rw [Hta.out, if_pos hqt]
      exact ⟨rfl, H5.out⟩
    · obtain ⟨p, rfl⟩ : ∃ p, q = m.T.length + p := ⟨q - m.T.length, by omega⟩
      have hp2 : p < m.T.length := by omega
      have hp3 : m.T.length + p - m.T.length = p := by omega
      rw [hp3] at Hta
      rw [Int.natCast_add] at h2 hfix
      have hd : decide ((m.T.length : Int) + (p : Int) < (m.T.length : Int)) = false := by simp; omega
      have hsub : (m.T.length : Int) + (p : Int) - (m.T.length : Int) = p := by omega
      clear hp3
      go_enter Tryd.func28, Tryd.ntmps28
      go_wp2_with fail
      refine (mdrain_any HX.out (by omega) p hp2).mono ?_
      rintro e w5 ⟨rfl, L5, h5⟩
      have H5 := Lib.hid h5
      clear h5
      go_wp2
      go_ret
      rw [Hta.out, if_neg hqt]
      exact ⟨rfl, L5, H5.out.mono (by omega)⟩
  · rw [if_neg hneg] at hfix
    subst hfix
    clear hneg
    by_cases hqt : q < m.T.length
    · have hd : decide ((q : Int) < (m.T.length : Int)) = true := by simp; omega
      go_enter Tryd.func28, Tryd.ntmps28
      go_wp2_with fail
      refine (step_any HX.out HE.out (by omega) q hqt).mono ?_
      rintro e w5 ⟨rfl, h5⟩
      have H5 := Lib.hid h5
      clear h5
      go_wp2
      go_ret
      rw [Hta.out, if_pos hqt]
      exact ⟨rfl, H5.out⟩
    · obtain ⟨p, rfl⟩ : ∃ p, q = m.T.length + p := ⟨q - m.T.length, by omega⟩
      have hp2 : p < m.T.length := by omega
      have hp3 : m.T.length + p - m.T.length = p := by omega
      rw [hp3] at Hta
      rw [Int.natCast_add] at h2 hr
      have hd : decide ((m.T.length : Int) + (p : Int) < (m.T.length : Int)) = false := by simp; omega
      have hsub : (m.T.length : Int) + (p : Int) - (m.T.length : Int) = p := by omega
      clear hp3
      go_enter Tryd.func28, Tryd.ntmps28
      go_wp2_with fail
      refine (mdrain_any HX.out (by omega) p hp2).mono ?_
      rintro e w5 ⟨rfl, L5, h5⟩
      have H5 := Lib.hid h5
      clear h5
      go_wp2
      go_ret
      rw [Hta.out, if_neg hqt]
      exact ⟨rfl, L5, H5.out.mono (by omega)⟩
end Go.Proofs.YtlapbfajdamlcaaDoor
end
/- (*quiescentref1.Machine).Run. -/
section
namespace Go.Proofs.YtlapbfajdamlcaaDoor
open Go.RowKit Qs Qh
variable {w : World} {L : Lay} {m : M} {N : Int}
theorem Easy.keep {w' : World} {L' : Lay} {m' : M} {N' : Int} (h : Easy m) (U : MUp ty w L m w' L' m' N') : Easy m' := by
  intro t x' hx' i hi
  obtain ⟨x, hx, e⟩ := U.thr t x' hx'
  rw [e] at hi
  exact h t x hx i hi
theorem frame1 {w w' : World} {F : Nat → Prop} {v : Value} {l : List Int} (h : IntsAt w v l) (hM : Mod F w w') (hF : l ≠ [] → ∀ b, v.ownBlock = some b → ¬ F b) : IntsAt w' v l := by
  by_cases e : l = []
  · subst e
    obtain ⟨a, c, rfl, hc, hx⟩ := h.at_
    exact ⟨a, c, rfl, hc, fun i x hi => by simp at hi⟩
  · exact h.frame hM (hF e)
def runRel (w : World) (L : Lay) (m : M) (N : Int) (l : List Int) (k : Nat) (d i : Value) (wr : World) : Prop :=
  i = .int .i64 k ∧ d = .int .i64 (m.run (l.take k)).2 ∧ ∃ L', MUp ty w L m wr L' (m.run (l.take k)).1 (N + 48 * k)
set_option maxHeartbeats 1000000 in
theorem run_any (X : Mach ty w L m N) (hE : Easy m) (hN : N ≤ 1000000) (v : Value) (l : List Int) (hl : IntsAt w v l) (hlen : l.length ≤ 20000) (hw : ∀ x ∈ l, -9223372036854775808 ≤ x ∧ x ≤ 9223372036854775807) (hv : l ≠ [] → ∀ b, v.ownBlock = some b → ¬ Foot ty allK L m b) :
    Calls Tryd.prog 14 #[.pointer (some ⟨L.blk 0 0, 0, none⟩), v] w fun e w' => e = .returned (.int .i64 (m.run l).2) ∧ ∃ L', MUp ty w L m w' L' (m.run l).1 (N + 48 * l.length) := by
  obtain ⟨a, c, rfl, hcm, hcell⟩ := hl.at_
  have HX := Lib.hid X
  have HE := Lib.hid hE
  have Hl := Lib.hid hl
  have Hw := Lib.hid hw
  have Hv := Lib.hid hv
  clear X hE hl hw hv hcell hcm
  go_enter Tryd.func14, Tryd.ntmps14
  go_wp2
  go_loopw [5, 6, 7] (fun d i _ wr => ∃ k : Nat, k ≤ l.length ∧ runRel w L m N l k d i wr) (fun _ i _ _ => l.length - (intOf i).toNat)
  case atStart => exact ⟨0, Nat.zero_le _, rfl, rfl, L, by simpa [M.run] using MUp.quiet HX.out (Mod.refl _ _)⟩
  case round =>
    rename_i wr
    obtain ⟨k, hk, rfl, rfl, Lr, Ur⟩ := hrel
    have hd0 := M.run_two m (l.take k)
    have hlk : (l.take k).length ≤ k := List.length_take_le _ _
    generalize hmr : m.run (l.take k) = mr at *
    obtain ⟨m1, d1⟩ := mr
    simp only at hd0 Ur
    have Hmr := Lib.hid hmr
    have HUr := Lib.hid Ur
    obtain ⟨hd0, hd1⟩ := hd0
    have hd2 : d1 ≤ 20000 := by omega
    clear hmr Ur hlk
    by_cases hlt : k < l.length
    · have hd : decide ((k : Int) < (l.length : Int)) = true := by simp; omega
      have hdd : decide ((k : Int) < 20000) = true := by simp; omega
      have hdd : ((k : Int) < 20000) := by omega
      obtain ⟨x, hx⟩ : ∃ x, l[k]? = some x := ⟨_, List.getElem?_eq_getElem hlt⟩
      have hwx := Hw.out x (List.mem_of_getElem? hx)
      obtain ⟨hw0, hw1⟩ := hwx
      have hI := frame1 Hl.out HUr.out.mod Hv.out
      obtain ⟨a', c', e', _, hcell⟩ := hI.at_
      cases e'
      obtain ⟨b, off, rfl, hb, hc⟩ := hcell k x hx
      have hE1 := HE.out.keep HUr.out
      have e0 := HUr.out.top.1
      have hcall := turn_any HUr.out.mach hE1 (by omega) x hw0 hw1
      rw [e0] at hcall
      have htk : l.take (k + 1) = l.take k ++ [x] := by rw [List.take_succ_eq_append_getElem hlt]; rw [List.getElem?_eq_getElem hlt] at hx; cases hx; rfl
      have hsn := M.run_snoc m (l.take k) x
      rw [← htk, Hmr.out] at hsn
      have Hsn := Lib.hid hsn
      have Hcall := Lib.hid hcall
      have Hx := Lib.hid hx
      clear hx hI hcell hE1 e0 hcall htk hsn
      go_wp2_with fail
      refine Hcall.out.mono ?_
      rintro e w5 ⟨rfl, L5, U5⟩
      have HU5 := Lib.hid U5
      clear U5
      by_cases hz : (m1.turn x).2 = 0
      · rw [hz]
        have Hz := Lib.hid hz
        clear hz
        go_wp2
        go_roundw
        case rel =>
          refine ⟨k + 1, by omega, by go_num, ?_, L5, ?_⟩
          · rw [Hsn.out, if_pos Hz.out]
          · rw [Hsn.out]
            have := (HUr.out.trans HU5.out)
            rw [show N + 48 * ((k + 1 : Nat) : Int) = N + 48 * (k : Int) + 48 from by omega]
            exact this
        case measure => simp [intOf]; omega
      · generalize htn : (m1.turn x).2 = z at *
        have hzb : (z == 0) = false := by simpa using hz
        have Hz := Lib.hid hz
        have Htn := Lib.hid htn
        clear hz htn
        go_wp2
        go_roundw
        case rel =>
          refine ⟨k + 1, by omega, by go_num, ?_, L5, ?_⟩
          · rw [Hsn.out]
            simp only
            rw [if_neg Hz.out]; simp
          · rw [Hsn.out]
            have := (HUr.out.trans HU5.out)
            rw [show N + 48 * ((k + 1 : Nat) : Int) = N + 48 * (k : Int) + 48 from by omega]
            exact this
        case measure => simp [intOf]; omega
    · have hd : decide ((k : Int) < (l.length : Int)) = false := by simp; omega
      obtain rfl : k = l.length := by omega
      have htk : l.take l.length = l := List.take_length
      rw [htk] at Hmr
      clear htk
      go_wp2
      go_ret
      rw [Hmr.out]
      exact ⟨rfl, Lr, HUr.out⟩
end Go.Proofs.YtlapbfajdamlcaaDoor
end
/- For the queue's laws: what is read of a machine, and of a start. -/
section
namespace Qh
open Go Go.RowKit Qs
variable {w w' : World} {v : Value}
theorem RowsAt.keepM {ll : List (List Int)} (h : RowsAt w v ll) (hM : Mod noF w w') : RowsAt w' v ll := by
  obtain ⟨a, c, e, hx⟩ := h
  refine ⟨a, c, e, fun i l hi => ?_⟩
  obtain ⟨b, off, u, e1, hb, hc, hi2, ho⟩ := hx i l hi
  exact ⟨b, off, u, e1, Nat.lt_of_lt_of_le hb hM.size, hM.cell hc (fun e => e), hi2.frame0 hM, fun g hg => Nat.lt_of_lt_of_le (ho g hg) hM.size⟩
theorem CodesAt.keepM {cs : List (List Instr)} {cv : Nat → Value} (h : CodesAt w v cs cv) (hM : Mod noF w w') : CodesAt w' v cs cv := by
  obtain ⟨a, c, e, hx⟩ := h
  refine ⟨a, c, e, fun i l hi => ?_⟩
  obtain ⟨b, off, e1, hb, hc, hi2, ho⟩ := hx i l hi
  exact ⟨b, off, e1, Nat.lt_of_lt_of_le hb hM.size, hM.cell hc (fun e => e), hi2.frame hM (fun _ _ e => e), fun g hg => Nat.lt_of_lt_of_le (ho g hg) hM.size⟩
theorem Mach.head {τ : Ty} {L : Lay} {m : M} {N : Int} (X : Mach τ w L m N) : w.heap[L.blk 0 0]? = some (.cells #[.pointer (some ⟨L.blk 1 0, 0, none⟩), L.row 4 0 m.T.length, L.row 5 0 m.marks.length, .int .i64 m.faults] τ.mach (0, 0)) :=
  X.rep.at_ 0 0 _ _ rfl rfl
theorem Mach.told {τ : Ty} {L : Lay} {m : M} {N : Int} (X : Mach τ w L m N) : ∃ a c, L.row 5 0 m.marks.length = .slice a m.marks.length c ∧ ∀ (i : Nat) x, m.marks[i]? = some x → ∃ b, a = some ⟨b, 0, none⟩ ∧ b < w.heap.size ∧ w.cell? ⟨b, i * 2, none⟩ = some (.int .i64 x.1) ∧ w.cell? ⟨b, i * 2 + 1, none⟩ = some (.int .i64 x.2) := by
  cases hn : L.nil 5 0 with
  | true =>
    have h0 := X.olt.n5 hn
    refine ⟨none, 0, by simp [Lay.row, hn, h0], fun i x hi => by rw [h0] at hi; simp at hi⟩
  | false =>
    have hh := X.rep.at_ 5 0 _ _ rfl (obj5 τ m hn)
    refine ⟨_, _, row_some hn, fun i x hi => ⟨_, rfl, lt_of_block hh, ?_, ?_⟩⟩
    · rw [cell_of_heap hh]
      have := flat_get markVals 2 (fun _ _ => rfl) (show 0 < 2 by omega) m.marks 0 i x hi (L.junk 5 0)
      simpa [markVals, iv] using this
    · rw [cell_of_heap hh]
      have := flat_get markVals 2 (fun _ _ => rfl) (show 1 < 2 by omega) m.marks 0 i x hi (L.junk 5 0)
      simpa [markVals, iv] using this
end Qh
namespace Go.Proofs.YtlapbfajdamlcaaDoor
open Go.RowKit Qs Qh
theorem intInfo' : (Tryd.prog.info? 3).map (fun i => (i.zero, i.size, i.bytes)) = some (some (.int .i64 0), 1, 8) := by kernel_rfl
theorem make_ints (n : Nat) (hn : n ≤ 64) (w : World) : (Instr.makeSlice 22 (.int .i64 n) (.int .i64 n)).run Tryd.prog w = .ok (.slice (some ⟨w.heap.size, 0, none⟩) n n) (w.alloc (.cells ((List.replicate n (0 : Int)).map (Value.int .i64)).toArray 3)) := by
  obtain ⟨i, hi, hz0, hz1, hz2⟩ := info_parts intInfo'
  have := run_makeSlice (P := Tryd.prog) w 22 3 i _ Tryd.underlying22 hi hz0 .i64 .i64 n n (by omega) (by omega) (by rw [hz1]; simp; omega) (by rw [hz2]; omega) (by omega)
  rw [this, hz1]
  have e : (madeCells (Value.int .i64 0).cells (n * 1)) = ((List.replicate n (0 : Int)).map (Value.int .i64)).toArray := by
    rw [List.map_replicate, ← toList_madeCells_one]; simp [Value.cells]
  simp only [Int.toNat_natCast]
  rw [e]
theorem qInit_fine : RowsFine 4 qInit := fun l hl => by
  simp only [qInit, List.mem_cons, List.not_mem_nil, or_false] at hl
  rcases hl with rfl | rfl
  · exact ⟨by decide, fun v hv => by cases hv⟩
  · exact ⟨by decide, by decide⟩
theorem qRegs_fine (n : Nat) : RowsFine 8 (qRegs n) := fun l hl => by
  rw [List.eq_of_mem_replicate hl]
  exact ⟨by decide, by decide⟩
theorem easy_any (m : M) : Easy m := fun t h ht x hx => rfl
theorem codes_fine {ll : List (List Qu.Op)} (h20 : ∀ l ∈ ll, l.length ≤ 20) (hp : ∀ l ∈ ll, ∀ v, Qu.Op.put v ∈ l → 1 ≤ v ∧ v ≤ 1000) : ∀ c ∈ ll.map (Qu.codeOf Qu.labO 0), CodeFine c := fun c hc => by
  obtain ⟨l, hl, rfl⟩ := List.mem_map.1 hc
  exact Qu.code_fine Qu.labO_lab Qu.labO_to (fun v hv => by have := hp l hl v hv; omega) (h20 l hl)
theorem noFault (w : World) : (Go.Instr.field 37 (.agg #[.int .i64 0, .int .i64 (-1)]) 0).run Tryd.prog w = .ok (.int .i64 0) w := by kernel_rfl
theorem make_ints1 (t : Nat) (hn : t ≤ 60) (w : World) : (Instr.makeSlice 22 (.int .i64 ((t : Int) + 1)) (.int .i64 ((t : Int) + 1))).run Tryd.prog w = .ok (.slice (some ⟨w.heap.size, 0, none⟩) (t + 1) (t + 1)) (w.alloc (.cells ((List.replicate (t + 1) (0 : Int)).map (Value.int .i64)).toArray 3)) := by
  have := make_ints (t + 1) (by omega) w
  rwa [show (((t + 1 : Nat)) : Int) = (t : Int) + 1 by omega] at this
/-- What each thread told last. -/
def lastsOf (l : List (Int × Int)) (n : Nat) : List Int := (List.range n).map fun u => lastOf l u
theorem lasts_nil (n : Nat) : lastsOf [] n = List.replicate n 0 := by
  refine List.ext_getElem? fun i => ?_
  unfold lastsOf
  rw [List.getElem?_map, List.getElem?_replicate]
  by_cases h : i < n
  · rw [List.getElem?_range h, if_pos h]; rfl
  · rw [if_neg h, List.getElem?_eq_none (by simp; omega)]; rfl
theorem lasts_get (l : List (Int × Int)) {n t : Nat} (h : t < n) : (lastsOf l n)[t]? = some (lastOf l t) := by
  unfold lastsOf
  rw [List.getElem?_map, List.getElem?_range h]; rfl
theorem lasts_snoc (l : List (Int × Int)) (n t : Nat) (v : Int) : lastsOf (l ++ [((t : Int), v)]) n = (lastsOf l n).set t v := by
  refine List.ext_getElem? fun i => ?_
  rw [List.getElem?_set]
  unfold lastsOf
  rw [List.getElem?_map, List.getElem?_map, List.length_map, List.length_range]
  by_cases h : i < n
  · rw [List.getElem?_range h]
    simp only [Option.map_some]
    rw [lastOf_snoc]
    by_cases e : t = i
    · subst e; rw [if_pos rfl, if_pos rfl, if_pos h]
    · rw [if_neg e, if_neg (by simp only; omega)]
  · rw [List.getElem?_eq_none (by simp; omega)]
    by_cases e : t = i
    · subst e; rw [if_pos rfl, if_neg h]; rfl
    · rw [if_neg e]; rfl
end Go.Proofs.YtlapbfajdamlcaaDoor
end
/- quiescentlaw3.QueueOrder: its walk. -/
section
namespace Go.Proofs.YtlapbfajdamlcaaDoor
open Go.RowKit Qs Qh
theorem opInfo : (Tryd.prog.info? 27).map (fun i => (i.zero, i.size, i.bytes)) = some (some (.agg #[.string ⟨#[]⟩, .int .i64 0]), 2, 24) := by kernel_rfl
theorem opsInfo : (Tryd.prog.info? 24).map (fun i => (i.zero, i.size, i.bytes)) = some (some (.slice none 0 0), 1, 24) := by kernel_rfl
def putsL (j : Nat) : List Qu.Op := (List.range j).map fun (i : Nat) => Qu.Op.put ((i : Int) + 1)
theorem putsL_succ (j : Nat) : putsL (j + 1) = putsL j ++ [.put ((j : Int) + 1)] := by unfold putsL; rw [List.range_succ, List.map_append]; rfl
theorem putsL_len (j : Nat) : (putsL j).length = j := by simp [putsL]
/-- A list of ops that grows in a variable. -/
structure Put1 (w wr : World) (B lo j : Nat) (u : Value) : Prop where
  mod : Mod noF w wr
  box : wr.heap[B]? = some (.cells #[u] 24 (0, 0))
  own : wr.ownsRow 0 27 2 u j (flat opV 0 (putsL j))
  vin : ∀ g, u.ownBlock = some g → lo ≤ g ∧ g ≠ B
theorem Put1.next {w wr w3 w4 : World} {B lo j : Nat} {u v4 : Value} (P : Put1 w wr B lo j u) (hlo : lo = w.heap.size) (hB : lo ≤ B) (hM : Mod noF wr w3)
    (hown : w4.ownsRow 0 27 2 v4 (j + 1) (flat opV 0 (putsL j) ++ [.string putS, .int .i64 ((j : Int) + 1)])) (hg : w3.grownBy w4 u.ownBlock) (hfr : ∀ g, v4.ownBlock = some g → u.ownBlock = some g ∨ w3.heap.size ≤ g) :
    Put1 w (w4.setCell ⟨B, 0, none⟩ v4) B lo (j + 1) v4 := by
  have hM4 : Mod (fun x => u.ownBlock = some x) wr w4 := hM.any.grown hg fun j hj _ => hj
  have hBw : B < wr.heap.size := lt_of_block P.box
  have hb4 := hM4.heap P.box fun e => (P.vin B e).2 rfl
  have hM5 : Mod (fun x => x = B) w4 (w4.setCell ⟨B, 0, none⟩ v4) := (Mod.refl (fun x => x = B) w4).setCell (fun _ => rfl) v4
  have hvin : ∀ g, v4.ownBlock = some g → lo ≤ g ∧ g ≠ B := fun g hg' => by
    rcases hfr g hg' with e | e
    · exact P.vin g e
    · have := hM.size; have := P.mod.size; omega
  refine ⟨(P.mod.trans hM4 fun x hx e => ?_).trans hM5 fun x hx e => ?_, ?_, ?_, hvin⟩
  · have := (P.vin x e).1; omega
  · omega
  · rw [Qh.heap_setCell_same hb4]; rfl
  · rw [putsL_succ, opV_snoc]
    exact ownsRow_setCell_other hown (fun hx => (hvin _ hx).2 rfl) _
def ordLs (n : Nat) : Nat → List Qu.Op
  | 0 => putsL n
  | _ + 1 => List.replicate n .take
theorem takes_snoc (j : Nat) : flat opV 0 (List.replicate (j + 1) Qu.Op.take) = flat opV 0 (List.replicate j Qu.Op.take) ++ [.string takeS, .int .i64 0] := by
  rw [List.replicate_succ', opV_snoc]; rfl
theorem Put1.ols {w wr : World} {B lo n : Nat} {u : Value} (P : Put1 w wr B lo n u) (hB : lo ≤ B) : Ols lo wr (.slice (some ⟨B, 0, none⟩) 1 1) (ordLs n) 1 (fun _ => u) := by
  refine ⟨⟨rfl, .inr ⟨B, 1, #[u], rfl, Nat.zero_le _, P.box, Nat.le_refl _, by unfold maxLen; omega, rfl, rfl⟩⟩, fun g hg => ?_, fun i hi => ?_, fun i g hi hg => ⟨(P.vin g hg).1, (World.ownsRow.lt P.own g hg).2⟩, fun i g hi hg e => ?_⟩
  · cases hg; exact hB
  · obtain rfl : i = 0 := by omega
    exact opRow_own (by rw [show (ordLs n 0).length = n from putsL_len n]; exact P.own)
  · cases e; exact (P.vin _ hg).2 rfl
theorem ordLs_map (n k : Nat) : (List.range (k + 1)).map (ordLs n) = ordOps n k := by
  refine List.ext_getElem? fun i => ?_
  rw [List.getElem?_map]
  match i with
  | 0 => rw [List.getElem?_range (by omega)]; rfl
  | i + 1 =>
    unfold ordOps
    rw [List.getElem?_cons_succ, List.getElem?_replicate]
    by_cases h : i < k
    · rw [List.getElem?_range (by omega), if_pos h]; rfl
    · rw [if_neg h, List.getElem?_eq_none (by simp; omega)]; rfl
theorem ordOps_20 {n k : Nat} (hn : n ≤ 20) : ∀ l ∈ ordOps n k, l.length ≤ 20 := fun l hl => by
  rcases List.mem_cons.1 hl with rfl | h
  · simpa using hn
  · rw [List.eq_of_mem_replicate h]; simpa using hn
theorem ordOps_put {n k : Nat} (hn : n ≤ 20) : ∀ l ∈ ordOps n k, ∀ v, Qu.Op.put v ∈ l → 1 ≤ v ∧ v ≤ 1000 := fun l hl v hv => by
  rcases List.mem_cons.1 hl with rfl | h
  · obtain ⟨i, hi, e⟩ := List.mem_map.1 hv
    have := List.mem_range.1 hi
    cases e; omega
  · rw [List.eq_of_mem_replicate h] at hv
    have := List.eq_of_mem_replicate hv
    cases this
set_option maxHeartbeats 16000000 in
theorem order_good (n k : Nat) (hn : n ≤ 20) (hk1 : 1 ≤ k) (hk3 : k ≤ 3) (vs : Value) (s : List Int) (w : World) (hl : IntsAt w vs s) (hlen : s.length ≤ 3000) (hlw : ∀ x ∈ s, -9223372036854775808 ≤ x ∧ x ≤ 9223372036854775807) (hvb : s ≠ [] → ∀ b, vs.ownBlock = some b → b < w.heap.size) :
    Calls Tryd.prog 3 #[.int .i64 n, .int .i64 k, vs] w fun e w' => e = .returned (.bool true) ∧ Mod noF w w' := by
  have Hl := Lib.hid hl
  obtain ⟨va, vc, rfl, -⟩ := hl.at_
  have d1 : decide ((n : Int) < 0) = false := by simp
  have d2 : decide ((20 : Int) < (n : Int)) = false := by simp; omega
  have d3 : decide ((k : Int) < 1) = false := by simp; omega
  have d4 : decide ((3 : Int) < (k : Int)) = false := by simp; omega
  have d5 : decide ((3000 : Int) < (s.length : Int)) = false := by simp; omega
  have Hlw := Lib.hid hlw
  have Hvb := Lib.hid hvb
  clear hl hlw hvb
  obtain ⟨i0, hti, hz0, hz1, hz2⟩ := info_parts opInfo
  obtain ⟨j0, htj, hy0, hy1, hy2⟩ := info_parts opsInfo
  go_enter Tryd.func3, Tryd.ntmps3
  go_wp2_with fail
  refine (lined_ok _).mono ?_
  rintro e w1 ⟨rfl, hm1⟩
  have Hm1 := Lib.hid hm1
  clear hm1
  go_wp2
  have hB1 : w1.heap.size + 1 = w1.heap.size + 1 := rfl
  go_loopw [9] (fun i wr => ∃ (j : Nat) (u : Value), j ≤ n ∧ i = .int .i64 j ∧ Put1 w1 wr (w1.heap.size + 1) w1.heap.size j u) (fun i _ => n - (intOf i).toNat)
  case atStart =>
    refine ⟨0, .slice (some ⟨w1.heap.size, 0, none⟩) 0 0, Nat.zero_le _, rfl, ((Mod.refl _ _).alloc _).alloc _, ?_, ?_, fun g hg => ?_⟩
    · have := heap_alloc_new (w1.alloc (.cells #[] 27)) (.cells #[.slice (some ⟨w1.heap.size, 0, none⟩) 0 0] 24)
      simpa using this
    · refine ⟨rfl, .inr ⟨w1.heap.size, 0, #[], rfl, Nat.zero_le _, ?_, Nat.le_refl _, Nat.zero_le _, rfl, rfl⟩⟩
      exact ((Mod.refl noF _).alloc _).heap (heap_alloc_new w1 _) (fun e => e)
    · cases hg; exact ⟨Nat.le_refl _, by show w1.heap.size ≠ w1.heap.size + 1; omega⟩
  case round =>
    obtain ⟨j, u, hj, rfl, hP⟩ := hrel
    obtain ⟨ua, ub, uc, rfl⟩ := slice_of_own hP.own
    have b0 : wr.cell? ⟨w1.heap.size + 1, 0, none⟩ = some (.slice ua ub uc) := by rw [cell_of_heap hP.box]; rfl
    have bf := free_of_heap hP.box 0
    have hBs := lt_of_block hP.box
    have hvb1 : ¬ (Value.slice ua ub uc).ownBlock = some (w1.heap.size + 1) := fun e => (hP.vin _ e).2 rfl
    have HP := Lib.hid hP
    have Hvb1 := Lib.hid hvb1
    clear hP hvb1
    by_cases hlt : j < n
    · have hd : decide ((j : Int) < (n : Int)) = true := by simp; omega
      have hbnd : j + 1 ≤ maxLen := by unfold maxLen; omega
      go_wp2_with (at_builtin; refine wpList_append_mine _ rfl (.tmp 55) (.tmp 59) 24 rfl 27 i0 (.agg #[.string ⟨#[]⟩, .int .i64 0]) 2 24 Tryd.underlying24 hti hz0 hz1 hz2 rfl (by decide) _ j (flat opV 0 (putsL j)) rfl (by exact World.ownsRow.alloc HP.out.own _) ⟨wr.heap.size, 0, none⟩ 1 1 [.string putS, .int .i64 ((j : Int) + 1)] rfl rfl (by exact new_cells_at _ _ _ rfl) (opV_one (.put ((j : Int) + 1))) hbnd (by omega) ?_; intro v4 w7 hown hgr hfr _; obtain ⟨ya, yb, yc, rfl⟩ := slice_of_own hown; have hm7 : Mod (fun x => (Value.slice ua ub uc).ownBlock = some x) wr w7 := appended hgr ((Mod.refl noF wr).alloc _); have z2 := hm7.cell b0 Hvb1.out; have zf := (World.frozen?_of_block (hm7.block (w1.heap.size + 1) hBs Hvb1.out)).trans bf; have Hown4 := Lib.hid hown; have Hgr := Lib.hid hgr; have Hfr := Lib.hid hfr; clear hown hgr hfr hm7)
      go_wp2
      go_roundw
      case rel => exact ⟨j + 1, _, by omega, by go_num, HP.out.next rfl (by omega) ((Mod.refl noF wr).alloc _) Hown4.out Hgr.out Hfr.out⟩
      case measure => simp [intOf]; omega
    · have hd : decide ((j : Int) < (n : Int)) = false := by simp; omega
      obtain rfl : j = n := by omega
      go_wp2
      generalize wr = w2 at *
      have hO := HP.out.ols (n := j) (by omega)
      have hm2 := HP.out.mod
      have HO := Lib.hid hO
      have Hm2 := Lib.hid hm2
      clear hO hm2
      go_loopw [8, 10] (fun lv i wr => ∃ (t : Nat) (vk : Nat → Value), t ≤ k ∧ i = .int .i64 t ∧ Mod noF w1 wr ∧ Ols w1.heap.size wr lv (ordLs j) (t + 1) vk) (fun _ i _ => k - (intOf i).toNat)
      case atStart => exact ⟨0, _, Nat.zero_le _, rfl, Hm2.out, HO.out⟩
      case round =>
        generalize wr = w3 at *
        obtain ⟨t, vk, ht, rfl, hm3, hO3⟩ := hrel
        obtain ⟨la, lb, lc, rfl⟩ := slice_of_own hO3.own
        have HO3 := Lib.hid hO3
        have Hm3 := Lib.hid hm3
        clear hO3 hm3
        by_cases hlt2 : t < k
        · have hd2 : decide ((t : Int) < (k : Int)) = true := by simp; omega
          go_wp2
          go_loopw [11, 12] (fun x i wr => ∃ q : Nat, q ≤ j ∧ i = .int .i64 q ∧ Mod noF w3 wr ∧ wr.ownsRow 0 27 2 x q (flat opV 0 (List.replicate q Qu.Op.take)) ∧ ∀ g, x.ownBlock = some g → w3.heap.size ≤ g) (fun _ i _ => j - (intOf i).toNat)
          case atStart => exact ⟨0, Nat.zero_le _, rfl, Mod.refl _ _, World.ownsRow_nil _ 0 _ 2, fun g hg => by cases hg⟩
          case round =>
            obtain ⟨q, hq, rfl, hm4, hown, hxv⟩ := hrel
            obtain ⟨xa, xb, xc, rfl⟩ := slice_of_own hown
            have Hm4 := Lib.hid hm4
            have Hown := Lib.hid hown
            have Hxv := Lib.hid hxv
            clear hm4 hown hxv
            by_cases hltq : q < j
            · have hd3 : decide ((q : Int) < (j : Int)) = true := by simp; omega
              have hbnd : q + 1 ≤ maxLen := by unfold maxLen; omega
              go_wp2_with (at_builtin; refine wpList_append_mine _ rfl (.tmp 72) (.tmp 74) 24 rfl 27 i0 (.agg #[.string ⟨#[]⟩, .int .i64 0]) 2 24 Tryd.underlying24 hti hz0 hz1 hz2 rfl (by decide) _ q (flat opV 0 (List.replicate q Qu.Op.take)) rfl (by exact World.ownsRow.alloc Hown.out _) ⟨wr.heap.size, 0, none⟩ 1 1 [.string takeS, .int .i64 0] rfl rfl (by exact new_cells_at _ _ _ rfl) (opV_one .take) hbnd (by omega) ?_; intro v4 w7 hown hgr hfr _; obtain ⟨ya, yb, yc, rfl⟩ := slice_of_own hown; have Hown4 := Lib.hid hown; have Hgr := Lib.hid hgr; have Hfr := Lib.hid hfr; clear hown hgr hfr)
              go_wp2
              go_roundw
              case rel =>
                refine ⟨q + 1, by omega, by go_num, (Hm4.out.alloc _).trans ((Mod.refl (fun x => (Value.slice xa xb xc).ownBlock = some x) _).grown Hgr.out fun j hj _ => hj) fun x hx e => ?_, by rw [takes_snoc]; exact Hown4.out, fun g hg => ?_⟩
                · have := Hxv.out x e; omega
                · rcases Hfr.out g hg with e | e
                  · exact Hxv.out g e
                  · have := Hm4.out.size; simp at e; omega
              case measure => simp [intOf]; omega
            · have hd3 : decide ((q : Int) < (j : Int)) = false := by simp; omega
              obtain rfl : q = j := by omega
              have hbnd : t + 1 + 1 ≤ maxLen := by unfold maxLen; omega
              have HO4 := Lib.hid (HO3.out.keep Hm4.out fun _ _ _ e => e)
              have hsz : w3.heap.size ≤ wr.heap.size := Hm4.out.size
              have hsz3 : w1.heap.size ≤ w3.heap.size := Hm3.out.size
              have hrow : OpRow wr.heap.size wr (.slice xa xb xc) (ordLs q (t + 1)) := opRow_own (by rw [show (ordLs q (t + 1)).length = q from List.length_replicate]; exact Hown.out)
              have hxin : ∀ g, (Value.slice xa xb xc).ownBlock = some g → w1.heap.size ≤ g ∧ g < wr.heap.size ∧ (Value.slice la lb lc).ownBlock ≠ some g := fun g hg => by
                have h1 := Hxv.out g hg
                refine ⟨by omega, (World.ownsRow.lt Hown.out g hg).2, fun e => ?_⟩
                have := (World.ownsRow.lt HO3.out.own g e).2
                omega
              have Hrow := Lib.hid hrow
              have Hxin := Lib.hid hxin
              clear hrow hxin
              go_wp2_with (at_builtin; refine wpList_append_mine _ rfl (.tmp 76) (.tmp 78) 25 rfl 24 j0 (.slice none 0 0) 1 24 Tryd.underlying25 htj hy0 hy1 hy2 rfl (by decide) _ (t + 1) ((List.range (t + 1)).map vk) rfl (by exact World.ownsRow.alloc HO4.out.own _) ⟨wr.heap.size, 0, none⟩ 1 1 [.slice xa xb xc] rfl rfl (by exact new_cells_at _ _ _ rfl) (one_row _ rfl) hbnd (by omega) ?_; intro v4 w7 hown hgr hfr _; obtain ⟨ya, yb, yc, rfl⟩ := slice_of_own hown; have Hown4 := Lib.hid hown; have Hgr := Lib.hid hgr; have Hfr := Lib.hid hfr; clear hown hgr hfr)
              go_wp2
              go_roundw
              case rel =>
                refine ⟨t + 1, _, by omega, by go_num, (((Hm3.out.trans0 Hm4.out).alloc _).trans ((Mod.refl (fun x => (Value.slice la lb lc).ownBlock = some x) _).grown Hgr.out fun j hj _ => hj) fun x hx e => ?_), (HO4.out.keep ((Mod.refl noF wr).alloc _) fun _ _ _ e => e).push (by simp; omega) ((Hrow.out.frame ((Mod.refl noF wr).alloc _) fun _ _ e => e).mono (by simp)) (fun g hg => ⟨(Hxin.out g hg).1, by have := (Hxin.out g hg).2.1; simp; omega, (Hxin.out g hg).2.2⟩) Hown4.out Hgr.out Hfr.out⟩
                have := HO3.out.vin x e; omega
              case measure => simp [intOf]; omega
        · have hd2 : decide ((t : Int) < (k : Int)) = false := by simp; omega
          obtain rfl : t = k := by omega
          have hops := HO3.out.ops
          rw [ordLs_map] at hops
          have Hops := Lib.hid hops
          have hol := ordOps_len j t
          have hfd := noFault
          clear hops
          go_wp2_with fail
          refine (build_ok Hops.out (Nat.le_refl _) (by omega) (by omega) (ordOps_20 hn) (ordOps_put hn)).mono ?_
          rintro e w4 ⟨iv, rv, cv, vk4, rfl, hm4, hI, hR, hC⟩
          rw [hol] at hR
          have HI := Lib.hid hI
          have HR := Lib.hid hR
          have hcl : ((ordOps j t).map (Qu.codeOf Qu.labO 0)).length = t + 1 := by rw [List.length_map, hol]
          obtain ⟨ca, cc, rfl, hcx⟩ := hC
          have hC : CodesAt w4 (.slice ca (t + 1) cc) ((ordOps j t).map (Qu.codeOf Qu.labO 0)) vk4 := ⟨ca, cc, by rw [hcl], hcx⟩
          have HC := Lib.hid hC
          rw [hcl]
          have Hm4 := Lib.hid hm4
          obtain ⟨ia, ic, rfl, -⟩ := hI
          obtain ⟨ra, rc, rfl, -⟩ := hR
          clear hm4 hC hcx hcl
          go_wp2_with fail
          refine (backStart_ok 64 ia ra _ ic _ rc _).mono ?_
          rintro e w5 ⟨rfl, hm5⟩
          have Hm5 := Lib.hid (((Mod.refl noF w4).alloc _).trans0 hm5)
          have c0 := hm5.cell (show (w4.alloc (.cells #[.int .i64 64, .slice ia qInit.length ic, .slice ra (qRegs (t + 1)).length rc] 30)).cell? ⟨w4.heap.size, 0, none⟩ = some (.int .i64 64) by simp) (fun e => e)
          have c1 := hm5.cell (show (w4.alloc (.cells #[.int .i64 64, .slice ia qInit.length ic, .slice ra (qRegs (t + 1)).length rc] 30)).cell? ⟨w4.heap.size, 1, none⟩ = some (.slice ia qInit.length ic) by simp) (fun e => e)
          have c2 := hm5.cell (show (w4.alloc (.cells #[.int .i64 64, .slice ia qInit.length ic, .slice ra (qRegs (t + 1)).length rc] 30)).cell? ⟨w4.heap.size, 2, none⟩ = some (.slice ra (qRegs (t + 1)).length rc) by simp) (fun e => e)
          clear hm5
          go_wp2_with fail
          refine (startFault_ok 64 _ _ _ qInit (qRegs (t + 1)) _ _ _ (HI.out.keepM Hm5.out) (HR.out.keepM Hm5.out) (HC.out.keepM Hm5.out) (by omega) (by omega) (by rw [List.length_map]; omega) (by rw [List.length_map]; omega) (by decide) (by rw [List.length_map, hol]; simp [qRegs]) qInit_fine (qRegs_fine _) (codes_fine (ordOps_20 hn) (ordOps_put hn))).mono ?_
          rintro e w6 ⟨rfl, hm6⟩
          have Hm6 := Lib.hid (Hm5.out.trans0 hm6)
          have c0 := hm6.cell c0 (fun e => e)
          have c1 := hm6.cell c1 (fun e => e)
          have c2 := hm6.cell c2 (fun e => e)
          clear hm6
          go_wp2_with fail
          refine (backStart_ok 64 ia ra _ ic _ rc _).mono ?_
          rintro e w7 ⟨rfl, hm7⟩
          have Hm7 := Lib.hid (Hm6.out.trans0 hm7)
          clear hm7 c0 c1 c2
          go_wp2_with fail
          refine (newMachine_ok 64 _ _ _ qInit (qRegs (t + 1)) _ _ _ (HI.out.keepM Hm7.out) (HR.out.keepM Hm7.out) (HC.out.keepM Hm7.out) (by omega) (by omega) (by rw [List.length_map]; omega) (by rw [List.length_map]; omega) (by decide) (by rw [List.length_map, hol]; simp [qRegs]) qInit_fine (qRegs_fine _) (codes_fine (ordOps_20 hn) (ordOps_put hn))).mono ?_
          rintro e w8 ⟨L, rfl, hX, hb8, hf8⟩
          have hq : startM 64 qInit (qRegs (t + 1)) ((ordOps j t).map (Qu.codeOf Qu.labO 0)) = qM Qu.labO (ordOps j t) := by unfold qM; rw [hol]
          rw [hq] at hX hf8
          have hq8 := Mod.below hb8
          have hall := ((((Hm1.out.trans0 Hm3.out).trans0 Hm4.out).trans0 Hm7.out).trans0 hq8)
          have hs7 := (((Hm1.out.trans0 Hm3.out).trans0 Hm4.out).trans0 Hm7.out).size
          have Hall := Lib.hid hall
          have HX := Lib.hid hX
          have Hf8 := Lib.hid hf8
          have E := ord_end j t hn s hlen
          have HE := Lib.hid E
          clear hX hb8 hf8 hq hq8 hall E HI HR HC Hm7 Hm6 Hm5 Hops
          go_wp2_with fail
          refine (run_any HX.out (easy_any _) (by omega) _ s (Hl.out.frame0 Hall.out) (by omega) Hlw.out (fun h0 b hb hf => by have := Hvb.out h0 b hb; have := Hf8.out b hf; omega)).mono ?_
          rintro e w9 ⟨rfl, L9, U⟩
          have h9 : Mod noF w w9 := Hall.out.trans U.mod fun x hx hf => by have := Hf8.out x hf; omega
          have hX9 := U.mach
          have htop := U.top.1
          have E := HE.out
          unfold ordM at E
          generalize ((qM Qu.labO (ordOps j t)).run s).1 = m9 at hX9 E
          obtain ⟨ta, tc, htold, hmk⟩ := hX9.told
          have hh := hX9.head
          rw [htop, htold, E.faults] at hh
          have x3 : w9.cell? ⟨L.blk 0 0, 3, none⟩ = some (.int .i64 0) := by rw [cell_of_heap hh]; rfl
          have x2 : w9.cell? ⟨L.blk 0 0, 2, none⟩ = some (.slice ta m9.marks.length tc) := by rw [cell_of_heap hh]; rfl
          have hmk1 := make_ints1 t (by omega)
          have H9 := Lib.hid h9
          have HE9 := Lib.hid E
          have Hmk := Lib.hid hmk
          have hX5 := hX9.ot
          clear h9 U hX9 htop E htold hmk hh HE HX Hf8
          go_wp2
          go_name_world wm hwm
          have hm0 : Mod noF w9 wm := by rw [← hwm]; exact (Mod.refl noF w9).alloc _
          have hh0 : wm.heap[w9.heap.size]? = some (.cells ((lastsOf (m9.marks.take 0) (t + 1)).map (Value.int .i64)).toArray 3 (0, 0)) := by
            rw [List.take_zero, lasts_nil, ← hwm]
            have := heap_alloc_new w9 (.cells (Array.replicate (t + 1) (.int .i64 0)) 3)
            rw [this]
            simp
          have h500 := hX5.marks
          have Hm0 := Lib.hid hm0
          have Hh0 := Lib.hid hh0
          clear hm0 hh0 hwm hX5
          go_loopw [18] (fun i wr => ∃ q : Nat, q ≤ m9.marks.length ∧ i = .int .i64 q ∧ Mod noF w9 wr ∧ wr.heap[w9.heap.size]? = some (.cells ((lastsOf (m9.marks.take q) (t + 1)).map (Value.int .i64)).toArray 3 (0, 0))) (fun i _ => m9.marks.length - (intOf i).toNat)
          case atStart => exact ⟨0, Nat.zero_le _, rfl, Hm0.out, Hh0.out⟩
          case round =>
            obtain ⟨q, hq, rfl, hmr, hhr⟩ := hrel
            have y2 := hmr.cell x2 (fun e => e)
            by_cases hltq : q < m9.marks.length
            · have hd3 : decide ((q : Int) < (m9.marks.length : Int)) = true := by simp; omega
              have hqi : (q : Int) < (m9.marks.length : Int) := by omega
              obtain ⟨x, hx⟩ : ∃ x, m9.marks[q]? = some x := ⟨_, List.getElem?_eq_getElem hltq⟩
              obtain ⟨mb, rfl, hmb, k0, k1⟩ := Hmk.out q x hx
              obtain ⟨tt, htt, htx⟩ := HE9.out.ids x (List.mem_of_getElem? hx)
              have hnx := HE9.out.next hx htx
              obtain ⟨xa, xv⟩ := x
              simp only at htx hnx k0 k1
              subst htx
              have k0 := hmr.cell k0 (fun e => e)
              have k1 := hmr.cell k1 (fun e => e)
              have kc : wr.cell? ⟨w9.heap.size, tt, none⟩ = some (.int .i64 (lastOf (m9.marks.take q) tt)) := by
                rw [cell_of_heap hhr]
                simp [lasts_get _ htt]
              have kf := free_of_heap hhr tt
              have hle : decide (xv ≤ lastOf (m9.marks.take q) tt) = false := by simp; omega
              have htk : m9.marks.take (q + 1) = m9.marks.take q ++ [((tt : Int), xv)] := by rw [List.take_add_one, hx]; rfl
              have hti : (tt : Int) < (t : Int) + 1 := by omega
              have hbl := lt_of_block hhr
              have hmr9 := hmr.size
              have Hmr := Lib.hid hmr
              have Hhr := Lib.hid hhr
              have Htk := Lib.hid htk
              generalize lastOf (m9.marks.take q) tt = lv at *
              clear hmr hhr hx hnx htk
              go_wp2
              go_quiet (fail)
              go_wp2
              refine ⟨⟨q + 1, by omega, by go_num, ((Hmr.out.alloc _).drewN _).trans ((Mod.refl (fun x => x = w9.heap.size) _).setCell (fun _ => rfl) _) fun x hx e => by omega, ?_⟩, by simp [intOf]; omega⟩
              rw [Qh.heap_setCell_same ((((Mod.refl noF wr).alloc _).drewN _).heap Hhr.out (fun e => e)), Htk.out, lasts_snoc, List.map_set]
              simp
            · have hd3 : decide ((q : Int) < (m9.marks.length : Int)) = false := by simp; omega
              have Hmr := Lib.hid hmr
              clear hmr hhr
              go_wp2
              go_ret
              exact ⟨rfl, H9.out.trans0 Hmr.out⟩
end Go.Proofs.YtlapbfajdamlcaaDoor
end
/- quiescentlaw3.QueueOrder, whatever comes. -/
section
namespace Go.Proofs.YtlapbfajdamlcaaDoor
open Go.RowKit Qs Qh
set_option maxHeartbeats 4000000 in
theorem order_mod (n k : Int) (vs : Value) (s : List Int) (w : World) (hl : IntsAt w vs s) (hlw : ∀ x ∈ s, -9223372036854775808 ≤ x ∧ x ≤ 9223372036854775807) (hvb : s ≠ [] → ∀ b, vs.ownBlock = some b → b < w.heap.size) :
    Calls Tryd.prog 3 #[.int .i64 n, .int .i64 k, vs] w fun e w' => e = .returned (.bool true) ∧ Mod noF w w' := by
  by_cases hg : (0 ≤ n ∧ n ≤ 20) ∧ (1 ≤ k ∧ k ≤ 3) ∧ s.length ≤ 3000
  · obtain ⟨⟨h1, h2⟩, ⟨h3, h4⟩, h5⟩ := hg
    obtain ⟨n', rfl⟩ := Int.eq_ofNat_of_zero_le h1
    obtain ⟨k', rfl⟩ := Int.eq_ofNat_of_zero_le (show 0 ≤ k by omega)
    exact order_good n' k' (by omega) (by omega) (by omega) vs s w hl h5 hlw hvb
  · obtain ⟨va, vc, rfl, -⟩ := hl.at_
    clear hl hlw hvb
    by_cases c0 : n < 0
    · have d0 : decide (n < 0) = true := by simp; omega
      go_enter Tryd.func3, Tryd.ntmps3
      go_wp2_with fail
      refine (lined_ok _).mono ?_
      rintro e w1 ⟨rfl, hm1⟩
      go_wp2
      go_ret
      exact ⟨rfl, hm1⟩
    have d0 : decide (n < 0) = false := by simp; omega
    by_cases c1 : 20 < n
    · have d1 : decide ((20 : Int) < n) = true := by simp; omega
      go_enter Tryd.func3, Tryd.ntmps3
      go_wp2_with fail
      refine (lined_ok _).mono ?_
      rintro e w1 ⟨rfl, hm1⟩
      go_wp2
      go_ret
      exact ⟨rfl, hm1⟩
    have d1 : decide ((20 : Int) < n) = false := by simp; omega
    by_cases c2 : k < 1
    · have d2 : decide (k < 1) = true := by simp; omega
      go_enter Tryd.func3, Tryd.ntmps3
      go_wp2_with fail
      refine (lined_ok _).mono ?_
      rintro e w1 ⟨rfl, hm1⟩
      go_wp2
      go_ret
      exact ⟨rfl, hm1⟩
    have d2 : decide (k < 1) = false := by simp; omega
    by_cases c3 : 3 < k
    · have d3 : decide ((3 : Int) < k) = true := by simp; omega
      go_enter Tryd.func3, Tryd.ntmps3
      go_wp2_with fail
      refine (lined_ok _).mono ?_
      rintro e w1 ⟨rfl, hm1⟩
      go_wp2
      go_ret
      exact ⟨rfl, hm1⟩
    have d3 : decide ((3 : Int) < k) = false := by simp; omega
    have d4 : decide ((3000 : Int) < (s.length : Int)) = true := by simp; omega
    go_enter Tryd.func3, Tryd.ntmps3
    go_wp2_with fail
    refine (lined_ok _).mono ?_
    rintro e w1 ⟨rfl, hm1⟩
    go_wp2
    go_ret
    exact ⟨rfl, hm1⟩
end Go.Proofs.YtlapbfajdamlcaaDoor
end
/- QueueOrder: its walk, as its frame asks for it. -/
section
namespace Go.Proofs.YtlapbfajdamlcaaDoor
open Go.RowKit Qs Qh
theorem queueOrder_any (a0 : Int) (a1 : Int) (a2 : Option Addr) (len2 cap2 : Nat) (z2 : List Int) (w : World) (h0 : (Lit.int .i64 a0).wf = true) (h1 : (Lit.int .i64 a1).wf = true) (h : IsRow .i64 w a2 len2 cap2 z2) :
    Calls Tryd.prog 3 #[.int .i64 a0, .int .i64 a1, .slice a2 len2 cap2] w fun e w' => e = .returned (.bool true) ∧ Below w.heap.size w w' := by
  obtain ⟨l, hl, hlw, hvb⟩ := h.ints
  exact (order_mod a0 a1 _ l w hl hlw hvb).mono fun e w' ⟨he, hm⟩ => ⟨he, hm.under (Nat.le_refl _) fun k hk => hk.elim⟩
end Go.Proofs.YtlapbfajdamlcaaDoor
end
