/- Texts that belong together, joined. -/
import Derived.Test.YtamfbfajlfbooaaDoorNm3
import Derived.Test.YtamfbfajlfbooaaDoorNStepA
import Derived.Test.YtamfbfajlfbooaaDoorNStepB
import Derived.Test.YtamfbfajlfbooaaDoorNStepC
import Derived.Test.YtamfbfajlfbooaaDoorNStepD
import Derived.Test.YtamfbfajlfbooaaDoorNStepE
import Derived.Test.YtamfbfajlfbooaaDoorNm7
import Derived.Test.YtamfbfajlfbooaaDoorNStepG
import Derived.Test.YtamfbfajlfbooaaDoorNStepH
import Derived.Test.YtamfbfajlfbooaaDoorNStepI
import Derived.Test.YtamfbfajlfbooaaDoorNStepJ
import Derived.Test.YtamfbfajlfbooaaDoorNStepL
import Derived.Test.YtamfbfajlfbooaaDoorNStepM
import Derived.Test.YtamfbfajlfbooaaDoorNStepN
import Derived.Test.YtamfbfajlfbooaaDoorNStepO
import Derived.Test.YtamfbfajlfbooaaDoorNStepP
import Derived.Test.YtamfbfajlfbooaaDoorNStepQ
import Derived.Outline
import Derived.Test.YtamfbfajlfbooaaDoorNm2
import Derived.Test.YtamfbfajlfbooaaDoorNGraceC1
import Derived.Test.YtamfbfajlfbooaaDoorNGraceC2
import Derived.Test.YtamfbfajlfbooaaDoorNGraceC4
import Derived.Test.YtamfbfajlfbooaaDoorNm5
import Derived.Test.YtamfbfajlfbooaaDoorNCritical
import Derived.LoopTactic
import Derived.Test.YtamfbfajlfbooaaDoorNm4
import Derived.Test.YtamfbfajlfbooaaDoorNNewWalk
set_option linter.unusedVariables false
set_option linter.unusedSimpArgs false
set_option linter.unusedSectionVars false
/- (*quiescentref1.Machine).Step, by all instructions. -/
section
namespace Go.Proofs.YtamfbfajlfbooaaDoor
open Go.RowKit Qs Qh
variable {w : World} {L : Lay} {m : M} {N : Int}
def easyOp (n : Nat) : Bool := !(n == 18)
def Easy (m : M) : Prop := ∀ (t : Nat) h, m.T[t]? = some h → ∀ x ∈ h.code, easyOp x.op = true
set_option maxRecDepth 100000 in
theorem step_done (X : Mach ty w L m N) (t : Nat) (ht : t < m.T.length) (hd : m.done t = true) :
    Calls Tryd.prog 89 #[.pointer (some ⟨L.blk 0 0, 0, none⟩), .int .i64 t] w fun e w' => e = .returned (.int .i64 9) ∧ Mod noF w w' := by
  obtain ⟨t0, t1, t2, t3, t4, t5⟩ := X.top
  have d0 : decide ((t : Int) < 0) = false := by simp
  have d1 : decide ((m.T.length : Int) ≤ (t : Int)) = false := by simp; omega
  have HX := Lib.hid X
  have Hdone := Lib.hid hd
  clear X hd t4
  go_enter Tryd.func89, Tryd.ntmps89
  go_wp2_with fail
  refine (done_any HX.out t ht).mono ?_
  rintro e w1 ⟨rfl, hm⟩
  rw [Hdone.out]
  have Hm := Lib.hid hm
  clear hm
  go_wp2
  go_ret
  exact ⟨rfl, Hm.out⟩
set_option maxRecDepth 100000 in
theorem step_out (X : Mach ty w L m N) (t : Int) (ht : t < 0 ∨ (m.T.length : Int) ≤ t) :
    Calls Tryd.prog 89 #[.pointer (some ⟨L.blk 0 0, 0, none⟩), .int .i64 t] w fun e w' => e = .returned (.int .i64 2) ∧ w = w' := by
  obtain ⟨t0, t1, t2, t3, t4, t5⟩ := X.top
  clear X t4
  by_cases h : t < 0
  · have hd : decide (t < 0) = true := by simpa using h
    go_enter Tryd.func89, Tryd.ntmps89
    go_wp2
    go_ret
    exact ⟨rfl, rfl⟩
  · have hd : decide (t < 0) = false := by simpa using h
    have hd2 : decide ((m.T.length : Int) ≤ t) = true := by simpa using ht.resolve_left h
    go_enter Tryd.func89, Tryd.ntmps89
    go_wp2
    go_ret
    exact ⟨rfl, rfl⟩
theorem reg_nat {n k : Int} (h : isReg n k) : ∃ a : Nat, n = a ∧ (a : Int) < k := by
  obtain ⟨h0, h1⟩ := h
  obtain ⟨a, rfl⟩ := Int.eq_ofNat_of_zero_le h0
  exact ⟨a, rfl, h1⟩
theorem names_nat {m : M} {n rc rg : Int} (h : m.names n = some (rc, rg)) : ∃ k : Nat, rc = k ∧ k < m.cells.length := by
  unfold M.names at h
  cases hr : refOf n with
  | none => rw [hr] at h; cases h
  | some p =>
    obtain ⟨a, b⟩ := p
    rw [hr] at h
    simp only at h
    split at h
    · rename_i hh
      cases h
      obtain ⟨h0, h1, _⟩ := hereIn_ge hh
      obtain ⟨k, rfl⟩ := Int.eq_ofNat_of_zero_le h0
      exact ⟨k, rfl, by omega⟩
    · cases h
/-- How a step is told. -/
def StepTold (w : World) (L : Lay) (m : M) (N : Int) (t : Nat) : Prop :=
  Calls Tryd.prog 89 #[.pointer (some ⟨L.blk 0 0, 0, none⟩), .int .i64 t] w fun e w' => e = .returned (.int .i64 (m.step t).2) ∧ ∃ L', MUp ty w L m w' L' (m.step t).1 (N + 48)
theorem told {t : Nat} {h : Thr} {x : Instr} (hh : m.T[t]? = some h) (hx : h.code[h.pc]? = some x) (h20 : x.op ≠ 20) {m' : M} {N' : Int} (hN' : N' ≤ N + 48) (he : (m.setPc t (h.pc + 1)).exec t x = m')
    (hc : Calls Tryd.prog 89 #[.pointer (some ⟨L.blk 0 0, 0, none⟩), .int .i64 t] w fun e w' => e = .returned (.int .i64 0) ∧ ∃ L', MUp ty w L m w' L' m' N') : StepTold w L m N t := by
  unfold StepTold
  rw [step_eq hh hx h20]
  refine hc.mono ?_
  rintro e w' ⟨rfl, L', U⟩
  refine ⟨rfl, L', ?_⟩
  rw [he]
  exact U.mono hN'
theorem step_any (X : Mach ty w L m N) (hE : Easy m) (hN : N ≤ 10000000000) (t : Nat) (ht : t < m.T.length) :
    Calls Tryd.prog 89 #[.pointer (some ⟨L.blk 0 0, 0, none⟩), .int .i64 t] w fun e w' => e = .returned (.int .i64 (m.step t).2) ∧ ∃ L', MUp ty w L m w' L' (m.step t).1 (N + 48) := by
  show StepTold w L m N t
  obtain ⟨h, hh⟩ : ∃ h, m.T[t]? = some h := ⟨_, List.getElem?_eq_getElem ht⟩
  cases hx : h.code[h.pc]? with
  | none =>
    have hs := Qh.step_end hh hx
    have hd : m.done t = true := by unfold M.done; rw [thr_of hh, hx]
    unfold StepTold
    rw [hs]
    refine (step_done X t ht hd).mono ?_
    rintro e w' ⟨rfl, hm⟩
    exact ⟨rfl, L, (MUp.quiet X hm).mono (by omega)⟩
  | some x =>
    by_cases h20 : x.op = 20
    · have hs := step_stop hh hx h20
      have hd : m.done t = true := by unfold M.done; rw [thr_of hh, hx]; simp [h20]
      unfold StepTold
      rw [hs]
      refine (step_done X t ht hd).mono ?_
      rintro e w' ⟨rfl, hm⟩
      exact ⟨rfl, L, (MUp.quiet X hm).mono (by omega)⟩
    · have hmem : x ∈ h.code := List.mem_of_getElem? hx
      have hco := (X.ot.code t h hh).2
      have hi := hco.ins x hmem
      have he := hE t h hh x hmem
      have hlab := hco.lab x hmem
      obtain ⟨op, A, B, C, to⟩ := x
      rcases op_cases op with rfl | rfl | rfl | rfl | rfl | rfl | rfl | rfl | rfl | rfl | rfl | rfl | rfl | rfl | rfl | rfl | rfl | rfl | rfl | rfl | hbig
      · obtain ⟨h1, hB⟩ := hi
        obtain ⟨a, rfl, ha⟩ := reg_nat h1
        exact told hh hx h20 (by omega) (exec_const hh) (step_const (b := 0) (c := 0) (A := 0) X hN t ht hh hx (by omega) hB)
      · obtain ⟨h1, h2⟩ := hi
        obtain ⟨a, rfl, ha⟩ := reg_nat h1
        obtain ⟨b, rfl, hb⟩ := reg_nat h2
        exact told hh hx h20 (by omega) (exec_move hh) (step_move (c := 0) (A := 0) (B := 0) X hN t ht hh hx (by omega) (by omega))
      · obtain ⟨h1, h2, h3⟩ := hi
        obtain ⟨a, rfl, ha⟩ := reg_nat h1
        obtain ⟨b, rfl, hb⟩ := reg_nat h2
        obtain ⟨c, rfl, hc⟩ := reg_nat h3
        exact told hh hx h20 (by omega) (exec_add hh) (step_add (A := 0) (B := 0) (C := 0) X hN t ht hh hx (by omega) (by omega) (by omega))
      · obtain ⟨h1, h2, h3⟩ := hi
        obtain ⟨a, rfl, ha⟩ := reg_nat h1
        obtain ⟨b, rfl, hb⟩ := reg_nat h2
        obtain ⟨c, rfl, hc⟩ := reg_nat h3
        exact told hh hx h20 (by omega) (exec_sub hh) (step_sub (A := 0) (B := 0) (C := 0) X hN t ht hh hx (by omega) (by omega) (by omega))
      · obtain ⟨h1, h2, h3⟩ := hi
        obtain ⟨a, rfl, ha⟩ := reg_nat h1
        obtain ⟨b, rfl, hb⟩ := reg_nat h2
        obtain ⟨c, rfl, hc⟩ := reg_nat h3
        exact told hh hx h20 (by omega) (exec_and hh) (step_and (A := 0) (B := 0) (C := 0) X hN t ht hh hx (by omega) (by omega) (by omega))
      · obtain ⟨h1, h2, h3⟩ := hi
        obtain ⟨a, rfl, ha⟩ := reg_nat h1
        obtain ⟨b, rfl, hb⟩ := reg_nat h2
        obtain ⟨c, rfl, hc⟩ := reg_nat h3
        exact told hh hx h20 (by omega) (exec_xor hh) (step_xor (A := 0) (B := 0) (C := 0) X hN t ht hh hx (by omega) (by omega) (by omega))
      · obtain ⟨h1, h2, h3⟩ := hi
        obtain ⟨a, rfl, ha⟩ := reg_nat h1
        obtain ⟨b, rfl, hb⟩ := reg_nat h2
        cases hn : m.names (h.regs.getD b 0) with
        | none => exact told hh hx h20 (by omega) (exec_load_none hh hn) (step_load_none (c := 0) (A := 0) (B := 0) X hN t ht hh hx (by omega) (by omega) hn)
        | some r => exact told hh hx h20 (by omega) (exec_load_ok hh (rc := r.1) (rg := r.2) hn) (step_load_ok (c := 0) (A := 0) (B := 0) X hN t ht hh hx (by omega) (by omega) h3 hn)
      · obtain ⟨h1, h2, h3⟩ := hi
        obtain ⟨a, rfl, ha⟩ := reg_nat h1
        obtain ⟨b, rfl, hb⟩ := reg_nat h2
        cases hn : m.names (h.regs.getD a 0) with
        | none => exact told hh hx h20 (by omega) (exec_store_none hh hn) (step_store_none (c := 0) (A := 0) (B := 0) X hN t ht hh hx (by omega) (by omega) hn)
        | some r =>
          obtain ⟨l, hl⟩ : ∃ l, m.waits[t]? = some l := ⟨_, List.getElem?_eq_getElem (by rw [X.ot.len]; exact ht)⟩
          have h8 := X.om.wlen t l hl
          by_cases h9 : l.length < 8
          · exact told hh hx h20 (by omega) (exec_store_ok hh (rc := r.1) (rg := r.2) hn hl h9) (step_store_ok (c := 0) (A := 0) (B := 0) X hN t ht hh hx (by omega) (by omega) h3 hn hl h9)
          · obtain ⟨y, q, rfl⟩ : ∃ y q, l = y :: q := by
              cases l with
              | nil => simp at h9
              | cons y q => exact ⟨y, q, rfl⟩
            have h7 : q.length = 7 := by simp at h8 h9; omega
            cases hin : hereIn m.cells y.c y.g with
            | true => exact told hh hx h20 (by omega) (exec_store_full hh (rc := r.1) (rg := r.2) hn hl h7 hin) (step_store_full_ok (c := 0) (A := 0) (B := 0) X hN t ht hh hx (by omega) (by omega) h3 hn hl h7 hin)
            | false => exact told hh hx h20 (by omega) (exec_store_full_bad hh (rc := r.1) (rg := r.2) hn hl h7 hin) (step_store_full_bad (c := 0) (A := 0) (B := 0) X hN t ht hh hx (by omega) (by omega) h3 hn hl h7 hin)
      · obtain ⟨h1, h2, h3⟩ := hi
        obtain ⟨a, rfl, ha⟩ := reg_nat h1
        obtain ⟨b, rfl, hb⟩ := reg_nat h2
        obtain ⟨c, rfl, hc⟩ := reg_nat h3
        cases hn : m.names (h.regs.getD b 0) with
        | none => exact told hh hx h20 (by omega) (exec_swap_none hh hn) (step_swap_none (c := 0) (A := 0) (B := 0) X hN t ht hh hx (by omega) (by omega) hn)
        | some r =>
          obtain ⟨rc, rg⟩ := r
          obtain ⟨k, rfl, hk⟩ := names_nat hn
          exact told hh hx h20 (by omega) (exec_swap_ok hh hn) (step_swap_ok (A := 0) (B := 0) (C := 0) X hN t ht hh hx (by omega) (by omega) (by omega) hk hn)
      · obtain ⟨h1, h2, h3⟩ := hi
        obtain ⟨a, rfl, ha⟩ := reg_nat h1
        obtain ⟨b, rfl, hb⟩ := reg_nat h2
        obtain ⟨c, rfl, hc⟩ := reg_nat h3
        cases hn : m.names (h.regs.getD a 0) with
        | none => exact told hh hx h20 (by omega) (exec_cas_none hh hn) (step_cas_none (c := 0) (A := 0) (B := 0) X hN t ht hh hx (by omega) (by omega) hn)
        | some r =>
          obtain ⟨rc, rg⟩ := r
          obtain ⟨k, rfl, hk⟩ := names_nat hn
          exact told hh hx h20 (by omega) (exec_cas_ok hh hn) (step_cas_ok (A := 0) (B := 0) (C := 0) X hN t ht hh hx (by omega) (by omega) (by omega) (by omega) hk hn)
      · obtain ⟨a, rfl, ha⟩ := reg_nat hi
        cases hal : allocAt m.cells 0 with
        | none => exact told hh hx h20 (by omega) (exec_alloc_none hal) (step_alloc_none (b := 0) (c := 0) (A := 0) X hN t ht hh hx (by omega) hal)
        | some r => exact told hh hx h20 (by omega) (exec_alloc_ok (i := r.1) (n := r.2) hal) (step_alloc_ok (b := 0) (c := 0) (A := 0) X hN t ht hh hx (by omega) hal)
      · obtain ⟨a, rfl, ha⟩ := reg_nat hi
        cases hn : m.names (h.regs.getD a 0) with
        | none => exact told hh hx h20 (by omega) (exec_free_none hh hn) (step_free_none (b := 0) (c := 0) (A := 0) X hN t ht hh hx (by omega) hn)
        | some r =>
          obtain ⟨rc, rg⟩ := r
          obtain ⟨k, rfl, hk⟩ := names_nat hn
          exact told hh hx h20 (by omega) (exec_free_ok hh hn) (step_free_ok (b := 0) (c := 0) (A := 0) X hN t ht hh hx (by omega) hk hn)
      · exact told hh hx h20 (by omega) exec_fence (step_fence (a := 0) (b := 0) (c := 0) X hN t ht hh hx)
      · exact told hh hx h20 (by omega) exec_force (step_force (a := 0) (b := 0) (c := 0) X hN t ht hh hx)
      · obtain ⟨a, rfl, ha⟩ := reg_nat hi
        obtain ⟨i, hi⟩ := Option.isSome_iff_exists.1 (hlab (.inl rfl))
        by_cases hz : h.regs.getD a 0 = 0
        · exact told hh hx h20 (by omega) (exec_zero_yes hh hi hz) (step_zero_yes (b := 0) (c := 0) (A := 0) X hN t ht hh hx (by omega) hi hz)
        · exact told hh hx h20 (by omega) (exec_zero_no hh hz) (step_zero_no (b := 0) (c := 0) (A := 0) X hN t ht hh hx (by omega) hz)
      · obtain ⟨h1, h2⟩ := hi
        obtain ⟨a, rfl, ha⟩ := reg_nat h1
        obtain ⟨b, rfl, hb⟩ := reg_nat h2
        obtain ⟨i, hi⟩ := Option.isSome_iff_exists.1 (hlab (.inr (.inl rfl)))
        by_cases hz : h.regs.getD a 0 = h.regs.getD b 0
        · exact told hh hx h20 (by omega) (exec_same_yes hh hi hz) (step_same_yes (c := 0) (A := 0) (B := 0) X hN t ht hh hx (by omega) (by omega) hi hz)
        · exact told hh hx h20 (by omega) (exec_same_no hh hz) (step_same_no (c := 0) (A := 0) (B := 0) X hN t ht hh hx (by omega) (by omega) hz)
      · obtain ⟨i, hi⟩ := Option.isSome_iff_exists.1 (hlab (.inr (.inr rfl)))
        exact told hh hx h20 (by omega) (exec_goto hh hi) (step_goto (a := 0) (b := 0) (c := 0) X hN t ht hh hx hi)
      · exact told hh hx h20 (by omega) exec_label (step_label (a := 0) (b := 0) (c := 0) X hN t ht hh hx)
      · cases he
      · obtain ⟨a, rfl, ha⟩ := reg_nat hi
        exact told hh hx h20 (by omega) (exec_need hh) (step_need (b := 0) (c := 0) (A := 0) X hN t ht hh hx (by omega))
      · have h21 : ¬ op = 20 := h20
        have : op ≤ 20 := insOk_le hi
        omega
end Go.Proofs.YtamfbfajlfbooaaDoor
end
/- (*quiescentref1.Machine).Turn. -/
section
namespace Go.Proofs.YtamfbfajlfbooaaDoor
open Go.RowKit Qs Qh
variable {w : World} {L : Lay} {m : M} {N : Int}
theorem tmod_fix (n k : Int) (hk : 0 < k) : (if n.tmod k < 0 then n.tmod k + k else n.tmod k) = n % k := by
  have h1 := Int.emod_nonneg n (show k ≠ 0 by omega)
  have h2 := Int.emod_lt_of_pos n hk
  by_cases h0 : 0 ≤ n
  · rw [Int.tmod_eq_emod_of_nonneg h0, if_neg (by omega)]
  · have e : n.tmod k = if k ∣ n then 0 else n % k - k := by
      rw [Int.tmod_eq_emod]
      by_cases hd : k ∣ n
      · have : n % k = 0 := Int.emod_eq_zero_of_dvd hd
        simp [hd, this]
      · simp [hd, h0]; omega
    by_cases hd : k ∣ n
    · have h3 : n % k = 0 := Int.emod_eq_zero_of_dvd hd
      rw [e, if_pos hd, if_neg (by omega), h3]
    · rw [e, if_neg hd, if_pos (by omega)]; omega
theorem turn_at (m : M) (n : Int) {q : Nat} (hq : n % (2 * (m.T.length : Int)) = q) : m.turn n = if q < m.T.length then m.step q else m.drain (q - m.T.length) := by
  unfold M.turn
  simp only [hq, Int.toNat_natCast]
set_option maxHeartbeats 1000000 in
theorem turn_any (X : Mach ty w L m N) (hE : Easy m) (hN : N ≤ 1000000000) (n : Int) (hlo : -9223372036854775808 ≤ n) (hhi : n ≤ 9223372036854775807) :
    Calls Tryd.prog 24 #[.pointer (some ⟨L.blk 0 0, 0, none⟩), .int .i64 n] w fun e w' => e = .returned (.int .i64 (m.turn n).2) ∧ ∃ L', MUp ty w L m w' L' (m.turn n).1 (N + 48) := by
  obtain ⟨t0, t1, t2, t3, t4, t5⟩ := X.top
  have ht6 : m.T.length ≤ 6 := by have := X.om.waits; have := X.ot.len; omega
  have ht1 := X.ot.t1
  have hk : (0 : Int) < 2 * (m.T.length : Int) := by omega
  have hk0 : (2 * (m.T.length : Int) == 0) = false := by rw [beq_eq_false_iff_ne]; omega
  have hfix := tmod_fix n (2 * (m.T.length : Int)) hk
  have h1 := Int.emod_nonneg n (show (2 * (m.T.length : Int)) ≠ 0 by omega)
  have h2 := Int.emod_lt_of_pos n hk
  clear t4
  obtain ⟨q, hq⟩ := Int.eq_ofNat_of_zero_le h1
  have hta := turn_at m n hq
  rw [hq] at hfix h2
  have HX := Lib.hid X
  have HE := Lib.hid hE
  have Hta := Lib.hid hta
  clear X hE hq hta h1
  obtain ⟨r, hr⟩ : ∃ r, n.tmod (2 * (m.T.length : Int)) = r := ⟨_, rfl⟩
  rw [hr] at hfix
  by_cases hneg : r < 0
  · rw [if_pos hneg] at hfix
    by_cases hqt : q < m.T.length
    · have hd : decide ((q : Int) < (m.T.length : Int)) = true := by simp; omega
      go_enter Tryd.func24, Tryd.ntmps24
      go_wp2_with fail
      refine (step_any HX.out HE.out (by omega) q hqt).mono ?_
      rintro e w5 ⟨rfl, h5⟩
      have H5 := Lib.hid h5
      clear h5
      go_wp2
      go_ret
      rw [Hta.out, if_pos hqt]
      exact ⟨rfl, H5.out⟩
    · obtain ⟨p, rfl⟩ : ∃ p, q = m.T.length + p := ⟨q - m.T.length, by omega⟩
      have hp2 : p < m.T.length := by omega
      have hp3 : m.T.length + p - m.T.length = p := by omega
      rw [hp3] at Hta
      rw [Int.natCast_add] at h2 hfix
      have hd : decide ((m.T.length : Int) + (p : Int) < (m.T.length : Int)) = false := by simp; omega
      have hsub : (m.T.length : Int) + (p : Int) - (m.T.length : Int) = p := by omega
      clear hp3
      go_enter Tryd.func24, Tryd.ntmps24
      go_wp2_with fail
      refine (mdrain_any HX.out (by omega) p hp2).mono ?_
      rintro e w5 ⟨rfl, L5, h5⟩
      have H5 := Lib.hid h5
      clear h5
      go_wp2
      go_ret
      rw [Hta.out, if_neg hqt]
      exact ⟨rfl, L5, H5.out.mono (by omega)⟩
  · rw [if_neg hneg] at hfix
    subst hfix
    clear hneg
    by_cases hqt : q < m.T.length
    · have hd : decide ((q : Int) < (m.T.length : Int)) = true := by simp; omega
      go_enter Tryd.func24, Tryd.ntmps24
      go_wp2_with fail
      refine (step_any HX.out HE.out (by omega) q hqt).mono ?_
      rintro e w5 ⟨rfl, h5⟩
      have H5 := Lib.hid h5
      clear h5
      go_wp2
      go_ret
      rw [Hta.out, if_pos hqt]
      exact ⟨rfl, H5.out⟩
    · obtain ⟨p, rfl⟩ : ∃ p, q = m.T.length + p := ⟨q - m.T.length, by omega⟩
      have hp2 : p < m.T.length := by omega
      have hp3 : m.T.length + p - m.T.length = p := by omega
      rw [hp3] at Hta
      rw [Int.natCast_add] at h2 hr
      have hd : decide ((m.T.length : Int) + (p : Int) < (m.T.length : Int)) = false := by simp; omega
      have hsub : (m.T.length : Int) + (p : Int) - (m.T.length : Int) = p := by omega
      clear hp3
      go_enter Tryd.func24, Tryd.ntmps24
      go_wp2_with fail
      refine (mdrain_any HX.out (by omega) p hp2).mono ?_
      rintro e w5 ⟨rfl, L5, h5⟩
      have H5 := Lib.hid h5
      clear h5
      go_wp2
      go_ret
      rw [Hta.out, if_neg hqt]
      exact ⟨rfl, L5, H5.out.mono (by omega)⟩
end Go.Proofs.YtamfbfajlfbooaaDoor
end
/- (*quiescentref1.Machine).Run. -/
section
namespace Go.Proofs.YtamfbfajlfbooaaDoor
open Go.RowKit Qs Qh
variable {w : World} {L : Lay} {m : M} {N : Int}
theorem Easy.keep {w' : World} {L' : Lay} {m' : M} {N' : Int} (h : Easy m) (U : MUp ty w L m w' L' m' N') : Easy m' := by
  intro t x' hx' i hi
  obtain ⟨x, hx, e⟩ := U.thr t x' hx'
  rw [e] at hi
  exact h t x hx i hi
theorem frame1 {w w' : World} {F : Nat → Prop} {v : Value} {l : List Int} (h : IntsAt w v l) (hM : Mod F w w') (hF : l ≠ [] → ∀ b, v.ownBlock = some b → ¬ F b) : IntsAt w' v l := by
  by_cases e : l = []
  · subst e
    obtain ⟨a, c, rfl, hc, hx⟩ := h.at_
    exact ⟨a, c, rfl, hc, fun i x hi => by simp at hi⟩
  · exact h.frame hM (hF e)
def runRel (w : World) (L : Lay) (m : M) (N : Int) (l : List Int) (k : Nat) (d i : Value) (wr : World) : Prop :=
  i = .int .i64 k ∧ d = .int .i64 (m.run (l.take k)).2 ∧ ∃ L', MUp ty w L m wr L' (m.run (l.take k)).1 (N + 48 * k)
set_option maxHeartbeats 1000000 in
theorem run_any (X : Mach ty w L m N) (hE : Easy m) (hN : N ≤ 1000000) (v : Value) (l : List Int) (hl : IntsAt w v l) (hlen : l.length ≤ 20000) (hw : ∀ x ∈ l, -9223372036854775808 ≤ x ∧ x ≤ 9223372036854775807) (hv : l ≠ [] → ∀ b, v.ownBlock = some b → ¬ Foot ty allK L m b) :
    Calls Tryd.prog 26 #[.pointer (some ⟨L.blk 0 0, 0, none⟩), v] w fun e w' => e = .returned (.int .i64 (m.run l).2) ∧ ∃ L', MUp ty w L m w' L' (m.run l).1 (N + 48 * l.length) := by
  obtain ⟨a, c, rfl, hcm, hcell⟩ := hl.at_
  have HX := Lib.hid X
  have HE := Lib.hid hE
  have Hl := Lib.hid hl
  have Hw := Lib.hid hw
  have Hv := Lib.hid hv
  clear X hE hl hw hv hcell hcm
  go_enter Tryd.func26, Tryd.ntmps26
  go_wp2
  go_loopw [5, 6, 7] (fun d i _ wr => ∃ k : Nat, k ≤ l.length ∧ runRel w L m N l k d i wr) (fun _ i _ _ => l.length - (intOf i).toNat)
  case atStart => exact ⟨0, Nat.zero_le _, rfl, rfl, L, by simpa [M.run] using MUp.quiet HX.out (Mod.refl _ _)⟩
  case round =>
    rename_i wr
    obtain ⟨k, hk, rfl, rfl, Lr, Ur⟩ := hrel
    have hd0 := M.run_two m (l.take k)
    have hlk : (l.take k).length ≤ k := List.length_take_le _ _
    generalize hmr : m.run (l.take k) = mr at *
    obtain ⟨m1, d1⟩ := mr
    simp only at hd0 Ur
    have Hmr := Lib.hid hmr
    have HUr := Lib.hid Ur
    obtain ⟨hd0, hd1⟩ := hd0
    have hd2 : d1 ≤ 20000 := by omega
    clear hmr Ur hlk
    by_cases hlt : k < l.length
    · have hd : decide ((k : Int) < (l.length : Int)) = true := by simp; omega
      have hdd : decide ((k : Int) < 20000) = true := by simp; omega
      have hdd : ((k : Int) < 20000) := by omega
      obtain ⟨x, hx⟩ : ∃ x, l[k]? = some x := ⟨_, List.getElem?_eq_getElem hlt⟩
      have hwx := Hw.out x (List.mem_of_getElem? hx)
      obtain ⟨hw0, hw1⟩ := hwx
      have hI := frame1 Hl.out HUr.out.mod Hv.out
      obtain ⟨a', c', e', _, hcell⟩ := hI.at_
      cases e'
      obtain ⟨b, off, rfl, hb, hc⟩ := hcell k x hx
      have hE1 := HE.out.keep HUr.out
      have e0 := HUr.out.top.1
      have hcall := turn_any HUr.out.mach hE1 (by omega) x hw0 hw1
      rw [e0] at hcall
      have htk : l.take (k + 1) = l.take k ++ [x] := by rw [List.take_succ_eq_append_getElem hlt]; rw [List.getElem?_eq_getElem hlt] at hx; cases hx; rfl
      have hsn := M.run_snoc m (l.take k) x
      rw [← htk, Hmr.out] at hsn
      have Hsn := Lib.hid hsn
      have Hcall := Lib.hid hcall
      have Hx := Lib.hid hx
      clear hx hI hcell hE1 e0 hcall htk hsn
      go_wp2_with fail
      refine Hcall.out.mono ?_
      rintro e w5 ⟨rfl, L5, U5⟩
      have HU5 := Lib.hid U5
      clear U5
      by_cases hz : (m1.turn x).2 = 0
      · rw [hz]
        have Hz := Lib.hid hz
        clear hz
        go_wp2
        go_roundw
        case rel =>
          refine ⟨k + 1, by omega, by go_num, ?_, L5, ?_⟩
          · rw [Hsn.out, if_pos Hz.out]
          · rw [Hsn.out]
            have := (HUr.out.trans HU5.out)
            rw [show N + 48 * ((k + 1 : Nat) : Int) = N + 48 * (k : Int) + 48 from by omega]
            exact this
        case measure => simp [intOf]; omega
      · generalize htn : (m1.turn x).2 = z at *
        have hzb : (z == 0) = false := by simpa using hz
        have Hz := Lib.hid hz
        have Htn := Lib.hid htn
        clear hz htn
        go_wp2
        go_roundw
        case rel =>
          refine ⟨k + 1, by omega, by go_num, ?_, L5, ?_⟩
          · rw [Hsn.out]
            simp only
            rw [if_neg Hz.out]; simp
          · rw [Hsn.out]
            have := (HUr.out.trans HU5.out)
            rw [show N + 48 * ((k + 1 : Nat) : Int) = N + 48 * (k : Int) + 48 from by omega]
            exact this
        case measure => simp [intOf]; omega
    · have hd : decide ((k : Int) < (l.length : Int)) = false := by simp; omega
      obtain rfl : k = l.length := by omega
      have htk : l.take l.length = l := List.take_length
      rw [htk] at Hmr
      clear htk
      go_wp2
      go_ret
      rw [Hmr.out]
      exact ⟨rfl, Lr, HUr.out⟩
end Go.Proofs.YtamfbfajlfbooaaDoor
end
/- package grace: its parts, by flavour and number; where it has none. -/
section
namespace Go.Proofs.YtamfbfajlfbooaaDoor
open Go.RowKit Qs Qh
variable {w0 w w1 : World} {b o : Nat} {v0 : Value} {l : List Instr} {br s : ByteArray} {fe jo co : Bool} {u : Value} {c : Nat}
theorem gcode_all : ((List.range 5).all fun f => (List.range 5).all fun k => preOk (gcode f k) && decide ((gcode f k).length ≤ 70) && (List.range 8).all fun i => decide (i < 3) || !(writtenL (gcode f k)).getD i false) = true := by decide +kernel
theorem gcode_ok {f k : Nat} (hf : f < 5) (hk : k < 5) : preOk (gcode f k) = true ∧ (gcode f k).length ≤ 70 ∧ ∀ i, 3 ≤ i → i < 8 → (writtenL (gcode f k)).getD i false = false := by
  have h := List.all_eq_true.1 (List.all_eq_true.1 gcode_all f (List.mem_range.2 hf)) k (List.mem_range.2 hk)
  simp only [Bool.and_eq_true, decide_eq_true_eq, List.all_eq_true, Bool.or_eq_true, List.mem_range] at h
  obtain ⟨⟨h1, h2⟩, h3⟩ := h
  refine ⟨h1, h2, fun i hi h8 => ?_⟩
  have := h3 i h8
  simp at this
  rcases this with h | h
  · omega
  · simpa using h
theorem parts10 (s : ByteArray) (w : World) (hn : nameB s.data.toList = true) (hs : s.size ≤ 4) :
    Calls Tryd.prog 80 #[.int .i64 1, .string s, .int .i64 0] w fun e w' => ∃ v, e = .returned (.tuple #[v, .nilIface]) ∧ Made (preC s.data.toList gc10) w v w' := by
  have Hn := Lib.hid hn
  clear hn
  go_enter Tryd.func80, Tryd.ntmps80
  go_wp2_with fail
  refine (genter1_ok s w Hn.out hs).mono ?_
  rintro e x1 ⟨v, rfl, hv⟩
  have Hv := Lib.hid hv
  clear hv
  go_wp2
  go_ret2
  exact ⟨v, rfl, Hv.out⟩
theorem parts11 (s : ByteArray) (w : World) (hn : nameB s.data.toList = true) (hs : s.size ≤ 4) :
    Calls Tryd.prog 80 #[.int .i64 1, .string s, .int .i64 1] w fun e w' => ∃ v, e = .returned (.tuple #[v, .nilIface]) ∧ Made (preC s.data.toList gc11) w v w' := by
  have Hn := Lib.hid hn
  clear hn
  go_enter Tryd.func80, Tryd.ntmps80
  go_wp2_with fail
  refine (gleave1_ok s w Hn.out hs).mono ?_
  rintro e x1 ⟨v, rfl, hv⟩
  have Hv := Lib.hid hv
  clear hv
  go_wp2
  go_ret2
  exact ⟨v, rfl, Hv.out⟩
theorem parts12 (s : ByteArray) (w : World) (hn : nameB s.data.toList = true) (hs : s.size ≤ 4) :
    Calls Tryd.prog 80 #[.int .i64 1, .string s, .int .i64 2] w fun e w' => ∃ v, e = .returned (.tuple #[v, .nilIface]) ∧ Made (preC s.data.toList gc12) w v w' := by
  have Hn := Lib.hid hn
  clear hn
  go_enter Tryd.func80, Tryd.ntmps80
  go_wp2_with fail
  refine (grest1_ok s w Hn.out hs).mono ?_
  rintro e x1 ⟨v, rfl, hv⟩
  have Hv := Lib.hid hv
  clear hv
  go_wp2
  go_ret2
  exact ⟨v, rfl, Hv.out⟩
theorem parts13 (s : ByteArray) (w : World) (hn : nameB s.data.toList = true) (hs : s.size ≤ 4) :
    Calls Tryd.prog 80 #[.int .i64 1, .string s, .int .i64 3] w fun e w' => ∃ v, e = .returned (.tuple #[v, .nilIface]) ∧ Made (preC s.data.toList gc13) w v w' := by
  have Hn := Lib.hid hn
  clear hn
  go_enter Tryd.func80, Tryd.ntmps80
  go_wp2_with fail
  refine (ggone1_ok s w Hn.out hs).mono ?_
  rintro e x1 ⟨v, rfl, hv⟩
  have Hv := Lib.hid hv
  clear hv
  go_wp2
  go_ret2
  exact ⟨v, rfl, Hv.out⟩
theorem parts14 (s : ByteArray) (w : World) (hn : nameB s.data.toList = true) (hs : s.size ≤ 4) :
    Calls Tryd.prog 80 #[.int .i64 1, .string s, .int .i64 4] w fun e w' => ∃ v, e = .returned (.tuple #[v, .nilIface]) ∧ Made (preC s.data.toList gc14) w v w' := by
  have Hn := Lib.hid hn
  clear hn
  go_enter Tryd.func80, Tryd.ntmps80
  go_wp2_with fail
  refine (gwait1_ok s w Hn.out hs).mono ?_
  rintro e x1 ⟨v, rfl, hv⟩
  have Hv := Lib.hid hv
  clear hv
  go_wp2
  go_ret2
  exact ⟨v, rfl, Hv.out⟩
theorem parts20 (s : ByteArray) (w : World) (hn : nameB s.data.toList = true) (hs : s.size ≤ 4) :
    Calls Tryd.prog 80 #[.int .i64 2, .string s, .int .i64 0] w fun e w' => ∃ v, e = .returned (.tuple #[v, .nilIface]) ∧ Made (preC s.data.toList gc20) w v w' := by
  have Hn := Lib.hid hn
  clear hn
  go_enter Tryd.func80, Tryd.ntmps80
  go_wp2_with fail
  refine (genter2_ok s w Hn.out hs).mono ?_
  rintro e x1 ⟨v, rfl, hv⟩
  have Hv := Lib.hid hv
  clear hv
  go_wp2
  go_ret2
  exact ⟨v, rfl, Hv.out⟩
theorem parts21 (s : ByteArray) (w : World) (hn : nameB s.data.toList = true) (hs : s.size ≤ 4) :
    Calls Tryd.prog 80 #[.int .i64 2, .string s, .int .i64 1] w fun e w' => ∃ v, e = .returned (.tuple #[v, .nilIface]) ∧ Made (preC s.data.toList gc21) w v w' := by
  have Hn := Lib.hid hn
  clear hn
  go_enter Tryd.func80, Tryd.ntmps80
  go_wp2_with fail
  refine (gleave2_ok s w Hn.out hs).mono ?_
  rintro e x1 ⟨v, rfl, hv⟩
  have Hv := Lib.hid hv
  clear hv
  go_wp2
  go_ret2
  exact ⟨v, rfl, Hv.out⟩
theorem parts22 (s : ByteArray) (w : World) (hn : nameB s.data.toList = true) (hs : s.size ≤ 4) :
    Calls Tryd.prog 80 #[.int .i64 2, .string s, .int .i64 2] w fun e w' => ∃ v, e = .returned (.tuple #[v, .nilIface]) ∧ Made (preC s.data.toList gc22) w v w' := by
  have Hn := Lib.hid hn
  clear hn
  go_enter Tryd.func80, Tryd.ntmps80
  go_wp2_with fail
  refine (grest2_ok s w Hn.out hs).mono ?_
  rintro e x1 ⟨v, rfl, hv⟩
  have Hv := Lib.hid hv
  clear hv
  go_wp2
  go_ret2
  exact ⟨v, rfl, Hv.out⟩
theorem parts23 (s : ByteArray) (w : World) (hn : nameB s.data.toList = true) (hs : s.size ≤ 4) :
    Calls Tryd.prog 80 #[.int .i64 2, .string s, .int .i64 3] w fun e w' => ∃ v, e = .returned (.tuple #[v, .nilIface]) ∧ Made (preC s.data.toList gc23) w v w' := by
  have Hn := Lib.hid hn
  clear hn
  go_enter Tryd.func80, Tryd.ntmps80
  go_wp2_with fail
  refine (ggone2_ok s w Hn.out hs).mono ?_
  rintro e x1 ⟨v, rfl, hv⟩
  have Hv := Lib.hid hv
  clear hv
  go_wp2
  go_ret2
  exact ⟨v, rfl, Hv.out⟩
theorem parts24 (s : ByteArray) (w : World) (hn : nameB s.data.toList = true) (hs : s.size ≤ 4) :
    Calls Tryd.prog 80 #[.int .i64 2, .string s, .int .i64 4] w fun e w' => ∃ v, e = .returned (.tuple #[v, .nilIface]) ∧ Made (preC s.data.toList gc24) w v w' := by
  have Hn := Lib.hid hn
  clear hn
  go_enter Tryd.func80, Tryd.ntmps80
  go_wp2_with fail
  refine (gwait2_ok s w Hn.out hs).mono ?_
  rintro e x1 ⟨v, rfl, hv⟩
  have Hv := Lib.hid hv
  clear hv
  go_wp2
  go_ret2
  exact ⟨v, rfl, Hv.out⟩
theorem parts30 (s : ByteArray) (w : World) (hn : nameB s.data.toList = true) (hs : s.size ≤ 4) :
    Calls Tryd.prog 80 #[.int .i64 3, .string s, .int .i64 0] w fun e w' => ∃ v, e = .returned (.tuple #[v, .nilIface]) ∧ Made (preC s.data.toList gc30) w v w' := by
  have Hn := Lib.hid hn
  clear hn
  go_enter Tryd.func80, Tryd.ntmps80
  go_wp2_with fail
  refine (genter3_ok s w Hn.out hs).mono ?_
  rintro e x1 ⟨v, rfl, hv⟩
  have Hv := Lib.hid hv
  clear hv
  go_wp2
  go_ret2
  exact ⟨v, rfl, Hv.out⟩
theorem parts31 (s : ByteArray) (w : World) (hn : nameB s.data.toList = true) (hs : s.size ≤ 4) :
    Calls Tryd.prog 80 #[.int .i64 3, .string s, .int .i64 1] w fun e w' => ∃ v, e = .returned (.tuple #[v, .nilIface]) ∧ Made (preC s.data.toList gc31) w v w' := by
  have Hn := Lib.hid hn
  clear hn
  go_enter Tryd.func80, Tryd.ntmps80
  go_wp2_with fail
  refine (gleave3_ok s w Hn.out hs).mono ?_
  rintro e x1 ⟨v, rfl, hv⟩
  have Hv := Lib.hid hv
  clear hv
  go_wp2
  go_ret2
  exact ⟨v, rfl, Hv.out⟩
theorem parts32 (s : ByteArray) (w : World) (hn : nameB s.data.toList = true) (hs : s.size ≤ 4) :
    Calls Tryd.prog 80 #[.int .i64 3, .string s, .int .i64 2] w fun e w' => ∃ v, e = .returned (.tuple #[v, .nilIface]) ∧ Made (preC s.data.toList gc32) w v w' := by
  have Hn := Lib.hid hn
  clear hn
  go_enter Tryd.func80, Tryd.ntmps80
  go_wp2_with fail
  refine (grest3_ok s w Hn.out hs).mono ?_
  rintro e x1 ⟨v, rfl, hv⟩
  have Hv := Lib.hid hv
  clear hv
  go_wp2
  go_ret2
  exact ⟨v, rfl, Hv.out⟩
theorem parts33 (s : ByteArray) (w : World) (hn : nameB s.data.toList = true) (hs : s.size ≤ 4) :
    Calls Tryd.prog 80 #[.int .i64 3, .string s, .int .i64 3] w fun e w' => ∃ v, e = .returned (.tuple #[v, .nilIface]) ∧ Made (preC s.data.toList gc33) w v w' := by
  have Hn := Lib.hid hn
  clear hn
  go_enter Tryd.func80, Tryd.ntmps80
  go_wp2_with fail
  refine (ggone3_ok s w Hn.out hs).mono ?_
  rintro e x1 ⟨v, rfl, hv⟩
  have Hv := Lib.hid hv
  clear hv
  go_wp2
  go_ret2
  exact ⟨v, rfl, Hv.out⟩
theorem parts34 (s : ByteArray) (w : World) (hn : nameB s.data.toList = true) (hs : s.size ≤ 4) :
    Calls Tryd.prog 80 #[.int .i64 3, .string s, .int .i64 4] w fun e w' => ∃ v, e = .returned (.tuple #[v, .nilIface]) ∧ Made (preC s.data.toList gc34) w v w' := by
  have Hn := Lib.hid hn
  clear hn
  go_enter Tryd.func80, Tryd.ntmps80
  go_wp2_with fail
  refine (gwait3_ok s w Hn.out hs).mono ?_
  rintro e x1 ⟨v, rfl, hv⟩
  have Hv := Lib.hid hv
  clear hv
  go_wp2
  go_ret2
  exact ⟨v, rfl, Hv.out⟩
theorem parts40 (s : ByteArray) (w : World) (hn : nameB s.data.toList = true) (hs : s.size ≤ 4) :
    Calls Tryd.prog 80 #[.int .i64 4, .string s, .int .i64 0] w fun e w' => ∃ v, e = .returned (.tuple #[v, .nilIface]) ∧ Made (preC s.data.toList gc40) w v w' := by
  have Hn := Lib.hid hn
  clear hn
  go_enter Tryd.func80, Tryd.ntmps80
  go_wp2_with fail
  refine (genter4_ok s w Hn.out hs).mono ?_
  rintro e x1 ⟨v, rfl, hv⟩
  have Hv := Lib.hid hv
  clear hv
  go_wp2
  go_ret2
  exact ⟨v, rfl, Hv.out⟩
theorem parts41 (s : ByteArray) (w : World) (hn : nameB s.data.toList = true) (hs : s.size ≤ 4) :
    Calls Tryd.prog 80 #[.int .i64 4, .string s, .int .i64 1] w fun e w' => ∃ v, e = .returned (.tuple #[v, .nilIface]) ∧ Made (preC s.data.toList gc41) w v w' := by
  have Hn := Lib.hid hn
  clear hn
  go_enter Tryd.func80, Tryd.ntmps80
  go_wp2_with fail
  refine (gleave4_ok s w Hn.out hs).mono ?_
  rintro e x1 ⟨v, rfl, hv⟩
  have Hv := Lib.hid hv
  clear hv
  go_wp2
  go_ret2
  exact ⟨v, rfl, Hv.out⟩
theorem parts42 (s : ByteArray) (w : World) (hn : nameB s.data.toList = true) (hs : s.size ≤ 4) :
    Calls Tryd.prog 80 #[.int .i64 4, .string s, .int .i64 2] w fun e w' => ∃ v, e = .returned (.tuple #[v, .nilIface]) ∧ Made (preC s.data.toList gc42) w v w' := by
  have Hn := Lib.hid hn
  clear hn
  go_enter Tryd.func80, Tryd.ntmps80
  go_wp2_with fail
  refine (grest4_ok s w Hn.out hs).mono ?_
  rintro e x1 ⟨v, rfl, hv⟩
  have Hv := Lib.hid hv
  clear hv
  go_wp2
  go_ret2
  exact ⟨v, rfl, Hv.out⟩
theorem parts43 (s : ByteArray) (w : World) (hn : nameB s.data.toList = true) (hs : s.size ≤ 4) :
    Calls Tryd.prog 80 #[.int .i64 4, .string s, .int .i64 3] w fun e w' => ∃ v, e = .returned (.tuple #[v, .nilIface]) ∧ Made (preC s.data.toList gc43) w v w' := by
  have Hn := Lib.hid hn
  clear hn
  go_enter Tryd.func80, Tryd.ntmps80
  go_wp2_with fail
  refine (ggone4_ok s w Hn.out hs).mono ?_
  rintro e x1 ⟨v, rfl, hv⟩
  have Hv := Lib.hid hv
  clear hv
  go_wp2
  go_ret2
  exact ⟨v, rfl, Hv.out⟩
theorem parts44 (s : ByteArray) (w : World) (hn : nameB s.data.toList = true) (hs : s.size ≤ 4) :
    Calls Tryd.prog 80 #[.int .i64 4, .string s, .int .i64 4] w fun e w' => ∃ v, e = .returned (.tuple #[v, .nilIface]) ∧ Made (preC s.data.toList gc44) w v w' := by
  have Hn := Lib.hid hn
  clear hn
  go_enter Tryd.func80, Tryd.ntmps80
  go_wp2_with fail
  refine (gwait4_ok s w Hn.out hs).mono ?_
  rintro e x1 ⟨v, rfl, hv⟩
  have Hv := Lib.hid hv
  clear hv
  go_wp2
  go_ret2
  exact ⟨v, rfl, Hv.out⟩
theorem parts_good {f k : Nat} (h1 : 1 ≤ f) (h4 : f ≤ 4) (hk : k < 5) (s : ByteArray) (w : World) (hn : nameB s.data.toList = true) (hs : s.size ≤ 4) :
    Calls Tryd.prog 80 #[.int .i64 f, .string s, .int .i64 k] w fun e w' => ∃ v, e = .returned (.tuple #[v, .nilIface]) ∧ Made (preC s.data.toList (gcode f k)) w v w' := by
  match f, h1, h4, k, hk with
  | 1, _, _, 0, _ => exact parts10 s w hn hs
  | 1, _, _, 1, _ => exact parts11 s w hn hs
  | 1, _, _, 2, _ => exact parts12 s w hn hs
  | 1, _, _, 3, _ => exact parts13 s w hn hs
  | 1, _, _, 4, _ => exact parts14 s w hn hs
  | 2, _, _, 0, _ => exact parts20 s w hn hs
  | 2, _, _, 1, _ => exact parts21 s w hn hs
  | 2, _, _, 2, _ => exact parts22 s w hn hs
  | 2, _, _, 3, _ => exact parts23 s w hn hs
  | 2, _, _, 4, _ => exact parts24 s w hn hs
  | 3, _, _, 0, _ => exact parts30 s w hn hs
  | 3, _, _, 1, _ => exact parts31 s w hn hs
  | 3, _, _, 2, _ => exact parts32 s w hn hs
  | 3, _, _, 3, _ => exact parts33 s w hn hs
  | 3, _, _, 4, _ => exact parts34 s w hn hs
  | 4, _, _, 0, _ => exact parts40 s w hn hs
  | 4, _, _, 1, _ => exact parts41 s w hn hs
  | 4, _, _, 2, _ => exact parts42 s w hn hs
  | 4, _, _, 3, _ => exact parts43 s w hn hs
  | 4, _, _, 4, _ => exact parts44 s w hn hs
end Go.Proofs.YtamfbfajlfbooaaDoor
end
/- quiescentlaw2.add: a part's code behind the code so far. -/
section
namespace Go.Proofs.YtamfbfajlfbooaaDoor
open Go.RowKit Qs Qh
/-- Code of one's own that grows: it is new, or where it was. -/
structure Own (W w : World) (v : Value) (l : List Instr) : Prop where
  row : InsRow insT w v l
  below : Below W.heap.size W w
  own : ∀ g, v.ownBlock = some g → W.heap.size ≤ g
theorem Own.start (W : World) : Own W W (.slice none 0 0) [] := ⟨InsRow.nil _ _, Below.refl _ _, fun g h => by cases h⟩
theorem Own.quiet {W w w' : World} {v : Value} {l : List Instr} (h : Own W w v l) (hq : Mod noF w w') : Own W w' v l :=
  ⟨h.row.keep hq (fun _ _ e => e), h.below.trans (hq.toBelow.mono h.below.size), h.own⟩
theorem Own.append {W w w1 w2 : World} {v v1 : Value} {l x : List Instr} (h : Own W w v l) (hq : Mod noF w w1)
    (hown2 : w2.ownsRow 0 insT 5 v1 (l.length + x.length) (flat insV 0 l ++ flat insV 0 x)) (hg : w1.grownBy w2 v.ownBlock) (hfr : ∀ g, v1.ownBlock = some g → v.ownBlock = some g ∨ w1.heap.size ≤ g) : Own W w2 v1 (l ++ x) := by
  have hm := appended hg hq
  have hsz := h.below.size
  have hsz1 := hq.size
  refine ⟨by unfold InsRow; rw [List.length_append, insV_append]; exact hown2, h.below.trans (hm.under hsz fun k hk => h.own k hk), fun g hg' => ?_⟩
  rcases hfr g hg' with e | e
  · exact h.own g e
  · omega
/-- The first bytes of a part's labels. -/
def qn (at_ : Nat) : List UInt8 := [113, digB (at_ / 10), digB (at_ % 10)]
theorem digB_ok {k : Nat} (h : k < 10) : chB (digB k) = true := by
  rcases (by omega : k = 0 ∨ k = 1 ∨ k = 2 ∨ k = 3 ∨ k = 4 ∨ k = 5 ∨ k = 6 ∨ k = 7 ∨ k = 8 ∨ k = 9) with rfl | rfl | rfl | rfl | rfl | rfl | rfl | rfl | rfl | rfl <;> decide
theorem qn_name {a : Nat} (h : a < 100) : nameB (qn a) = true := by
  have h1 := digB_ok (k := a / 10) (by omega)
  have h2 := digB_ok (k := a % 10) (by omega)
  simp [qn, nameB, h1, h2]
  decide
theorem qn_bytes (x y : UInt8) : ((⟨#[113]⟩ : ByteArray) ++ ⟨#[x]⟩ ++ ⟨#[y]⟩).data.toList = [113, x, y] := by simp
theorem qn_size (x y : UInt8) : ((⟨#[113]⟩ : ByteArray) ++ ⟨#[x]⟩ ++ ⟨#[y]⟩).size ≤ 4 := by
  rw [← bytes_len, qn_bytes]; simp
theorem InsRow.src2 {w : World} {v : Value} {l : List Instr} (h : InsRow insT w v l) : (v = .slice none 0 0 ∧ l = []) ∨ ∃ g c, v = .slice (some ⟨g, 0, none⟩) l.length c ∧ ∀ j u, (flat insV 0 l)[j]? = some u → w.cell? ((⟨g, 0, none⟩ : Addr).add j) = some u := by
  rcases h.2 with ⟨rfl, h0⟩ | ⟨g, cap, cur, rfl, _, hg, _⟩
  · exact .inl ⟨rfl, List.length_eq_zero_iff.1 h0⟩
  · exact .inr ⟨g, cap, rfl, World.ownsRow.cells h (g := g) rfl⟩
theorem step_append_none {P : Program} {w : World} {ops : Array Oper} {o : Oper} {a : Act} {K : Act → World → Prop} {Q : Exit → Act → World → Prop} {E : Prop} (hgd : o.guard = none) (s x : Operand) (t : TypeId)
    (ho : o.op = .call { callee := .builtin .append, args := #[s, x], argTypes := #[t, t] })
    (base : Nat) (e : TypeId) (i : TypeInfo) (size : Nat) (ht : P.underlying t = some (.slice e)) (hi : P.info? e = some i)
    (v : Value) (n : Nat) (xs : List Value) (hs : a.eval s = v) (hown : w.ownsRow base e size v n xs) (hx : a.eval x = .slice none 0 0)
    (h : K (a.put o.dst v) w) : if Region.wanted o (yielded ops a.tmps) = true then Oper.wp P o a w K Q else E := by
  have hw : Region.wanted o (yielded ops a.tmps) = true := by simp [Region.wanted, hgd]
  rw [if_pos hw]
  have hrun := run_append_owned_none (P := P) (w := w) base t o.type e i size ht hi v n xs hown
  unfold Oper.wp
  simp [execOp, ho, resolve, invoke, builtin, hs, hx, hrun, Result.andThen]
  exact h
set_option maxHeartbeats 4000000 in
theorem add_ok {f k a : Nat} (h1 : 1 ≤ f) (h4 : f ≤ 4) (hk : k < 5) (ha : a < 100) {W w : World} {v : Value} {l : List Instr} (E : Own W w v l) (hlen : l.length ≤ 1000) :
    Calls Tryd.prog 145 #[v, .int .i64 f, .int .i64 k, .int .i64 a] w fun e w' => ∃ v', e = .returned (.tuple #[v', .bool true]) ∧ Own W w' v' (l ++ preC (qn a) (gcode f k)) := by
  have HE := Lib.hid E
  obtain ⟨i0, hi, hz0, hz1, hz2⟩ := info_parts insInfo
  have hcl : (preC (qn a) (gcode f k)).length ≤ 70 := by rw [preC_len]; exact (gcode_ok (by omega) hk).2.1
  have hpg := fun w2 : World => parts_good h1 h4 hk (⟨#[113]⟩ ++ ⟨#[digB (a / 10)]⟩ ++ ⟨#[digB (a % 10)]⟩) w2 (by rw [qn_bytes]; exact qn_name ha) (qn_size _ _)
  rw [qn_bytes, show preC [113, digB (a / 10), digB (a % 10)] (gcode f k) = preC (qn a) (gcode f k) from rfl] at hpg
  generalize preC (qn a) (gcode f k) = c at hpg hcl ⊢
  have Hpg := Lib.hid hpg
  clear E hpg
  go_enter Tryd.func145, Tryd.ntmps145
  go_wp2_with fail
  rw [show ((a : Int) / 10) = ((a / 10 : Nat) : Int) from by omega]
  refine (decimal_digit (a / 10) _ (by omega)).mono ?_
  rintro e w1 ⟨rfl, hm1⟩
  have HE1 := Lib.hid (HE.out.quiet hm1)
  clear hm1 HE
  go_wp2_with fail
  rw [show ((a : Int) % 10) = ((a % 10 : Nat) : Int) from by omega]
  refine (decimal_digit (a % 10) _ (by omega)).mono ?_
  rintro e w2 ⟨rfl, hm2⟩
  have HE2 := Lib.hid (HE1.out.quiet hm2)
  clear hm2 HE1
  go_wp2_with fail
  refine (Hpg.out w2).mono ?_
  rintro e w3 ⟨x, rfl, hx⟩
  have HE3 := Lib.hid (HE2.out.quiet (Mod.below hx.2.1))
  have hsrc := InsRow.src2 hx.1
  clear hx HE2 Hpg
  rcases hsrc with ⟨rfl, rfl⟩ | ⟨g, cc, rfl, hs⟩
  · obtain ⟨va, vc, rfl, -, -⟩ := HE3.out.row.slice
    go_wp2
    go_region_law (refine step_append_none rfl (.tmp 26) (.tmp 27) 28 rfl 0 124 i0 5 Tryd.underlying28 hi _ l.length (flat insV 0 l) rfl (by first | exact HE3.out.row | exact World.ownsRow.drew HE3.out.row) rfl ?_)
    all_goals
      go_wp2
      go_ret2
      exact ⟨.slice va l.length vc, rfl, by rw [List.append_nil]; first | exact HE3.out | exact HE3.out.quiet (Mod.refl _ _).drew⟩
  · obtain ⟨va, vc, rfl, -, -⟩ := HE3.out.row.slice
    have Hs := Lib.hid hs
    clear hs
    go_wp2
    go_region_law (refine step_append_mine _ rfl (.tmp 26) (.tmp 27) 28 rfl 124 i0 (.agg #[.string ⟨#[]⟩, .int .i64 0, .int .i64 0, .int .i64 0, .string ⟨#[]⟩]) 5 56 Tryd.underlying28 hi hz0 hz1 hz2 rfl (by decide) _ l.length (flat insV 0 l) rfl (by first | exact HE3.out.row | exact World.ownsRow.drew HE3.out.row) ⟨g, 0, none⟩ c.length cc (flat insV 0 c) rfl (insV_len c 0) (by exact Hs.out) (insV_one _ _) (len_ok hlen (by omega)) (len_ok2 hlen (by omega)) ?_; intro v1 w4 hown2 hgr2 hfr2 _; obtain ⟨xa, xb, xc, rfl⟩ := slice_of_own hown2; have HE4 := Lib.hid (HE3.out.append (by first | exact Mod.refl _ _ | exact (Mod.refl _ _).drew) hown2 hgr2 hfr2); clear hown2 hgr2 hfr2)
    all_goals
      go_wp2
      go_ret2
      exact ⟨.slice xa xb xc, rfl, by first | exact HE4.out | exact HE4.out.quiet (Mod.refl _ _).drew⟩
end Go.Proofs.YtamfbfajlfbooaaDoor
end
/- quiescentlaw2.writer, reader: their codes. -/
section
namespace Go.Proofs.YtamfbfajlfbooaaDoor
open Go.RowKit Qs Qh
def wrHead (i : Nat) : List Instr := [⟨10, 3, 0, 0, []⟩, ⟨0, 4, (i : Int) + 2, 0, []⟩, ⟨7, 3, 4, 0, []⟩, ⟨8, 3, 5, 0, []⟩]
def wrMid (f : Nat) (wait : Bool) (i : Nat) : List Instr := if wait then preC (qn (i + 1)) (gcode f 4) else []
def wrTail : List Instr := [⟨11, 3, 0, 0, []⟩]
def wrSecs (f : Nat) (wait : Bool) : Nat → List Instr
  | 0 => []
  | i + 1 => ((wrSecs f wait i ++ wrHead i) ++ wrMid f wait i) ++ wrTail
def wrCode (f : Nat) (wait : Bool) (n : Nat) : List Instr := wrSecs f wait n ++ preC (qn ((if wait then n else 0) + 1)) (gcode f 3)
def grParts (f k at_ : Nat) : Nat → List Instr
  | 0 => []
  | n + 1 => grParts f k at_ n ++ preC (qn (at_ + n + 1)) (gcode f k)
def rdReads : Nat → List Instr
  | 0 => []
  | n + 1 => rdReads n ++ [⟨6, 4, 3, 0, []⟩, ⟨19, 4, 0, 0, []⟩]
def rdLoad : List Instr := [⟨6, 3, 5, 0, []⟩]
def rdAt (d i : Nat) : Nat := i * (2 * d + 1)
def rdSec (f d r i : Nat) (l : List Instr) : List Instr := (((l ++ grParts f 0 (rdAt d i) d) ++ rdLoad) ++ rdReads r) ++ grParts f 1 (rdAt d i + d) d ++ preC (qn (rdAt d i + 2 * d + 1)) (gcode f 2)
def rdSecs (f d r : Nat) : Nat → List Instr
  | 0 => []
  | i + 1 => rdSec f d r i (rdSecs f d r i)
def rdCode (f d r n : Nat) : List Instr := rdSecs f d r n ++ preC (qn (rdAt d n + 1)) (gcode f 3)
theorem part_len {f k : Nat} (h4 : f ≤ 4) (hk : k < 5) (p : List UInt8) : (preC p (gcode f k)).length ≤ 70 := by
  rw [preC_len]; exact (gcode_ok (by omega) hk).2.1
theorem wrSecs_len {f : Nat} (h4 : f ≤ 4) (wait : Bool) : ∀ n, (wrSecs f wait n).length ≤ 75 * n
  | 0 => by simp [wrSecs]
  | n + 1 => by
    have h := wrSecs_len h4 wait n
    have hm : (wrMid f wait n).length ≤ 70 := by
      unfold wrMid
      split
      · exact part_len h4 (by omega) _
      · simp
    simp only [wrSecs, List.length_append, wrHead, wrTail, List.length_cons, List.length_nil]
    omega
theorem grParts_len {f k : Nat} (h4 : f ≤ 4) (hk : k < 5) (a : Nat) : ∀ n, (grParts f k a n).length ≤ 70 * n
  | 0 => by simp [grParts]
  | n + 1 => by
    have h := grParts_len h4 hk a n
    have hp := part_len h4 hk (qn (a + n + 1))
    simp only [grParts, List.length_append]
    omega
theorem rdReads_len : ∀ n, (rdReads n).length = 2 * n
  | 0 => rfl
  | n + 1 => by simp [rdReads, rdReads_len n]; omega
set_option maxRecDepth 100000 in
set_option maxHeartbeats 8000000 in
theorem writer_ok {f n : Nat} (h1 : 1 ≤ f) (h4 : f ≤ 4) (hn : n ≤ 3) (wait : Bool) (w : World) :
    Calls Tryd.prog 99 #[.int .i64 f, .int .i64 n, .bool wait] w fun e w' => ∃ v, e = .returned (.tuple #[v, .bool true]) ∧ Own w w' v (wrCode f wait n) := by
  obtain ⟨i0, hi, hz0, hz1, hz2⟩ := info_parts insInfo
  go_enter Tryd.func99, Tryd.ntmps99
  go_wp2
  go_loopw [8, 9, 10, 11, 12, 13] (fun v g a i _ _ wr => ∃ k : Nat, k ≤ n ∧ i = .int .i64 k ∧ a = .int .i64 ((if wait then k else 0 : Nat) : Int) ∧ g = .bool true ∧ Own w wr v (wrSecs f wait k)) (fun _ _ _ i _ _ _ => n - (intOf i).toNat)
  case atStart => exact ⟨0, Nat.zero_le _, rfl, by cases wait <;> rfl, rfl, Own.start w⟩
  case round =>
    obtain ⟨k, hk, rfl, rfl, rfl, E⟩ := hrel
    obtain ⟨va, vb, vc, rfl⟩ := slice_of_own E.row
    have hlen := wrSecs_len h4 wait k
    have HE := Lib.hid E
    clear E
    by_cases hlt : k < n
    · have hd : decide ((k : Int) < (n : Int)) = true := by simp; omega
      cases wait with
      | true =>
        simp only [if_true]
        go_wp2_with (at_builtin; refine wpList_append_mine _ rfl (.tmp 21) (.tmp 28) 28 rfl 124 i0 (.agg #[.string ⟨#[]⟩, .int .i64 0, .int .i64 0, .int .i64 0, .string ⟨#[]⟩]) 5 56 Tryd.underlying28 hi hz0 hz1 hz2 rfl (by decide) _ _ (flat insV 0 (wrSecs f true k)) rfl (World.ownsRow.alloc HE.out.row _) ⟨wr.heap.size, 0, none⟩ 4 4 (flat insV 0 (wrHead k)) rfl rfl (new_cells wr (flat insV 0 (wrHead k)) _) (insV_one _ _) (len_ok (by omega) (by simp)) (len_ok2 (by omega) (by simp)) ?_; intro vw1 w1 hown hgr hfr hz; have R := HE.out.append (x := wrHead k) ((Mod.refl _ _).alloc _) hown hgr hfr; obtain ⟨aw1, bw1, cw1, rfl⟩ := slice_of_own hown; have HEw1 := Lib.hid R; clear R hown hgr hfr hz)
        have hlen2 : (wrSecs f true k ++ wrHead k).length ≤ 1000 := by simp [wrHead]; omega
        rw [show ((k : Int) + 1) = ((k + 1 : Nat) : Int) from by omega]
        refine (add_ok (k := 4) h1 h4 (by omega) (a := k + 1) (by omega) HEw1.out hlen2).mono ?_
        rintro e w2 ⟨v2, rfl, E2⟩
        obtain ⟨a2, b2, c2, rfl⟩ := slice_of_own E2.row
        have hlen3 : ((wrSecs f true k ++ wrHead k) ++ preC (qn (k + 1)) (gcode f 4)).length ≤ 1000 := by
          have := part_len (f := f) h4 (show 4 < 5 by omega) (qn (k + 1))
          simp only [List.length_append, wrHead, List.length_cons, List.length_nil]; omega
        have HE2 := Lib.hid E2
        clear E2
        go_wp2_with (at_builtin; refine wpList_append_mine _ rfl (.tmp 45) (.tmp 47) 28 rfl 124 i0 (.agg #[.string ⟨#[]⟩, .int .i64 0, .int .i64 0, .int .i64 0, .string ⟨#[]⟩]) 5 56 Tryd.underlying28 hi hz0 hz1 hz2 rfl (by decide) _ _ (flat insV 0 ((wrSecs f true k ++ wrHead k) ++ preC (qn (k + 1)) (gcode f 4))) rfl (World.ownsRow.alloc HE2.out.row _) ⟨w2.heap.size, 0, none⟩ 1 1 (flat insV 0 (wrTail)) rfl rfl (new_cells w2 (flat insV 0 (wrTail)) _) (insV_one _ _) (len_ok hlen3 (by simp)) (len_ok2 hlen3 (by simp)) ?_; intro vw3 w3 hown hgr hfr hz; have R := HE2.out.append (x := wrTail) ((Mod.refl _ _).alloc _) hown hgr hfr; obtain ⟨aw3, bw3, cw3, rfl⟩ := slice_of_own hown; have HEw3 := Lib.hid R; clear R hown hgr hfr hz)
        go_roundw
        case rel => exact ⟨k + 1, by omega, by go_num, by go_num, rfl, HEw3.out⟩
        case measure => simp [intOf]; omega
      | false =>
        simp only [Bool.false_eq_true, if_false]
        have hlen2 : ((wrSecs f false k ++ wrHead k) ++ wrMid f false k).length ≤ 1000 := by simp [wrHead, wrMid]; omega
        go_wp2_with (first | (at_builtin; refine wpList_append_mine _ rfl (.tmp 21) (.tmp 28) 28 rfl 124 i0 (.agg #[.string ⟨#[]⟩, .int .i64 0, .int .i64 0, .int .i64 0, .string ⟨#[]⟩]) 5 56 Tryd.underlying28 hi hz0 hz1 hz2 rfl (by decide) _ _ (flat insV 0 (wrSecs f false k)) rfl (World.ownsRow.alloc HE.out.row _) ⟨wr.heap.size, 0, none⟩ 4 4 (flat insV 0 (wrHead k)) rfl rfl (new_cells wr (flat insV 0 (wrHead k)) _) (insV_one _ _) (len_ok (by omega) (by simp)) (len_ok2 (by omega) (by simp)) ?_; intro vw1 w1 hown hgr hfr hz; have R := HE.out.append (x := wrHead k) ((Mod.refl _ _).alloc _) hown hgr hfr; obtain ⟨aw1, bw1, cw1, rfl⟩ := slice_of_own hown; have HEw1 := Lib.hid R; clear R hown hgr hfr hz) | (rw [show wrSecs f false k ++ wrHead k = (wrSecs f false k ++ wrHead k) ++ wrMid f false k from by simp [wrMid]] at HEw1; (at_builtin; refine wpList_append_mine _ rfl (.tmp 45) (.tmp 47) 28 rfl 124 i0 (.agg #[.string ⟨#[]⟩, .int .i64 0, .int .i64 0, .int .i64 0, .string ⟨#[]⟩]) 5 56 Tryd.underlying28 hi hz0 hz1 hz2 rfl (by decide) _ _ (flat insV 0 ((wrSecs f false k ++ wrHead k) ++ wrMid f false k)) rfl (World.ownsRow.alloc HEw1.out.row _) ⟨w1.heap.size, 0, none⟩ 1 1 (flat insV 0 (wrTail)) rfl rfl (new_cells w1 (flat insV 0 (wrTail)) _) (insV_one _ _) (len_ok hlen2 (by simp)) (len_ok2 hlen2 (by simp)) ?_; intro vw3 w3 hown hgr hfr hz; have R := HEw1.out.append (x := wrTail) ((Mod.refl _ _).alloc _) hown hgr hfr; obtain ⟨aw3, bw3, cw3, rfl⟩ := slice_of_own hown; have HEw3 := Lib.hid R; clear R hown hgr hfr hz)))
        go_roundw
        case rel => exact ⟨k + 1, by omega, by go_num, by go_num, rfl, HEw3.out⟩
        case measure => simp [intOf]; omega
    · have hd : decide ((k : Int) < (n : Int)) = false := by simp; omega
      obtain rfl : k = n := by omega
      have hq3 : (if wait then k else 0) ≤ 3 := by split <;> omega
      generalize hq : (if wait then k else 0) = q at hq3 ⊢
      have Hq := Lib.hid hq
      clear hq
      go_wp2_with fail
      rw [show ((q : Int) + 1) = ((q + 1 : Nat) : Int) from by omega]
      refine (add_ok (k := 3) h1 h4 (by omega) (a := q + 1) (by omega) HE.out (by omega)).mono ?_
      rintro e w2 ⟨v2, rfl, E2⟩
      obtain ⟨a2, b2, c2, rfl⟩ := slice_of_own E2.row
      have HE2 := Lib.hid E2
      clear E2
      go_wp2
      go_ret2
      exact ⟨_, rfl, by unfold wrCode; rw [Hq.out]; exact HE2.out⟩
end Go.Proofs.YtamfbfajlfbooaaDoor
end
/- SpinSafe, SpinEnds: lemmas, walked. -/
section
namespace Qs
theorem M.goes_snoc (m : M) (q i : Nat) : m.goes (q + 1) i = ((m.goes q i).turn (((i + q : Nat)) : Int)).1 := by
  rw [M.goes_add q 1 i]; rfl
end Qs
namespace Go.Proofs.YtamfbfajlfbooaaDoor
open Go.RowKit Qs Qh
theorem fault_code (w : World) : (Go.Instr.field 32 (.agg #[.int .i64 0, .int .i64 (-1)]) 0).run Tryd.prog w = .ok (.int .i64 0) w := by kernel_rfl
theorem lenk {k th : Nat} {α : Type} {x : α} (hk : k ≤ th) (h : th ≤ 4) : (List.replicate k x).length + 1 ≤ maxLen := by simp; unfold maxLen; omega
theorem lenk2 {k th : Nat} {α : Type} {x : α} (hk : k ≤ th) (h : th ≤ 4) : ((List.replicate k x).length + 1) * 24 ≤ 140737488355328 := by simp; omega
theorem spEasy (th n : Nat) (h1 : 1 ≤ n) (h3 : n ≤ 3) : Easy (spStart th n) := by
  intro t h hh x hx
  have e : h = ⟨spCode n, [0, 0, 0, 0, 0, 0, 0, 1], 0⟩ := List.eq_of_mem_replicate (List.mem_of_getElem? (show (List.replicate th _)[t]? = some h from hh))
  subst e
  have hall : (spCode n).all (fun x => easyOp x.op) = true := by
    rcases (by omega : n = 1 ∨ n = 2 ∨ n = 3) with rfl | rfl | rfl <;> decide +kernel
  exact List.all_eq_true.1 hall x hx
theorem heap2_x (w : World) (a b : Obj) : ((w.alloc a).alloc b).heap[w.heap.size]? = some a :=
  (Below.heap_alloc (w.alloc a) b _ (lt_of_block (heap_alloc_new w a))).trans (heap_alloc_new w a)
theorem spAddReg {W w3 w4 : World} {B n k : Nat} {iw v u u1 : Value} {init : List (List Int)} {codes : List (List Instr)} {cv rv : Nat → Value} (T : SetRel W B n iw init v u codes (List.replicate k spR) cv rv w3)
    (hown : w4.ownsRow 0 23 1 u1 ((List.replicate k spR).length + 1) ((List.range (List.replicate k spR).length).map rv ++ [.slice (some ⟨w3.heap.size, 0, none⟩) 8 8])) (hg : ((w3.alloc (.cells #[.int .i64 0, .int .i64 0, .int .i64 0, .int .i64 0, .int .i64 0, .int .i64 0, .int .i64 0, .int .i64 1] 3)).alloc (.cells #[.slice (some ⟨w3.heap.size, 0, none⟩) 8 8] 23)).grownBy w4 u.ownBlock)
    (hfr : ∀ g, u1.ownBlock = some g → u.ownBlock = some g ∨ ((w3.alloc (.cells #[.int .i64 0, .int .i64 0, .int .i64 0, .int .i64 0, .int .i64 0, .int .i64 0, .int .i64 0, .int .i64 1] 3)).alloc (.cells #[.slice (some ⟨w3.heap.size, 0, none⟩) 8 8] 23)).heap.size ≤ g) :
    SetRel W B n iw init v u1 codes (List.replicate (k + 1) spR) cv (fun i => if i = (List.replicate k spR).length then .slice (some ⟨w3.heap.size, 0, none⟩) 8 8 else rv i) (w4.setCell ⟨B, 2, none⟩ u1) := by
  have hh := heap2_x w3 (.cells #[.int .i64 0, .int .i64 0, .int .i64 0, .int .i64 0, .int .i64 0, .int .i64 0, .int .i64 0, .int .i64 1] 3) (.cells #[.slice (some ⟨w3.heap.size, 0, none⟩) 8 8] 23)
  have hlt := lt_of_block hh
  have hB := lt_of_block T.box
  have := T.addReg (x := .slice (some ⟨w3.heap.size, 0, none⟩) 8 8) (l := spR) (w1 := ((w3.alloc (.cells #[.int .i64 0, .int .i64 0, .int .i64 0, .int .i64 0, .int .i64 0, .int .i64 0, .int .i64 0, .int .i64 1] 3)).alloc (.cells #[.slice (some ⟨w3.heap.size, 0, none⟩) 8 8] 23))) ⟨_, _, rfl, by decide, fun i x hi => ⟨_, 0, rfl, hlt, by
    rw [cell_of_heap hh]
    have hi8 : i < 8 := (List.getElem?_eq_some_iff.1 hi).1
    have e : (#[.int .i64 0, .int .i64 0, .int .i64 0, .int .i64 0, .int .i64 0, .int .i64 0, .int .i64 0, .int .i64 1] : Array Value).toList = spR.map (Value.int .i64) := rfl
    rw [Nat.zero_add, ← Array.getElem?_toList, e, List.getElem?_map, hi]; rfl⟩⟩ (fun g hg' => by
      have : w3.heap.size = g := by simpa [Value.ownBlock] using hg'
      subst this
      exact ⟨⟨by omega, (fun e => by have := (World.ownsRow.lt T.vrow _ e).2; omega), (fun e => by have := (World.ownsRow.lt T.urow _ e).2; omega)⟩, hlt⟩) (((Mod.refl noF w3).alloc _).alloc _) hown hg hfr
  rw [rep_snoc] at this
  exact this
theorem spAddReg_free {W w3 w4 : World} {B n k : Nat} {iw v u : Value} {init : List (List Int)} {codes : List (List Instr)} {cv rv : Nat → Value} (T : SetRel W B n iw init v u codes (List.replicate k spR) cv rv w3) {a b : Obj}
    (hg : ((w3.alloc a).alloc b).grownBy w4 u.ownBlock) : (w4.cell? ⟨B, 2, none⟩ = some u) ∧ w4.frozen? ⟨B, 2, none⟩ = false ∧ B < w4.heap.size := by
  have hM : Mod (fun g => u.ownBlock = some g) w3 w4 := ((((Mod.refl noF w3).alloc a).alloc b).any).grown hg fun j hj _ => hj
  have hb := hM.heap T.box T.uB
  exact ⟨by rw [cell_of_heap hb]; rfl, free_of_heap hb 2, lt_of_block hb⟩
end Go.Proofs.YtamfbfajlfbooaaDoor
end
/- flavoured: each flavour has code to wait. -/
section
namespace Go.Proofs.YtamfbfajlfbooaaDoor
open Go.RowKit Qs Qh
variable {w0 w w1 : World} {b o : Nat} {v0 : Value} {l : List Instr} {br s : ByteArray} {fe jo co : Bool} {u : Value} {c : Nat}
theorem nameW : nameB (⟨#[119]⟩ : ByteArray).data.toList = true := by decide
theorem gwait_any {f : Nat} (h1 : 1 ≤ f) (h4 : f ≤ 4) (s : ByteArray) (w : World) (hn : nameB s.data.toList = true) (hs : s.size ≤ 4) :
    Calls Tryd.prog 97 #[.int .i64 f, .string s] w fun e w' => ∃ v, e = .returned (.tuple #[v, .nilIface]) ∧ Made (preC s.data.toList (gcode f 4)) w v w' := by
  match f, h1, h4 with
  | 1, _, _ => exact gwait1_ok s w hn hs
  | 2, _, _ => exact gwait2_ok s w hn hs
  | 3, _, _ => exact gwait3_ok s w hn hs
  | 4, _, _ => exact gwait4_ok s w hn hs
theorem gwait_pos {f : Nat} (h1 : 1 ≤ f) (h4 : f ≤ 4) (p : List UInt8) : 0 < (preC p (gcode f 4)).length := by
  rw [preC_len]
  match f, h1, h4 with
  | 1, _, _ => decide
  | 2, _, _ => decide
  | 3, _, _ => decide
  | 4, _, _ => decide
set_option maxHeartbeats 4000000 in
theorem flavoured_any (w : World) : Calls Tryd.prog 40 #[] w fun e w' => e = .returned (.bool true) ∧ Mod noF w w' := by
  go_enter Tryd.func40, Tryd.ntmps40
  go_wp2
  go_loopw [1, 2, 3] (fun i _ _ wr => ∃ k : Nat, 1 ≤ k ∧ k ≤ 5 ∧ i = .int .i64 k ∧ Mod noF w wr) (fun i _ _ _ => 5 - (intOf i).toNat)
  case atStart => exact ⟨1, by omega, by omega, rfl, Mod.refl _ _⟩
  case round =>
    rename_i wr
    obtain ⟨k, hk1, hk, rfl, hm⟩ := hrel
    have Hm := Lib.hid hm
    clear hm
    by_cases hlt : k ≤ 4
    · have hd : decide ((k : Int) ≤ 4) = true := by simp; omega
      go_wp2_with fail
      refine (gwait_any hk1 hlt ⟨#[119]⟩ _ nameW (by decide)).mono ?_
      rintro e x1 ⟨v, rfl, hv⟩
      obtain ⟨g, c, rfl, _⟩ := InsRow.src hv.1 (gwait_pos hk1 hlt _)
      have Hv := Lib.hid (Hm.out.trans0 (Mod.below hv.2.1))
      have hp := gwait_pos hk1 hlt (⟨#[119]⟩ : ByteArray).data.toList
      generalize (preC (⟨#[119]⟩ : ByteArray).data.toList (gcode k 4)).length = n at hp
      have h0 : ((n : Int) == 0) = false := by rw [beq_eq_false_iff_ne]; omega
      clear hv
      go_wp2
      go_roundw
      case rel => exact ⟨k + 1, by omega, by omega, by go_num, Hv.out⟩
      case measure => simp [intOf]; omega
    · have hd : decide ((k : Int) ≤ 4) = false := by simp; omega
      go_wp2
      go_ret
      exact ⟨rfl, Hm.out⟩
end Go.Proofs.YtamfbfajlfbooaaDoor
end
