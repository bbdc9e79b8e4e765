/- Texts that belong together, joined. -/
import Derived.Test.YtamfbfajlfbooaaDoorSm3
import Derived.Test.YtamfbfajlfbooaaDoorSStepA
import Derived.Test.YtamfbfajlfbooaaDoorSStepB
import Derived.Test.YtamfbfajlfbooaaDoorSStepC
import Derived.Test.YtamfbfajlfbooaaDoorSStepD
import Derived.Test.YtamfbfajlfbooaaDoorSStepE
import Derived.Test.YtamfbfajlfbooaaDoorSm7
import Derived.Test.YtamfbfajlfbooaaDoorSStepG
import Derived.Test.YtamfbfajlfbooaaDoorSStepH
import Derived.Test.YtamfbfajlfbooaaDoorSStepI
import Derived.Test.YtamfbfajlfbooaaDoorSStepJ
import Derived.Test.YtamfbfajlfbooaaDoorSStepL
import Derived.Test.YtamfbfajlfbooaaDoorSStepM
import Derived.Test.YtamfbfajlfbooaaDoorSStepN
import Derived.Test.YtamfbfajlfbooaaDoorSStepO
import Derived.Test.YtamfbfajlfbooaaDoorSStepP
import Derived.Outline
import Derived.Test.YtamfbfajlfbooaaDoorSm2
import Derived.Test.YtamfbfajlfbooaaDoorSm1
import Derived.Test.YtamfbfajlfbooaaDoorSm5
import Derived.Test.YtamfbfajlfbooaaDoorSm6
import Derived.Test.YtamfbfajlfbooaaDoorSNewWalk
import Derived.Test.YtamfbfajlfbooaaDoorSGraceWorld
import Derived.Test.YtamfbfajlfbooaaDoorSGraceRd
import Derived.Test.YtamfbfajlfbooaaDoorSm4
set_option linter.unusedVariables false
set_option linter.unusedSimpArgs false
set_option linter.unusedSectionVars false
/- (*quiescentref1.Machine).Step, by all instructions. -/
section
namespace Go.Proofs.YtamfbfajlfbooaaDoor
open Go.RowKit Qs Qh
variable {w : World} {L : Lay} {m : M} {N : Int}
def easyOp (n : Nat) : Bool := !(n == 18)
def Easy (m : M) : Prop := ∀ (t : Nat) h, m.T[t]? = some h → ∀ x ∈ h.code, easyOp x.op = true
set_option maxRecDepth 100000 in
theorem step_done (X : Mach ty w L m N) (t : Nat) (ht : t < m.T.length) (hd : m.done t = true) :
    Calls Tryd.prog 89 #[.pointer (some ⟨L.blk 0 0, 0, none⟩), .int .i64 t] w fun e w' => e = .returned (.int .i64 9) ∧ Mod noF w w' := by
  obtain ⟨t0, t1, t2, t3, t4, t5⟩ := X.top
  have d0 : decide ((t : Int) < 0) = false := by simp
  have d1 : decide ((m.T.length : Int) ≤ (t : Int)) = false := by simp; omega
  have HX := Lib.hid X
  have Hdone := Lib.hid hd
  clear X hd t4
  go_enter Tryd.func89, Tryd.ntmps89
  go_wp2_with fail
  refine (done_any HX.out t ht).mono ?_
  rintro e w1 ⟨rfl, hm⟩
  rw [Hdone.out]
  have Hm := Lib.hid hm
  clear hm
  go_wp2
  go_ret
  exact ⟨rfl, Hm.out⟩
theorem reg_nat {n k : Int} (h : isReg n k) : ∃ a : Nat, n = a ∧ (a : Int) < k := by
  obtain ⟨h0, h1⟩ := h
  obtain ⟨a, rfl⟩ := Int.eq_ofNat_of_zero_le h0
  exact ⟨a, rfl, h1⟩
theorem names_nat {m : M} {n rc rg : Int} (h : m.names n = some (rc, rg)) : ∃ k : Nat, rc = k ∧ k < m.cells.length := by
  unfold M.names at h
  cases hr : refOf n with
  | none => rw [hr] at h; cases h
  | some p =>
    obtain ⟨a, b⟩ := p
    rw [hr] at h
    simp only at h
    split at h
    · rename_i hh
      cases h
      obtain ⟨h0, h1, _⟩ := hereIn_ge hh
      obtain ⟨k, rfl⟩ := Int.eq_ofNat_of_zero_le h0
      exact ⟨k, rfl, by omega⟩
    · cases h
/-- How a step is told. -/
def StepTold (w : World) (L : Lay) (m : M) (N : Int) (t : Nat) : Prop :=
  Calls Tryd.prog 89 #[.pointer (some ⟨L.blk 0 0, 0, none⟩), .int .i64 t] w fun e w' => e = .returned (.int .i64 (m.step t).2) ∧ ∃ L', MUp ty w L m w' L' (m.step t).1 (N + 48)
theorem told {t : Nat} {h : Thr} {x : Instr} (hh : m.T[t]? = some h) (hx : h.code[h.pc]? = some x) (h20 : x.op ≠ 20) {m' : M} {N' : Int} (hN' : N' ≤ N + 48) (he : (m.setPc t (h.pc + 1)).exec t x = m')
    (hc : Calls Tryd.prog 89 #[.pointer (some ⟨L.blk 0 0, 0, none⟩), .int .i64 t] w fun e w' => e = .returned (.int .i64 0) ∧ ∃ L', MUp ty w L m w' L' m' N') : StepTold w L m N t := by
  unfold StepTold
  rw [step_eq hh hx h20]
  refine hc.mono ?_
  rintro e w' ⟨rfl, L', U⟩
  refine ⟨rfl, L', ?_⟩
  rw [he]
  exact U.mono hN'
theorem step_any (X : Mach ty w L m N) (hE : Easy m) (hN : N ≤ 10000000000) (t : Nat) (ht : t < m.T.length) :
    Calls Tryd.prog 89 #[.pointer (some ⟨L.blk 0 0, 0, none⟩), .int .i64 t] w fun e w' => e = .returned (.int .i64 (m.step t).2) ∧ ∃ L', MUp ty w L m w' L' (m.step t).1 (N + 48) := by
  show StepTold w L m N t
  obtain ⟨h, hh⟩ : ∃ h, m.T[t]? = some h := ⟨_, List.getElem?_eq_getElem ht⟩
  cases hx : h.code[h.pc]? with
  | none =>
    have hs := Qh.step_end hh hx
    have hd : m.done t = true := by unfold M.done; rw [thr_of hh, hx]
    unfold StepTold
    rw [hs]
    refine (step_done X t ht hd).mono ?_
    rintro e w' ⟨rfl, hm⟩
    exact ⟨rfl, L, (MUp.quiet X hm).mono (by omega)⟩
  | some x =>
    by_cases h20 : x.op = 20
    · have hs := step_stop hh hx h20
      have hd : m.done t = true := by unfold M.done; rw [thr_of hh, hx]; simp [h20]
      unfold StepTold
      rw [hs]
      refine (step_done X t ht hd).mono ?_
      rintro e w' ⟨rfl, hm⟩
      exact ⟨rfl, L, (MUp.quiet X hm).mono (by omega)⟩
    · have hmem : x ∈ h.code := List.mem_of_getElem? hx
      have hco := (X.ot.code t h hh).2
      have hi := hco.ins x hmem
      have he := hE t h hh x hmem
      have hlab := hco.lab x hmem
      obtain ⟨op, A, B, C, to⟩ := x
      rcases op_cases op with rfl | rfl | rfl | rfl | rfl | rfl | rfl | rfl | rfl | rfl | rfl | rfl | rfl | rfl | rfl | rfl | rfl | rfl | rfl | rfl | hbig
      · obtain ⟨h1, hB⟩ := hi
        obtain ⟨a, rfl, ha⟩ := reg_nat h1
        exact told hh hx h20 (by omega) (exec_const hh) (step_const (b := 0) (c := 0) (A := 0) X hN t ht hh hx (by omega) hB)
      · obtain ⟨h1, h2⟩ := hi
        obtain ⟨a, rfl, ha⟩ := reg_nat h1
        obtain ⟨b, rfl, hb⟩ := reg_nat h2
        exact told hh hx h20 (by omega) (exec_move hh) (step_move (c := 0) (A := 0) (B := 0) X hN t ht hh hx (by omega) (by omega))
      · obtain ⟨h1, h2, h3⟩ := hi
        obtain ⟨a, rfl, ha⟩ := reg_nat h1
        obtain ⟨b, rfl, hb⟩ := reg_nat h2
        obtain ⟨c, rfl, hc⟩ := reg_nat h3
        exact told hh hx h20 (by omega) (exec_add hh) (step_add (A := 0) (B := 0) (C := 0) X hN t ht hh hx (by omega) (by omega) (by omega))
      · obtain ⟨h1, h2, h3⟩ := hi
        obtain ⟨a, rfl, ha⟩ := reg_nat h1
        obtain ⟨b, rfl, hb⟩ := reg_nat h2
        obtain ⟨c, rfl, hc⟩ := reg_nat h3
        exact told hh hx h20 (by omega) (exec_sub hh) (step_sub (A := 0) (B := 0) (C := 0) X hN t ht hh hx (by omega) (by omega) (by omega))
      · obtain ⟨h1, h2, h3⟩ := hi
        obtain ⟨a, rfl, ha⟩ := reg_nat h1
        obtain ⟨b, rfl, hb⟩ := reg_nat h2
        obtain ⟨c, rfl, hc⟩ := reg_nat h3
        exact told hh hx h20 (by omega) (exec_and hh) (step_and (A := 0) (B := 0) (C := 0) X hN t ht hh hx (by omega) (by omega) (by omega))
      · obtain ⟨h1, h2, h3⟩ := hi
        obtain ⟨a, rfl, ha⟩ := reg_nat h1
        obtain ⟨b, rfl, hb⟩ := reg_nat h2
        obtain ⟨c, rfl, hc⟩ := reg_nat h3
        exact told hh hx h20 (by omega) (exec_xor hh) (step_xor (A := 0) (B := 0) (C := 0) X hN t ht hh hx (by omega) (by omega) (by omega))
      · obtain ⟨h1, h2, h3⟩ := hi
        obtain ⟨a, rfl, ha⟩ := reg_nat h1
        obtain ⟨b, rfl, hb⟩ := reg_nat h2
        cases hn : m.names (h.regs.getD b 0) with
        | none => exact told hh hx h20 (by omega) (exec_load_none hh hn) (step_load_none (c := 0) (A := 0) (B := 0) X hN t ht hh hx (by omega) (by omega) hn)
        | some r => exact told hh hx h20 (by omega) (exec_load_ok hh (rc := r.1) (rg := r.2) hn) (step_load_ok (c := 0) (A := 0) (B := 0) X hN t ht hh hx (by omega) (by omega) h3 hn)
      · obtain ⟨h1, h2, h3⟩ := hi
        obtain ⟨a, rfl, ha⟩ := reg_nat h1
        obtain ⟨b, rfl, hb⟩ := reg_nat h2
        cases hn : m.names (h.regs.getD a 0) with
        | none => exact told hh hx h20 (by omega) (exec_store_none hh hn) (step_store_none (c := 0) (A := 0) (B := 0) X hN t ht hh hx (by omega) (by omega) hn)
        | some r =>
          obtain ⟨l, hl⟩ : ∃ l, m.waits[t]? = some l := ⟨_, List.getElem?_eq_getElem (by rw [X.ot.len]; exact ht)⟩
          have h8 := X.om.wlen t l hl
          by_cases h9 : l.length < 8
          · exact told hh hx h20 (by omega) (exec_store_ok hh (rc := r.1) (rg := r.2) hn hl h9) (step_store_ok (c := 0) (A := 0) (B := 0) X hN t ht hh hx (by omega) (by omega) h3 hn hl h9)
          · obtain ⟨y, q, rfl⟩ : ∃ y q, l = y :: q := by
              cases l with
              | nil => simp at h9
              | cons y q => exact ⟨y, q, rfl⟩
            have h7 : q.length = 7 := by simp at h8 h9; omega
            cases hin : hereIn m.cells y.c y.g with
            | true => exact told hh hx h20 (by omega) (exec_store_full hh (rc := r.1) (rg := r.2) hn hl h7 hin) (step_store_full_ok (c := 0) (A := 0) (B := 0) X hN t ht hh hx (by omega) (by omega) h3 hn hl h7 hin)
            | false => exact told hh hx h20 (by omega) (exec_store_full_bad hh (rc := r.1) (rg := r.2) hn hl h7 hin) (step_store_full_bad (c := 0) (A := 0) (B := 0) X hN t ht hh hx (by omega) (by omega) h3 hn hl h7 hin)
      · obtain ⟨h1, h2, h3⟩ := hi
        obtain ⟨a, rfl, ha⟩ := reg_nat h1
        obtain ⟨b, rfl, hb⟩ := reg_nat h2
        obtain ⟨c, rfl, hc⟩ := reg_nat h3
        cases hn : m.names (h.regs.getD b 0) with
        | none => exact told hh hx h20 (by omega) (exec_swap_none hh hn) (step_swap_none (c := 0) (A := 0) (B := 0) X hN t ht hh hx (by omega) (by omega) hn)
        | some r =>
          obtain ⟨rc, rg⟩ := r
          obtain ⟨k, rfl, hk⟩ := names_nat hn
          exact told hh hx h20 (by omega) (exec_swap_ok hh hn) (step_swap_ok (A := 0) (B := 0) (C := 0) X hN t ht hh hx (by omega) (by omega) (by omega) hk hn)
      · obtain ⟨h1, h2, h3⟩ := hi
        obtain ⟨a, rfl, ha⟩ := reg_nat h1
        obtain ⟨b, rfl, hb⟩ := reg_nat h2
        obtain ⟨c, rfl, hc⟩ := reg_nat h3
        cases hn : m.names (h.regs.getD a 0) with
        | none => exact told hh hx h20 (by omega) (exec_cas_none hh hn) (step_cas_none (c := 0) (A := 0) (B := 0) X hN t ht hh hx (by omega) (by omega) hn)
        | some r =>
          obtain ⟨rc, rg⟩ := r
          obtain ⟨k, rfl, hk⟩ := names_nat hn
          exact told hh hx h20 (by omega) (exec_cas_ok hh hn) (step_cas_ok (A := 0) (B := 0) (C := 0) X hN t ht hh hx (by omega) (by omega) (by omega) (by omega) hk hn)
      · obtain ⟨a, rfl, ha⟩ := reg_nat hi
        cases hal : allocAt m.cells 0 with
        | none => exact told hh hx h20 (by omega) (exec_alloc_none hal) (step_alloc_none (b := 0) (c := 0) (A := 0) X hN t ht hh hx (by omega) hal)
        | some r => exact told hh hx h20 (by omega) (exec_alloc_ok (i := r.1) (n := r.2) hal) (step_alloc_ok (b := 0) (c := 0) (A := 0) X hN t ht hh hx (by omega) hal)
      · obtain ⟨a, rfl, ha⟩ := reg_nat hi
        cases hn : m.names (h.regs.getD a 0) with
        | none => exact told hh hx h20 (by omega) (exec_free_none hh hn) (step_free_none (b := 0) (c := 0) (A := 0) X hN t ht hh hx (by omega) hn)
        | some r =>
          obtain ⟨rc, rg⟩ := r
          obtain ⟨k, rfl, hk⟩ := names_nat hn
          exact told hh hx h20 (by omega) (exec_free_ok hh hn) (step_free_ok (b := 0) (c := 0) (A := 0) X hN t ht hh hx (by omega) hk hn)
      · exact told hh hx h20 (by omega) exec_fence (step_fence (a := 0) (b := 0) (c := 0) X hN t ht hh hx)
      · exact told hh hx h20 (by omega) exec_force (step_force (a := 0) (b := 0) (c := 0) X hN t ht hh hx)
      · obtain ⟨a, rfl, ha⟩ := reg_nat hi
        obtain ⟨i, hi⟩ := Option.isSome_iff_exists.1 (hlab (.inl rfl))
        by_cases hz : h.regs.getD a 0 = 0
        · exact told hh hx h20 (by omega) (exec_zero_yes hh hi hz) (step_zero_yes (b := 0) (c := 0) (A := 0) X hN t ht hh hx (by omega) hi hz)
        · exact told hh hx h20 (by omega) (exec_zero_no hh hz) (step_zero_no (b := 0) (c := 0) (A := 0) X hN t ht hh hx (by omega) hz)
      · obtain ⟨h1, h2⟩ := hi
        obtain ⟨a, rfl, ha⟩ := reg_nat h1
        obtain ⟨b, rfl, hb⟩ := reg_nat h2
        obtain ⟨i, hi⟩ := Option.isSome_iff_exists.1 (hlab (.inr (.inl rfl)))
        by_cases hz : h.regs.getD a 0 = h.regs.getD b 0
        · exact told hh hx h20 (by omega) (exec_same_yes hh hi hz) (step_same_yes (c := 0) (A := 0) (B := 0) X hN t ht hh hx (by omega) (by omega) hi hz)
        · exact told hh hx h20 (by omega) (exec_same_no hh hz) (step_same_no (c := 0) (A := 0) (B := 0) X hN t ht hh hx (by omega) (by omega) hz)
      · obtain ⟨i, hi⟩ := Option.isSome_iff_exists.1 (hlab (.inr (.inr rfl)))
        exact told hh hx h20 (by omega) (exec_goto hh hi) (step_goto (a := 0) (b := 0) (c := 0) X hN t ht hh hx hi)
      · exact told hh hx h20 (by omega) exec_label (step_label (a := 0) (b := 0) (c := 0) X hN t ht hh hx)
      · cases he
      · obtain ⟨a, rfl, ha⟩ := reg_nat hi
        exact told hh hx h20 (by omega) (exec_need hh) (step_need (b := 0) (c := 0) (A := 0) X hN t ht hh hx (by omega))
      · have h21 : ¬ op = 20 := h20
        have : op ≤ 20 := insOk_le hi
        omega
end Go.Proofs.YtamfbfajlfbooaaDoor
end
/- (*quiescentref1.Machine).Turn. -/
section
namespace Go.Proofs.YtamfbfajlfbooaaDoor
open Go.RowKit Qs Qh
variable {w : World} {L : Lay} {m : M} {N : Int}
theorem tmod_fix (n k : Int) (hk : 0 < k) : (if n.tmod k < 0 then n.tmod k + k else n.tmod k) = n % k := by
  have h1 := Int.emod_nonneg n (show k ≠ 0 by omega)
  have h2 := Int.emod_lt_of_pos n hk
  by_cases h0 : 0 ≤ n
  · rw [Int.tmod_eq_emod_of_nonneg h0, if_neg (by omega)]
  · have e : n.tmod k = if k ∣ n then 0 else n % k - k := by
      rw [Int.tmod_eq_emod]
      by_cases hd : k ∣ n
      · have : n % k = 0 := Int.emod_eq_zero_of_dvd hd
        simp [hd, this]
      · simp [hd, h0]; omega
    by_cases hd : k ∣ n
    · have h3 : n % k = 0 := Int.emod_eq_zero_of_dvd hd
      rw [e, if_pos hd, if_neg (by omega), h3]
    · rw [e, if_neg hd, if_pos (by omega)]; omega
theorem turn_at (m : M) (n : Int) {q : Nat} (hq : n % (2 * (m.T.length : Int)) = q) : m.turn n = if q < m.T.length then m.step q else m.drain (q - m.T.length) := by
  unfold M.turn
  simp only [hq, Int.toNat_natCast]
set_option maxHeartbeats 1000000 in
theorem turn_any (X : Mach ty w L m N) (hE : Easy m) (hN : N ≤ 1000000000) (n : Int) (hlo : -9223372036854775808 ≤ n) (hhi : n ≤ 9223372036854775807) :
    Calls Tryd.prog 24 #[.pointer (some ⟨L.blk 0 0, 0, none⟩), .int .i64 n] w fun e w' => e = .returned (.int .i64 (m.turn n).2) ∧ ∃ L', MUp ty w L m w' L' (m.turn n).1 (N + 48) := by
  obtain ⟨t0, t1, t2, t3, t4, t5⟩ := X.top
  have ht6 : m.T.length ≤ 6 := by have := X.om.waits; have := X.ot.len; omega
  have ht1 := X.ot.t1
  have hk : (0 : Int) < 2 * (m.T.length : Int) := by omega
  have hk0 : (2 * (m.T.length : Int) == 0) = false := by rw [beq_eq_false_iff_ne]; omega
  have hfix := tmod_fix n (2 * (m.T.length : Int)) hk
  have h1 := Int.emod_nonneg n (show (2 * (m.T.length : Int)) ≠ 0 by omega)
  have h2 := Int.emod_lt_of_pos n hk
  clear t4
  obtain ⟨q, hq⟩ := Int.eq_ofNat_of_zero_le h1
  have hta := turn_at m n hq
  rw [hq] at hfix h2
  have HX := Lib.hid X
  have HE := Lib.hid hE
  have Hta := Lib.hid hta
  clear X hE hq hta h1
  obtain ⟨r, hr⟩ : ∃ r, n.tmod (2 * (m.T.length : Int)) = r := ⟨_, rfl⟩
  rw [hr] at hfix
  by_cases hneg : r < 0
  · rw [if_pos hneg] at hfix
    by_cases hqt : q < m.T.length
    · have hd : decide ((q : Int) < (m.T.length : Int)) = true := by simp; omega
      go_enter Tryd.func24, Tryd.ntmps24
      go_wp2_with fail
      refine (step_any HX.out HE.out (by omega) q hqt).mono ?_
      rintro e w5 ⟨rfl, h5⟩
      have H5 := Lib.hid h5
      clear h5
      go_wp2
      go_ret
      rw [Hta.out, if_pos hqt]
      exact ⟨rfl, H5.out⟩
    · obtain ⟨p, rfl⟩ : ∃ p, q = m.T.length + p := ⟨q - m.T.length, by omega⟩
      have hp2 : p < m.T.length := by omega
      have hp3 : m.T.length + p - m.T.length = p := by omega
      rw [hp3] at Hta
      rw [Int.natCast_add] at h2 hfix
      have hd : decide ((m.T.length : Int) + (p : Int) < (m.T.length : Int)) = false := by simp; omega
      have hsub : (m.T.length : Int) + (p : Int) - (m.T.length : Int) = p := by omega
      clear hp3
      go_enter Tryd.func24, Tryd.ntmps24
      go_wp2_with fail
      refine (mdrain_any HX.out (by omega) p hp2).mono ?_
      rintro e w5 ⟨rfl, L5, h5⟩
      have H5 := Lib.hid h5
      clear h5
      go_wp2
      go_ret
      rw [Hta.out, if_neg hqt]
      exact ⟨rfl, L5, H5.out.mono (by omega)⟩
  · rw [if_neg hneg] at hfix
    subst hfix
    clear hneg
    by_cases hqt : q < m.T.length
    · have hd : decide ((q : Int) < (m.T.length : Int)) = true := by simp; omega
      go_enter Tryd.func24, Tryd.ntmps24
      go_wp2_with fail
      refine (step_any HX.out HE.out (by omega) q hqt).mono ?_
      rintro e w5 ⟨rfl, h5⟩
      have H5 := Lib.hid h5
      clear h5
      go_wp2
      go_ret
      rw [Hta.out, if_pos hqt]
      exact ⟨rfl, H5.out⟩
    · obtain ⟨p, rfl⟩ : ∃ p, q = m.T.length + p := ⟨q - m.T.length, by omega⟩
      have hp2 : p < m.T.length := by omega
      have hp3 : m.T.length + p - m.T.length = p := by omega
      rw [hp3] at Hta
      rw [Int.natCast_add] at h2 hr
      have hd : decide ((m.T.length : Int) + (p : Int) < (m.T.length : Int)) = false := by simp; omega
      have hsub : (m.T.length : Int) + (p : Int) - (m.T.length : Int) = p := by omega
      clear hp3
      go_enter Tryd.func24, Tryd.ntmps24
      go_wp2_with fail
      refine (mdrain_any HX.out (by omega) p hp2).mono ?_
      rintro e w5 ⟨rfl, L5, h5⟩
      have H5 := Lib.hid h5
      clear h5
      go_wp2
      go_ret
      rw [Hta.out, if_neg hqt]
      exact ⟨rfl, L5, H5.out.mono (by omega)⟩
end Go.Proofs.YtamfbfajlfbooaaDoor
end
/- (*quiescentref1.Machine).Run. -/
section
namespace Go.Proofs.YtamfbfajlfbooaaDoor
open Go.RowKit Qs Qh
variable {w : World} {L : Lay} {m : M} {N : Int}
theorem Easy.keep {w' : World} {L' : Lay} {m' : M} {N' : Int} (h : Easy m) (U : MUp ty w L m w' L' m' N') : Easy m' := by
  intro t x' hx' i hi
  obtain ⟨x, hx, e⟩ := U.thr t x' hx'
  rw [e] at hi
  exact h t x hx i hi
theorem frame1 {w w' : World} {F : Nat → Prop} {v : Value} {l : List Int} (h : IntsAt w v l) (hM : Mod F w w') (hF : l ≠ [] → ∀ b, v.ownBlock = some b → ¬ F b) : IntsAt w' v l := by
  by_cases e : l = []
  · subst e
    obtain ⟨a, c, rfl, hc, hx⟩ := h.at_
    exact ⟨a, c, rfl, hc, fun i x hi => by simp at hi⟩
  · exact h.frame hM (hF e)
def runRel (w : World) (L : Lay) (m : M) (N : Int) (l : List Int) (k : Nat) (d i : Value) (wr : World) : Prop :=
  i = .int .i64 k ∧ d = .int .i64 (m.run (l.take k)).2 ∧ ∃ L', MUp ty w L m wr L' (m.run (l.take k)).1 (N + 48 * k)
set_option maxHeartbeats 1000000 in
theorem run_any (X : Mach ty w L m N) (hE : Easy m) (hN : N ≤ 1000000) (v : Value) (l : List Int) (hl : IntsAt w v l) (hlen : l.length ≤ 20000) (hw : ∀ x ∈ l, -9223372036854775808 ≤ x ∧ x ≤ 9223372036854775807) (hv : l ≠ [] → ∀ b, v.ownBlock = some b → ¬ Foot ty allK L m b) :
    Calls Tryd.prog 26 #[.pointer (some ⟨L.blk 0 0, 0, none⟩), v] w fun e w' => e = .returned (.int .i64 (m.run l).2) ∧ ∃ L', MUp ty w L m w' L' (m.run l).1 (N + 48 * l.length) := by
  obtain ⟨a, c, rfl, hcm, hcell⟩ := hl.at_
  have HX := Lib.hid X
  have HE := Lib.hid hE
  have Hl := Lib.hid hl
  have Hw := Lib.hid hw
  have Hv := Lib.hid hv
  clear X hE hl hw hv hcell hcm
  go_enter Tryd.func26, Tryd.ntmps26
  go_wp2
  go_loopw [5, 6, 7] (fun d i _ wr => ∃ k : Nat, k ≤ l.length ∧ runRel w L m N l k d i wr) (fun _ i _ _ => l.length - (intOf i).toNat)
  case atStart => exact ⟨0, Nat.zero_le _, rfl, rfl, L, by simpa [M.run] using MUp.quiet HX.out (Mod.refl _ _)⟩
  case round =>
    rename_i wr
    obtain ⟨k, hk, rfl, rfl, Lr, Ur⟩ := hrel
    have hd0 := M.run_two m (l.take k)
    have hlk : (l.take k).length ≤ k := List.length_take_le _ _
    generalize hmr : m.run (l.take k) = mr at *
    obtain ⟨m1, d1⟩ := mr
    simp only at hd0 Ur
    have Hmr := Lib.hid hmr
    have HUr := Lib.hid Ur
    obtain ⟨hd0, hd1⟩ := hd0
    have hd2 : d1 ≤ 20000 := by omega
    clear hmr Ur hlk
    by_cases hlt : k < l.length
    · have hd : decide ((k : Int) < (l.length : Int)) = true := by simp; omega
      have hdd : decide ((k : Int) < 20000) = true := by simp; omega
      have hdd : ((k : Int) < 20000) := by omega
      obtain ⟨x, hx⟩ : ∃ x, l[k]? = some x := ⟨_, List.getElem?_eq_getElem hlt⟩
      have hwx := Hw.out x (List.mem_of_getElem? hx)
      obtain ⟨hw0, hw1⟩ := hwx
      have hI := frame1 Hl.out HUr.out.mod Hv.out
      obtain ⟨a', c', e', _, hcell⟩ := hI.at_
      cases e'
      obtain ⟨b, off, rfl, hb, hc⟩ := hcell k x hx
      have hE1 := HE.out.keep HUr.out
      have e0 := HUr.out.top.1
      have hcall := turn_any HUr.out.mach hE1 (by omega) x hw0 hw1
      rw [e0] at hcall
      have htk : l.take (k + 1) = l.take k ++ [x] := by rw [List.take_succ_eq_append_getElem hlt]; rw [List.getElem?_eq_getElem hlt] at hx; cases hx; rfl
      have hsn := M.run_snoc m (l.take k) x
      rw [← htk, Hmr.out] at hsn
      have Hsn := Lib.hid hsn
      have Hcall := Lib.hid hcall
      have Hx := Lib.hid hx
      clear hx hI hcell hE1 e0 hcall htk hsn
      go_wp2_with fail
      refine Hcall.out.mono ?_
      rintro e w5 ⟨rfl, L5, U5⟩
      have HU5 := Lib.hid U5
      clear U5
      by_cases hz : (m1.turn x).2 = 0
      · rw [hz]
        have Hz := Lib.hid hz
        clear hz
        go_wp2
        go_roundw
        case rel =>
          refine ⟨k + 1, by omega, by go_num, ?_, L5, ?_⟩
          · rw [Hsn.out, if_pos Hz.out]
          · rw [Hsn.out]
            have := (HUr.out.trans HU5.out)
            rw [show N + 48 * ((k + 1 : Nat) : Int) = N + 48 * (k : Int) + 48 from by omega]
            exact this
        case measure => simp [intOf]; omega
      · generalize htn : (m1.turn x).2 = z at *
        have hzb : (z == 0) = false := by simpa using hz
        have Hz := Lib.hid hz
        have Htn := Lib.hid htn
        clear hz htn
        go_wp2
        go_roundw
        case rel =>
          refine ⟨k + 1, by omega, by go_num, ?_, L5, ?_⟩
          · rw [Hsn.out]
            simp only
            rw [if_neg Hz.out]; simp
          · rw [Hsn.out]
            have := (HUr.out.trans HU5.out)
            rw [show N + 48 * ((k + 1 : Nat) : Int) = N + 48 * (k : Int) + 48 from by omega]
            exact this
        case measure => simp [intOf]; omega
    · have hd : decide ((k : Int) < (l.length : Int)) = false := by simp; omega
      obtain rfl : k = l.length := by omega
      have htk : l.take l.length = l := List.take_length
      rw [htk] at Hmr
      clear htk
      go_wp2
      go_ret
      rw [Hmr.out]
      exact ⟨rfl, Lr, HUr.out⟩
end Go.Proofs.YtamfbfajlfbooaaDoor
end
/- SpinSafe, SpinEnds: lemmas, walked. -/
section
namespace Qs
end Qs
namespace Go.Proofs.YtamfbfajlfbooaaDoor
open Go.RowKit Qs Qh
theorem fault_code (w : World) : (Go.Instr.field 32 (.agg #[.int .i64 0, .int .i64 (-1)]) 0).run Tryd.prog w = .ok (.int .i64 0) w := by kernel_rfl
end Go.Proofs.YtamfbfajlfbooaaDoor
end
/- quiescentlaw2.played: a machine for a cast. -/
section
namespace Go.Proofs.YtamfbfajlfbooaaDoor
open Go.RowKit Qs Qh
/-- One of a cast: writer or reader, how often, how many reads, nested or not. -/
structure Cst where
  wr : Bool
  t : Nat
  r : Nat
  ne : Bool
def castCode (f : Nat) (wait : Bool) (x : Cst) : List Instr := if x.wr then wrCode f wait x.t else rdCode f (if x.ne then 3 else 1) x.r x.t
def CastAt (w : World) (v : Value) (l : List Cst) : Prop :=
  ∃ a c, v = .slice a l.length c ∧ ∀ (i : Nat) x, l[i]? = some x → ∃ b off, a = some ⟨b, off, none⟩ ∧ b < w.heap.size ∧ w.cell? ⟨b, off + i * 4, none⟩ = some (.bool x.wr) ∧ w.cell? ⟨b, off + i * 4 + 1, none⟩ = some (.int .i64 x.t) ∧ w.cell? ⟨b, off + i * 4 + 2, none⟩ = some (.int .i64 x.r) ∧ w.cell? ⟨b, off + i * 4 + 3, none⟩ = some (.bool x.ne)
theorem reader_any {f n r : Nat} (h1 : 1 ≤ f) (h4 : f ≤ 4) (hn : n ≤ 3) (hr : r ≤ 5) (ne : Bool) (w : World) :
    Calls Tryd.prog 100 #[.int .i64 f, .int .i64 n, .int .i64 r, .bool ne] w fun e w' => ∃ v, e = .returned (.tuple #[v, .bool true]) ∧ Own w w' v (rdCode f (if ne then 3 else 1) r n) := by
  cases ne with
  | true => exact reader_true h1 h4 hn hr w
  | false => exact reader_false h1 h4 hn hr w
/-- A table of codes that grows, in blocks newer than W. -/
structure CodeTab (W : World) (v : Value) (codes : List (List Instr)) (cv : Nat → Value) (wr : World) : Prop where
  vrow : wr.ownsRow 0 28 1 v codes.length ((List.range codes.length).map cv)
  code : ∀ (i : Nat) c, codes[i]? = some c → CodeAt wr (cv i) c ∧ ∀ g, (cv i).ownBlock = some g → ¬ v.ownBlock = some g ∧ g < wr.heap.size
  below : Below W.heap.size W wr
  hv : ∀ g, v.ownBlock = some g → W.heap.size ≤ g
variable {W wr w1 w2 : World} {v v1 x : Value} {codes : List (List Instr)} {cv : Nat → Value}
theorem CodeTab.start (W : World) (f : Nat → Value) : CodeTab W (.slice none 0 0) [] f W := ⟨World.ownsRow_nil _ 0 _ 1, (fun i c h => by simp at h), Below.refl _ _, (fun g h => by cases h)⟩
theorem CodeTab.quiet (h : CodeTab W v codes cv wr) (hq : Mod noF wr w1) : CodeTab W v codes cv w1 := by
  have hs := hq.size
  refine ⟨owns_mod h.vrow hq (fun _ _ e => e), fun i c hi => ?_, h.below.trans (hq.toBelow.mono h.below.size), h.hv⟩
  obtain ⟨a, b⟩ := h.code i c hi
  exact ⟨a.frame hq (fun _ _ e => e), fun g hg => ⟨(b g hg).1, by have := (b g hg).2; omega⟩⟩
theorem CodeTab.add (h : CodeTab W v codes cv wr) {c : List Instr} (hc : CodeAt w1 x c) (hx : ∀ g, x.ownBlock = some g → ¬ v.ownBlock = some g ∧ g < w1.heap.size) (hq : Mod noF wr w1)
    (hown : w2.ownsRow 0 28 1 v1 (codes.length + 1) ((List.range codes.length).map cv ++ [x])) (hg : w1.grownBy w2 v.ownBlock) (hfr : ∀ g, v1.ownBlock = some g → v.ownBlock = some g ∨ w1.heap.size ≤ g) :
    CodeTab W v1 (codes ++ [c]) (fun i => if i = codes.length then x else cv i) w2 := by
  have h1 := h.quiet hq
  have hM : Mod (fun g => v.ownBlock = some g) w1 w2 := (Mod.refl (fun g => v.ownBlock = some g) w1).grown hg fun k hk _ => hk
  have hs := hM.size
  have hout : ∀ g, ¬ v.ownBlock = some g → g < w1.heap.size → ¬ v1.ownBlock = some g := fun g ho hlt e => (hfr g e).elim ho (fun e2 => by omega)
  refine ⟨?_, fun i d hi => ?_, h1.below.trans (hM.under h1.below.size h.hv), fun g hg => ?_⟩
  · rw [List.length_append]
    show w2.ownsRow 0 _ 1 v1 (codes.length + 1) _
    rw [show (codes.length + [c].length) = codes.length + 1 from rfl, range_map_snoc]; exact hown
  · by_cases e : i = codes.length
    · subst e
      simp at hi; subst hi
      simp only [if_true]
      exact ⟨hc.frame hM (fun g hg e => (hx g hg).1 e), fun g hg => ⟨hout g (hx g hg).1 (hx g hg).2, by have := (hx g hg).2; omega⟩⟩
    · have hlt : i < codes.length := by
        have := (List.getElem?_eq_some_iff.1 hi).1
        simp at this; omega
      rw [List.getElem?_append_left hlt] at hi
      obtain ⟨a, b⟩ := h1.code i d hi
      simp only [if_neg e]
      exact ⟨a.frame hM (fun g hg => (b g hg).1), fun g hg => ⟨hout g (b g hg).1 (b g hg).2, by have := (b g hg).2; omega⟩⟩
  · rcases hfr g hg with e2 | e2
    · exact h.hv g e2
    · have := h1.below.size; omega
theorem CodeTab.at_ (h : CodeTab W v codes cv wr) : CodesAt wr v codes cv := by
  obtain ⟨a, c, e, hx⟩ := row_cells h.vrow
  refine ⟨a, c, e, fun i d hi => ?_⟩
  obtain ⟨b, e1, hb, hc⟩ := hx i (List.getElem?_eq_some_iff.1 hi).1
  obtain ⟨h1, h2⟩ := h.code i d hi
  exact ⟨b, 0, e1, hb, hc, h1, fun g hg => (h2 g hg).2⟩
theorem grInit_fine {f n : Nat} (hn : n ≤ 4) : RowsFine 4 (grInit f n) := by
  intro l hl
  simp only [grInit, List.mem_append, List.mem_cons, List.not_mem_nil, or_false, List.mem_map, List.mem_range] at hl
  rcases hl with (rfl | ⟨t, ht, rfl⟩) | rfl | rfl
  · unfold grHub; split <;> exact ⟨by decide, by decide⟩
  · refine ⟨by simp [grOwn], fun v hv => ?_⟩
    simp only [grOwn, List.mem_cons, List.not_mem_nil, or_false] at hv
    rcases hv with rfl | rfl | rfl | rfl
    · split <;> decide
    · split
      · exact isWord_of (by omega) (by omega)
      · decide
    · decide
    · decide
  · exact ⟨by simp, fun v hv => by simp at hv; subst hv; exact isWord_of (by omega) (by omega)⟩
  · exact ⟨by decide, by decide⟩
theorem grRegs_fine {n : Nat} (hn : n ≤ 4) : RowsFine 8 (grRegs n) := by
  intro l hl
  simp only [grRegs, List.mem_map, List.mem_range] at hl
  obtain ⟨t, ht, rfl⟩ := hl
  refine ⟨by simp [grReg], fun v hv => ?_⟩
  simp only [grReg, List.mem_cons, List.not_mem_nil, or_false] at hv
  rcases hv with rfl | rfl | rfl | rfl | rfl | rfl | rfl | rfl
  all_goals first | decide | exact isWord_of (by omega) (by omega)
end Go.Proofs.YtamfbfajlfbooaaDoor
end
/- The places of readers' and writers' codes. -/
section
namespace Go.Proofs.YtamfbfajlfbooaaDoor
open Qs Qh Qg
def rng (a b : Nat) (g : Nat → Pos) : List Pos := (List.range (b - a)).map fun i => g (a + i)
def annEnt (f d : Nat) : List Pos :=
  if f = 1 then rng 0 13 (.ent d) else if f = 2 then rng 0 11 (.ent d) ++ [.ent d 12] else if f = 3 then [] else
    if d = 0 then rng 0 4 (.jh 0) ++ rng 0 7 (.tk 0) ++ rng 0 5 .jc ++ rng 0 3 (.gv 0) ++ [.jk 0] ++ rng 0 13 (.ent 0)
    else rng 0 3 (.jh d) ++ List.replicate 16 .dead ++ [.jk d] ++ rng 0 13 (.ent d)
def annLea (f d : Nat) : List Pos := if f = 2 then rng 1 5 (.lea d) else if f = 3 then [] else rng 0 5 (.lea d)
def annRest (f : Nat) : List Pos := if f = 3 then rng 0 3 .rs else []
def annGone (f : Nat) : List Pos := if f = 3 then rng 0 3 .gn else []
def annTurn (g : Bool) : List Pos := rng 0 8 (.wn g) ++ rng 8 21 (.wx g) ++ rng 21 23 (.wn g)
def annWait (f : Nat) : List Pos :=
  if f = 3 then rng 0 3 .ca ++ rng 0 7 (.tk 2) ++ rng 0 8 .cs ++ rng 8 16 .cx ++ rng 16 18 .cs ++ rng 0 3 (.gv 2) ++ rng 0 3 .cr
  else [.wb] ++ rng 0 7 (.tk 1) ++ annTurn false ++ annTurn true ++ [.we] ++ rng 0 3 (.gv 1)
def annSec (f D r : Nat) : List Pos :=
  ((List.range D).flatMap fun d => annEnt f d) ++ [.cl 0 D] ++ (List.replicate r [Pos.cl 1 D, Pos.cl 2 D]).flatten ++ ((List.range D).flatMap fun i => annLea f (D - i)) ++ annRest f
def annOf (f : Nat) (x : Cst) : List Pos :=
  (if x.wr then (List.replicate x.t ([.cl 10 0, .cl 11 0, .cl 12 0, .cl 13 0] ++ annWait f ++ [.cl 14 0])).flatten
   else (List.replicate x.t (annSec f (if x.ne then 3 else 1) x.r)).flatten) ++ annGone f
def startB (f : Nat) (l : List Pos) : Bool := kd (l.getD 0 .fin) == 0 && match startD f (l.getD 0 .fin) with
  | some d => decide (d < 100) && (f == 3 || d == 0)
  | none => false
def rdCasts (ne : Bool) : List Cst := (List.range 4).flatMap fun t => (List.range 6).map fun r => ⟨false, t, r, ne⟩
def wrCasts : List Cst := (List.range 4).map fun t => ⟨true, t, 0, false⟩
end Go.Proofs.YtamfbfajlfbooaaDoor
end
/- Code and its places checked in one walk, labels by a table. -/
section
namespace Go.Proofs.YtamfbfajlfbooaaDoor
open Qs Qh Qg
def lineW (f : Nat) (lk : List UInt8 → Option Pos) (x : Instr) (P q : Pos) : Bool :=
  (P == .dead) || insP x && match insOf f P with
    | some y => decide (y = (x.op, x.A, x.B, x.C)) && (!(decide (14 ≤ x.op) && decide (x.op ≤ 16)) || (match lk x.to with | some Q => Q == tgtOf P | none => false)) && (x.op == 16 || nextB f P q)
    | none => clB f P x q
def annW (f : Nat) (lk : List UInt8 → Option Pos) : List Instr → List Pos → Bool
  | [], [] => true
  | x :: c, P :: a => (insFine x && easyOp x.op) && (x.to.isEmpty || (lk x.to).isSome) && lineW f lk x P (a.getD 0 .fin) && annW f lk c a
  | _, _ => false
def labTab : List Instr → List Pos → List (List UInt8 × Pos)
  | x :: c, P :: a => if x.op = 17 then (x.to, P) :: labTab c a else labTab c a
  | _, _ => []
def look1 (to : List UInt8) : List (List UInt8 × Pos) → Option Pos
  | [] => none
  | y :: r => if y.1 = to then some y.2 else look1 to r
def noDup : List (List UInt8 × Pos) → Bool
  | [] => true
  | y :: r => (r.all fun z => !decide (z.1 = y.1)) && noDup r
def forced {α : Type} : List α → (List α → Bool) → Bool
  | [], k => k []
  | a :: r, k => forced r fun r' => k (a :: r')
theorem forced_eq {α : Type} : ∀ (l : List α) (k : List α → Bool), forced l k = k l
  | [], k => rfl
  | a :: r, k => by unfold forced; rw [forced_eq r]
def castW (f : Nat) (c : List Instr) (a : List Pos) : Bool :=
  forced c fun c => forced a fun a => forced (labTab c a) fun T => decide (c.length ≤ 2000) && noDup T && annW f (fun to => look1 to T) c a
def castChk2 (f : Nat) (x : Cst) : Bool := castW f (castCode f true x) (annOf f x) && startB f (annOf f x)
theorem annW_at {f : Nat} {lk : List UInt8 → Option Pos} : ∀ {c : List Instr} {a : List Pos}, annW f lk c a = true → c.length = a.length ∧ ∀ (i : Nat) x, c[i]? = some x → (insFine x = true ∧ easyOp x.op = true) ∧ (x.to = [] ∨ (lk x.to).isSome = true) ∧ lineW f lk x (a.getD i .fin) (a.getD (i + 1) .fin) = true
  | [], [], _ => ⟨rfl, fun i x h => by simp at h⟩
  | [], P :: a, h => by cases h
  | x :: c, [], h => by cases h
  | x :: c, P :: a, h => by
    unfold annW at h
    simp only [Bool.and_eq_true, Bool.or_eq_true, List.isEmpty_iff] at h
    obtain ⟨⟨⟨h1, h2⟩, h3⟩, h4⟩ := h
    obtain ⟨g1, g2⟩ := annW_at h4
    refine ⟨by simp [g1], fun i y hy => ?_⟩
    match i, hy with
    | 0, hy =>
      have : x = y := by simpa using hy
      subst this
      refine ⟨h1, h2, ?_⟩
      have e : (P :: a).getD 1 .fin = a.getD 0 .fin := by simp [List.getD]
      show lineW f lk x P ((P :: a).getD 1 .fin) = true
      rw [e]; exact h3
    | i + 1, hy =>
      have hy' : c[i]? = some y := by simpa using hy
      have := g2 i y hy'
      simpa [List.getD] using this
theorem look_tab (to : List UInt8) : ∀ (c : List Instr) (a : List Pos) (k : Nat), c.length = a.length → look1 to (labTab c a) = (labelAt to c k).map fun j => a.getD (j - k) .fin
  | [], [], k, _ => rfl
  | x :: c, P :: a, k, h => by
    have hl : c.length = a.length := by simpa using h
    have ih := look_tab to c a (k + 1) hl
    unfold labTab labelAt
    by_cases h17 : x.op = 17
    · rw [if_pos h17]
      unfold look1
      simp only
      by_cases hto : x.to = to
      · rw [if_pos hto, if_pos ⟨h17, hto⟩]
        simp [List.getD]
      · rw [if_neg hto, if_neg (fun g => hto g.2), ih]
        cases e : labelAt to c (k + 1) with
        | none => rfl
        | some j =>
          have hj := labelAt_ge to c (k + 1) e
          simp only [Option.map_some]
          rw [show j - k = (j - (k + 1)) + 1 from by omega]
          simp [List.getD]
    · rw [if_neg h17, if_neg (fun g => h17 g.1), ih]
      cases e : labelAt to c (k + 1) with
      | none => rfl
      | some j =>
        have hj := labelAt_ge to c (k + 1) e
        simp only [Option.map_some]
        rw [show j - k = (j - (k + 1)) + 1 from by omega]
        simp [List.getD]
where
  labelAt_ge (to : List UInt8) : ∀ (c : List Instr) (k : Nat) {j : Nat}, labelAt to c k = some j → k ≤ j
    | [], _, _, h => by cases h
    | x :: c, k, j, h => by
      unfold labelAt at h
      split at h
      · cases h; exact Nat.le_refl _
      · have := labelAt_ge to c (k + 1) h; omega
theorem tab_mem : ∀ {c : List Instr} {a : List Pos}, c.length = a.length → ∀ (i : Nat) x, c[i]? = some x → x.op = 17 → ∃ P, (x.to, P) ∈ labTab c a
  | [], _, _, i, x, h, _ => by simp at h
  | y :: c, P :: a, hl, i, x, h, h17 => by
    have hl' : c.length = a.length := by simpa using hl
    unfold labTab
    match i, h with
    | 0, h =>
      have : y = x := by simpa using h
      subst this
      rw [if_pos h17]
      exact ⟨P, by simp⟩
    | i + 1, h =>
      obtain ⟨Q, hQ⟩ := tab_mem hl' i x (by simpa using h) h17
      refine ⟨Q, ?_⟩
      split
      · exact List.mem_cons_of_mem _ hQ
      · exact hQ
theorem dup_at : ∀ {c : List Instr} {a : List Pos} (k : Nat), c.length = a.length → noDup (labTab c a) = true → ∀ (i : Nat) x, c[i]? = some x → x.op = 17 → labelAt x.to c k = some (k + i)
  | [], _, k, _, _, i, x, h, _ => by simp at h
  | y :: c, P :: a, k, hl, hn, i, x, h, h17 => by
    have hl' : c.length = a.length := by simpa using hl
    unfold labTab at hn
    unfold labelAt
    match i, h with
    | 0, h =>
      have : y = x := by simpa using h
      subst this
      rw [if_pos ⟨h17, rfl⟩]; rfl
    | i + 1, h =>
      have h' : c[i]? = some x := by simpa using h
      by_cases hy : y.op = 17
      · rw [if_pos hy] at hn
        unfold noDup at hn
        simp only [Bool.and_eq_true, List.all_eq_true, Bool.not_eq_true', decide_eq_false_iff_not] at hn
        obtain ⟨Q, hQ⟩ := tab_mem hl' i x h' h17
        have hne := hn.1 _ hQ
        simp only at hne
        rw [if_neg (fun g => hne g.2.symm), dup_at (k + 1) hl' hn.2 i x h' h17]
        congr 1; omega
      · rw [if_neg hy] at hn
        rw [if_neg (fun g => hy g.1), dup_at (k + 1) hl' hn i x h' h17]
        congr 1; omega
theorem castW_ok {f : Nat} {c : List Instr} {a : List Pos} (h : castW f c a = true) : annB f c a = true ∧ CodeFine c ∧ ∀ y ∈ c, easyOp y.op = true := by
  unfold castW at h
  simp only [forced_eq, Bool.and_eq_true, decide_eq_true_eq] at h
  obtain ⟨⟨h1, h2⟩, h3⟩ := h
  obtain ⟨g1, g2⟩ := annW_at h3
  have hlk : ∀ to, look1 to (labTab c a) = (labelAt to c 0).map fun j => a.getD j .fin := fun to => by
    rw [look_tab to c a 0 g1]; rfl
  refine ⟨?_, ⟨h1, fun x hx => ?_, fun i x hi h17 => ?_, fun x hx hne => ?_⟩, fun y hy => ?_⟩
  · unfold annB
    simp only [Bool.and_eq_true, decide_eq_true_eq, List.all_eq_true]
    refine ⟨g1, fun i hi => ?_⟩
    cases e : c[i]? with
    | none => rfl
    | some x =>
      simp only
      obtain ⟨_, _, hw⟩ := g2 i x e
      unfold lineW at hw
      unfold lineB
      have e1 : (fun to => look1 to (labTab c a)) = fun to => (labelAt to c 0).map fun j => a.getD j .fin := funext hlk
      rw [e1] at hw
      cases e2 : labelAt x.to c 0 with
      | none => simp only [e2, Option.map_none] at hw ⊢; exact hw
      | some j => simp only [e2, Option.map_some] at hw ⊢; exact hw
  · obtain ⟨i, hi⟩ := List.getElem?_of_mem hx
    exact (g2 i x hi).1.1
  · have := dup_at 0 g1 h2 i x hi h17
    rw [Nat.zero_add] at this
    exact this
  · obtain ⟨i, hi⟩ := List.getElem?_of_mem hx
    have := (g2 i x hi).2.1.resolve_left hne
    rw [hlk] at this
    cases e : labelAt x.to c 0 with
    | none => rw [e] at this; cases this
    | some j => rfl
  · obtain ⟨i, hi⟩ := List.getElem?_of_mem hy
    exact (g2 i y hi).1.2
end Go.Proofs.YtamfbfajlfbooaaDoor
end
/- Readers and writers of a published node: the machine that is started is as it should be. -/
section
namespace Go.Proofs.YtamfbfajlfbooaaDoor
open Qs Qh Qg
/-- The cells of grace in a played world. -/
def grX (f n : Nat) (h1 : 1 ≤ f) (h4 : f ≤ 4) : Cx := ⟨f, n, 1, fun t => (t : Int) + 2, fun t => by omega, fun t u h => by omega, h1, h4⟩
variable {f n : Nat} {h1 : 1 ≤ f} {h4 : f ≤ 4} {codes : List (List Instr)}
def grM (f n : Nat) (codes : List (List Instr)) : M := startM 30 (grInit f n) (grRegs n) codes
theorem gr_len (f n : Nat) : (grInit f n).length = n + 3 := by simp [grInit]
theorem gr_cell (f n : Nat) (codes : List (List Instr)) {i : Nat} (hi : i < 30) : (grM f n codes).cells[i]? = some (if i < n + 3 then ⟨pad 4 ((grInit f n).getD i []), 1, true⟩ else ⟨[0, 0, 0, 0], 0, false⟩) := by
  unfold grM startM
  simp only [gr_len]
  rw [List.getElem?_map, List.getElem?_range hi]
  rfl
theorem gr_here (hn : n ≤ 4) (x : Int) : (absM (grM f n codes)).here x = true ↔ 1 ≤ x ∧ x ≤ (n : Int) + 3 := by
  rw [abs_here]
  constructor
  · rintro ⟨a, b, y, c, d, e⟩
    have hlt := (List.getElem?_eq_some_iff.1 c).1
    have h30 : (grM f n codes).cells.length = 30 := by simp [grM, startM]
    rw [h30] at hlt
    rw [gr_cell f n codes hlt] at c
    by_cases h : celOf x < n + 3
    · rw [if_pos h] at c
      cases c
      simp only at e
      unfold celOf at h
      omega
    · rw [if_neg h] at c
      cases c
      cases d
  · rintro ⟨a, b⟩
    have hc : celOf x = (x - 1).toNat := by unfold celOf; omega
    refine ⟨by omega, by omega, ⟨pad 4 ((grInit f n).getD (celOf x) []), 1, true⟩, ?_, rfl, by simp only; omega⟩
    rw [gr_cell f n codes (by omega), if_pos (by omega)]
theorem gr_val (hn : n ≤ 4) {i : Nat} (hi : i < n + 3) (w : Nat) : (absM (grM f n codes)).val ((i : Int) + 1) w = (pad 4 ((grInit f n).getD i [])).getD w 0 := by
  rw [abs_val ((gr_here hn _).2 (by omega))]
  have hc : celOf ((i : Int) + 1) = i := by unfold celOf; omega
  unfold getWord
  rw [hc, gr_cell f n codes (by omega), if_pos hi]
  rfl
theorem gr_i0 (f n : Nat) : (grInit f n).getD 0 [] = grHub f := rfl
theorem gr_iown {t : Nat} (ht : t < n) : (grInit f n).getD (t + 1) [] = grOwn f n t := by
  unfold grInit
  rw [List.getD, List.getElem?_append_left (by simp; omega), List.getElem?_cons_succ, List.getElem?_map, List.getElem?_range ht]
  rfl
theorem gr_iptr (f n : Nat) : (grInit f n).getD (n + 1) [] = [(n : Int) + 3] := by
  unfold grInit
  rw [List.getD, List.getElem?_append_right (by simp)]
  simp
theorem gr_inode (f n : Nat) : (grInit f n).getD (n + 2) [] = [1] := by
  unfold grInit
  rw [List.getD, List.getElem?_append_right (by simp)]
  simp
theorem gr_hub (hn : n ≤ 4) (w : Nat) : (absM (grM f n codes)).val 1 w = (grHub f).getD w 0 := by
  have := gr_val (f := f) (codes := codes) hn (i := 0) (by omega) w
  rw [gr_i0] at this
  rw [show ((0 : Nat) : Int) + 1 = 1 from rfl] at this
  rw [this]
  unfold grHub
  split <;> rfl
theorem gr_own (hn : n ≤ 4) {t : Nat} (ht : t < n) (w : Nat) : (absM (grM f n codes)).val ((t : Int) + 2) w = (grOwn f n t).getD w 0 := by
  have := gr_val (f := f) (codes := codes) hn (i := t + 1) (by omega) w
  rw [gr_iown ht] at this
  rw [show ((t + 1 : Nat) : Int) + 1 = (t : Int) + 2 from by omega] at this
  rw [this]
  rfl
theorem gr_ptr (hn : n ≤ 4) : (absM (grM f n codes)).val ((n : Int) + 2) 0 = (n : Int) + 3 := by
  have := gr_val (f := f) (codes := codes) hn (i := n + 1) (by omega) 0
  rw [gr_iptr] at this
  rw [show ((n + 1 : Nat) : Int) + 1 = (n : Int) + 2 from by omega] at this
  rw [this]
  rfl
theorem gr_node (hn : n ≤ 4) : (absM (grM f n codes)).val ((n : Int) + 3) 0 = 1 := by
  have := gr_val (f := f) (codes := codes) hn (i := n + 2) (by omega) 0
  rw [gr_inode] at this
  rw [show ((n + 2 : Nat) : Int) + 1 = (n : Int) + 3 from by omega] at this
  rw [this]
  rfl
theorem gr_thr {t : Nat} {c : List Instr} (h : codes[t]? = some c) (hl : codes.length = n) : (grM f n codes).thr t = ⟨c, pad 8 (grReg n t), 0⟩ := by
  have ht : t < n := by rw [← hl]; exact (List.getElem?_eq_some_iff.1 h).1
  unfold M.thr grM startM
  simp only [List.getD, List.getElem?_mapIdx, h, Option.map_some, Option.getD_some]
  have : (grRegs n)[t]?.getD [] = grReg n t := by
    unfold grRegs
    rw [List.getElem?_map, List.getElem?_range ht]
    rfl
  rw [this]
theorem gr_wait (t : Nat) : (grM f n codes).waitsOf t = [] := by
  unfold M.waitsOf grM startM
  simp only [List.getD, List.getElem?_replicate]
  split <;> rfl
theorem gr_buf (t : Nat) : (absM (grM f n codes)).buf t = [] := by
  show ((grM f n codes).waitsOf t).map enOf = []
  rw [gr_wait]; rfl
theorem gr_reg {t : Nat} {c : List Instr} (h : codes[t]? = some c) (hl : codes.length = n) (k : Nat) : (absM (grM f n codes)).reg t k = (grReg n t).getD k 0 := by
  show ((grM f n codes).thr t).regs.getD k 0 = _
  rw [gr_thr h hl]
  rfl
/-- The own cells, one behind the other. -/
theorem gr_chain (hn : n ≤ 4) (hf : f ≠ 4) : ∀ (k t : Nat), t + k = n → 0 < k → (grX f n h1 h4).Ch (absM (grM f n codes)).val ((t : Int) + 2) ((List.range k).map (t + ·))
  | 0, t, _, h => by omega
  | k + 1, t, hk, _ => by
    have hr : (List.range (k + 1)).map (t + ·) = t :: (List.range k).map (t + 1 + ·) := by
      rw [List.range_succ_eq_map]
      simp only [List.map_cons, Nat.add_zero, List.map_map, List.cons.injEq, true_and]
      apply List.map_congr_left
      intro a _
      show t + (a + 1) = t + 1 + a
      omega
    rw [hr]
    refine ⟨rfl, (by show t < n; omega), ?_⟩
    have hv := gr_own (f := f) (codes := codes) hn (t := t) (by omega) 1
    have hv2 : (absM (grM f n codes)).val ((grX f n h1 h4).own t) 1 = if f ≠ 4 ∧ t + 1 < n then (t : Int) + 3 else 0 := hv
    rw [hv2]
    by_cases h0 : 0 < k
    · rw [if_pos ⟨hf, by omega⟩]
      have := gr_chain hn hf k (t + 1) (by omega) h0
      rw [show ((t + 1 : Nat) : Int) + 2 = (t : Int) + 3 from by omega] at this
      exact this
    · have : k = 0 := by omega
      subst this
      rw [if_neg (by omega)]
      rfl
theorem gr_spec (hn : n ≤ 4) (x : Int) : (grX f n h1 h4).spec ((n : Int) + 2) x ↔ 1 ≤ x ∧ x ≤ (n : Int) + 2 := by
  constructor
  · rintro ((h | ⟨t, ht, h⟩) | h)
    · have h : x = 1 := h; omega
    · have h : x = (t : Int) + 2 := h; have ht : t < n := ht; omega
    · omega
  · intro h
    by_cases e : x = 1
    · exact .inl (.inl e)
    · by_cases e2 : x = (n : Int) + 2
      · exact .inr e2
      · exact .inl (.inr ⟨(x - 2).toNat, (by show (x - 2).toNat < n; omega), (by show x = ((x - 2).toNat : Int) + 2; omega)⟩)
theorem gr_good (h1 : 1 ≤ f) (h4 : f ≤ 4) (hn1 : 1 ≤ n) (hn : n ≤ 4) (hl : codes.length = n) (ann : Nat → List Pos) (hs : ∀ t, t < n → startB f (ann t) = true) :
    Qg.Good (grX f n h1 h4) ((n : Int) + 2) (fun t => codes.getD t []) ann 0 (grM f n codes) := by
  have hc : ∀ t, t < n → ∃ c, codes[t]? = some c := fun t ht => ⟨_, List.getElem?_eq_getElem (by omega)⟩
  have hpos : ∀ t, t < n → posOf ann (grM f n codes) t = (ann t).getD 0 .fin := fun t ht => by
    obtain ⟨c, hc⟩ := hc t ht
    unfold posOf
    rw [gr_thr hc hl]
  have hst : ∀ t, t < n → kd (posOf ann (grM f n codes) t) = 0 ∧ ∃ d, startD f (posOf ann (grM f n codes) t) = some d ∧ d < 100 ∧ (f ≠ 3 → d = 0) := fun t ht => by
    have := hs t ht
    rw [hpos t ht]
    unfold startB at this
    simp only [Bool.and_eq_true, beq_iff_eq] at this
    refine ⟨this.1, ?_⟩
    cases e : startD f ((ann t).getD 0 .fin) with
    | none => rw [e] at this; cases this.2
    | some d =>
      rw [e] at this
      simp only [Bool.and_eq_true, decide_eq_true_eq, Bool.or_eq_true, beq_iff_eq] at this
      exact ⟨d, rfl, this.2.1, fun g => this.2.2.resolve_left g⟩
  have hreg : ∀ t, t < n → ∀ k, (absM (grM f n codes)).reg t k = (grReg n t).getD k 0 := fun t ht k => by
    obtain ⟨c, hc⟩ := hc t ht
    exact gr_reg hc hl k
  have hbuf := gr_buf (f := f) (n := n) (codes := codes)
  have hhub := gr_hub (f := f) (codes := codes) hn
  have hown : ∀ t, t < n → ∀ w, (absM (grM f n codes)).val ((grX f n h1 h4).own t) w = (grOwn f n t).getD w 0 := fun t ht w => gr_own hn ht w
  have hvw : ∀ t, t < n → (absM (grM f n codes)).vw t ((grX f n h1 h4).own t) 0 = if f = 3 then 1 else 0 := fun t ht => by
    rw [vw_nil (hbuf t), hown t ht]; rfl
  have hh0 : (absM (grM f n codes)).val (grX f n h1 h4).hub 0 = 1 := by
    show (absM (grM f n codes)).val 1 0 = 1
    rw [hhub]; unfold grHub; split <;> rfl
  have hh1 : (absM (grM f n codes)).val (grX f n h1 h4).hub 1 = 0 := by
    show (absM (grM f n codes)).val 1 1 = 0
    rw [hhub]; unfold grHub; split <;> rfl
  have hh2 : (absM (grM f n codes)).val (grX f n h1 h4).hub 2 = if f = 4 then 0 else 2 := by
    show (absM (grM f n codes)).val 1 2 = _
    rw [hhub]; unfold grHub; split <;> rfl
  have hown2 : ∀ t, t < n → (absM (grM f n codes)).val ((grX f n h1 h4).own t) 2 = 0 := fun t ht => by rw [hown t ht]; rfl
  have hold : ∀ a r, a < n → ¬ oldOf (absM (grM f n codes)) (posOf ann (grM f n codes)) a r := fun a r ha ho => by
    have := (hst a ha).1
    have h3 := ho.1
    omega
  obtain ⟨L, hL⟩ : ∃ L, L = if f = 4 then [] else List.range n := ⟨_, rfl⟩
  have hch : (grX f n h1 h4).Ch (absM (grM f n codes)).val ((absM (grM f n codes)).val (grX f n h1 h4).hub 2) L := by
    rw [hh2, hL]
    by_cases e : f = 4
    · rw [if_pos e, if_pos e]; rfl
    · rw [if_neg e, if_neg e]
      have := gr_chain (h1 := h1) (h4 := h4) (codes := codes) hn e n 0 (by omega) (by omega)
      simpa using this
  have hspec := gr_spec (f := f) (h1 := h1) (h4 := h4) hn
  refine ⟨⟨by simp [grM, startM, hl]; rfl, by simp [grM, startM, hl]; rfl, fun t ht => ?_, fun t ht => ?_, fun c hcc => ?_, by simp [grM, startM], fun t x hx => by rw [gr_wait] at hx; simp at hx⟩, rfl, ⟨L, ⟨fun t ht => ?_, .inl ⟨hh1, fun t ht h => ?_⟩, fun _ => .inl hh0, fun _ => by rw [hh0]; omega, fun _ t _ e he => by rw [hbuf] at he; simp at he, hch, fun g t ht => ?_, fun g t ht _ => ?_, fun a r ha _ ho => absurd ho (hold a r ha)⟩, ?_⟩, fun v hv => ?_, fun c hcc hhere => ?_, by simp [grM, startM]; show 3 + 2 * n < 30; omega⟩
  · obtain ⟨c, hc⟩ := hc t ht
    rw [gr_thr hc hl]
    simp [List.getD, hc]
  · obtain ⟨c, hc⟩ := hc t ht
    rw [gr_thr hc hl]
    rfl
  · obtain ⟨i, hi⟩ := List.getElem?_of_mem hcc
    have hlt : i < 30 := by have := (List.getElem?_eq_some_iff.1 hi).1; simpa [grM, startM] using this
    rw [gr_cell f n codes hlt] at hi
    by_cases e : i < n + 3
    · rw [if_pos e] at hi
      cases hi
      refine pad_len (grInit_fine (f := f) hn _ ?_).1
      rw [List.getD, List.getElem?_eq_getElem (by rw [gr_len]; exact e)]
      exact List.getElem_mem _
    · rw [if_neg e] at hi; cases hi; rfl
  · obtain ⟨hk, d, hd, hd1, hd2⟩ := hst t ht
    have Bq := beg_of (X := grX f n h1 h4) hd hd1 ((absM (grM f n codes)).reg t) ((absM (grM f n codes)).buf t) (absM (grM f n codes)).val ((grX f n h1 h4).Prot (absM (grM f n codes))) (oldOf (absM (grM f n codes)) (posOf ann (grM f n codes)) t) L t ((absM (grM f n codes)).vw t ((grX f n h1 h4).own t) 0) ((absM (grM f n codes)).val (grX f n h1 h4).hub 0)
    refine ⟨by rw [hreg t ht]; rfl, by rw [hreg t ht]; rfl, fun _ e he => by rw [hbuf] at he; simp at he, fun g => ?_, fun g => ?_, fun g g2 h => ?_, fun g h => ?_, fun _ _ _ e he => by rw [hbuf] at he; simp at he, fun g _ => ?_, Bq.a, fun _ => Bq.c, Bq.b⟩
    · have g' : f ≠ 3 := g
      rw [hvw t ht, if_neg g', Bq.n g, hd2 g']; rfl
    · refine Prot_nil (hbuf t) ?_
      rw [hown t ht]
      show v512 (if f = 3 then 1 else 0)
      unfold v512
      split <;> omega
    · have := Bq.s g h
      have := hd2 g
      omega
    · have g' : f = 4 := g
      have := Bq.l g h
      have := hd2 (by omega)
      omega
    · have g' : f = 3 := g
      rw [hown t ht, hh0]
      show 1 ≤ (if f = 3 then (1 : Int) else 0) ∧ (if f = 3 then (1 : Int) else 0) ≤ 1
      rw [if_pos g']
      omega
  · obtain ⟨hk, d, hd, hd1, _⟩ := hst t ht
    exact (beg_of (X := grX f n h1 h4) hd hd1 ((absM (grM f n codes)).reg t) ((absM (grM f n codes)).buf t) (absM (grM f n codes)).val ((grX f n h1 h4).Prot (absM (grM f n codes))) (oldOf (absM (grM f n codes)) (posOf ann (grM f n codes)) t) L t 0 0).h h
  · have g' : f ≠ 4 := g
    rw [hL, if_neg g']
    exact List.mem_range.2 ht
  · have g' : f = 4 := g
    rw [hL, if_pos g', hown2 t ht]
    simp
  · have hno : ∀ t c d, t < n → posOf ann (grM f n codes) t = .cl c d → kd (.cl c d) = 0 := fun t c d ht h => by rw [← h]; exact (hst t ht).1
    have hp0 : (absM (grM f n codes)).val ((n : Int) + 2) 0 = (n : Int) + 3 := gr_ptr hn
    refine ⟨?_, fun x hx => ?_, fun t ht => by rw [hreg t ht]; rfl, ?_, fun t ht h => by have := (hst t ht).1; omega, fun t d ht h => by have := hno t _ _ ht h; simp [kd] at this, fun t ht h => by have := (hst t ht).1; omega, fun t ht h => by have := (hst t ht).1; omega, fun t ht h => by have := (hst t ht).1; omega, fun t u ht hu _ h _ => by have := (hst t ht).1; omega, fun t d ht h => by have := hno t _ _ ht h; simp [kd] at this, fun t d ht h => by have := hno t _ _ ht h; simp [kd] at this, fun t ht e he => by rw [hbuf] at he; simp at he, fun t d ht h => by have := hno t _ _ ht h; simp [kd] at this, fun x hx => ?_⟩
    · rintro (h | ⟨t, ht, h⟩)
      · have h : (n : Int) + 2 = 1 := h; omega
      · have h : (n : Int) + 2 = (t : Int) + 2 := h; have ht : t < n := ht; omega
    · rw [hspec] at hx
      exact (gr_here hn x).2 (by omega)
    · rw [hp0]
      refine ⟨(gr_here hn _).2 (by omega), fun h => by rw [hspec] at h; omega, ?_⟩
      rw [gr_node hn]; omega
    · rw [gr_here hn] at hx
      rw [hp0, hspec]
      omega
  · obtain ⟨c, hc, rfl⟩ := List.mem_map.1 hv
    obtain ⟨i, hi⟩ := List.getElem?_of_mem hc
    have hlt : i < 30 := by have := (List.getElem?_eq_some_iff.1 hi).1; simpa [grM, startM] using this
    rw [gr_cell f n codes hlt] at hi
    split at hi <;> cases hi <;> simp
  · obtain ⟨i, hi⟩ := List.getElem?_of_mem hcc
    have hlt : i < 30 := by have := (List.getElem?_eq_some_iff.1 hi).1; simpa [grM, startM] using this
    rw [gr_cell f n codes hlt] at hi
    split at hi <;> cases hi
    · simp
    · cases hhere
end Go.Proofs.YtamfbfajlfbooaaDoor
end
