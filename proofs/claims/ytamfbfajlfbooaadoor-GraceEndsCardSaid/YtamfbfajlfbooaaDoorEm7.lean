/- Texts that belong together, joined. -/
import Derived.Test.YtamfbfajlfbooaaDoorEm3
import Derived.Test.YtamfbfajlfbooaaDoorEStepA
import Derived.Test.YtamfbfajlfbooaaDoorEStepB
import Derived.Test.YtamfbfajlfbooaaDoorEStepC
import Derived.Test.YtamfbfajlfbooaaDoorEStepD
import Derived.Test.YtamfbfajlfbooaaDoorEStepE
import Derived.Test.YtamfbfajlfbooaaDoorEm6
import Derived.Test.YtamfbfajlfbooaaDoorEStepG
import Derived.Test.YtamfbfajlfbooaaDoorEStepH
import Derived.Test.YtamfbfajlfbooaaDoorEStepI
import Derived.Test.YtamfbfajlfbooaaDoorEStepJ
import Derived.Test.YtamfbfajlfbooaaDoorEStepL
import Derived.Test.YtamfbfajlfbooaaDoorEStepM
import Derived.Test.YtamfbfajlfbooaaDoorEStepN
import Derived.Test.YtamfbfajlfbooaaDoorEStepO
import Derived.Test.YtamfbfajlfbooaaDoorEStepP
import Derived.Outline
import Derived.Test.YtamfbfajlfbooaaDoorEm2
import Derived.Test.YtamfbfajlfbooaaDoorEm4
import Derived.Test.YtamfbfajlfbooaaDoorEm5
import Derived.Test.YtamfbfajlfbooaaDoorENewWalk
import Derived.Test.YtamfbfajlfbooaaDoorEGraceWorld
import Derived.Test.YtamfbfajlfbooaaDoorEGraceRd
set_option linter.unusedVariables false
set_option linter.unusedSimpArgs false
set_option linter.unusedSectionVars false
/- (*quiescentref1.Machine).Step, by all instructions. -/
section
namespace Go.Proofs.YtamfbfajlfbooaaDoor
open Go.RowKit Qs Qh
variable {w : World} {L : Lay} {m : M} {N : Int}
def easyOp (n : Nat) : Bool := !(n == 18)
def Easy (m : M) : Prop := ∀ (t : Nat) h, m.T[t]? = some h → ∀ x ∈ h.code, easyOp x.op = true
set_option maxRecDepth 100000 in
theorem step_done (X : Mach ty w L m N) (t : Nat) (ht : t < m.T.length) (hd : m.done t = true) :
    Calls Tryd.prog 89 #[.pointer (some ⟨L.blk 0 0, 0, none⟩), .int .i64 t] w fun e w' => e = .returned (.int .i64 9) ∧ Mod noF w w' := by
  obtain ⟨t0, t1, t2, t3, t4, t5⟩ := X.top
  have d0 : decide ((t : Int) < 0) = false := by simp
  have d1 : decide ((m.T.length : Int) ≤ (t : Int)) = false := by simp; omega
  have HX := Lib.hid X
  have Hdone := Lib.hid hd
  clear X hd t4
  go_enter Tryd.func89, Tryd.ntmps89
  go_wp2_with fail
  refine (done_any HX.out t ht).mono ?_
  rintro e w1 ⟨rfl, hm⟩
  rw [Hdone.out]
  have Hm := Lib.hid hm
  clear hm
  go_wp2
  go_ret
  exact ⟨rfl, Hm.out⟩
theorem reg_nat {n k : Int} (h : isReg n k) : ∃ a : Nat, n = a ∧ (a : Int) < k := by
  obtain ⟨h0, h1⟩ := h
  obtain ⟨a, rfl⟩ := Int.eq_ofNat_of_zero_le h0
  exact ⟨a, rfl, h1⟩
theorem names_nat {m : M} {n rc rg : Int} (h : m.names n = some (rc, rg)) : ∃ k : Nat, rc = k ∧ k < m.cells.length := by
  unfold M.names at h
  cases hr : refOf n with
  | none => rw [hr] at h; cases h
  | some p =>
    obtain ⟨a, b⟩ := p
    rw [hr] at h
    simp only at h
    split at h
    · rename_i hh
      cases h
      obtain ⟨h0, h1, _⟩ := hereIn_ge hh
      obtain ⟨k, rfl⟩ := Int.eq_ofNat_of_zero_le h0
      exact ⟨k, rfl, by omega⟩
    · cases h
/-- How a step is told. -/
def StepTold (w : World) (L : Lay) (m : M) (N : Int) (t : Nat) : Prop :=
  Calls Tryd.prog 89 #[.pointer (some ⟨L.blk 0 0, 0, none⟩), .int .i64 t] w fun e w' => e = .returned (.int .i64 (m.step t).2) ∧ ∃ L', MUp ty w L m w' L' (m.step t).1 (N + 48)
theorem told {t : Nat} {h : Thr} {x : Instr} (hh : m.T[t]? = some h) (hx : h.code[h.pc]? = some x) (h20 : x.op ≠ 20) {m' : M} {N' : Int} (hN' : N' ≤ N + 48) (he : (m.setPc t (h.pc + 1)).exec t x = m')
    (hc : Calls Tryd.prog 89 #[.pointer (some ⟨L.blk 0 0, 0, none⟩), .int .i64 t] w fun e w' => e = .returned (.int .i64 0) ∧ ∃ L', MUp ty w L m w' L' m' N') : StepTold w L m N t := by
  unfold StepTold
  rw [step_eq hh hx h20]
  refine hc.mono ?_
  rintro e w' ⟨rfl, L', U⟩
  refine ⟨rfl, L', ?_⟩
  rw [he]
  exact U.mono hN'
theorem step_any (X : Mach ty w L m N) (hE : Easy m) (hN : N ≤ 10000000000) (t : Nat) (ht : t < m.T.length) :
    Calls Tryd.prog 89 #[.pointer (some ⟨L.blk 0 0, 0, none⟩), .int .i64 t] w fun e w' => e = .returned (.int .i64 (m.step t).2) ∧ ∃ L', MUp ty w L m w' L' (m.step t).1 (N + 48) := by
  show StepTold w L m N t
  obtain ⟨h, hh⟩ : ∃ h, m.T[t]? = some h := ⟨_, List.getElem?_eq_getElem ht⟩
  cases hx : h.code[h.pc]? with
  | none =>
    have hs := Qh.step_end hh hx
    have hd : m.done t = true := by unfold M.done; rw [thr_of hh, hx]
    unfold StepTold
    rw [hs]
    refine (step_done X t ht hd).mono ?_
    rintro e w' ⟨rfl, hm⟩
    exact ⟨rfl, L, (MUp.quiet X hm).mono (by omega)⟩
  | some x =>
    by_cases h20 : x.op = 20
    · have hs := step_stop hh hx h20
      have hd : m.done t = true := by unfold M.done; rw [thr_of hh, hx]; simp [h20]
      unfold StepTold
      rw [hs]
      refine (step_done X t ht hd).mono ?_
      rintro e w' ⟨rfl, hm⟩
      exact ⟨rfl, L, (MUp.quiet X hm).mono (by omega)⟩
    · have hmem : x ∈ h.code := List.mem_of_getElem? hx
      have hco := (X.ot.code t h hh).2
      have hi := hco.ins x hmem
      have he := hE t h hh x hmem
      have hlab := hco.lab x hmem
      obtain ⟨op, A, B, C, to⟩ := x
      rcases op_cases op with rfl | rfl | rfl | rfl | rfl | rfl | rfl | rfl | rfl | rfl | rfl | rfl | rfl | rfl | rfl | rfl | rfl | rfl | rfl | rfl | hbig
      · obtain ⟨h1, hB⟩ := hi
        obtain ⟨a, rfl, ha⟩ := reg_nat h1
        exact told hh hx h20 (by omega) (exec_const hh) (step_const (b := 0) (c := 0) (A := 0) X hN t ht hh hx (by omega) hB)
      · obtain ⟨h1, h2⟩ := hi
        obtain ⟨a, rfl, ha⟩ := reg_nat h1
        obtain ⟨b, rfl, hb⟩ := reg_nat h2
        exact told hh hx h20 (by omega) (exec_move hh) (step_move (c := 0) (A := 0) (B := 0) X hN t ht hh hx (by omega) (by omega))
      · obtain ⟨h1, h2, h3⟩ := hi
        obtain ⟨a, rfl, ha⟩ := reg_nat h1
        obtain ⟨b, rfl, hb⟩ := reg_nat h2
        obtain ⟨c, rfl, hc⟩ := reg_nat h3
        exact told hh hx h20 (by omega) (exec_add hh) (step_add (A := 0) (B := 0) (C := 0) X hN t ht hh hx (by omega) (by omega) (by omega))
      · obtain ⟨h1, h2, h3⟩ := hi
        obtain ⟨a, rfl, ha⟩ := reg_nat h1
        obtain ⟨b, rfl, hb⟩ := reg_nat h2
        obtain ⟨c, rfl, hc⟩ := reg_nat h3
        exact told hh hx h20 (by omega) (exec_sub hh) (step_sub (A := 0) (B := 0) (C := 0) X hN t ht hh hx (by omega) (by omega) (by omega))
      · obtain ⟨h1, h2, h3⟩ := hi
        obtain ⟨a, rfl, ha⟩ := reg_nat h1
        obtain ⟨b, rfl, hb⟩ := reg_nat h2
        obtain ⟨c, rfl, hc⟩ := reg_nat h3
        exact told hh hx h20 (by omega) (exec_and hh) (step_and (A := 0) (B := 0) (C := 0) X hN t ht hh hx (by omega) (by omega) (by omega))
      · obtain ⟨h1, h2, h3⟩ := hi
        obtain ⟨a, rfl, ha⟩ := reg_nat h1
        obtain ⟨b, rfl, hb⟩ := reg_nat h2
        obtain ⟨c, rfl, hc⟩ := reg_nat h3
        exact told hh hx h20 (by omega) (exec_xor hh) (step_xor (A := 0) (B := 0) (C := 0) X hN t ht hh hx (by omega) (by omega) (by omega))
      · obtain ⟨h1, h2, h3⟩ := hi
        obtain ⟨a, rfl, ha⟩ := reg_nat h1
        obtain ⟨b, rfl, hb⟩ := reg_nat h2
        cases hn : m.names (h.regs.getD b 0) with
        | none => exact told hh hx h20 (by omega) (exec_load_none hh hn) (step_load_none (c := 0) (A := 0) (B := 0) X hN t ht hh hx (by omega) (by omega) hn)
        | some r => exact told hh hx h20 (by omega) (exec_load_ok hh (rc := r.1) (rg := r.2) hn) (step_load_ok (c := 0) (A := 0) (B := 0) X hN t ht hh hx (by omega) (by omega) h3 hn)
      · obtain ⟨h1, h2, h3⟩ := hi
        obtain ⟨a, rfl, ha⟩ := reg_nat h1
        obtain ⟨b, rfl, hb⟩ := reg_nat h2
        cases hn : m.names (h.regs.getD a 0) with
        | none => exact told hh hx h20 (by omega) (exec_store_none hh hn) (step_store_none (c := 0) (A := 0) (B := 0) X hN t ht hh hx (by omega) (by omega) hn)
        | some r =>
          obtain ⟨l, hl⟩ : ∃ l, m.waits[t]? = some l := ⟨_, List.getElem?_eq_getElem (by rw [X.ot.len]; exact ht)⟩
          have h8 := X.om.wlen t l hl
          by_cases h9 : l.length < 8
          · exact told hh hx h20 (by omega) (exec_store_ok hh (rc := r.1) (rg := r.2) hn hl h9) (step_store_ok (c := 0) (A := 0) (B := 0) X hN t ht hh hx (by omega) (by omega) h3 hn hl h9)
          · obtain ⟨y, q, rfl⟩ : ∃ y q, l = y :: q := by
              cases l with
              | nil => simp at h9
              | cons y q => exact ⟨y, q, rfl⟩
            have h7 : q.length = 7 := by simp at h8 h9; omega
            cases hin : hereIn m.cells y.c y.g with
            | true => exact told hh hx h20 (by omega) (exec_store_full hh (rc := r.1) (rg := r.2) hn hl h7 hin) (step_store_full_ok (c := 0) (A := 0) (B := 0) X hN t ht hh hx (by omega) (by omega) h3 hn hl h7 hin)
            | false => exact told hh hx h20 (by omega) (exec_store_full_bad hh (rc := r.1) (rg := r.2) hn hl h7 hin) (step_store_full_bad (c := 0) (A := 0) (B := 0) X hN t ht hh hx (by omega) (by omega) h3 hn hl h7 hin)
      · obtain ⟨h1, h2, h3⟩ := hi
        obtain ⟨a, rfl, ha⟩ := reg_nat h1
        obtain ⟨b, rfl, hb⟩ := reg_nat h2
        obtain ⟨c, rfl, hc⟩ := reg_nat h3
        cases hn : m.names (h.regs.getD b 0) with
        | none => exact told hh hx h20 (by omega) (exec_swap_none hh hn) (step_swap_none (c := 0) (A := 0) (B := 0) X hN t ht hh hx (by omega) (by omega) hn)
        | some r =>
          obtain ⟨rc, rg⟩ := r
          obtain ⟨k, rfl, hk⟩ := names_nat hn
          exact told hh hx h20 (by omega) (exec_swap_ok hh hn) (step_swap_ok (A := 0) (B := 0) (C := 0) X hN t ht hh hx (by omega) (by omega) (by omega) hk hn)
      · obtain ⟨h1, h2, h3⟩ := hi
        obtain ⟨a, rfl, ha⟩ := reg_nat h1
        obtain ⟨b, rfl, hb⟩ := reg_nat h2
        obtain ⟨c, rfl, hc⟩ := reg_nat h3
        cases hn : m.names (h.regs.getD a 0) with
        | none => exact told hh hx h20 (by omega) (exec_cas_none hh hn) (step_cas_none (c := 0) (A := 0) (B := 0) X hN t ht hh hx (by omega) (by omega) hn)
        | some r =>
          obtain ⟨rc, rg⟩ := r
          obtain ⟨k, rfl, hk⟩ := names_nat hn
          exact told hh hx h20 (by omega) (exec_cas_ok hh hn) (step_cas_ok (A := 0) (B := 0) (C := 0) X hN t ht hh hx (by omega) (by omega) (by omega) (by omega) hk hn)
      · obtain ⟨a, rfl, ha⟩ := reg_nat hi
        cases hal : allocAt m.cells 0 with
        | none => exact told hh hx h20 (by omega) (exec_alloc_none hal) (step_alloc_none (b := 0) (c := 0) (A := 0) X hN t ht hh hx (by omega) hal)
        | some r => exact told hh hx h20 (by omega) (exec_alloc_ok (i := r.1) (n := r.2) hal) (step_alloc_ok (b := 0) (c := 0) (A := 0) X hN t ht hh hx (by omega) hal)
      · obtain ⟨a, rfl, ha⟩ := reg_nat hi
        cases hn : m.names (h.regs.getD a 0) with
        | none => exact told hh hx h20 (by omega) (exec_free_none hh hn) (step_free_none (b := 0) (c := 0) (A := 0) X hN t ht hh hx (by omega) hn)
        | some r =>
          obtain ⟨rc, rg⟩ := r
          obtain ⟨k, rfl, hk⟩ := names_nat hn
          exact told hh hx h20 (by omega) (exec_free_ok hh hn) (step_free_ok (b := 0) (c := 0) (A := 0) X hN t ht hh hx (by omega) hk hn)
      · exact told hh hx h20 (by omega) exec_fence (step_fence (a := 0) (b := 0) (c := 0) X hN t ht hh hx)
      · exact told hh hx h20 (by omega) exec_force (step_force (a := 0) (b := 0) (c := 0) X hN t ht hh hx)
      · obtain ⟨a, rfl, ha⟩ := reg_nat hi
        obtain ⟨i, hi⟩ := Option.isSome_iff_exists.1 (hlab (.inl rfl))
        by_cases hz : h.regs.getD a 0 = 0
        · exact told hh hx h20 (by omega) (exec_zero_yes hh hi hz) (step_zero_yes (b := 0) (c := 0) (A := 0) X hN t ht hh hx (by omega) hi hz)
        · exact told hh hx h20 (by omega) (exec_zero_no hh hz) (step_zero_no (b := 0) (c := 0) (A := 0) X hN t ht hh hx (by omega) hz)
      · obtain ⟨h1, h2⟩ := hi
        obtain ⟨a, rfl, ha⟩ := reg_nat h1
        obtain ⟨b, rfl, hb⟩ := reg_nat h2
        obtain ⟨i, hi⟩ := Option.isSome_iff_exists.1 (hlab (.inr (.inl rfl)))
        by_cases hz : h.regs.getD a 0 = h.regs.getD b 0
        · exact told hh hx h20 (by omega) (exec_same_yes hh hi hz) (step_same_yes (c := 0) (A := 0) (B := 0) X hN t ht hh hx (by omega) (by omega) hi hz)
        · exact told hh hx h20 (by omega) (exec_same_no hh hz) (step_same_no (c := 0) (A := 0) (B := 0) X hN t ht hh hx (by omega) (by omega) hz)
      · obtain ⟨i, hi⟩ := Option.isSome_iff_exists.1 (hlab (.inr (.inr rfl)))
        exact told hh hx h20 (by omega) (exec_goto hh hi) (step_goto (a := 0) (b := 0) (c := 0) X hN t ht hh hx hi)
      · exact told hh hx h20 (by omega) exec_label (step_label (a := 0) (b := 0) (c := 0) X hN t ht hh hx)
      · cases he
      · obtain ⟨a, rfl, ha⟩ := reg_nat hi
        exact told hh hx h20 (by omega) (exec_need hh) (step_need (b := 0) (c := 0) (A := 0) X hN t ht hh hx (by omega))
      · have h21 : ¬ op = 20 := h20
        have : op ≤ 20 := insOk_le hi
        omega
end Go.Proofs.YtamfbfajlfbooaaDoor
end
/- (*quiescentref1.Machine).Turn. -/
section
namespace Go.Proofs.YtamfbfajlfbooaaDoor
open Go.RowKit Qs Qh
variable {w : World} {L : Lay} {m : M} {N : Int}
theorem tmod_fix (n k : Int) (hk : 0 < k) : (if n.tmod k < 0 then n.tmod k + k else n.tmod k) = n % k := by
  have h1 := Int.emod_nonneg n (show k ≠ 0 by omega)
  have h2 := Int.emod_lt_of_pos n hk
  by_cases h0 : 0 ≤ n
  · rw [Int.tmod_eq_emod_of_nonneg h0, if_neg (by omega)]
  · have e : n.tmod k = if k ∣ n then 0 else n % k - k := by
      rw [Int.tmod_eq_emod]
      by_cases hd : k ∣ n
      · have : n % k = 0 := Int.emod_eq_zero_of_dvd hd
        simp [hd, this]
      · simp [hd, h0]; omega
    by_cases hd : k ∣ n
    · have h3 : n % k = 0 := Int.emod_eq_zero_of_dvd hd
      rw [e, if_pos hd, if_neg (by omega), h3]
    · rw [e, if_neg hd, if_pos (by omega)]; omega
theorem turn_at (m : M) (n : Int) {q : Nat} (hq : n % (2 * (m.T.length : Int)) = q) : m.turn n = if q < m.T.length then m.step q else m.drain (q - m.T.length) := by
  unfold M.turn
  simp only [hq, Int.toNat_natCast]
set_option maxHeartbeats 1000000 in
theorem turn_any (X : Mach ty w L m N) (hE : Easy m) (hN : N ≤ 1000000000) (n : Int) (hlo : -9223372036854775808 ≤ n) (hhi : n ≤ 9223372036854775807) :
    Calls Tryd.prog 24 #[.pointer (some ⟨L.blk 0 0, 0, none⟩), .int .i64 n] w fun e w' => e = .returned (.int .i64 (m.turn n).2) ∧ ∃ L', MUp ty w L m w' L' (m.turn n).1 (N + 48) := by
  obtain ⟨t0, t1, t2, t3, t4, t5⟩ := X.top
  have ht6 : m.T.length ≤ 6 := by have := X.om.waits; have := X.ot.len; omega
  have ht1 := X.ot.t1
  have hk : (0 : Int) < 2 * (m.T.length : Int) := by omega
  have hk0 : (2 * (m.T.length : Int) == 0) = false := by rw [beq_eq_false_iff_ne]; omega
  have hfix := tmod_fix n (2 * (m.T.length : Int)) hk
  have h1 := Int.emod_nonneg n (show (2 * (m.T.length : Int)) ≠ 0 by omega)
  have h2 := Int.emod_lt_of_pos n hk
  clear t4
  obtain ⟨q, hq⟩ := Int.eq_ofNat_of_zero_le h1
  have hta := turn_at m n hq
  rw [hq] at hfix h2
  have HX := Lib.hid X
  have HE := Lib.hid hE
  have Hta := Lib.hid hta
  clear X hE hq hta h1
  obtain ⟨r, hr⟩ : ∃ r, n.tmod (2 * (m.T.length : Int)) = r := ⟨_, rfl⟩
  rw [hr] at hfix
  by_cases hneg : r < 0
  · rw [if_pos hneg] at hfix
    by_cases hqt : q < m.T.length
    · have hd : decide ((q : Int) < (m.T.length : Int)) = true := by simp; omega
      go_enter Tryd.func24, Tryd.ntmps24
      go_wp2_with fail
      refine (step_any HX.out HE.out (by omega) q hqt).mono ?_
      rintro e w5 ⟨rfl, h5⟩
      have H5 := Lib.hid h5
      clear h5
      go_wp2
      go_ret
      rw [Hta.out, if_pos hqt]
      exact ⟨rfl, H5.out⟩
    · obtain ⟨p, rfl⟩ : ∃ p, q = m.T.length + p := ⟨q - m.T.length, by omega⟩
      have hp2 : p < m.T.length := by omega
      have hp3 : m.T.length + p - m.T.length = p := by omega
      rw [hp3] at Hta
      rw [Int.natCast_add] at h2 hfix
      have hd : decide ((m.T.length : Int) + (p : Int) < (m.T.length : Int)) = false := by simp; omega
      have hsub : (m.T.length : Int) + (p : Int) - (m.T.length : Int) = p := by omega
      clear hp3
      go_enter Tryd.func24, Tryd.ntmps24
      go_wp2_with fail
      refine (mdrain_any HX.out (by omega) p hp2).mono ?_
      rintro e w5 ⟨rfl, L5, h5⟩
      have H5 := Lib.hid h5
      clear h5
      go_wp2
      go_ret
      rw [Hta.out, if_neg hqt]
      exact ⟨rfl, L5, H5.out.mono (by omega)⟩
  · rw [if_neg hneg] at hfix
    subst hfix
    clear hneg
    by_cases hqt : q < m.T.length
    · have hd : decide ((q : Int) < (m.T.length : Int)) = true := by simp; omega
      go_enter Tryd.func24, Tryd.ntmps24
      go_wp2_with fail
      refine (step_any HX.out HE.out (by omega) q hqt).mono ?_
      rintro e w5 ⟨rfl, h5⟩
      have H5 := Lib.hid h5
      clear h5
      go_wp2
      go_ret
      rw [Hta.out, if_pos hqt]
      exact ⟨rfl, H5.out⟩
    · obtain ⟨p, rfl⟩ : ∃ p, q = m.T.length + p := ⟨q - m.T.length, by omega⟩
      have hp2 : p < m.T.length := by omega
      have hp3 : m.T.length + p - m.T.length = p := by omega
      rw [hp3] at Hta
      rw [Int.natCast_add] at h2 hr
      have hd : decide ((m.T.length : Int) + (p : Int) < (m.T.length : Int)) = false := by simp; omega
      have hsub : (m.T.length : Int) + (p : Int) - (m.T.length : Int) = p := by omega
      clear hp3
      go_enter Tryd.func24, Tryd.ntmps24
      go_wp2_with fail
      refine (mdrain_any HX.out (by omega) p hp2).mono ?_
      rintro e w5 ⟨rfl, L5, h5⟩
      have H5 := Lib.hid h5
      clear h5
      go_wp2
      go_ret
      rw [Hta.out, if_neg hqt]
      exact ⟨rfl, L5, H5.out.mono (by omega)⟩
end Go.Proofs.YtamfbfajlfbooaaDoor
end
/- (*quiescentref1.Machine).Run. -/
section
namespace Go.Proofs.YtamfbfajlfbooaaDoor
open Go.RowKit Qs Qh
variable {w : World} {L : Lay} {m : M} {N : Int}
theorem Easy.keep {w' : World} {L' : Lay} {m' : M} {N' : Int} (h : Easy m) (U : MUp ty w L m w' L' m' N') : Easy m' := by
  intro t x' hx' i hi
  obtain ⟨x, hx, e⟩ := U.thr t x' hx'
  rw [e] at hi
  exact h t x hx i hi
end Go.Proofs.YtamfbfajlfbooaaDoor
end
/- SpinSafe, SpinEnds: lemmas, walked. -/
section
namespace Qs
theorem M.goes_snoc (m : M) (q i : Nat) : m.goes (q + 1) i = ((m.goes q i).turn (((i + q : Nat)) : Int)).1 := by
  rw [M.goes_add q 1 i]; rfl
end Qs
namespace Go.Proofs.YtamfbfajlfbooaaDoor
open Go.RowKit Qs Qh
theorem fault_code (w : World) : (Go.Instr.field 32 (.agg #[.int .i64 0, .int .i64 (-1)]) 0).run Tryd.prog w = .ok (.int .i64 0) w := by kernel_rfl
end Go.Proofs.YtamfbfajlfbooaaDoor
end
/- quiescentlaw2.played: a machine for a cast. -/
section
namespace Go.Proofs.YtamfbfajlfbooaaDoor
open Go.RowKit Qs Qh
/-- One of a cast: writer or reader, how often, how many reads, nested or not. -/
structure Cst where
  wr : Bool
  t : Nat
  r : Nat
  ne : Bool
def castCode (f : Nat) (wait : Bool) (x : Cst) : List Instr := if x.wr then wrCode f wait x.t else rdCode f (if x.ne then 3 else 1) x.r x.t
def CastAt (w : World) (v : Value) (l : List Cst) : Prop :=
  ∃ a c, v = .slice a l.length c ∧ ∀ (i : Nat) x, l[i]? = some x → ∃ b off, a = some ⟨b, off, none⟩ ∧ b < w.heap.size ∧ w.cell? ⟨b, off + i * 4, none⟩ = some (.bool x.wr) ∧ w.cell? ⟨b, off + i * 4 + 1, none⟩ = some (.int .i64 x.t) ∧ w.cell? ⟨b, off + i * 4 + 2, none⟩ = some (.int .i64 x.r) ∧ w.cell? ⟨b, off + i * 4 + 3, none⟩ = some (.bool x.ne)
theorem reader_any {f n r : Nat} (h1 : 1 ≤ f) (h4 : f ≤ 4) (hn : n ≤ 3) (hr : r ≤ 5) (ne : Bool) (w : World) :
    Calls Tryd.prog 100 #[.int .i64 f, .int .i64 n, .int .i64 r, .bool ne] w fun e w' => ∃ v, e = .returned (.tuple #[v, .bool true]) ∧ Own w w' v (rdCode f (if ne then 3 else 1) r n) := by
  cases ne with
  | true => exact reader_true h1 h4 hn hr w
  | false => exact reader_false h1 h4 hn hr w
/-- A table of codes that grows, in blocks newer than W. -/
structure CodeTab (W : World) (v : Value) (codes : List (List Instr)) (cv : Nat → Value) (wr : World) : Prop where
  vrow : wr.ownsRow 0 28 1 v codes.length ((List.range codes.length).map cv)
  code : ∀ (i : Nat) c, codes[i]? = some c → CodeAt wr (cv i) c ∧ ∀ g, (cv i).ownBlock = some g → ¬ v.ownBlock = some g ∧ g < wr.heap.size
  below : Below W.heap.size W wr
  hv : ∀ g, v.ownBlock = some g → W.heap.size ≤ g
variable {W wr w1 w2 : World} {v v1 x : Value} {codes : List (List Instr)} {cv : Nat → Value}
theorem CodeTab.start (W : World) (f : Nat → Value) : CodeTab W (.slice none 0 0) [] f W := ⟨World.ownsRow_nil _ 0 _ 1, (fun i c h => by simp at h), Below.refl _ _, (fun g h => by cases h)⟩
theorem CodeTab.quiet (h : CodeTab W v codes cv wr) (hq : Mod noF wr w1) : CodeTab W v codes cv w1 := by
  have hs := hq.size
  refine ⟨owns_mod h.vrow hq (fun _ _ e => e), fun i c hi => ?_, h.below.trans (hq.toBelow.mono h.below.size), h.hv⟩
  obtain ⟨a, b⟩ := h.code i c hi
  exact ⟨a.frame hq (fun _ _ e => e), fun g hg => ⟨(b g hg).1, by have := (b g hg).2; omega⟩⟩
theorem CodeTab.add (h : CodeTab W v codes cv wr) {c : List Instr} (hc : CodeAt w1 x c) (hx : ∀ g, x.ownBlock = some g → ¬ v.ownBlock = some g ∧ g < w1.heap.size) (hq : Mod noF wr w1)
    (hown : w2.ownsRow 0 28 1 v1 (codes.length + 1) ((List.range codes.length).map cv ++ [x])) (hg : w1.grownBy w2 v.ownBlock) (hfr : ∀ g, v1.ownBlock = some g → v.ownBlock = some g ∨ w1.heap.size ≤ g) :
    CodeTab W v1 (codes ++ [c]) (fun i => if i = codes.length then x else cv i) w2 := by
  have h1 := h.quiet hq
  have hM : Mod (fun g => v.ownBlock = some g) w1 w2 := (Mod.refl (fun g => v.ownBlock = some g) w1).grown hg fun k hk _ => hk
  have hs := hM.size
  have hout : ∀ g, ¬ v.ownBlock = some g → g < w1.heap.size → ¬ v1.ownBlock = some g := fun g ho hlt e => (hfr g e).elim ho (fun e2 => by omega)
  refine ⟨?_, fun i d hi => ?_, h1.below.trans (hM.under h1.below.size h.hv), fun g hg => ?_⟩
  · rw [List.length_append]
    show w2.ownsRow 0 _ 1 v1 (codes.length + 1) _
    rw [show (codes.length + [c].length) = codes.length + 1 from rfl, range_map_snoc]; exact hown
  · by_cases e : i = codes.length
    · subst e
      simp at hi; subst hi
      simp only [if_true]
      exact ⟨hc.frame hM (fun g hg e => (hx g hg).1 e), fun g hg => ⟨hout g (hx g hg).1 (hx g hg).2, by have := (hx g hg).2; omega⟩⟩
    · have hlt : i < codes.length := by
        have := (List.getElem?_eq_some_iff.1 hi).1
        simp at this; omega
      rw [List.getElem?_append_left hlt] at hi
      obtain ⟨a, b⟩ := h1.code i d hi
      simp only [if_neg e]
      exact ⟨a.frame hM (fun g hg => (b g hg).1), fun g hg => ⟨hout g (b g hg).1 (b g hg).2, by have := (b g hg).2; omega⟩⟩
  · rcases hfr g hg with e2 | e2
    · exact h.hv g e2
    · have := h1.below.size; omega
theorem CodeTab.at_ (h : CodeTab W v codes cv wr) : CodesAt wr v codes cv := by
  obtain ⟨a, c, e, hx⟩ := row_cells h.vrow
  refine ⟨a, c, e, fun i d hi => ?_⟩
  obtain ⟨b, e1, hb, hc⟩ := hx i (List.getElem?_eq_some_iff.1 hi).1
  obtain ⟨h1, h2⟩ := h.code i d hi
  exact ⟨b, 0, e1, hb, hc, h1, fun g hg => (h2 g hg).2⟩
theorem grInit_fine {f n : Nat} (hn : n ≤ 4) : RowsFine 4 (grInit f n) := by
  intro l hl
  simp only [grInit, List.mem_append, List.mem_cons, List.not_mem_nil, or_false, List.mem_map, List.mem_range] at hl
  rcases hl with (rfl | ⟨t, ht, rfl⟩) | rfl | rfl
  · unfold grHub; split <;> exact ⟨by decide, by decide⟩
  · refine ⟨by simp [grOwn], fun v hv => ?_⟩
    simp only [grOwn, List.mem_cons, List.not_mem_nil, or_false] at hv
    rcases hv with rfl | rfl | rfl | rfl
    · split <;> decide
    · split
      · exact isWord_of (by omega) (by omega)
      · decide
    · decide
    · decide
  · exact ⟨by simp, fun v hv => by simp at hv; subst hv; exact isWord_of (by omega) (by omega)⟩
  · exact ⟨by decide, by decide⟩
theorem grRegs_fine {n : Nat} (hn : n ≤ 4) : RowsFine 8 (grRegs n) := by
  intro l hl
  simp only [grRegs, List.mem_map, List.mem_range] at hl
  obtain ⟨t, ht, rfl⟩ := hl
  refine ⟨by simp [grReg], fun v hv => ?_⟩
  simp only [grReg, List.mem_cons, List.not_mem_nil, or_false] at hv
  rcases hv with rfl | rfl | rfl | rfl | rfl | rfl | rfl | rfl
  all_goals first | decide | exact isWord_of (by omega) (by omega)
end Go.Proofs.YtamfbfajlfbooaaDoor
end
/- Readers and writers of a published node: the cells, threads and queues of the machine that is started. -/
section
namespace Go.Proofs.YtamfbfajlfbooaaDoor
open Qs Qh
variable {f n : Nat} {codes : List (List Instr)}
def grM (f n : Nat) (codes : List (List Instr)) : M := startM 30 (grInit f n) (grRegs n) codes
theorem gr_len (f n : Nat) : (grInit f n).length = n + 3 := by simp [grInit]
theorem gr_cell (f n : Nat) (codes : List (List Instr)) {i : Nat} (hi : i < 30) : (grM f n codes).cells[i]? = some (if i < n + 3 then ⟨pad 4 ((grInit f n).getD i []), 1, true⟩ else ⟨[0, 0, 0, 0], 0, false⟩) := by
  unfold grM startM
  simp only [gr_len]
  rw [List.getElem?_map, List.getElem?_range hi]
  rfl
theorem gr_thr {t : Nat} {c : List Instr} (h : codes[t]? = some c) (hl : codes.length = n) : (grM f n codes).thr t = ⟨c, pad 8 (grReg n t), 0⟩ := by
  have ht : t < n := by rw [← hl]; exact (List.getElem?_eq_some_iff.1 h).1
  unfold M.thr grM startM
  simp only [List.getD, List.getElem?_mapIdx, h, Option.map_some, Option.getD_some]
  have : (grRegs n)[t]?.getD [] = grReg n t := by
    unfold grRegs
    rw [List.getElem?_map, List.getElem?_range ht]
    rfl
  rw [this]
theorem gr_wait (t : Nat) : (grM f n codes).waitsOf t = [] := by
  unfold M.waitsOf grM startM
  simp only [List.getD, List.getElem?_replicate]
  split <;> rfl
end Go.Proofs.YtamfbfajlfbooaaDoor
end
/- The quick machine of a played cast: how it begins, its codes. -/
section
namespace Qd
open Qs Qh Go.Proofs.YtamfbfajlfbooaaDoor
variable {L : Nat} {N : Int} {m : M} {q : Q}
def regW (L i : Nat) : Nat := ((pad 8 (grReg L (i / 8))).getD (i % 8) 0).toNat
def celW (f L i : Nat) : Nat := if i / 4 < L + 3 then ((pad 4 ((grInit f L).getD (i / 4) [])).getD (i % 4) 0).toNat else 0
def startQ (f L : Nat) : Q :=
  ⟨enc b32 ((List.range (8 * L)).map (regW L)), enc b32 ((List.range L).map fun _ => 0), enc b32 ((List.range 120).map (celW f L)), enc b32 ((List.range 30).map fun i => if i < L + 3 then 1 else 0), enc b32 ((List.range 30).map fun i => if i < L + 3 then 1 else 0),
    enc b1024 ((List.range L).map fun _ => 0), enc b32 ((List.range L).map fun _ => 0), 0⟩
theorem start_bnd : ((List.range 5).all fun f => (List.range 5).all fun L => (List.range (8 * L)).all (fun i => Nat.blt (regW L i) b32) && (List.range 120).all fun i => Nat.blt (celW f L i) b32) = true := by decide +kernel
theorem regW_lt {f L i : Nat} (hf : f ≤ 4) (hL : L ≤ 4) (hi : i < 8 * L) : regW L i < b32 := by
  have h := List.all_eq_true.1 (List.all_eq_true.1 start_bnd f (List.mem_range.2 (by omega))) L (List.mem_range.2 (by omega))
  simp only [Bool.and_eq_true] at h
  have := List.all_eq_true.1 h.1 i (List.mem_range.2 hi)
  rw [Nat.blt_eq] at this
  exact this
theorem celW_lt {f L i : Nat} (hf : f ≤ 4) (hL : L ≤ 4) (hi : i < 120) : celW f L i < b32 := by
  have h := List.all_eq_true.1 (List.all_eq_true.1 start_bnd f (List.mem_range.2 (by omega))) L (List.mem_range.2 (by omega))
  simp only [Bool.and_eq_true] at h
  have := List.all_eq_true.1 h.2 i (List.mem_range.2 hi)
  rw [Nat.blt_eq] at this
  exact this
variable {f : Nat} {codes : List (List Instr)}
theorem start_rel (hf : f ≤ 4) (hL : L ≤ 4) (hl : codes.length = L) (om : OkM 1 (grM f L codes)) (hc : ∀ l ∈ codes, CodeQ l) : RelC L 1 codes (grM f L codes) (startQ f L) := by
  have hcd : ∀ t, t < L → ∃ c, codes[t]? = some c := fun t ht => ⟨_, List.getElem?_eq_getElem (by omega)⟩
  have hthr : ∀ t, t < L → ∃ c, codes[t]? = some c ∧ (grM f L codes).thr t = ⟨c, pad 8 (grReg L t), 0⟩ := fun t ht => by
    obtain ⟨c, hc⟩ := hcd t ht
    exact ⟨c, hc, gr_thr hc hl⟩
  have hpl : ∀ t, (pad 8 (grReg L t)).length = 8 := fun t => pad_len (by simp [grReg])
  refine ⟨⟨by simp [grM, startM, hl], by simp [grM, startM, hl], by simp [grM, startM], om, by omega, fun t ht => ?_, ⟨fun i hi => ?_, ?_⟩, ⟨fun i hi => ?_, ?_⟩, ⟨fun i hi => ?_, ?_⟩, ⟨fun i hi => ?_, ?_⟩, ⟨fun i hi => ?_, ?_⟩, ⟨fun i hi => ?_, ?_⟩, ⟨fun i hi => ?_, ?_⟩, rfl⟩, ?_, hl, hc⟩
  · obtain ⟨c, hc, e⟩ := hthr t ht
    rw [e]
    refine ⟨hpl t, fun v hv => ?_⟩
    obtain ⟨k, hk⟩ := List.getElem?_of_mem hv
    have hk8 : k < 8 := by have := (List.getElem?_eq_some_iff.1 hk).1; rw [hpl t] at this; exact this
    have hb := regW_lt (f := f) (i := 8 * t + k) hf hL (by omega)
    unfold regW at hb
    rw [show (8 * t + k) / 8 = t by omega, show (8 * t + k) % 8 = k by omega] at hb
    simp only [List.getD, hk, Option.getD_some] at hb
    have hv0 : 0 ≤ v := by
      unfold pad at hv
      rcases List.mem_append.1 hv with h | h
      · simp only [grReg, List.mem_cons, List.not_mem_nil, or_false] at h
        omega
      · rw [List.mem_replicate] at h; omega
    have hb : v.toNat < 4294967296 := hb
    exact isWord_iff.2 (by omega)
  · obtain ⟨c, hc, e⟩ := hthr (i / 8) (by omega)
    dsimp only
    rw [e]
    have := regW_lt (f := f) (i := i) hf hL hi
    unfold regW at this
    unfold Thr.reg
    rw [Int.toNat_natCast]
    exact this
  · show enc b32 _ = enc b32 _
    congr 1
    apply List.map_congr_left
    intro i hi
    have hi := List.mem_range.1 hi
    obtain ⟨c, hc, e⟩ := hthr (i / 8) (by omega)
    rw [e]
    unfold regW Thr.reg
    rw [Int.toNat_natCast]
  · obtain ⟨c, hc, e⟩ := hthr i hi
    dsimp only
    rw [e]
    show 0 < 4294967296
    omega
  · show enc b32 _ = enc b32 _
    congr 1
    apply List.map_congr_left
    intro i hi
    have hi := List.mem_range.1 hi
    obtain ⟨c, hc, e⟩ := hthr i hi
    rw [e]
  · have := celW_lt (f := f) (L := L) (i := i) hf hL hi
    unfold celW at this
    unfold getWord
    dsimp only
    rw [gr_cell f L codes (by omega)]
    by_cases h : i / 4 < L + 3
    · rw [if_pos h] at this ⊢; exact this
    · rw [if_neg h]
      rcases (by omega : i % 4 = 0 ∨ i % 4 = 1 ∨ i % 4 = 2 ∨ i % 4 = 3) with h | h | h | h <;> rw [h] <;> decide
  · show enc b32 _ = enc b32 _
    congr 1
    apply List.map_congr_left
    intro i hi
    have hi := List.mem_range.1 hi
    unfold celW getWord
    rw [gr_cell f L codes (by omega)]
    by_cases h : i / 4 < L + 3
    · rw [if_pos h, if_pos h]; rfl
    · rw [if_neg h, if_neg h]
      rcases (by omega : i % 4 = 0 ∨ i % 4 = 1 ∨ i % 4 = 2 ∨ i % 4 = 3) with h | h | h | h <;> rw [h] <;> rfl
  · unfold timesAt
    dsimp only
    rw [gr_cell f L codes hi]
    by_cases h : i < L + 3
    · rw [if_pos h]; show 1 < 4294967296; omega
    · rw [if_neg h]; show 0 < 4294967296; omega
  · show enc b32 _ = enc b32 _
    congr 1
    apply List.map_congr_left
    intro i hi
    have hi := List.mem_range.1 hi
    unfold timesAt
    rw [gr_cell f L codes hi]
    by_cases h : i < L + 3
    · rw [if_pos h, if_pos h]; rfl
    · rw [if_neg h, if_neg h]; rfl
  · dsimp only
    split <;> decide
  · show enc b32 _ = enc b32 _
    congr 1
    apply List.map_congr_left
    intro i hi
    have hi := List.mem_range.1 hi
    unfold hereAt
    rw [gr_cell f L codes hi]
    by_cases h : i < L + 3
    · rw [if_pos h, if_pos h]; rfl
    · rw [if_neg h, if_neg h]; rfl
  · dsimp only
    rw [gr_wait]
    show 0 < b1024
    decide +kernel
  · show enc b1024 _ = enc b1024 _
    congr 1
    apply List.map_congr_left
    intro i hi
    rw [gr_wait]; rfl
  · dsimp only
    rw [gr_wait]; decide
  · show enc b32 _ = enc b32 _
    congr 1
    apply List.map_congr_left
    intro i hi
    rw [gr_wait]; rfl
  · unfold cds grM startM
    apply List.ext_getElem?
    intro i
    simp only [List.getElem?_map, List.getElem?_mapIdx]
    cases codes[i]? <;> rfl
end Qd
end
