/- Texts that belong together, joined. -/
import Derived.Test.YtamfbfajlfbooaaDoorQDone
import Derived.Test.YtamfbfajlfbooaaDoorQm2
import Derived.Test.YtamfbfajlfbooaaDoorQm1
import Derived.Outline
set_option linter.unusedVariables false
set_option linter.unusedSimpArgs false
set_option linter.unusedSectionVars false
/- (*quiescentref1.Machine).Drain. -/
section
namespace Go.Proofs.YtamfbfajlfbooaaDoor
open Go.RowKit Qs Qh
variable {w : World} {L : Lay} {m : M} {N : Int}
theorem mdrain_out (X : Mach ty w L m N) (t : Int) (ht : t < 0 ∨ (m.T.length : Int) ≤ t) :
    Calls Tryd.prog 90 #[.pointer (some ⟨L.blk 0 0, 0, none⟩), .int .i64 t] w fun e w' => e = .returned (.int .i64 2) ∧ w = w' := by
  obtain ⟨t0, t1, t2, t3, t4, t5⟩ := X.top
  clear X t4
  by_cases h : t < 0
  · have hd : decide (t < 0) = true := by simpa using h
    go_enter Tryd.func90, Tryd.ntmps90
    go_wp2
    go_ret
    exact ⟨rfl, rfl⟩
  · have hd : decide (t < 0) = false := by simpa using h
    have hd2 : decide ((m.T.length : Int) ≤ t) = true := by simpa using ht.resolve_left h
    go_enter Tryd.func90, Tryd.ntmps90
    go_wp2
    go_ret
    exact ⟨rfl, rfl⟩
theorem mdrain_any (X : Mach ty w L m N) (hN : N ≤ 10000000000) (t : Nat) (ht : t < m.T.length) :
    Calls Tryd.prog 90 #[.pointer (some ⟨L.blk 0 0, 0, none⟩), .int .i64 t] w fun e w' => e = .returned (.int .i64 (m.drain t).2) ∧ ∃ L', MUp ty w L m w' L' (m.drain t).1 (N + 1) := by
  obtain ⟨l, hl⟩ : ∃ l, m.waits[t]? = some l := ⟨_, List.getElem?_eq_getElem (by rw [X.ot.len]; exact ht)⟩
  have hwo : m.waitsOf t = l := by simp [M.waitsOf, List.getD, hl]
  obtain ⟨t0, t1, t2, t3, t4, t5⟩ := X.top
  have hf := X.ot.f0
  have d0 : decide ((t : Int) < 0) = false := by simp
  have d1 : decide ((m.T.length : Int) ≤ (t : Int)) = false := by simp; omega
  have HX := Lib.hid X
  cases l with
  | nil =>
    have hcall := drain_none X.rep rfl rfl X.om X.ol t hl
    have hdr : m.drain t = (m, 5) := by unfold M.drain; rw [hwo]
    have Hdr := Lib.hid hdr
    have Hcall := Lib.hid hcall
    clear hdr hcall X t4 hl hwo
    go_enter Tryd.func90, Tryd.ntmps90
    go_wp2_with (go_at_call 116; refine Hcall.out.mono ?_; rintro e w5 ⟨rfl, rfl⟩)
    go_ret
    rw [Hdr.out]
    exact ⟨rfl, L, (MUp.quiet HX.out (Mod.refl _ _)).mono1⟩
  | cons x r =>
    have hcall := drain_some X.rep rfl rfl rfl rfl rfl X.om X.ol (by omega) t hl
    have hval := X.om.wval t _ hl
    have hx0 := (hval x (by simp)).1
    have om5 : OkM N { m with cells := (drain1 m.cells x).1, waits := m.waits.set t r } :=
      (X.om.drain1 hx0).setWaits (by have := X.om.wlen t _ hl; simp at this; omega) (fun y hy => by simpa [drain1_length] using hval y (by simp [hy]))
    have hdr : m.drain t = ({ m with cells := (drain1 m.cells x).1, waits := m.waits.set t r, faults := m.faults + (if (drain1 m.cells x).2 then 1 else 0) }, 0) := by unfold M.drain; rw [hwo]
    have hbad := drain1_bad m.cells x
    have Hdr := Lib.hid hdr
    have Hcall := Lib.hid hcall
    have Hom5 := Lib.hid om5
    cases hh : hereIn m.cells x.c x.g with
    | true =>
      rw [hh] at hbad
      have hde : drainE m.cells x = 0 := by unfold drainE; rw [if_pos hh]
      have Hde := Lib.hid hde
      have Hbad := Lib.hid hbad
      clear hdr hcall X t4 hl hwo hval om5 hbad hh hde hx0
      go_enter Tryd.func90, Tryd.ntmps90
      go_wp2_with (go_at_call 116; refine Hcall.out.mono ?_; rintro e w5 ⟨rfl, L5, hU5⟩; rw [show drainE _ x = 0 from Hde.out])
      go_ret
      rw [Hdr.out, Hbad.out]
      refine ⟨rfl, L5, ?_⟩
      have U := (HX.out.up (Int.le_refl N) hU5 Hom5.out rfl rfl rfl (by simp)).mono1
      simpa using U
    | false =>
      rw [hh] at hbad
      have hde : drainE m.cells x = 7 := by unfold drainE; rw [if_neg (by rw [hh]; decide)]
      have Hde := Lib.hid hde
      have Hbad := Lib.hid hbad
      clear hdr hcall X t4 hl hwo hval om5 hbad hh hde hx0
      go_enter Tryd.func90, Tryd.ntmps90
      go_wp2_with fail
      refine Hcall.out.mono ?_
      rintro e w5 ⟨rfl, L5, hU5⟩
      rw [show drainE _ x = 7 from Hde.out]
      have U5 := HX.out.up (Int.le_refl N) hU5 Hom5.out rfl rfl rfl (by simp)
      obtain ⟨x0, x1, x2, x3, x4, x5⟩ := U5.mach.top
      have x43 := x4 3
      have E0 := U5.top.1
      rw [E0] at x0 x3 x43 x5
      have HE0 := Lib.hid E0
      have HU5 := Lib.hid U5
      clear x1 x2 x4 E0 hU5 U5
      go_wp2
      go_ret
      rw [Hdr.out, Hbad.out]
      refine ⟨rfl, L5, ?_⟩
      have V := HU5.out.trans (HU5.out.mach.setFaults (N' := N + 1) (m.faults + 1) (by omega) (by omega) (by omega))
      rw [HE0.out] at V
      simpa using V
end Go.Proofs.YtamfbfajlfbooaaDoor
end
/- (*quiescentref1.Machine).Rest. -/
section
namespace Go.Proofs.YtamfbfajlfbooaaDoor
open Go.RowKit Qs Qh
variable {w : World} {L : Lay} {m : M} {N : Int}
theorem rest_no {m : M} {k : Nat} (hk : k < m.T.length) (h : m.done k = false ∨ m.waitsOf k ≠ []) : m.rest = false := by
  rw [← Bool.not_eq_true, M.rest_iff]
  intro e
  have := e k hk
  rcases h with h | h
  · rw [h] at this; cases this.1
  · exact h this.2
set_option maxHeartbeats 1000000 in
theorem rest_any (X : Mach ty w L m N) :
    Calls Tryd.prog 25 #[.pointer (some ⟨L.blk 0 0, 0, none⟩)] w fun e w' => e = .returned (.bool m.rest) ∧ Mod noF w w' := by
  have ht6 : m.T.length ≤ 6 := by have := X.om.waits; have := X.ot.len; omega
  have hwl := X.ot.len
  have HX := Lib.hid X
  have Hwl := Lib.hid hwl
  clear X hwl
  go_enter Tryd.func25, Tryd.ntmps25
  go_wp2
  go_loopw [3, 4] (fun i d wr => ∃ k : Nat, k ≤ m.T.length ∧ i = .int .i64 k ∧ Mod noF w wr ∧ ∀ j, j < k → m.done j = true ∧ m.waitsOf j = []) (fun i d _ => m.T.length - (intOf i).toNat)
  case atStart => exact ⟨0, Nat.zero_le _, rfl, Mod.refl _ _, fun j hj => absurd hj (by omega)⟩
  case round =>
    rename_i wr
    obtain ⟨k, hk, rfl, hmr, hall⟩ := hrel
    have Hall := Lib.hid hall
    clear hall
    have Xr := HX.out.frame0 hmr
    obtain ⟨t0, t1, t2, t3, t4, t5⟩ := Xr.top
    by_cases hlt : k < m.T.length
    · have hd : decide ((k : Int) < (m.T.length : Int)) = true := by simp; omega
      obtain ⟨l, hl⟩ : ∃ l, m.waits[k]? = some l := ⟨_, List.getElem?_eq_getElem (by rw [Hwl.out]; exact hlt)⟩
      have hwo : m.waitsOf k = l := by simp [M.waitsOf, List.getD, hl]
      have HXr := Lib.hid Xr
      have Hmr := Lib.hid hmr
      have Hl := Lib.hid hl
      have Hwo := Lib.hid hwo
      clear Xr hmr t4 hl hwo
      go_wp2_with fail
      refine (done_any HXr.out k hlt).mono ?_
      rintro e w1 ⟨rfl, hm1⟩
      have X1 := HXr.out.frame0 hm1
      obtain ⟨s0, s1, s2, s3, s4, s5⟩ := X1.top
      have pw0 := X1.rep.waits_at rfl X1.ol
      have pw1 := waits_row X1.rep rfl X1.ol (t := k) (l := l) Hl.out
      obtain ⟨ra, rcp, hrow⟩ := row_slice X1.ol (t := k) (l := l) Hl.out
      rw [hrow] at pw1
      have iT : (k : Int) < (m.waits.length : Int) := by have := Hwl.out; omega
      have Hm1 := Lib.hid hm1
      clear X1 s4 hm1 hrow
      cases hdn : m.done k with
      | false =>
        have hr := rest_no hlt (.inl hdn)
        have Hr := Lib.hid hr
        have Hdn := Lib.hid hdn
        clear hdn hr
        go_wp2
        go_ret
        exact ⟨ret_bool Hr.out.symm, Hmr.out.trans0 Hm1.out⟩
      | true =>
        have Hdn := Lib.hid hdn
        clear hdn
        by_cases hnil : l = []
        · subst hnil
          go_wp2
          go_roundw
          case rel =>
            refine ⟨k + 1, by omega, by go_num, Hmr.out.trans0 Hm1.out, fun j hj => ?_⟩
            by_cases e : j = k
            · subst e; exact ⟨Hdn.out, Hwo.out⟩
            · exact Hall.out j (by omega)
          case measure => simp [intOf]; omega
        · have hr := rest_no hlt (.inr (by rw [Hwo.out]; exact hnil))
          have hpos : 0 < l.length := List.length_pos_iff.2 hnil
          have hdp : decide (0 < (l.length : Int)) = true := by simp; omega
          have Hr := Lib.hid hr
          clear hr hnil
          go_wp2
          go_ret
          exact ⟨ret_bool Hr.out.symm, Hmr.out.trans0 Hm1.out⟩
    · have hd : decide ((k : Int) < (m.T.length : Int)) = false := by simp; omega
      have hr : m.rest = true := M.rest_iff.2 fun j hj => Hall.out j (by omega)
      have Hr := Lib.hid hr
      have Hmr := Lib.hid hmr
      clear Xr hmr t4 hr
      go_wp2
      go_ret
      exact ⟨ret_bool Hr.out.symm, Hmr.out⟩
end Go.Proofs.YtamfbfajlfbooaaDoor
end
