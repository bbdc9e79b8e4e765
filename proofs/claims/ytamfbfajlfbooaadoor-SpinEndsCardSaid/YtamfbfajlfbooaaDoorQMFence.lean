/- (*quiescentref1.Machine).fence. -/
import Derived.Test.YtamfbfajlfbooaaDoorQNames
set_option linter.unusedVariables false
set_option linter.unusedSimpArgs false
set_option linter.unusedSectionVars false
namespace Go.Proofs.YtamfbfajlfbooaaDoor
open Go.RowKit Qs Qh
variable {w : World} {L : Lay} {m : M} {N : Int}
/-- A thread's fence: the model behind it keeps its sizes. -/
theorem fence_eq (m : M) (t : Nat) {l : List Wt} (hl : m.waits[t]? = some l) : m.fence t = { m with cells := (drainAll m.cells l).1, waits := m.waits.set t [], faults := m.faults + ((drainAll m.cells l).2 : Nat) } := by
  unfold M.fence
  have : m.waitsOf t = l := by simp [M.waitsOf, List.getD, hl]
  rw [this]
set_option maxHeartbeats 1000000 in
theorem machFence_ext (X : Mach ty w L m N) (hN : N ≤ 100000000000) (t : Nat) (ht : t < m.T.length) :
    Calls Tryd.prog 130 #[.pointer (some ⟨L.blk 0 0, 0, none⟩), .int .i64 t] w fun e w' => e = .returned (.tuple #[]) ∧ ∃ L', MUp ty w L m w' L' (m.fence t) (N + 8) ∧ Ext L L' := by
  obtain ⟨l, hl⟩ : ∃ l, m.waits[t]? = some l := ⟨_, List.getElem?_eq_getElem (by rw [X.ot.len]; exact ht)⟩
  obtain ⟨t0, t1, t2, t3, t4, t5⟩ := X.top
  have t43 := t4 3
  have hf := X.ot.f0
  have hl8 := X.om.wlen t l hl
  have hcount := drainAll_le l m.cells
  generalize hnf : (drainAll m.cells l).2 = nf at *
  have hnf8 : nf ≤ 8 := by omega
  have hcall := memFence_any (w := w.drew) (X.rep.frame0 (Mod.refl _ _).drew) rfl rfl rfl rfl rfl X.om X.ol (by omega) t hl
  rw [hnf] at hcall
  have Hcall := Lib.hid hcall
  have HX := Lib.hid X
  have Hl := Lib.hid hl
  have Hnf := Lib.hid hnf
  clear X hl hcall hnf hcount t4
  go_enter Tryd.func130, Tryd.ntmps130
  have hval := HX.out.om.wval t l Hl.out
  have om5 : OkM N { m with cells := (drainAll m.cells l).1, waits := m.waits.set t [] } := (drainAll_ok l HX.out.om (fun x hx => (hval x hx).1)).setWaits (by simp) (fun x hx => by cases hx)
  have Hom5 := Lib.hid om5
  clear om5 hval
  go_region_with (go_at_call 112; refine Hcall.out.mono ?_; rintro e w5 ⟨rfl, L5, hU5⟩; have U5 := (HX.out.frame0 (Mod.refl _ _).drew).up (Int.le_refl N) hU5 Hom5.out rfl rfl rfl (by simp); obtain ⟨x0, x1, x2, x3, x4, x5⟩ := U5.mach.top; have x43 := x4 3; have E0 := U5.top.1; have E1 := U5.top.2; rw [E0] at x0 x3 x43 x5; clear x1 x2 x4; have HE0 := Lib.hid E0; have HU5 := Lib.hid U5; have HE := Lib.hid hU5.ext; clear E0 E1 hU5 U5)
  all_goals
    refine bodyPost_end (results_none rfl _ _ _) rfl ⟨rfl, L5, ?_, HE.out⟩
    rw [fence_eq m t Hl.out, Hnf.out]
    have V := (MUp.quiet HX.out (Mod.refl _ _).drew).trans (HU5.out.trans (HU5.out.mach.setFaults (N' := N + 8) (m.faults + (nf : Int)) (by omega) (by omega) (by omega)))
    rw [HE0.out] at V
    rw [show IntKind.i64.wrap (m.faults + (nf : Int)) = m.faults + (nf : Int) from IntWalk.i64_in _ (by omega)]
    exact V
theorem machFence_any (X : Mach ty w L m N) (hN : N ≤ 100000000000) (t : Nat) (ht : t < m.T.length) :
    Calls Tryd.prog 130 #[.pointer (some ⟨L.blk 0 0, 0, none⟩), .int .i64 t] w fun e w' => e = .returned (.tuple #[]) ∧ ∃ L', MUp ty w L m w' L' (m.fence t) (N + 8) :=
  (machFence_ext X hN t ht).mono fun _ _ ⟨h, L', h1, _⟩ => ⟨h, L', h1⟩
end Go.Proofs.YtamfbfajlfbooaaDoor
