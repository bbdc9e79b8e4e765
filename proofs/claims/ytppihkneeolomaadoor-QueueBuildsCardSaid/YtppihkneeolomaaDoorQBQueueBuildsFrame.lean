/- QueueBuilds: the row, out of its walk. -/
import Derived.Test.YtppihkneeolomaaDoorQBm3
import Derived.Test.YtppihkneeolomaaDoorQBJoinedP
import Derived.Test.YtppihkneeolomaaDoorQBIsRow
import Derived.Test.YtppihkneeolomaaDoorQBm9
import Derived.Test.YtppihkneeolomaaDoorQBErrsLawQ
import Derived.Lib.SmallJoins
import Derived.OpenShut
import Derived.ShutString
import Derived.ChangeOld
import Derived.Below
set_option linter.unusedVariables false
set_option linter.unusedSimpArgs false
set_option linter.unusedSectionVars false
namespace Go.Proofs.YtppihkneeolomaaDoor
open Go.ChangeShapes Go.WideShapes Go.ChangeAt Go.RowKit Go.Joins
open Go.ChangeMaps (open_string shut_string)
theorem queueBuilds_j0 : (Rows.queueBuildsRow.wf (OpenSpec.ofChange Rows.queueBuildsSpec)) = true := by kernel_rfl
theorem queueBuilds_j3 : (Tryd.f4.params.all (Tryd.pinned.checked.prog.readableRec ·)) = true := by kernel_rfl
theorem queueBuilds_j4 : (namedTie Tryd.pinned.checked.prog Rows.queueBuildsRow.named Rows.queueBuildsSpec.vars) = true := by kernel_rfl
theorem queueBuilds_j5 : ((Rows.queueBuildsRow.stops == [])) = true := by kernel_rfl
theorem queueBuilds_j7 : ((Rows.queueBuildsRow.knobs == [])) = true := by kernel_rfl
theorem queueBuilds_j9 : ((Rows.queueBuildsRow.inPlace == Tryd.pinned.checked.prog.inPlace 4)) = true := by kernel_rfl
theorem queueBuilds_j10 : ((Rows.queueBuildsRow.unfollowed == Tryd.pinned.checked.prog.unfollowed 4)) = true := by kernel_rfl
theorem queueBuilds_j11 : ((Rows.queueBuildsRow.recurses == Tryd.pinned.checked.prog.recurses 4)) = true := by kernel_rfl
theorem queueBuilds_j12 : ((Rows.queueBuildsRow.named == Tryd.pinned.checked.prog.varsNamed 4)) = true := by kernel_rfl
theorem queueBuilds_j13 : ((Rows.queueBuildsRow.maps == (Tryd.f4.params.toList ++ Rows.queueBuildsSpec.plain.varTypes Tryd.pinned.checked.prog).any (Tryd.pinned.checked.prog.mapsRec ·))) = true := by kernel_rfl
theorem queueBuilds_j14 : ((Rows.queueBuildsRow.ifaces == (Tryd.f4.params.toList ++ Rows.queueBuildsSpec.plain.varTypes Tryd.pinned.checked.prog).any (Tryd.pinned.checked.prog.ifacesRec ·))) = true := by kernel_rfl
theorem queueBuilds_j15 : ((Rows.queueBuildsRow.mapsOut == Tryd.pinned.checked.prog.mapsAmong Tryd.f4.resultTypes.toList)) = true := by kernel_rfl
theorem queueBuilds_j16 : ((Rows.queueBuildsRow.loops == (Tryd.f4.params.toList ++ Rows.queueBuildsSpec.plain.varTypes Tryd.pinned.checked.prog).any (Tryd.pinned.checked.prog.loopsFrom ·))) = true := by kernel_rfl
theorem queueBuilds_j17 : ((Rows.queueBuildsRow.wideKeys == (Tryd.f4.params.toList ++ Rows.queueBuildsSpec.plain.varTypes Tryd.pinned.checked.prog ++ Tryd.f4.resultTypes.toList).any (Tryd.pinned.checked.prog.wideKeysFrom ·))) = true := by kernel_rfl
theorem queueBuilds_j18 : (Rows.queueBuildsSpec.vars.all (Tryd.pinned.checked.prog.varReadable ·)) = true := by kernel_rfl
theorem queueBuilds_j19 : (Tryd.f4.resultTypes.all (fun t => Tryd.pinned.checked.prog.readableRec t && decide (t < Tryd.pinned.checked.prog.types.size))) = true := by kernel_rfl
theorem queueBuilds_j20 : ((Rows.queueBuildsRow.ifacesOut == Tryd.f4.resultTypes.toList.any (Tryd.pinned.checked.prog.ifacesRec ·))) = true := by kernel_rfl
theorem queueBuilds_j21 : ((Rows.queueBuildsRow.loopsOut == Tryd.f4.resultTypes.toList.any (Tryd.pinned.checked.prog.loopsFrom ·))) = true := by kernel_rfl
theorem queueBuilds_j22 : ((Rows.queueBuildsRow.plainKeys == Tryd.pinned.checked.prog.plainKeys)) = true := by
  rw [show Rows.queueBuildsRow.plainKeys = true from rfl]; exact jp22
theorem queueBuilds_j23 : (Rows.queueBuildsRow.shortTexts.isNone) = true := by kernel_rfl
theorem queueBuilds_j26 : ((Rows.queueBuildsRow.lifted == Tryd.pinned.checked.prog.liftsFinal)) = true := by
  rw [show Rows.queueBuildsRow.lifted = false from rfl]; exact jp26
theorem queueBuilds_j27 : ((Tryd.pinned.checked.prog.make == some Rows.queueBuildsRow.make)) = true := by
  rw [show Rows.queueBuildsRow.make = Make.cut from rfl]; exact jp27
theorem queueBuilds_j28 : ((Rows.queueBuildsRow.kinds == kindsOf Tryd.pinned.checked.prog Rows.queueBuildsRow.domain.isEmpty Tryd.f4.params.toList)) = true := by kernel_rfl
theorem queueBuilds_j29 : ((Rows.queueBuildsRow.pinned == Rows.queueBuildsRow.pinnedBy)) = true := by kernel_rfl
theorem queueBuilds_j30 : ((Rows.queueBuildsRow.veiled == (Tryd.f4.params.toList ++ Rows.queueBuildsSpec.plain.varTypes Tryd.pinned.checked.prog ++ Tryd.f4.resultTypes.toList).any (Tryd.pinned.checked.prog.veiledRec ·))) = true := by kernel_rfl
theorem queueBuilds_j31 : (Rows.queueBuildsRow.veiledFits Tryd.pinned.checked.prog Tryd.f4.params.toList (Tryd.f4.params.toList ++ Rows.queueBuildsSpec.plain.varTypes Tryd.pinned.checked.prog ++ Tryd.f4.resultTypes.toList)) = true := by kernel_rfl
theorem queueBuilds_joined : joinedFacts Tryd.pinned.checked.prog 4 Tryd.f4 Rows.queueBuildsSpec Rows.queueBuildsRow = true :=
  joined_of (P := Tryd.pinned.checked.prog) (f := 4) (fn := Tryd.f4) (s := Rows.queueBuildsSpec) (c := Rows.queueBuildsRow) queueBuilds_j0 jp1 jp2 queueBuilds_j3 queueBuilds_j4 queueBuilds_j5 jp6 queueBuilds_j7 jp8 queueBuilds_j9 queueBuilds_j10 queueBuilds_j11 queueBuilds_j12 queueBuilds_j13 queueBuilds_j14 queueBuilds_j15 queueBuilds_j16 queueBuilds_j17 queueBuilds_j18 queueBuilds_j19 queueBuilds_j20 queueBuilds_j21 queueBuilds_j22 queueBuilds_j23 jp24 jp25 queueBuilds_j26 queueBuilds_j27 queueBuilds_j28 queueBuilds_j29 queueBuilds_j30 queueBuilds_j31
theorem laid_errs_queueBuilds : (Rows.queueBuildsRow.laid.filter fun x => x.2.handleName?.isSome) = [hd10] ∧ ((Rows.queueBuildsRow.laid.filter fun x => x.2.handleName?.isNone).drop 3).take 9 = nine := ⟨by kernel_rfl, by kernel_rfl⟩
set_option maxRecDepth 100000 in
theorem queueBuilds_lifted (walk : ∀ (a0 : Option Addr) (len0 cap0 : Nat) (z0 : List (List ROp)) (w : World), IsOps w a0 len0 cap0 z0 → (∃ a, ErrsAt w a) → Calls Tryd.prog 4 #[.slice a0 len0 cap0] w fun e w' => e = .returned (.bool true) ∧ Below w.heap.size w w')
    (os : Os) (started : os.Started) (H : Type) (enc : TypeId × Value → H) :
    ReturnsInHanded {} Tryd.checked os 4 .any (fun w args => (Rows.queueBuildsSpec.pre enc Tryd.prog Tryd.f4 [] false w args ∧ laidMetH Tryd.prog Rows.queueBuildsRow.laid w) ∧ sizedMet enc Tryd.prog Tryd.f4 (OpenSpec.ofChange Rows.queueBuildsSpec) false w args)
      (Rows.queueBuildsSpec.post enc Tryd.prog Tryd.f4 false true false false) := by
  refine returnsInHanded_of_change_and (C := Tryd.checked) (X := fun w _ => laidMetH Tryd.prog Rows.queueBuildsRow.laid w) (fun _ _ _ hh h => h.of_heap hh) own started (by kernel_rfl) Tryd.func4
    (ChangeSpec.witness_at (enc := enc) (C := Tryd.checked) (os := os) (X := fun w _ => laidMetH Tryd.prog Rows.queueBuildsRow.laid w) false (laidWorld os) #[.slice none 0 0] 8 rfl (by kernel_rfl) (by kernel_rfl) (by kernel_rfl) (by kernel_rfl) (by kernel_rfl) (laid_met_queueBuilds os _)) ?_
  intro W base args ds gs before hval0 hW _ _ hL _
  have hval : ∀ (j : Nat) t v, Tryd.f4.params[j]? = some t → args[j]? = some v → Value.okWide Tryd.prog W .any base t v := hval0
  have hW' := hW
  obtain ⟨p, q, hA0, hV, rfl, hfz, hnd⟩ := hW
  have hA : DataW.TrodAll enc Tryd.prog W 0 (fun _ => true) true Tryd.f4.params.toList args.toList ds p := hA0
  rw [Tryd.params4] at hA hval
  obtain ⟨v0, vs0, d0, ds0, p0, q0, hargs, rfl, rfl, h0, r0⟩ := trodAll_cons hA
  obtain ⟨rfl, rfl, rfl⟩ := trodAll_nil r0
  obtain rfl : args = #[v0] := by cases args; simp_all
  obtain ⟨rfl, rfl⟩ := trodVars_none hV
  obtain ⟨a0, len0, cap0, rfl⟩ := okWide_slice Tryd.underlying22 (hval 0 22 v0 rfl rfl)
  have k0 := h0
  have lt0 : ∀ x ∈ p0, x.block < W.heap.size := by obtain ⟨m, hm⟩ := k0; exact DataW.trod_lt m _ _ _ hm
  obtain ⟨z0, w0⟩ : ∃ zs, IsOps W a0 len0 cap0 zs := isOps_of h0
  clear hA0 hval0
  refine (walk a0 len0 cap0 z0 W w0 (errs_of_laid_q laid_errs_queueBuilds hL)).mono fun e W' ⟨he, bel⟩ => ?_
  subst he
  exact ⟨_, rfl, _, _, _, [], _, [], hW', trodAll_mk1 (shut_bool Tryd.underlying4 _), (trodAll_cons_mk (Below.trod laidOut (by kernel_rfl) (of_decide_eq_true (by kernel_rfl)) k0 bel lt0) trodAll_mk0), rfl, bel.frame _, fun h => by cases h⟩
theorem queueBuilds_over (walk : ∀ (a0 : Option Addr) (len0 cap0 : Nat) (z0 : List (List ROp)) (w : World), IsOps w a0 len0 cap0 z0 → (∃ a, ErrsAt w a) → Calls Tryd.prog 4 #[.slice a0 len0 cap0] w fun e w' => e = .returned (.bool true) ∧ Below w.heap.size w w') :
    Rows.QueueBuildsSaid :=
  OpenClaim.holds_of_wide 4 Tryd.f4 rfl rfl rfl rfl rfl rfl rfl ⟨rfl, rfl, rfl, rfl, rfl⟩ rfl rfl rfl rfl rfl (by kernel_rfl) Tryd.func4 queueBuilds_joined
    (of_decide_eq_true (by kernel_rfl)) (by unfold Func.isWrapper; first | (rw [if_pos (by decide +kernel)]; kernel_rfl) | (rw [if_neg (by decide +kernel)]; exact ⟨rfl, rfl⟩))
    (fun os started H enc _ => queueBuilds_lifted walk os started H enc)
end Go.Proofs.YtppihkneeolomaaDoor
