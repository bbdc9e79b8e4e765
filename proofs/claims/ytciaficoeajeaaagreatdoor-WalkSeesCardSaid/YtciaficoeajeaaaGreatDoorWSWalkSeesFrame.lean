/- WalkSees: the row, out of its walk. -/
import Derived.Test.YtciaficoeajeaaaGreatDoorRows
import Derived.ProofKit
import Derived.Test.YtciaficoeajeaaaGreatDoorWSm4
import Derived.Test.YtciaficoeajeaaaGreatDoorWSm3
import Derived.Test.YtciaficoeajeaaaGreatDoorWSJoinedP
import Derived.Test.YtciaficoeajeaaaGreatDoorWSErrsM
import Derived.Lib.SmallJoins
import Derived.OpenShut
import Derived.ShutString
import Derived.ChangeOld
import Derived.Below
set_option linter.unusedVariables false
set_option linter.unusedSimpArgs false
set_option linter.unusedSectionVars false
namespace Go.Proofs.YtciaficoeajeaaaGreatDoor
open Go.ChangeShapes Go.WideShapes Go.ChangeAt Go.RowKit Go.Joins
open Go.ChangeMaps (open_string shut_string)
theorem walkSees_j0 : (Rows.walkSeesRow.wf (OpenSpec.ofChange Rows.walkSeesSpec)) = true := by kernel_rfl
theorem walkSees_j3 : (Tryz.f7.params.all (Tryz.pinned.checked.prog.readableRec ·)) = true := by kernel_rfl
theorem walkSees_j4 : (namedTie Tryz.pinned.checked.prog Rows.walkSeesRow.named Rows.walkSeesSpec.vars) = true := by kernel_rfl
theorem walkSees_j5 : ((Rows.walkSeesRow.stops == [])) = true := by kernel_rfl
theorem walkSees_j7 : ((Rows.walkSeesRow.knobs == [])) = true := by kernel_rfl
theorem walkSees_j9 : ((Rows.walkSeesRow.inPlace == Tryz.pinned.checked.prog.inPlace 7)) = true := by kernel_rfl
theorem walkSees_j10 : ((Rows.walkSeesRow.unfollowed == Tryz.pinned.checked.prog.unfollowed 7)) = true := by kernel_rfl
theorem walkSees_j11 : ((Rows.walkSeesRow.recurses == Tryz.pinned.checked.prog.recurses 7)) = true := by kernel_rfl
theorem walkSees_j12 : ((Rows.walkSeesRow.named == Tryz.pinned.checked.prog.varsNamed 7)) = true := by kernel_rfl
theorem walkSees_j13 : ((Rows.walkSeesRow.maps == (Tryz.f7.params.toList ++ Rows.walkSeesSpec.plain.varTypes Tryz.pinned.checked.prog).any (Tryz.pinned.checked.prog.mapsRec ·))) = true := by kernel_rfl
theorem walkSees_j14 : ((Rows.walkSeesRow.ifaces == (Tryz.f7.params.toList ++ Rows.walkSeesSpec.plain.varTypes Tryz.pinned.checked.prog).any (Tryz.pinned.checked.prog.ifacesRec ·))) = true := by kernel_rfl
theorem walkSees_j15 : ((Rows.walkSeesRow.mapsOut == Tryz.pinned.checked.prog.mapsAmong Tryz.f7.resultTypes.toList)) = true := by kernel_rfl
theorem walkSees_j16 : ((Rows.walkSeesRow.loops == (Tryz.f7.params.toList ++ Rows.walkSeesSpec.plain.varTypes Tryz.pinned.checked.prog).any (Tryz.pinned.checked.prog.loopsFrom ·))) = true := by kernel_rfl
theorem walkSees_j17 : ((Rows.walkSeesRow.wideKeys == (Tryz.f7.params.toList ++ Rows.walkSeesSpec.plain.varTypes Tryz.pinned.checked.prog ++ Tryz.f7.resultTypes.toList).any (Tryz.pinned.checked.prog.wideKeysFrom ·))) = true := by kernel_rfl
theorem walkSees_j18 : (Rows.walkSeesSpec.vars.all (Tryz.pinned.checked.prog.varReadable ·)) = true := by kernel_rfl
theorem walkSees_j19 : (Tryz.f7.resultTypes.all (fun t => Tryz.pinned.checked.prog.readableRec t && decide (t < Tryz.pinned.checked.prog.types.size))) = true := by kernel_rfl
theorem walkSees_j20 : ((Rows.walkSeesRow.ifacesOut == Tryz.f7.resultTypes.toList.any (Tryz.pinned.checked.prog.ifacesRec ·))) = true := by kernel_rfl
theorem walkSees_j21 : ((Rows.walkSeesRow.loopsOut == Tryz.f7.resultTypes.toList.any (Tryz.pinned.checked.prog.loopsFrom ·))) = true := by kernel_rfl
theorem walkSees_j22 : ((Rows.walkSeesRow.plainKeys == Tryz.pinned.checked.prog.plainKeys)) = true := by
  rw [show Rows.walkSeesRow.plainKeys = true from rfl]; exact jp22
theorem walkSees_j23 : (Rows.walkSeesRow.shortTexts.isNone) = true := by kernel_rfl
theorem walkSees_j26 : ((Rows.walkSeesRow.lifted == Tryz.pinned.checked.prog.liftsFinal)) = true := by
  rw [show Rows.walkSeesRow.lifted = false from rfl]; exact jp26
theorem walkSees_j27 : ((Tryz.pinned.checked.prog.make == some Rows.walkSeesRow.make)) = true := by
  rw [show Rows.walkSeesRow.make = Make.cut from rfl]; exact jp27
theorem walkSees_j28 : ((Rows.walkSeesRow.kinds == kindsOf Tryz.pinned.checked.prog Rows.walkSeesRow.domain.isEmpty Tryz.f7.params.toList)) = true := by kernel_rfl
theorem walkSees_j29 : ((Rows.walkSeesRow.pinned == Rows.walkSeesRow.pinnedBy)) = true := by kernel_rfl
theorem walkSees_j30 : ((Rows.walkSeesRow.veiled == (Tryz.f7.params.toList ++ Rows.walkSeesSpec.plain.varTypes Tryz.pinned.checked.prog ++ Tryz.f7.resultTypes.toList).any (Tryz.pinned.checked.prog.veiledRec ·))) = true := by kernel_rfl
theorem walkSees_j31 : (Rows.walkSeesRow.veiledFits Tryz.pinned.checked.prog Tryz.f7.params.toList (Tryz.f7.params.toList ++ Rows.walkSeesSpec.plain.varTypes Tryz.pinned.checked.prog ++ Tryz.f7.resultTypes.toList)) = true := by kernel_rfl
theorem walkSees_joined : joinedFacts Tryz.pinned.checked.prog 7 Tryz.f7 Rows.walkSeesSpec Rows.walkSeesRow = true :=
  joined_of (P := Tryz.pinned.checked.prog) (f := 7) (fn := Tryz.f7) (s := Rows.walkSeesSpec) (c := Rows.walkSeesRow) walkSees_j0 jp1 jp2 walkSees_j3 walkSees_j4 walkSees_j5 jp6 walkSees_j7 jp8 walkSees_j9 walkSees_j10 walkSees_j11 walkSees_j12 walkSees_j13 walkSees_j14 walkSees_j15 walkSees_j16 walkSees_j17 walkSees_j18 walkSees_j19 walkSees_j20 walkSees_j21 walkSees_j22 walkSees_j23 jp24 jp25 walkSees_j26 walkSees_j27 walkSees_j28 walkSees_j29 walkSees_j30 walkSees_j31
theorem laid_errs_walkSees : (Rows.walkSeesRow.laid.filter fun x => x.2.handleName?.isSome) = [hd10] ∧ ((Rows.walkSeesRow.laid.filter fun x => x.2.handleName?.isNone).drop 0).take 7 = lstI [1, 2, 3, 4, 5, 6, 8] := ⟨by kernel_rfl, by kernel_rfl⟩
set_option maxRecDepth 100000 in
theorem walkSees_lifted (walk : ∀ (a0 : Bool) (a1 : Int) (w : World), (Lit.int .i64 a1).wf = true → (∃ a, ErrsM w a) → Calls Tryz.prog 7 #[.bool a0, .int .i64 a1] w fun e w' => e = .returned (.bool true) ∧ Below w.heap.size w w')
    (os : Os) (started : os.Started) (H : Type) (enc : TypeId × Value → H) :
    ReturnsInHanded {} Tryz.checked os 7 .any (fun w args => (Rows.walkSeesSpec.pre enc Tryz.prog Tryz.f7 [] false w args ∧ laidMetH Tryz.prog Rows.walkSeesRow.laid w) ∧ sizedMet enc Tryz.prog Tryz.f7 (OpenSpec.ofChange Rows.walkSeesSpec) false w args)
      (Rows.walkSeesSpec.post enc Tryz.prog Tryz.f7 false true false false) := by
  refine returnsInHanded_of_change_and (C := Tryz.checked) (X := fun w _ => laidMetH Tryz.prog Rows.walkSeesRow.laid w) (fun _ _ _ hh h => h.of_heap hh) own started (by kernel_rfl) Tryz.func7
    (ChangeSpec.witness_at (enc := enc) (C := Tryz.checked) (os := os) (X := fun w _ => laidMetH Tryz.prog Rows.walkSeesRow.laid w) false (laidWorld os) #[.bool false, .int .i64 0] 8 rfl (by kernel_rfl) (by kernel_rfl) (by kernel_rfl) (by kernel_rfl) (by kernel_rfl) (laid_met_walkSees os _)) ?_
  intro W base args ds gs before hval0 hW _ _ hL _
  have hval : ∀ (j : Nat) t v, Tryz.f7.params[j]? = some t → args[j]? = some v → Value.okWide Tryz.prog W .any base t v := hval0
  have hW' := hW
  obtain ⟨p, q, hA0, hV, rfl, hfz, hnd⟩ := hW
  have hA : DataW.TrodAll enc Tryz.prog W 0 (fun _ => true) true Tryz.f7.params.toList args.toList ds p := hA0
  rw [Tryz.params7] at hA hval
  obtain ⟨v0, vs0, d0, ds0, p0, q0, hargs, rfl, rfl, h0, r0⟩ := trodAll_cons hA
  obtain ⟨v1, vs1, d1, ds1, p1, q1, rfl, rfl, rfl, h1, r1⟩ := trodAll_cons r0
  obtain ⟨rfl, rfl, rfl⟩ := trodAll_nil r1
  obtain rfl : args = #[v0, v1] := by cases args; simp_all
  obtain ⟨rfl, rfl⟩ := trodVars_none hV
  obtain ⟨a0, rfl, rfl, rfl⟩ := open_bool Tryz.underlying4 (hval 0 4 v0 rfl rfl) h0
  obtain ⟨a1, rfl, rfl, rfl, w1⟩ := open_int Tryz.underlying3 (hval 1 3 v1 rfl rfl) h1
  clear hA0 hval0
  refine (walk a0 a1 W w1 (errsM_of_laid laid_errs_walkSees.1 laid_errs_walkSees.2 hL)).mono fun e W' ⟨he, bel⟩ => ?_
  subst he
  exact ⟨_, rfl, _, _, _, [], _, [], hW', trodAll_mk1 (shut_bool Tryz.underlying4 _), (trodAll_cons_mk (shut_bool Tryz.underlying4 a0) (trodAll_cons_mk (shut_int Tryz.underlying3 w1) trodAll_mk0)), rfl, bel.frame _, fun h => by cases h⟩
theorem walkSees_over (walk : ∀ (a0 : Bool) (a1 : Int) (w : World), (Lit.int .i64 a1).wf = true → (∃ a, ErrsM w a) → Calls Tryz.prog 7 #[.bool a0, .int .i64 a1] w fun e w' => e = .returned (.bool true) ∧ Below w.heap.size w w') :
    Rows.WalkSeesSaid :=
  OpenClaim.holds_of_wide 7 Tryz.f7 rfl rfl rfl rfl rfl rfl rfl ⟨rfl, rfl, rfl, rfl, rfl⟩ rfl rfl rfl rfl rfl (by kernel_rfl) Tryz.func7 walkSees_joined
    (of_decide_eq_true (by kernel_rfl)) (by unfold Func.isWrapper; first | (rw [if_pos (by decide +kernel)]; kernel_rfl) | (rw [if_neg (by decide +kernel)]; exact ⟨rfl, rfl⟩))
    (fun os started H enc _ => walkSees_lifted walk os started H enc)
end Go.Proofs.YtciaficoeajeaaaGreatDoor
