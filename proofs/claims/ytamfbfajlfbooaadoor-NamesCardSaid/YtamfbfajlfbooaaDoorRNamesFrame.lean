/- Names: the row, out of its walk. -/
import Derived.Test.YtamfbfajlfbooaaDoorRLaid
import Derived.Test.YtamfbfajlfbooaaDoorRJoinedP
import Derived.Test.YtamfbfajlfbooaaDoorRm3
import Derived.Test.YtamfbfajlfbooaaDoorRErrsLaw
import Derived.Lib.SmallJoins
import Derived.OpenShut
import Derived.ShutString
import Derived.ChangeOld
import Derived.Below
set_option linter.unusedVariables false
set_option linter.unusedSimpArgs false
set_option linter.unusedSectionVars false
namespace Go.Proofs.YtamfbfajlfbooaaDoor
open Go.ChangeShapes Go.WideShapes Go.ChangeAt Go.RowKit Go.Joins
open Go.ChangeMaps (open_string shut_string)
theorem names_j0 : (Rows.namesRow.wf (OpenSpec.ofChange Rows.namesSpec)) = true := by kernel_rfl
theorem names_j3 : (Tryd.f6.params.all (Tryd.pinned.checked.prog.readableRec ·)) = true := by kernel_rfl
theorem names_j4 : (namedTie Tryd.pinned.checked.prog Rows.namesRow.named Rows.namesSpec.vars) = true := by kernel_rfl
theorem names_j5 : ((Rows.namesRow.stops == [])) = true := by kernel_rfl
theorem names_j7 : ((Rows.namesRow.knobs == [])) = true := by kernel_rfl
theorem names_j9 : ((Rows.namesRow.inPlace == Tryd.pinned.checked.prog.inPlace 6)) = true := by kernel_rfl
theorem names_j10 : ((Rows.namesRow.unfollowed == Tryd.pinned.checked.prog.unfollowed 6)) = true := by kernel_rfl
theorem names_j11 : ((Rows.namesRow.recurses == Tryd.pinned.checked.prog.recurses 6)) = true := by kernel_rfl
theorem names_j12 : ((Rows.namesRow.named == Tryd.pinned.checked.prog.varsNamed 6)) = true := by kernel_rfl
theorem names_j13 : ((Rows.namesRow.maps == (Tryd.f6.params.toList ++ Rows.namesSpec.plain.varTypes Tryd.pinned.checked.prog).any (Tryd.pinned.checked.prog.mapsRec ·))) = true := by kernel_rfl
theorem names_j14 : ((Rows.namesRow.ifaces == (Tryd.f6.params.toList ++ Rows.namesSpec.plain.varTypes Tryd.pinned.checked.prog).any (Tryd.pinned.checked.prog.ifacesRec ·))) = true := by kernel_rfl
theorem names_j15 : ((Rows.namesRow.mapsOut == Tryd.pinned.checked.prog.mapsAmong Tryd.f6.resultTypes.toList)) = true := by kernel_rfl
theorem names_j16 : ((Rows.namesRow.loops == (Tryd.f6.params.toList ++ Rows.namesSpec.plain.varTypes Tryd.pinned.checked.prog).any (Tryd.pinned.checked.prog.loopsFrom ·))) = true := by kernel_rfl
theorem names_j17 : ((Rows.namesRow.wideKeys == (Tryd.f6.params.toList ++ Rows.namesSpec.plain.varTypes Tryd.pinned.checked.prog ++ Tryd.f6.resultTypes.toList).any (Tryd.pinned.checked.prog.wideKeysFrom ·))) = true := by kernel_rfl
theorem names_j18 : (Rows.namesSpec.vars.all (Tryd.pinned.checked.prog.varReadable ·)) = true := by kernel_rfl
theorem names_j19 : (Tryd.f6.resultTypes.all (fun t => Tryd.pinned.checked.prog.readableRec t && decide (t < Tryd.pinned.checked.prog.types.size))) = true := by kernel_rfl
theorem names_j20 : ((Rows.namesRow.ifacesOut == Tryd.f6.resultTypes.toList.any (Tryd.pinned.checked.prog.ifacesRec ·))) = true := by kernel_rfl
theorem names_j21 : ((Rows.namesRow.loopsOut == Tryd.f6.resultTypes.toList.any (Tryd.pinned.checked.prog.loopsFrom ·))) = true := by kernel_rfl
theorem names_j22 : ((Rows.namesRow.plainKeys == Tryd.pinned.checked.prog.plainKeys)) = true := by
  rw [show Rows.namesRow.plainKeys = true from rfl]; exact jp22
theorem names_j23 : (Rows.namesRow.shortTexts.isNone) = true := by kernel_rfl
theorem names_j26 : ((Rows.namesRow.lifted == Tryd.pinned.checked.prog.liftsFinal)) = true := by
  rw [show Rows.namesRow.lifted = false from rfl]; exact jp26
theorem names_j27 : ((Tryd.pinned.checked.prog.make == some Rows.namesRow.make)) = true := by
  rw [show Rows.namesRow.make = Make.cut from rfl]; exact jp27
theorem names_j28 : ((Rows.namesRow.kinds == kindsOf Tryd.pinned.checked.prog Rows.namesRow.domain.isEmpty Tryd.f6.params.toList)) = true := by kernel_rfl
theorem names_j29 : ((Rows.namesRow.pinned == Rows.namesRow.pinnedBy)) = true := by kernel_rfl
theorem names_j30 : ((Rows.namesRow.veiled == (Tryd.f6.params.toList ++ Rows.namesSpec.plain.varTypes Tryd.pinned.checked.prog ++ Tryd.f6.resultTypes.toList).any (Tryd.pinned.checked.prog.veiledRec ·))) = true := by kernel_rfl
theorem names_j31 : (Rows.namesRow.veiledFits Tryd.pinned.checked.prog Tryd.f6.params.toList (Tryd.f6.params.toList ++ Rows.namesSpec.plain.varTypes Tryd.pinned.checked.prog ++ Tryd.f6.resultTypes.toList)) = true := by kernel_rfl
theorem names_joined : joinedFacts Tryd.pinned.checked.prog 6 Tryd.f6 Rows.namesSpec Rows.namesRow = true :=
  joined_of (P := Tryd.pinned.checked.prog) (f := 6) (fn := Tryd.f6) (s := Rows.namesSpec) (c := Rows.namesRow) names_j0 jp1 jp2 names_j3 names_j4 names_j5 jp6 names_j7 jp8 names_j9 names_j10 names_j11 names_j12 names_j13 names_j14 names_j15 names_j16 names_j17 names_j18 names_j19 names_j20 names_j21 names_j22 names_j23 jp24 jp25 names_j26 names_j27 names_j28 names_j29 names_j30 names_j31
set_option maxRecDepth 100000 in
theorem names_lifted (walk : ∀  (w : World), (∃ a, ErrsAt w a) → Calls Tryd.prog 6 #[] w fun e w' => e = .returned (.bool true) ∧ Below w.heap.size w w')
    (os : Os) (started : os.Started) (H : Type) (enc : TypeId × Value → H) :
    ReturnsInHanded {} Tryd.checked os 6 .any (fun w args => (Rows.namesSpec.pre enc Tryd.prog Tryd.f6 [] false w args ∧ laidMetH Tryd.prog Rows.namesRow.laid w) ∧ sizedMet enc Tryd.prog Tryd.f6 (OpenSpec.ofChange Rows.namesSpec) false w args)
      (Rows.namesSpec.post enc Tryd.prog Tryd.f6 false true false false) := by
  refine returnsInHanded_of_change_and (C := Tryd.checked) (X := fun w _ => laidMetH Tryd.prog Rows.namesRow.laid w) (fun _ _ _ hh h => h.of_heap hh) own started (by kernel_rfl) Tryd.func6
    (ChangeSpec.witness_at (enc := enc) (C := Tryd.checked) (os := os) (X := fun w _ => laidMetH Tryd.prog Rows.namesRow.laid w) false (laidWorld os) #[] 8 rfl (by kernel_rfl) (by kernel_rfl) (by kernel_rfl) (by kernel_rfl) (by kernel_rfl) (laid_met10 os _)) ?_
  intro W base args ds gs before hval0 hW _ _ hL _
  have hval : ∀ (j : Nat) t v, Tryd.f6.params[j]? = some t → args[j]? = some v → Value.okWide Tryd.prog W .any base t v := hval0
  have hW' := hW
  obtain ⟨p, q, hA0, hV, rfl, hfz, hnd⟩ := hW
  have hA : DataW.TrodAll enc Tryd.prog W 0 (fun _ => true) true Tryd.f6.params.toList args.toList ds p := hA0
  rw [Tryd.params6] at hA hval
  obtain ⟨hargs, rfl, rfl⟩ := trodAll_nil hA
  obtain rfl : args = #[] := by cases args; simp_all
  obtain ⟨rfl, rfl⟩ := trodVars_none hV
  clear hA0 hval0
  refine (walk  W  (errs_of_laid hL)).mono fun e W' ⟨he, bel⟩ => ?_
  subst he
  exact ⟨_, rfl, _, _, _, [], _, [], hW', trodAll_mk1 (shut_bool Tryd.underlying4 _), trodAll_mk0, rfl, bel.frame _, fun h => by cases h⟩
theorem names_over (walk : ∀  (w : World), (∃ a, ErrsAt w a) → Calls Tryd.prog 6 #[] w fun e w' => e = .returned (.bool true) ∧ Below w.heap.size w w') :
    Rows.NamesSaid :=
  OpenClaim.holds_of_wide 6 Tryd.f6 rfl rfl rfl rfl rfl rfl rfl ⟨rfl, rfl, rfl, rfl, rfl⟩ rfl rfl rfl rfl rfl (by kernel_rfl) Tryd.func6 names_joined
    (of_decide_eq_true (by kernel_rfl)) (by unfold Func.isWrapper; first | (rw [if_pos (by decide +kernel)]; kernel_rfl) | (rw [if_neg (by decide +kernel)]; exact ⟨rfl, rfl⟩))
    (fun os started H enc _ => names_lifted walk os started H enc)
end Go.Proofs.YtamfbfajlfbooaaDoor
