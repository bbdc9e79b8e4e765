/- StackCode: the row, out of its walk. -/
import Derived.Test.YtamfbfajlfbooaaDoorRLaid
import Derived.Test.YtamfbfajlfbooaaDoorRJoinedP
import Derived.Test.YtamfbfajlfbooaaDoorRm3
import Derived.Test.YtamfbfajlfbooaaDoorRErrsLaw
import Derived.Lib.SmallJoins
import Derived.OpenShut
import Derived.ShutString
import Derived.ChangeOld
import Derived.Below
set_option linter.unusedVariables false
set_option linter.unusedSimpArgs false
set_option linter.unusedSectionVars false
namespace Go.Proofs.YtamfbfajlfbooaaDoor
open Go.ChangeShapes Go.WideShapes Go.ChangeAt Go.RowKit Go.Joins
open Go.ChangeMaps (open_string shut_string)
theorem stackCode_j0 : (Rows.stackCodeRow.wf (OpenSpec.ofChange Rows.stackCodeSpec)) = true := by kernel_rfl
theorem stackCode_j3 : (Tryd.f12.params.all (Tryd.pinned.checked.prog.readableRec ·)) = true := by kernel_rfl
theorem stackCode_j4 : (namedTie Tryd.pinned.checked.prog Rows.stackCodeRow.named Rows.stackCodeSpec.vars) = true := by kernel_rfl
theorem stackCode_j5 : ((Rows.stackCodeRow.stops == [])) = true := by kernel_rfl
theorem stackCode_j7 : ((Rows.stackCodeRow.knobs == [])) = true := by kernel_rfl
theorem stackCode_j9 : ((Rows.stackCodeRow.inPlace == Tryd.pinned.checked.prog.inPlace 12)) = true := by kernel_rfl
theorem stackCode_j10 : ((Rows.stackCodeRow.unfollowed == Tryd.pinned.checked.prog.unfollowed 12)) = true := by kernel_rfl
theorem stackCode_j11 : ((Rows.stackCodeRow.recurses == Tryd.pinned.checked.prog.recurses 12)) = true := by kernel_rfl
theorem stackCode_j12 : ((Rows.stackCodeRow.named == Tryd.pinned.checked.prog.varsNamed 12)) = true := by kernel_rfl
theorem stackCode_j13 : ((Rows.stackCodeRow.maps == (Tryd.f12.params.toList ++ Rows.stackCodeSpec.plain.varTypes Tryd.pinned.checked.prog).any (Tryd.pinned.checked.prog.mapsRec ·))) = true := by kernel_rfl
theorem stackCode_j14 : ((Rows.stackCodeRow.ifaces == (Tryd.f12.params.toList ++ Rows.stackCodeSpec.plain.varTypes Tryd.pinned.checked.prog).any (Tryd.pinned.checked.prog.ifacesRec ·))) = true := by kernel_rfl
theorem stackCode_j15 : ((Rows.stackCodeRow.mapsOut == Tryd.pinned.checked.prog.mapsAmong Tryd.f12.resultTypes.toList)) = true := by kernel_rfl
theorem stackCode_j16 : ((Rows.stackCodeRow.loops == (Tryd.f12.params.toList ++ Rows.stackCodeSpec.plain.varTypes Tryd.pinned.checked.prog).any (Tryd.pinned.checked.prog.loopsFrom ·))) = true := by kernel_rfl
theorem stackCode_j17 : ((Rows.stackCodeRow.wideKeys == (Tryd.f12.params.toList ++ Rows.stackCodeSpec.plain.varTypes Tryd.pinned.checked.prog ++ Tryd.f12.resultTypes.toList).any (Tryd.pinned.checked.prog.wideKeysFrom ·))) = true := by kernel_rfl
theorem stackCode_j18 : (Rows.stackCodeSpec.vars.all (Tryd.pinned.checked.prog.varReadable ·)) = true := by kernel_rfl
theorem stackCode_j19 : (Tryd.f12.resultTypes.all (fun t => Tryd.pinned.checked.prog.readableRec t && decide (t < Tryd.pinned.checked.prog.types.size))) = true := by kernel_rfl
theorem stackCode_j20 : ((Rows.stackCodeRow.ifacesOut == Tryd.f12.resultTypes.toList.any (Tryd.pinned.checked.prog.ifacesRec ·))) = true := by kernel_rfl
theorem stackCode_j21 : ((Rows.stackCodeRow.loopsOut == Tryd.f12.resultTypes.toList.any (Tryd.pinned.checked.prog.loopsFrom ·))) = true := by kernel_rfl
theorem stackCode_j22 : ((Rows.stackCodeRow.plainKeys == Tryd.pinned.checked.prog.plainKeys)) = true := by
  rw [show Rows.stackCodeRow.plainKeys = true from rfl]; exact jp22
theorem stackCode_j23 : (Rows.stackCodeRow.shortTexts.isNone) = true := by kernel_rfl
theorem stackCode_j26 : ((Rows.stackCodeRow.lifted == Tryd.pinned.checked.prog.liftsFinal)) = true := by
  rw [show Rows.stackCodeRow.lifted = false from rfl]; exact jp26
theorem stackCode_j27 : ((Tryd.pinned.checked.prog.make == some Rows.stackCodeRow.make)) = true := by
  rw [show Rows.stackCodeRow.make = Make.cut from rfl]; exact jp27
theorem stackCode_j28 : ((Rows.stackCodeRow.kinds == kindsOf Tryd.pinned.checked.prog Rows.stackCodeRow.domain.isEmpty Tryd.f12.params.toList)) = true := by kernel_rfl
theorem stackCode_j29 : ((Rows.stackCodeRow.pinned == Rows.stackCodeRow.pinnedBy)) = true := by kernel_rfl
theorem stackCode_j30 : ((Rows.stackCodeRow.veiled == (Tryd.f12.params.toList ++ Rows.stackCodeSpec.plain.varTypes Tryd.pinned.checked.prog ++ Tryd.f12.resultTypes.toList).any (Tryd.pinned.checked.prog.veiledRec ·))) = true := by kernel_rfl
theorem stackCode_j31 : (Rows.stackCodeRow.veiledFits Tryd.pinned.checked.prog Tryd.f12.params.toList (Tryd.f12.params.toList ++ Rows.stackCodeSpec.plain.varTypes Tryd.pinned.checked.prog ++ Tryd.f12.resultTypes.toList)) = true := by kernel_rfl
theorem stackCode_joined : joinedFacts Tryd.pinned.checked.prog 12 Tryd.f12 Rows.stackCodeSpec Rows.stackCodeRow = true :=
  joined_of (P := Tryd.pinned.checked.prog) (f := 12) (fn := Tryd.f12) (s := Rows.stackCodeSpec) (c := Rows.stackCodeRow) stackCode_j0 jp1 jp2 stackCode_j3 stackCode_j4 stackCode_j5 jp6 stackCode_j7 jp8 stackCode_j9 stackCode_j10 stackCode_j11 stackCode_j12 stackCode_j13 stackCode_j14 stackCode_j15 stackCode_j16 stackCode_j17 stackCode_j18 stackCode_j19 stackCode_j20 stackCode_j21 stackCode_j22 stackCode_j23 jp24 jp25 stackCode_j26 stackCode_j27 stackCode_j28 stackCode_j29 stackCode_j30 stackCode_j31
set_option maxRecDepth 100000 in
theorem stackCode_lifted (walk : ∀ (a0 : ByteArray) (w : World), a0.size ≤ maxLen → (∃ a, ErrsAt w a) → Calls Tryd.prog 12 #[.string a0] w fun e w' => e = .returned (.bool true) ∧ Below w.heap.size w w')
    (os : Os) (started : os.Started) (H : Type) (enc : TypeId × Value → H) :
    ReturnsInHanded {} Tryd.checked os 12 .any (fun w args => (Rows.stackCodeSpec.pre enc Tryd.prog Tryd.f12 [] false w args ∧ laidMetH Tryd.prog Rows.stackCodeRow.laid w) ∧ sizedMet enc Tryd.prog Tryd.f12 (OpenSpec.ofChange Rows.stackCodeSpec) false w args)
      (Rows.stackCodeSpec.post enc Tryd.prog Tryd.f12 false true false false) := by
  refine returnsInHanded_of_change_and (C := Tryd.checked) (X := fun w _ => laidMetH Tryd.prog Rows.stackCodeRow.laid w) (fun _ _ _ hh h => h.of_heap hh) own started (by kernel_rfl) Tryd.func12
    (ChangeSpec.witness_at (enc := enc) (C := Tryd.checked) (os := os) (X := fun w _ => laidMetH Tryd.prog Rows.stackCodeRow.laid w) false (laidWorld os) #[.string ByteArray.empty] 8 rfl (by kernel_rfl) (by kernel_rfl) (by kernel_rfl) (by kernel_rfl) (by kernel_rfl) (laid_met10 os _)) ?_
  intro W base args ds gs before hval0 hW _ _ hL _
  have hval : ∀ (j : Nat) t v, Tryd.f12.params[j]? = some t → args[j]? = some v → Value.okWide Tryd.prog W .any base t v := hval0
  have hW' := hW
  obtain ⟨p, q, hA0, hV, rfl, hfz, hnd⟩ := hW
  have hA : DataW.TrodAll enc Tryd.prog W 0 (fun _ => true) true Tryd.f12.params.toList args.toList ds p := hA0
  rw [Tryd.params12] at hA hval
  obtain ⟨v0, vs0, d0, ds0, p0, q0, hargs, rfl, rfl, h0, r0⟩ := trodAll_cons hA
  obtain ⟨rfl, rfl, rfl⟩ := trodAll_nil r0
  obtain rfl : args = #[v0] := by cases args; simp_all
  obtain ⟨rfl, rfl⟩ := trodVars_none hV
  obtain ⟨a0, rfl, rfl, rfl, w0⟩ := open_string Tryd.underlying9 (hval 0 9 v0 rfl rfl) h0
  clear hA0 hval0
  refine (walk a0 W w0 (errs_of_laid hL)).mono fun e W' ⟨he, bel⟩ => ?_
  subst he
  exact ⟨_, rfl, _, _, _, [], _, [], hW', trodAll_mk1 (shut_bool Tryd.underlying4 _), (trodAll_cons_mk (shut_string Tryd.underlying9 w0) trodAll_mk0), rfl, bel.frame _, fun h => by cases h⟩
theorem stackCode_over (walk : ∀ (a0 : ByteArray) (w : World), a0.size ≤ maxLen → (∃ a, ErrsAt w a) → Calls Tryd.prog 12 #[.string a0] w fun e w' => e = .returned (.bool true) ∧ Below w.heap.size w w') :
    Rows.StackCodeSaid :=
  OpenClaim.holds_of_wide 12 Tryd.f12 rfl rfl rfl rfl rfl rfl rfl ⟨rfl, rfl, rfl, rfl, rfl⟩ rfl rfl rfl rfl rfl (by kernel_rfl) Tryd.func12 stackCode_joined
    (of_decide_eq_true (by kernel_rfl)) (by unfold Func.isWrapper; first | (rw [if_pos (by decide +kernel)]; kernel_rfl) | (rw [if_neg (by decide +kernel)]; exact ⟨rfl, rfl⟩))
    (fun os started H enc _ => stackCode_lifted walk os started H enc)
end Go.Proofs.YtamfbfajlfbooaaDoor
