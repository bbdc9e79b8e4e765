/- QueueCode: the row, out of its walk. -/
import Derived.Test.YtamfbfajlfbooaaDoorRLaid
import Derived.Test.YtamfbfajlfbooaaDoorRJoinedP
import Derived.Test.YtamfbfajlfbooaaDoorRm3
import Derived.Test.YtamfbfajlfbooaaDoorRErrsLaw
import Derived.Lib.SmallJoins
import Derived.OpenShut
import Derived.ShutString
import Derived.ChangeOld
import Derived.Below
set_option linter.unusedVariables false
set_option linter.unusedSimpArgs false
set_option linter.unusedSectionVars false
namespace Go.Proofs.YtamfbfajlfbooaaDoor
open Go.ChangeShapes Go.WideShapes Go.ChangeAt Go.RowKit Go.Joins
open Go.ChangeMaps (open_string shut_string)
theorem queueCode_j0 : (Rows.queueCodeRow.wf (OpenSpec.ofChange Rows.queueCodeSpec)) = true := by kernel_rfl
theorem queueCode_j3 : (Tryd.f17.params.all (Tryd.pinned.checked.prog.readableRec ·)) = true := by kernel_rfl
theorem queueCode_j4 : (namedTie Tryd.pinned.checked.prog Rows.queueCodeRow.named Rows.queueCodeSpec.vars) = true := by kernel_rfl
theorem queueCode_j5 : ((Rows.queueCodeRow.stops == [])) = true := by kernel_rfl
theorem queueCode_j7 : ((Rows.queueCodeRow.knobs == [])) = true := by kernel_rfl
theorem queueCode_j9 : ((Rows.queueCodeRow.inPlace == Tryd.pinned.checked.prog.inPlace 17)) = true := by kernel_rfl
theorem queueCode_j10 : ((Rows.queueCodeRow.unfollowed == Tryd.pinned.checked.prog.unfollowed 17)) = true := by kernel_rfl
theorem queueCode_j11 : ((Rows.queueCodeRow.recurses == Tryd.pinned.checked.prog.recurses 17)) = true := by kernel_rfl
theorem queueCode_j12 : ((Rows.queueCodeRow.named == Tryd.pinned.checked.prog.varsNamed 17)) = true := by kernel_rfl
theorem queueCode_j13 : ((Rows.queueCodeRow.maps == (Tryd.f17.params.toList ++ Rows.queueCodeSpec.plain.varTypes Tryd.pinned.checked.prog).any (Tryd.pinned.checked.prog.mapsRec ·))) = true := by kernel_rfl
theorem queueCode_j14 : ((Rows.queueCodeRow.ifaces == (Tryd.f17.params.toList ++ Rows.queueCodeSpec.plain.varTypes Tryd.pinned.checked.prog).any (Tryd.pinned.checked.prog.ifacesRec ·))) = true := by kernel_rfl
theorem queueCode_j15 : ((Rows.queueCodeRow.mapsOut == Tryd.pinned.checked.prog.mapsAmong Tryd.f17.resultTypes.toList)) = true := by kernel_rfl
theorem queueCode_j16 : ((Rows.queueCodeRow.loops == (Tryd.f17.params.toList ++ Rows.queueCodeSpec.plain.varTypes Tryd.pinned.checked.prog).any (Tryd.pinned.checked.prog.loopsFrom ·))) = true := by kernel_rfl
theorem queueCode_j17 : ((Rows.queueCodeRow.wideKeys == (Tryd.f17.params.toList ++ Rows.queueCodeSpec.plain.varTypes Tryd.pinned.checked.prog ++ Tryd.f17.resultTypes.toList).any (Tryd.pinned.checked.prog.wideKeysFrom ·))) = true := by kernel_rfl
theorem queueCode_j18 : (Rows.queueCodeSpec.vars.all (Tryd.pinned.checked.prog.varReadable ·)) = true := by kernel_rfl
theorem queueCode_j19 : (Tryd.f17.resultTypes.all (fun t => Tryd.pinned.checked.prog.readableRec t && decide (t < Tryd.pinned.checked.prog.types.size))) = true := by kernel_rfl
theorem queueCode_j20 : ((Rows.queueCodeRow.ifacesOut == Tryd.f17.resultTypes.toList.any (Tryd.pinned.checked.prog.ifacesRec ·))) = true := by kernel_rfl
theorem queueCode_j21 : ((Rows.queueCodeRow.loopsOut == Tryd.f17.resultTypes.toList.any (Tryd.pinned.checked.prog.loopsFrom ·))) = true := by kernel_rfl
theorem queueCode_j22 : ((Rows.queueCodeRow.plainKeys == Tryd.pinned.checked.prog.plainKeys)) = true := by
  rw [show Rows.queueCodeRow.plainKeys = true from rfl]; exact jp22
theorem queueCode_j23 : (Rows.queueCodeRow.shortTexts.isNone) = true := by kernel_rfl
theorem queueCode_j26 : ((Rows.queueCodeRow.lifted == Tryd.pinned.checked.prog.liftsFinal)) = true := by
  rw [show Rows.queueCodeRow.lifted = false from rfl]; exact jp26
theorem queueCode_j27 : ((Tryd.pinned.checked.prog.make == some Rows.queueCodeRow.make)) = true := by
  rw [show Rows.queueCodeRow.make = Make.cut from rfl]; exact jp27
theorem queueCode_j28 : ((Rows.queueCodeRow.kinds == kindsOf Tryd.pinned.checked.prog Rows.queueCodeRow.domain.isEmpty Tryd.f17.params.toList)) = true := by kernel_rfl
theorem queueCode_j29 : ((Rows.queueCodeRow.pinned == Rows.queueCodeRow.pinnedBy)) = true := by kernel_rfl
theorem queueCode_j30 : ((Rows.queueCodeRow.veiled == (Tryd.f17.params.toList ++ Rows.queueCodeSpec.plain.varTypes Tryd.pinned.checked.prog ++ Tryd.f17.resultTypes.toList).any (Tryd.pinned.checked.prog.veiledRec ·))) = true := by kernel_rfl
theorem queueCode_j31 : (Rows.queueCodeRow.veiledFits Tryd.pinned.checked.prog Tryd.f17.params.toList (Tryd.f17.params.toList ++ Rows.queueCodeSpec.plain.varTypes Tryd.pinned.checked.prog ++ Tryd.f17.resultTypes.toList)) = true := by kernel_rfl
theorem queueCode_joined : joinedFacts Tryd.pinned.checked.prog 17 Tryd.f17 Rows.queueCodeSpec Rows.queueCodeRow = true :=
  joined_of (P := Tryd.pinned.checked.prog) (f := 17) (fn := Tryd.f17) (s := Rows.queueCodeSpec) (c := Rows.queueCodeRow) queueCode_j0 jp1 jp2 queueCode_j3 queueCode_j4 queueCode_j5 jp6 queueCode_j7 jp8 queueCode_j9 queueCode_j10 queueCode_j11 queueCode_j12 queueCode_j13 queueCode_j14 queueCode_j15 queueCode_j16 queueCode_j17 queueCode_j18 queueCode_j19 queueCode_j20 queueCode_j21 queueCode_j22 queueCode_j23 jp24 jp25 queueCode_j26 queueCode_j27 queueCode_j28 queueCode_j29 queueCode_j30 queueCode_j31
set_option maxRecDepth 100000 in
theorem queueCode_lifted (walk : ∀ (a0 : ByteArray) (w : World), a0.size ≤ maxLen → (∃ a, ErrsAt w a) → Calls Tryd.prog 17 #[.string a0] w fun e w' => e = .returned (.bool true) ∧ Below w.heap.size w w')
    (os : Os) (started : os.Started) (H : Type) (enc : TypeId × Value → H) :
    ReturnsInHanded {} Tryd.checked os 17 .any (fun w args => (Rows.queueCodeSpec.pre enc Tryd.prog Tryd.f17 [] false w args ∧ laidMetH Tryd.prog Rows.queueCodeRow.laid w) ∧ sizedMet enc Tryd.prog Tryd.f17 (OpenSpec.ofChange Rows.queueCodeSpec) false w args)
      (Rows.queueCodeSpec.post enc Tryd.prog Tryd.f17 false true false false) := by
  refine returnsInHanded_of_change_and (C := Tryd.checked) (X := fun w _ => laidMetH Tryd.prog Rows.queueCodeRow.laid w) (fun _ _ _ hh h => h.of_heap hh) own started (by kernel_rfl) Tryd.func17
    (ChangeSpec.witness_at (enc := enc) (C := Tryd.checked) (os := os) (X := fun w _ => laidMetH Tryd.prog Rows.queueCodeRow.laid w) false (laidWorld os) #[.string ByteArray.empty] 8 rfl (by kernel_rfl) (by kernel_rfl) (by kernel_rfl) (by kernel_rfl) (by kernel_rfl) (laid_met10 os _)) ?_
  intro W base args ds gs before hval0 hW _ _ hL _
  have hval : ∀ (j : Nat) t v, Tryd.f17.params[j]? = some t → args[j]? = some v → Value.okWide Tryd.prog W .any base t v := hval0
  have hW' := hW
  obtain ⟨p, q, hA0, hV, rfl, hfz, hnd⟩ := hW
  have hA : DataW.TrodAll enc Tryd.prog W 0 (fun _ => true) true Tryd.f17.params.toList args.toList ds p := hA0
  rw [Tryd.params17] at hA hval
  obtain ⟨v0, vs0, d0, ds0, p0, q0, hargs, rfl, rfl, h0, r0⟩ := trodAll_cons hA
  obtain ⟨rfl, rfl, rfl⟩ := trodAll_nil r0
  obtain rfl : args = #[v0] := by cases args; simp_all
  obtain ⟨rfl, rfl⟩ := trodVars_none hV
  obtain ⟨a0, rfl, rfl, rfl, w0⟩ := open_string Tryd.underlying9 (hval 0 9 v0 rfl rfl) h0
  clear hA0 hval0
  refine (walk a0 W w0 (errs_of_laid hL)).mono fun e W' ⟨he, bel⟩ => ?_
  subst he
  exact ⟨_, rfl, _, _, _, [], _, [], hW', trodAll_mk1 (shut_bool Tryd.underlying4 _), (trodAll_cons_mk (shut_string Tryd.underlying9 w0) trodAll_mk0), rfl, bel.frame _, fun h => by cases h⟩
theorem queueCode_over (walk : ∀ (a0 : ByteArray) (w : World), a0.size ≤ maxLen → (∃ a, ErrsAt w a) → Calls Tryd.prog 17 #[.string a0] w fun e w' => e = .returned (.bool true) ∧ Below w.heap.size w w') :
    Rows.QueueCodeSaid :=
  OpenClaim.holds_of_wide 17 Tryd.f17 rfl rfl rfl rfl rfl rfl rfl ⟨rfl, rfl, rfl, rfl, rfl⟩ rfl rfl rfl rfl rfl (by kernel_rfl) Tryd.func17 queueCode_joined
    (of_decide_eq_true (by kernel_rfl)) (by unfold Func.isWrapper; first | (rw [if_pos (by decide +kernel)]; kernel_rfl) | (rw [if_neg (by decide +kernel)]; exact ⟨rfl, rfl⟩))
    (fun os started H enc _ => queueCode_lifted walk os started H enc)
end Go.Proofs.YtamfbfajlfbooaaDoor
