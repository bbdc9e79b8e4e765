/- GraceCode: the row, out of its walk. -/
import Derived.Test.YtamfbfajlfbooaaDoorGLaid
import Derived.Test.YtamfbfajlfbooaaDoorGJoinedP
import Derived.Test.YtamfbfajlfbooaaDoorGm3
import Derived.Test.YtamfbfajlfbooaaDoorGm4
import Derived.Lib.SmallJoins
import Derived.OpenShut
import Derived.ShutString
import Derived.ChangeOld
import Derived.Below
set_option linter.unusedVariables false
set_option linter.unusedSimpArgs false
set_option linter.unusedSectionVars false
namespace Go.Proofs.YtamfbfajlfbooaaDoor
open Go.ChangeShapes Go.WideShapes Go.ChangeAt Go.RowKit Go.Joins
open Go.ChangeMaps (open_string shut_string)
theorem graceCode_j0 : (Rows.graceCodeRow.wf (OpenSpec.ofChange Rows.graceCodeSpec)) = true := by kernel_rfl
theorem graceCode_j3 : (Tryd.f19.params.all (Tryd.pinned.checked.prog.readableRec ·)) = true := by kernel_rfl
theorem graceCode_j4 : (namedTie Tryd.pinned.checked.prog Rows.graceCodeRow.named Rows.graceCodeSpec.vars) = true := by kernel_rfl
theorem graceCode_j5 : ((Rows.graceCodeRow.stops == [])) = true := by kernel_rfl
theorem graceCode_j7 : ((Rows.graceCodeRow.knobs == [])) = true := by kernel_rfl
theorem graceCode_j9 : ((Rows.graceCodeRow.inPlace == Tryd.pinned.checked.prog.inPlace 19)) = true := by kernel_rfl
theorem graceCode_j10 : ((Rows.graceCodeRow.unfollowed == Tryd.pinned.checked.prog.unfollowed 19)) = true := by kernel_rfl
theorem graceCode_j11 : ((Rows.graceCodeRow.recurses == Tryd.pinned.checked.prog.recurses 19)) = true := by kernel_rfl
theorem graceCode_j12 : ((Rows.graceCodeRow.named == Tryd.pinned.checked.prog.varsNamed 19)) = true := by kernel_rfl
theorem graceCode_j13 : ((Rows.graceCodeRow.maps == (Tryd.f19.params.toList ++ Rows.graceCodeSpec.plain.varTypes Tryd.pinned.checked.prog).any (Tryd.pinned.checked.prog.mapsRec ·))) = true := by kernel_rfl
theorem graceCode_j14 : ((Rows.graceCodeRow.ifaces == (Tryd.f19.params.toList ++ Rows.graceCodeSpec.plain.varTypes Tryd.pinned.checked.prog).any (Tryd.pinned.checked.prog.ifacesRec ·))) = true := by kernel_rfl
theorem graceCode_j15 : ((Rows.graceCodeRow.mapsOut == Tryd.pinned.checked.prog.mapsAmong Tryd.f19.resultTypes.toList)) = true := by kernel_rfl
theorem graceCode_j16 : ((Rows.graceCodeRow.loops == (Tryd.f19.params.toList ++ Rows.graceCodeSpec.plain.varTypes Tryd.pinned.checked.prog).any (Tryd.pinned.checked.prog.loopsFrom ·))) = true := by kernel_rfl
theorem graceCode_j17 : ((Rows.graceCodeRow.wideKeys == (Tryd.f19.params.toList ++ Rows.graceCodeSpec.plain.varTypes Tryd.pinned.checked.prog ++ Tryd.f19.resultTypes.toList).any (Tryd.pinned.checked.prog.wideKeysFrom ·))) = true := by kernel_rfl
theorem graceCode_j18 : (Rows.graceCodeSpec.vars.all (Tryd.pinned.checked.prog.varReadable ·)) = true := by kernel_rfl
theorem graceCode_j19 : (Tryd.f19.resultTypes.all (fun t => Tryd.pinned.checked.prog.readableRec t && decide (t < Tryd.pinned.checked.prog.types.size))) = true := by kernel_rfl
theorem graceCode_j20 : ((Rows.graceCodeRow.ifacesOut == Tryd.f19.resultTypes.toList.any (Tryd.pinned.checked.prog.ifacesRec ·))) = true := by kernel_rfl
theorem graceCode_j21 : ((Rows.graceCodeRow.loopsOut == Tryd.f19.resultTypes.toList.any (Tryd.pinned.checked.prog.loopsFrom ·))) = true := by kernel_rfl
theorem graceCode_j22 : ((Rows.graceCodeRow.plainKeys == Tryd.pinned.checked.prog.plainKeys)) = true := by
  rw [show Rows.graceCodeRow.plainKeys = true from rfl]; exact jp22
theorem graceCode_j23 : (Rows.graceCodeRow.shortTexts.isNone) = true := by kernel_rfl
theorem graceCode_j26 : ((Rows.graceCodeRow.lifted == Tryd.pinned.checked.prog.liftsFinal)) = true := by
  rw [show Rows.graceCodeRow.lifted = false from rfl]; exact jp26
theorem graceCode_j27 : ((Tryd.pinned.checked.prog.make == some Rows.graceCodeRow.make)) = true := by
  rw [show Rows.graceCodeRow.make = Make.cut from rfl]; exact jp27
theorem graceCode_j28 : ((Rows.graceCodeRow.kinds == kindsOf Tryd.pinned.checked.prog Rows.graceCodeRow.domain.isEmpty Tryd.f19.params.toList)) = true := by kernel_rfl
theorem graceCode_j29 : ((Rows.graceCodeRow.pinned == Rows.graceCodeRow.pinnedBy)) = true := by kernel_rfl
theorem graceCode_j30 : ((Rows.graceCodeRow.veiled == (Tryd.f19.params.toList ++ Rows.graceCodeSpec.plain.varTypes Tryd.pinned.checked.prog ++ Tryd.f19.resultTypes.toList).any (Tryd.pinned.checked.prog.veiledRec ·))) = true := by kernel_rfl
theorem graceCode_j31 : (Rows.graceCodeRow.veiledFits Tryd.pinned.checked.prog Tryd.f19.params.toList (Tryd.f19.params.toList ++ Rows.graceCodeSpec.plain.varTypes Tryd.pinned.checked.prog ++ Tryd.f19.resultTypes.toList)) = true := by kernel_rfl
theorem graceCode_joined : joinedFacts Tryd.pinned.checked.prog 19 Tryd.f19 Rows.graceCodeSpec Rows.graceCodeRow = true :=
  joined_of (P := Tryd.pinned.checked.prog) (f := 19) (fn := Tryd.f19) (s := Rows.graceCodeSpec) (c := Rows.graceCodeRow) graceCode_j0 jp1 jp2 graceCode_j3 graceCode_j4 graceCode_j5 jp6 graceCode_j7 jp8 graceCode_j9 graceCode_j10 graceCode_j11 graceCode_j12 graceCode_j13 graceCode_j14 graceCode_j15 graceCode_j16 graceCode_j17 graceCode_j18 graceCode_j19 graceCode_j20 graceCode_j21 graceCode_j22 graceCode_j23 jp24 jp25 graceCode_j26 graceCode_j27 graceCode_j28 graceCode_j29 graceCode_j30 graceCode_j31
set_option maxRecDepth 100000 in
theorem graceCode_lifted (walk : ∀ (a0 : Int) (a1 : ByteArray) (w : World), (Lit.int .i64 a0).wf = true → a1.size ≤ maxLen → (∃ a, ErrsAt w a) → Calls Tryd.prog 19 #[.int .i64 a0, .string a1] w fun e w' => e = .returned (.bool true) ∧ Below w.heap.size w w')
    (os : Os) (started : os.Started) (H : Type) (enc : TypeId × Value → H) :
    ReturnsInHanded {} Tryd.checked os 19 .any (fun w args => (Rows.graceCodeSpec.pre enc Tryd.prog Tryd.f19 [] false w args ∧ laidMetH Tryd.prog Rows.graceCodeRow.laid w) ∧ sizedMet enc Tryd.prog Tryd.f19 (OpenSpec.ofChange Rows.graceCodeSpec) false w args)
      (Rows.graceCodeSpec.post enc Tryd.prog Tryd.f19 false true false false) := by
  refine returnsInHanded_of_change_and (C := Tryd.checked) (X := fun w _ => laidMetH Tryd.prog Rows.graceCodeRow.laid w) (fun _ _ _ hh h => h.of_heap hh) own started (by kernel_rfl) Tryd.func19
    (ChangeSpec.witness_at (enc := enc) (C := Tryd.checked) (os := os) (X := fun w _ => laidMetH Tryd.prog Rows.graceCodeRow.laid w) false (laidWorld os) #[.int .i64 0, .string ByteArray.empty] 8 rfl (by kernel_rfl) (by kernel_rfl) (by kernel_rfl) (by kernel_rfl) (by kernel_rfl) (laid_met10 os _)) ?_
  intro W base args ds gs before hval0 hW _ _ hL _
  have hval : ∀ (j : Nat) t v, Tryd.f19.params[j]? = some t → args[j]? = some v → Value.okWide Tryd.prog W .any base t v := hval0
  have hW' := hW
  obtain ⟨p, q, hA0, hV, rfl, hfz, hnd⟩ := hW
  have hA : DataW.TrodAll enc Tryd.prog W 0 (fun _ => true) true Tryd.f19.params.toList args.toList ds p := hA0
  rw [Tryd.params19] at hA hval
  obtain ⟨v0, vs0, d0, ds0, p0, q0, hargs, rfl, rfl, h0, r0⟩ := trodAll_cons hA
  obtain ⟨v1, vs1, d1, ds1, p1, q1, rfl, rfl, rfl, h1, r1⟩ := trodAll_cons r0
  obtain ⟨rfl, rfl, rfl⟩ := trodAll_nil r1
  obtain rfl : args = #[v0, v1] := by cases args; simp_all
  obtain ⟨rfl, rfl⟩ := trodVars_none hV
  obtain ⟨a0, rfl, rfl, rfl, w0⟩ := open_int Tryd.underlying3 (hval 0 3 v0 rfl rfl) h0
  obtain ⟨a1, rfl, rfl, rfl, w1⟩ := open_string Tryd.underlying9 (hval 1 9 v1 rfl rfl) h1
  clear hA0 hval0
  refine (walk a0 a1 W w0 w1 (errs_of_laid hL)).mono fun e W' ⟨he, bel⟩ => ?_
  subst he
  exact ⟨_, rfl, _, _, _, [], _, [], hW', trodAll_mk1 (shut_bool Tryd.underlying4 _), (trodAll_cons_mk (shut_int Tryd.underlying3 w0) (trodAll_cons_mk (shut_string Tryd.underlying9 w1) trodAll_mk0)), rfl, bel.frame _, fun h => by cases h⟩
theorem graceCode_over (walk : ∀ (a0 : Int) (a1 : ByteArray) (w : World), (Lit.int .i64 a0).wf = true → a1.size ≤ maxLen → (∃ a, ErrsAt w a) → Calls Tryd.prog 19 #[.int .i64 a0, .string a1] w fun e w' => e = .returned (.bool true) ∧ Below w.heap.size w w') :
    Rows.GraceCodeSaid :=
  OpenClaim.holds_of_wide 19 Tryd.f19 rfl rfl rfl rfl rfl rfl rfl ⟨rfl, rfl, rfl, rfl, rfl⟩ rfl rfl rfl rfl rfl (by kernel_rfl) Tryd.func19 graceCode_joined
    (of_decide_eq_true (by kernel_rfl)) (by unfold Func.isWrapper; first | (rw [if_pos (by decide +kernel)]; kernel_rfl) | (rw [if_neg (by decide +kernel)]; exact ⟨rfl, rfl⟩))
    (fun os started H enc _ => graceCode_lifted walk os started H enc)
end Go.Proofs.YtamfbfajlfbooaaDoor
