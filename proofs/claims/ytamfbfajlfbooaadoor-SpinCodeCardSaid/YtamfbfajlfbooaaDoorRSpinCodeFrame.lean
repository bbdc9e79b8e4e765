/- SpinCode: the row, out of its walk. -/
import Derived.Test.YtamfbfajlfbooaaDoorRLaid
import Derived.Test.YtamfbfajlfbooaaDoorRJoinedP
import Derived.Test.YtamfbfajlfbooaaDoorRm3
import Derived.Test.YtamfbfajlfbooaaDoorRErrsLaw
import Derived.Lib.SmallJoins
import Derived.OpenShut
import Derived.ShutString
import Derived.ChangeOld
import Derived.Below
set_option linter.unusedVariables false
set_option linter.unusedSimpArgs false
set_option linter.unusedSectionVars false
namespace Go.Proofs.YtamfbfajlfbooaaDoor
open Go.ChangeShapes Go.WideShapes Go.ChangeAt Go.RowKit Go.Joins
open Go.ChangeMaps (open_string shut_string)
theorem spinCode_j0 : (Rows.spinCodeRow.wf (OpenSpec.ofChange Rows.spinCodeSpec)) = true := by kernel_rfl
theorem spinCode_j3 : (Tryd.f13.params.all (Tryd.pinned.checked.prog.readableRec ·)) = true := by kernel_rfl
theorem spinCode_j4 : (namedTie Tryd.pinned.checked.prog Rows.spinCodeRow.named Rows.spinCodeSpec.vars) = true := by kernel_rfl
theorem spinCode_j5 : ((Rows.spinCodeRow.stops == [])) = true := by kernel_rfl
theorem spinCode_j7 : ((Rows.spinCodeRow.knobs == [])) = true := by kernel_rfl
theorem spinCode_j9 : ((Rows.spinCodeRow.inPlace == Tryd.pinned.checked.prog.inPlace 13)) = true := by kernel_rfl
theorem spinCode_j10 : ((Rows.spinCodeRow.unfollowed == Tryd.pinned.checked.prog.unfollowed 13)) = true := by kernel_rfl
theorem spinCode_j11 : ((Rows.spinCodeRow.recurses == Tryd.pinned.checked.prog.recurses 13)) = true := by kernel_rfl
theorem spinCode_j12 : ((Rows.spinCodeRow.named == Tryd.pinned.checked.prog.varsNamed 13)) = true := by kernel_rfl
theorem spinCode_j13 : ((Rows.spinCodeRow.maps == (Tryd.f13.params.toList ++ Rows.spinCodeSpec.plain.varTypes Tryd.pinned.checked.prog).any (Tryd.pinned.checked.prog.mapsRec ·))) = true := by kernel_rfl
theorem spinCode_j14 : ((Rows.spinCodeRow.ifaces == (Tryd.f13.params.toList ++ Rows.spinCodeSpec.plain.varTypes Tryd.pinned.checked.prog).any (Tryd.pinned.checked.prog.ifacesRec ·))) = true := by kernel_rfl
theorem spinCode_j15 : ((Rows.spinCodeRow.mapsOut == Tryd.pinned.checked.prog.mapsAmong Tryd.f13.resultTypes.toList)) = true := by kernel_rfl
theorem spinCode_j16 : ((Rows.spinCodeRow.loops == (Tryd.f13.params.toList ++ Rows.spinCodeSpec.plain.varTypes Tryd.pinned.checked.prog).any (Tryd.pinned.checked.prog.loopsFrom ·))) = true := by kernel_rfl
theorem spinCode_j17 : ((Rows.spinCodeRow.wideKeys == (Tryd.f13.params.toList ++ Rows.spinCodeSpec.plain.varTypes Tryd.pinned.checked.prog ++ Tryd.f13.resultTypes.toList).any (Tryd.pinned.checked.prog.wideKeysFrom ·))) = true := by kernel_rfl
theorem spinCode_j18 : (Rows.spinCodeSpec.vars.all (Tryd.pinned.checked.prog.varReadable ·)) = true := by kernel_rfl
theorem spinCode_j19 : (Tryd.f13.resultTypes.all (fun t => Tryd.pinned.checked.prog.readableRec t && decide (t < Tryd.pinned.checked.prog.types.size))) = true := by kernel_rfl
theorem spinCode_j20 : ((Rows.spinCodeRow.ifacesOut == Tryd.f13.resultTypes.toList.any (Tryd.pinned.checked.prog.ifacesRec ·))) = true := by kernel_rfl
theorem spinCode_j21 : ((Rows.spinCodeRow.loopsOut == Tryd.f13.resultTypes.toList.any (Tryd.pinned.checked.prog.loopsFrom ·))) = true := by kernel_rfl
theorem spinCode_j22 : ((Rows.spinCodeRow.plainKeys == Tryd.pinned.checked.prog.plainKeys)) = true := by
  rw [show Rows.spinCodeRow.plainKeys = true from rfl]; exact jp22
theorem spinCode_j23 : (Rows.spinCodeRow.shortTexts.isNone) = true := by kernel_rfl
theorem spinCode_j26 : ((Rows.spinCodeRow.lifted == Tryd.pinned.checked.prog.liftsFinal)) = true := by
  rw [show Rows.spinCodeRow.lifted = false from rfl]; exact jp26
theorem spinCode_j27 : ((Tryd.pinned.checked.prog.make == some Rows.spinCodeRow.make)) = true := by
  rw [show Rows.spinCodeRow.make = Make.cut from rfl]; exact jp27
theorem spinCode_j28 : ((Rows.spinCodeRow.kinds == kindsOf Tryd.pinned.checked.prog Rows.spinCodeRow.domain.isEmpty Tryd.f13.params.toList)) = true := by kernel_rfl
theorem spinCode_j29 : ((Rows.spinCodeRow.pinned == Rows.spinCodeRow.pinnedBy)) = true := by kernel_rfl
theorem spinCode_j30 : ((Rows.spinCodeRow.veiled == (Tryd.f13.params.toList ++ Rows.spinCodeSpec.plain.varTypes Tryd.pinned.checked.prog ++ Tryd.f13.resultTypes.toList).any (Tryd.pinned.checked.prog.veiledRec ·))) = true := by kernel_rfl
theorem spinCode_j31 : (Rows.spinCodeRow.veiledFits Tryd.pinned.checked.prog Tryd.f13.params.toList (Tryd.f13.params.toList ++ Rows.spinCodeSpec.plain.varTypes Tryd.pinned.checked.prog ++ Tryd.f13.resultTypes.toList)) = true := by kernel_rfl
theorem spinCode_joined : joinedFacts Tryd.pinned.checked.prog 13 Tryd.f13 Rows.spinCodeSpec Rows.spinCodeRow = true :=
  joined_of (P := Tryd.pinned.checked.prog) (f := 13) (fn := Tryd.f13) (s := Rows.spinCodeSpec) (c := Rows.spinCodeRow) spinCode_j0 jp1 jp2 spinCode_j3 spinCode_j4 spinCode_j5 jp6 spinCode_j7 jp8 spinCode_j9 spinCode_j10 spinCode_j11 spinCode_j12 spinCode_j13 spinCode_j14 spinCode_j15 spinCode_j16 spinCode_j17 spinCode_j18 spinCode_j19 spinCode_j20 spinCode_j21 spinCode_j22 spinCode_j23 jp24 jp25 spinCode_j26 spinCode_j27 spinCode_j28 spinCode_j29 spinCode_j30 spinCode_j31
set_option maxRecDepth 100000 in
theorem spinCode_lifted (walk : ∀ (a0 : ByteArray) (a1 : Int) (a2 : Int) (a3 : Int) (w : World), a0.size ≤ maxLen → (Lit.int .i64 a1).wf = true → (Lit.int .i64 a2).wf = true → (Lit.int .i64 a3).wf = true → (∃ a, ErrsAt w a) → Calls Tryd.prog 13 #[.string a0, .int .i64 a1, .int .i64 a2, .int .i64 a3] w fun e w' => e = .returned (.bool true) ∧ Below w.heap.size w w')
    (os : Os) (started : os.Started) (H : Type) (enc : TypeId × Value → H) :
    ReturnsInHanded {} Tryd.checked os 13 .any (fun w args => (Rows.spinCodeSpec.pre enc Tryd.prog Tryd.f13 [] false w args ∧ laidMetH Tryd.prog Rows.spinCodeRow.laid w) ∧ sizedMet enc Tryd.prog Tryd.f13 (OpenSpec.ofChange Rows.spinCodeSpec) false w args)
      (Rows.spinCodeSpec.post enc Tryd.prog Tryd.f13 false true false false) := by
  refine returnsInHanded_of_change_and (C := Tryd.checked) (X := fun w _ => laidMetH Tryd.prog Rows.spinCodeRow.laid w) (fun _ _ _ hh h => h.of_heap hh) own started (by kernel_rfl) Tryd.func13
    (ChangeSpec.witness_at (enc := enc) (C := Tryd.checked) (os := os) (X := fun w _ => laidMetH Tryd.prog Rows.spinCodeRow.laid w) false (laidWorld os) #[.string ByteArray.empty, .int .i64 0, .int .i64 0, .int .i64 0] 8 rfl (by kernel_rfl) (by kernel_rfl) (by kernel_rfl) (by kernel_rfl) (by kernel_rfl) (laid_met10 os _)) ?_
  intro W base args ds gs before hval0 hW _ _ hL _
  have hval : ∀ (j : Nat) t v, Tryd.f13.params[j]? = some t → args[j]? = some v → Value.okWide Tryd.prog W .any base t v := hval0
  have hW' := hW
  obtain ⟨p, q, hA0, hV, rfl, hfz, hnd⟩ := hW
  have hA : DataW.TrodAll enc Tryd.prog W 0 (fun _ => true) true Tryd.f13.params.toList args.toList ds p := hA0
  rw [Tryd.params13] at hA hval
  obtain ⟨v0, vs0, d0, ds0, p0, q0, hargs, rfl, rfl, h0, r0⟩ := trodAll_cons hA
  obtain ⟨v1, vs1, d1, ds1, p1, q1, rfl, rfl, rfl, h1, r1⟩ := trodAll_cons r0
  obtain ⟨v2, vs2, d2, ds2, p2, q2, rfl, rfl, rfl, h2, r2⟩ := trodAll_cons r1
  obtain ⟨v3, vs3, d3, ds3, p3, q3, rfl, rfl, rfl, h3, r3⟩ := trodAll_cons r2
  obtain ⟨rfl, rfl, rfl⟩ := trodAll_nil r3
  obtain rfl : args = #[v0, v1, v2, v3] := by cases args; simp_all
  obtain ⟨rfl, rfl⟩ := trodVars_none hV
  obtain ⟨a0, rfl, rfl, rfl, w0⟩ := open_string Tryd.underlying9 (hval 0 9 v0 rfl rfl) h0
  obtain ⟨a1, rfl, rfl, rfl, w1⟩ := open_int Tryd.underlying3 (hval 1 3 v1 rfl rfl) h1
  obtain ⟨a2, rfl, rfl, rfl, w2⟩ := open_int Tryd.underlying3 (hval 2 3 v2 rfl rfl) h2
  obtain ⟨a3, rfl, rfl, rfl, w3⟩ := open_int Tryd.underlying3 (hval 3 3 v3 rfl rfl) h3
  clear hA0 hval0
  refine (walk a0 a1 a2 a3 W w0 w1 w2 w3 (errs_of_laid hL)).mono fun e W' ⟨he, bel⟩ => ?_
  subst he
  exact ⟨_, rfl, _, _, _, [], _, [], hW', trodAll_mk1 (shut_bool Tryd.underlying4 _), (trodAll_cons_mk (shut_string Tryd.underlying9 w0) (trodAll_cons_mk (shut_int Tryd.underlying3 w1) (trodAll_cons_mk (shut_int Tryd.underlying3 w2) (trodAll_cons_mk (shut_int Tryd.underlying3 w3) trodAll_mk0)))), rfl, bel.frame _, fun h => by cases h⟩
theorem spinCode_over (walk : ∀ (a0 : ByteArray) (a1 : Int) (a2 : Int) (a3 : Int) (w : World), a0.size ≤ maxLen → (Lit.int .i64 a1).wf = true → (Lit.int .i64 a2).wf = true → (Lit.int .i64 a3).wf = true → (∃ a, ErrsAt w a) → Calls Tryd.prog 13 #[.string a0, .int .i64 a1, .int .i64 a2, .int .i64 a3] w fun e w' => e = .returned (.bool true) ∧ Below w.heap.size w w') :
    Rows.SpinCodeSaid :=
  OpenClaim.holds_of_wide 13 Tryd.f13 rfl rfl rfl rfl rfl rfl rfl ⟨rfl, rfl, rfl, rfl, rfl⟩ rfl rfl rfl rfl rfl (by kernel_rfl) Tryd.func13 spinCode_joined
    (of_decide_eq_true (by kernel_rfl)) (by unfold Func.isWrapper; first | (rw [if_pos (by decide +kernel)]; kernel_rfl) | (rw [if_neg (by decide +kernel)]; exact ⟨rfl, rfl⟩))
    (fun os started H enc _ => spinCode_lifted walk os started H enc)
end Go.Proofs.YtamfbfajlfbooaaDoor
