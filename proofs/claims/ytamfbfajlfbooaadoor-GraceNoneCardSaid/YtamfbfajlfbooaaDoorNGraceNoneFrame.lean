/- GraceNone: the row, out of its walk. -/
import Derived.Test.YtamfbfajlfbooaaDoorNLaid
import Derived.Test.YtamfbfajlfbooaaDoorNJoinedP
import Derived.Test.YtamfbfajlfbooaaDoorNm3
import Derived.Lib.SmallJoins
import Derived.OpenShut
import Derived.ShutString
import Derived.ChangeOld
import Derived.Below
set_option linter.unusedVariables false
set_option linter.unusedSimpArgs false
set_option linter.unusedSectionVars false
namespace Go.Proofs.YtamfbfajlfbooaaDoor
open Go.ChangeShapes Go.WideShapes Go.ChangeAt Go.RowKit Go.Joins
open Go.ChangeMaps (open_string shut_string)
theorem graceNone_j0 : (Rows.graceNoneRow.wf (OpenSpec.ofChange Rows.graceNoneSpec)) = true := by kernel_rfl
theorem graceNone_j3 : (Tryd.f9.params.all (Tryd.pinned.checked.prog.readableRec ·)) = true := by kernel_rfl
theorem graceNone_j4 : (namedTie Tryd.pinned.checked.prog Rows.graceNoneRow.named Rows.graceNoneSpec.vars) = true := by kernel_rfl
theorem graceNone_j5 : ((Rows.graceNoneRow.stops == [])) = true := by kernel_rfl
theorem graceNone_j7 : ((Rows.graceNoneRow.knobs == [])) = true := by kernel_rfl
theorem graceNone_j9 : ((Rows.graceNoneRow.inPlace == Tryd.pinned.checked.prog.inPlace 9)) = true := by kernel_rfl
theorem graceNone_j10 : ((Rows.graceNoneRow.unfollowed == Tryd.pinned.checked.prog.unfollowed 9)) = true := by kernel_rfl
theorem graceNone_j11 : ((Rows.graceNoneRow.recurses == Tryd.pinned.checked.prog.recurses 9)) = true := by kernel_rfl
theorem graceNone_j12 : ((Rows.graceNoneRow.named == Tryd.pinned.checked.prog.varsNamed 9)) = true := by kernel_rfl
theorem graceNone_j13 : ((Rows.graceNoneRow.maps == (Tryd.f9.params.toList ++ Rows.graceNoneSpec.plain.varTypes Tryd.pinned.checked.prog).any (Tryd.pinned.checked.prog.mapsRec ·))) = true := by kernel_rfl
theorem graceNone_j14 : ((Rows.graceNoneRow.ifaces == (Tryd.f9.params.toList ++ Rows.graceNoneSpec.plain.varTypes Tryd.pinned.checked.prog).any (Tryd.pinned.checked.prog.ifacesRec ·))) = true := by kernel_rfl
theorem graceNone_j15 : ((Rows.graceNoneRow.mapsOut == Tryd.pinned.checked.prog.mapsAmong Tryd.f9.resultTypes.toList)) = true := by kernel_rfl
theorem graceNone_j16 : ((Rows.graceNoneRow.loops == (Tryd.f9.params.toList ++ Rows.graceNoneSpec.plain.varTypes Tryd.pinned.checked.prog).any (Tryd.pinned.checked.prog.loopsFrom ·))) = true := by kernel_rfl
theorem graceNone_j17 : ((Rows.graceNoneRow.wideKeys == (Tryd.f9.params.toList ++ Rows.graceNoneSpec.plain.varTypes Tryd.pinned.checked.prog ++ Tryd.f9.resultTypes.toList).any (Tryd.pinned.checked.prog.wideKeysFrom ·))) = true := by kernel_rfl
theorem graceNone_j18 : (Rows.graceNoneSpec.vars.all (Tryd.pinned.checked.prog.varReadable ·)) = true := by kernel_rfl
theorem graceNone_j19 : (Tryd.f9.resultTypes.all (fun t => Tryd.pinned.checked.prog.readableRec t && decide (t < Tryd.pinned.checked.prog.types.size))) = true := by kernel_rfl
theorem graceNone_j20 : ((Rows.graceNoneRow.ifacesOut == Tryd.f9.resultTypes.toList.any (Tryd.pinned.checked.prog.ifacesRec ·))) = true := by kernel_rfl
theorem graceNone_j21 : ((Rows.graceNoneRow.loopsOut == Tryd.f9.resultTypes.toList.any (Tryd.pinned.checked.prog.loopsFrom ·))) = true := by kernel_rfl
theorem graceNone_j22 : ((Rows.graceNoneRow.plainKeys == Tryd.pinned.checked.prog.plainKeys)) = true := by
  rw [show Rows.graceNoneRow.plainKeys = true from rfl]; exact jp22
theorem graceNone_j23 : (Rows.graceNoneRow.shortTexts.isNone) = true := by kernel_rfl
theorem graceNone_j26 : ((Rows.graceNoneRow.lifted == Tryd.pinned.checked.prog.liftsFinal)) = true := by
  rw [show Rows.graceNoneRow.lifted = false from rfl]; exact jp26
theorem graceNone_j27 : ((Tryd.pinned.checked.prog.make == some Rows.graceNoneRow.make)) = true := by
  rw [show Rows.graceNoneRow.make = Make.cut from rfl]; exact jp27
theorem graceNone_j28 : ((Rows.graceNoneRow.kinds == kindsOf Tryd.pinned.checked.prog Rows.graceNoneRow.domain.isEmpty Tryd.f9.params.toList)) = true := by kernel_rfl
theorem graceNone_j29 : ((Rows.graceNoneRow.pinned == Rows.graceNoneRow.pinnedBy)) = true := by kernel_rfl
theorem graceNone_j30 : ((Rows.graceNoneRow.veiled == (Tryd.f9.params.toList ++ Rows.graceNoneSpec.plain.varTypes Tryd.pinned.checked.prog ++ Tryd.f9.resultTypes.toList).any (Tryd.pinned.checked.prog.veiledRec ·))) = true := by kernel_rfl
theorem graceNone_j31 : (Rows.graceNoneRow.veiledFits Tryd.pinned.checked.prog Tryd.f9.params.toList (Tryd.f9.params.toList ++ Rows.graceNoneSpec.plain.varTypes Tryd.pinned.checked.prog ++ Tryd.f9.resultTypes.toList)) = true := by kernel_rfl
theorem graceNone_joined : joinedFacts Tryd.pinned.checked.prog 9 Tryd.f9 Rows.graceNoneSpec Rows.graceNoneRow = true :=
  joined_of (P := Tryd.pinned.checked.prog) (f := 9) (fn := Tryd.f9) (s := Rows.graceNoneSpec) (c := Rows.graceNoneRow) graceNone_j0 jp1 jp2 graceNone_j3 graceNone_j4 graceNone_j5 jp6 graceNone_j7 jp8 graceNone_j9 graceNone_j10 graceNone_j11 graceNone_j12 graceNone_j13 graceNone_j14 graceNone_j15 graceNone_j16 graceNone_j17 graceNone_j18 graceNone_j19 graceNone_j20 graceNone_j21 graceNone_j22 graceNone_j23 jp24 jp25 graceNone_j26 graceNone_j27 graceNone_j28 graceNone_j29 graceNone_j30 graceNone_j31
set_option maxRecDepth 100000 in
theorem graceNone_lifted (walk : ∀ (a0 : Int) (a1 : Int) (w : World), (Lit.int .i64 a0).wf = true → (Lit.int .i64 a1).wf = true → Calls Tryd.prog 9 #[.int .i64 a0, .int .i64 a1] w fun e w' => e = .returned (.bool true) ∧ Below w.heap.size w w')
    (os : Os) (started : os.Started) (H : Type) (enc : TypeId × Value → H) :
    ReturnsInHanded {} Tryd.checked os 9 .any (fun w args => (Rows.graceNoneSpec.pre enc Tryd.prog Tryd.f9 [] false w args ∧ laidMetH Tryd.prog Rows.graceNoneRow.laid w) ∧ sizedMet enc Tryd.prog Tryd.f9 (OpenSpec.ofChange Rows.graceNoneSpec) false w args)
      (Rows.graceNoneSpec.post enc Tryd.prog Tryd.f9 false true false false) := by
  refine returnsInHanded_of_change_and (C := Tryd.checked) (X := fun w _ => laidMetH Tryd.prog Rows.graceNoneRow.laid w) (fun _ _ _ hh h => h.of_heap hh) own started (by kernel_rfl) Tryd.func9
    (ChangeSpec.witness_at (enc := enc) (C := Tryd.checked) (os := os) (X := fun w _ => laidMetH Tryd.prog Rows.graceNoneRow.laid w) false (laidWorld os) #[.int .i64 0, .int .i64 0] 8 rfl (by kernel_rfl) (by kernel_rfl) (by kernel_rfl) (by kernel_rfl) (by kernel_rfl) (laid_met2 os _)) ?_
  intro W base args ds gs before hval0 hW _ _ hL _
  have hval : ∀ (j : Nat) t v, Tryd.f9.params[j]? = some t → args[j]? = some v → Value.okWide Tryd.prog W .any base t v := hval0
  have hW' := hW
  obtain ⟨p, q, hA0, hV, rfl, hfz, hnd⟩ := hW
  have hA : DataW.TrodAll enc Tryd.prog W 0 (fun _ => true) true Tryd.f9.params.toList args.toList ds p := hA0
  rw [Tryd.params9] at hA hval
  obtain ⟨v0, vs0, d0, ds0, p0, q0, hargs, rfl, rfl, h0, r0⟩ := trodAll_cons hA
  obtain ⟨v1, vs1, d1, ds1, p1, q1, rfl, rfl, rfl, h1, r1⟩ := trodAll_cons r0
  obtain ⟨rfl, rfl, rfl⟩ := trodAll_nil r1
  obtain rfl : args = #[v0, v1] := by cases args; simp_all
  obtain ⟨rfl, rfl⟩ := trodVars_none hV
  obtain ⟨a0, rfl, rfl, rfl, w0⟩ := open_int Tryd.underlying3 (hval 0 3 v0 rfl rfl) h0
  obtain ⟨a1, rfl, rfl, rfl, w1⟩ := open_int Tryd.underlying3 (hval 1 3 v1 rfl rfl) h1
  clear hA0 hval0
  refine (walk a0 a1 W w0 w1).mono fun e W' ⟨he, bel⟩ => ?_
  subst he
  exact ⟨_, rfl, _, _, _, [], _, [], hW', trodAll_mk1 (shut_bool Tryd.underlying4 _), (trodAll_cons_mk (shut_int Tryd.underlying3 w0) (trodAll_cons_mk (shut_int Tryd.underlying3 w1) trodAll_mk0)), rfl, bel.frame _, fun h => by cases h⟩
theorem graceNone_over (walk : ∀ (a0 : Int) (a1 : Int) (w : World), (Lit.int .i64 a0).wf = true → (Lit.int .i64 a1).wf = true → Calls Tryd.prog 9 #[.int .i64 a0, .int .i64 a1] w fun e w' => e = .returned (.bool true) ∧ Below w.heap.size w w') :
    Rows.GraceNoneSaid :=
  OpenClaim.holds_of_wide 9 Tryd.f9 rfl rfl rfl rfl rfl rfl rfl ⟨rfl, rfl, rfl, rfl, rfl⟩ rfl rfl rfl rfl rfl (by kernel_rfl) Tryd.func9 graceNone_joined
    (of_decide_eq_true (by kernel_rfl)) (by unfold Func.isWrapper; first | (rw [if_pos (by decide +kernel)]; kernel_rfl) | (rw [if_neg (by decide +kernel)]; exact ⟨rfl, rfl⟩))
    (fun os started H enc _ => graceNone_lifted walk os started H enc)
end Go.Proofs.YtamfbfajlfbooaaDoor
