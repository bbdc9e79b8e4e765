/- SpinEnds: the row, out of its walk. -/
import Derived.Test.YtamfbfajlfbooaaDoorQm3
import Derived.Test.YtamfbfajlfbooaaDoorQJoinedP
import Derived.OpenShut
import Derived.ShutString
import Derived.ChangeOld
import Derived.Below
set_option linter.unusedVariables false
set_option linter.unusedSimpArgs false
set_option linter.unusedSectionVars false
namespace Go.Proofs.YtamfbfajlfbooaaDoor
open Go.ChangeShapes Go.WideShapes Go.ChangeAt Go.RowKit
open Go.ChangeMaps (open_string shut_string)
theorem spinEnds_j0 : (Rows.spinEndsRow.wf (OpenSpec.ofChange Rows.spinEndsSpec)) = true := by kernel_rfl
theorem spinEnds_j3 : (Tryd.f3.params.all (Tryd.pinned.checked.prog.readableRec ·)) = true := by kernel_rfl
theorem spinEnds_j4 : (namedTie Tryd.pinned.checked.prog Rows.spinEndsRow.named Rows.spinEndsSpec.vars) = true := by kernel_rfl
theorem spinEnds_j5 : ((Rows.spinEndsRow.stops == [])) = true := by kernel_rfl
theorem spinEnds_j7 : ((Rows.spinEndsRow.knobs == [])) = true := by kernel_rfl
theorem spinEnds_j9 : ((Rows.spinEndsRow.inPlace == Tryd.pinned.checked.prog.inPlace 3)) = true := by kernel_rfl
theorem spinEnds_j10 : ((Rows.spinEndsRow.unfollowed == Tryd.pinned.checked.prog.unfollowed 3)) = true := by kernel_rfl
theorem spinEnds_j11 : ((Rows.spinEndsRow.recurses == Tryd.pinned.checked.prog.recurses 3)) = true := by kernel_rfl
theorem spinEnds_j12 : ((Rows.spinEndsRow.named == Tryd.pinned.checked.prog.varsNamed 3)) = true := by kernel_rfl
theorem spinEnds_j13 : ((Rows.spinEndsRow.maps == (Tryd.f3.params.toList ++ Rows.spinEndsSpec.plain.varTypes Tryd.pinned.checked.prog).any (Tryd.pinned.checked.prog.mapsRec ·))) = true := by kernel_rfl
theorem spinEnds_j14 : ((Rows.spinEndsRow.ifaces == (Tryd.f3.params.toList ++ Rows.spinEndsSpec.plain.varTypes Tryd.pinned.checked.prog).any (Tryd.pinned.checked.prog.ifacesRec ·))) = true := by kernel_rfl
theorem spinEnds_j15 : ((Rows.spinEndsRow.mapsOut == Tryd.pinned.checked.prog.mapsAmong Tryd.f3.resultTypes.toList)) = true := by kernel_rfl
theorem spinEnds_j16 : ((Rows.spinEndsRow.loops == (Tryd.f3.params.toList ++ Rows.spinEndsSpec.plain.varTypes Tryd.pinned.checked.prog).any (Tryd.pinned.checked.prog.loopsFrom ·))) = true := by kernel_rfl
theorem spinEnds_j17 : ((Rows.spinEndsRow.wideKeys == (Tryd.f3.params.toList ++ Rows.spinEndsSpec.plain.varTypes Tryd.pinned.checked.prog ++ Tryd.f3.resultTypes.toList).any (Tryd.pinned.checked.prog.wideKeysFrom ·))) = true := by kernel_rfl
theorem spinEnds_j18 : (Rows.spinEndsSpec.vars.all (Tryd.pinned.checked.prog.varReadable ·)) = true := by kernel_rfl
theorem spinEnds_j19 : (Tryd.f3.resultTypes.all (fun t => Tryd.pinned.checked.prog.readableRec t && decide (t < Tryd.pinned.checked.prog.types.size))) = true := by kernel_rfl
theorem spinEnds_j20 : ((Rows.spinEndsRow.ifacesOut == Tryd.f3.resultTypes.toList.any (Tryd.pinned.checked.prog.ifacesRec ·))) = true := by kernel_rfl
theorem spinEnds_j21 : ((Rows.spinEndsRow.loopsOut == Tryd.f3.resultTypes.toList.any (Tryd.pinned.checked.prog.loopsFrom ·))) = true := by kernel_rfl
theorem spinEnds_j22 : ((Rows.spinEndsRow.plainKeys == Tryd.pinned.checked.prog.plainKeys)) = true := by
  rw [show Rows.spinEndsRow.plainKeys = true from rfl]; exact jp22
theorem spinEnds_j23 : (Rows.spinEndsRow.shortTexts.isNone) = true := by kernel_rfl
theorem spinEnds_j26 : ((Rows.spinEndsRow.lifted == Tryd.pinned.checked.prog.liftsFinal)) = true := by
  rw [show Rows.spinEndsRow.lifted = false from rfl]; exact jp26
theorem spinEnds_j27 : ((Tryd.pinned.checked.prog.make == some Rows.spinEndsRow.make)) = true := by
  rw [show Rows.spinEndsRow.make = Make.cut from rfl]; exact jp27
theorem spinEnds_j28 : ((Rows.spinEndsRow.kinds == kindsOf Tryd.pinned.checked.prog Rows.spinEndsRow.domain.isEmpty Tryd.f3.params.toList)) = true := by kernel_rfl
theorem spinEnds_j29 : ((Rows.spinEndsRow.pinned == Rows.spinEndsRow.pinnedBy)) = true := by kernel_rfl
theorem spinEnds_j30 : ((Rows.spinEndsRow.veiled == (Tryd.f3.params.toList ++ Rows.spinEndsSpec.plain.varTypes Tryd.pinned.checked.prog ++ Tryd.f3.resultTypes.toList).any (Tryd.pinned.checked.prog.veiledRec ·))) = true := by kernel_rfl
theorem spinEnds_j31 : (Rows.spinEndsRow.veiledFits Tryd.pinned.checked.prog Tryd.f3.params.toList (Tryd.f3.params.toList ++ Rows.spinEndsSpec.plain.varTypes Tryd.pinned.checked.prog ++ Tryd.f3.resultTypes.toList)) = true := by kernel_rfl
theorem spinEnds_joined : joinedFacts Tryd.pinned.checked.prog 3 Tryd.f3 Rows.spinEndsSpec Rows.spinEndsRow = true :=
  joined_of (P := Tryd.pinned.checked.prog) (f := 3) (fn := Tryd.f3) (s := Rows.spinEndsSpec) (c := Rows.spinEndsRow) spinEnds_j0 jp1 jp2 spinEnds_j3 spinEnds_j4 spinEnds_j5 jp6 spinEnds_j7 jp8 spinEnds_j9 spinEnds_j10 spinEnds_j11 spinEnds_j12 spinEnds_j13 spinEnds_j14 spinEnds_j15 spinEnds_j16 spinEnds_j17 spinEnds_j18 spinEnds_j19 spinEnds_j20 spinEnds_j21 spinEnds_j22 spinEnds_j23 jp24 jp25 spinEnds_j26 spinEnds_j27 spinEnds_j28 spinEnds_j29 spinEnds_j30 spinEnds_j31
set_option maxRecDepth 100000 in
theorem spinEnds_lifted (walk : ∀ (a0 : Int) (a1 : Int) (w : World), (Lit.int .i64 a0).wf = true → (Lit.int .i64 a1).wf = true → Calls Tryd.prog 3 #[.int .i64 a0, .int .i64 a1] w fun e w' => e = .returned (.bool true) ∧ Below w.heap.size w w')
    (os : Os) (started : os.Started) (H : Type) (enc : TypeId × Value → H) :
    ReturnsInHanded {} Tryd.checked os 3 .any (fun w args => (Rows.spinEndsSpec.pre enc Tryd.prog Tryd.f3 [] false w args ∧ laidMetH Tryd.prog Rows.spinEndsRow.laid w) ∧ sizedMet enc Tryd.prog Tryd.f3 (OpenSpec.ofChange Rows.spinEndsSpec) false w args)
      (Rows.spinEndsSpec.post enc Tryd.prog Tryd.f3 false true false false) := by
  refine returnsInHanded_of_change_and (C := Tryd.checked) (X := fun w _ => laidMetH Tryd.prog Rows.spinEndsRow.laid w) (fun _ _ _ hh h => h.of_heap hh) own started (by kernel_rfl) Tryd.func3
    (ChangeSpec.witness_at (enc := enc) (C := Tryd.checked) (os := os) (X := fun w _ => laidMetH Tryd.prog Rows.spinEndsRow.laid w) false (laidWorld os) #[.int .i64 0, .int .i64 0] 8 rfl (by kernel_rfl) (by kernel_rfl) (by kernel_rfl) (by kernel_rfl) (by kernel_rfl) (laid_met2 os _)) ?_
  intro W base args ds gs before hval0 hW _ _ hL _
  have hval : ∀ (j : Nat) t v, Tryd.f3.params[j]? = some t → args[j]? = some v → Value.okWide Tryd.prog W .any base t v := hval0
  have hW' := hW
  obtain ⟨p, q, hA0, hV, rfl, hfz, hnd⟩ := hW
  have hA : DataW.TrodAll enc Tryd.prog W 0 (fun _ => true) true Tryd.f3.params.toList args.toList ds p := hA0
  rw [Tryd.params3] at hA hval
  obtain ⟨v0, vs0, d0, ds0, p0, q0, hargs, rfl, rfl, h0, r0⟩ := trodAll_cons hA
  obtain ⟨v1, vs1, d1, ds1, p1, q1, rfl, rfl, rfl, h1, r1⟩ := trodAll_cons r0
  obtain ⟨rfl, rfl, rfl⟩ := trodAll_nil r1
  obtain rfl : args = #[v0, v1] := by cases args; simp_all
  obtain ⟨rfl, rfl⟩ := trodVars_none hV
  obtain ⟨a0, rfl, rfl, rfl, w0⟩ := open_int Tryd.underlying3 (hval 0 3 v0 rfl rfl) h0
  obtain ⟨a1, rfl, rfl, rfl, w1⟩ := open_int Tryd.underlying3 (hval 1 3 v1 rfl rfl) h1
  clear hA0 hval0
  refine (walk a0 a1 W w0 w1).mono fun e W' ⟨he, bel⟩ => ?_
  subst he
  exact ⟨_, rfl, _, _, _, [], _, [], hW', trodAll_mk1 (shut_bool Tryd.underlying4 _), (trodAll_cons_mk (shut_int Tryd.underlying3 w0) (trodAll_cons_mk (shut_int Tryd.underlying3 w1) trodAll_mk0)), rfl, bel.frame _, fun h => by cases h⟩
theorem spinEnds_over (walk : ∀ (a0 : Int) (a1 : Int) (w : World), (Lit.int .i64 a0).wf = true → (Lit.int .i64 a1).wf = true → Calls Tryd.prog 3 #[.int .i64 a0, .int .i64 a1] w fun e w' => e = .returned (.bool true) ∧ Below w.heap.size w w') :
    Rows.SpinEndsSaid :=
  OpenClaim.holds_of_wide 3 Tryd.f3 rfl rfl rfl rfl rfl rfl rfl ⟨rfl, rfl, rfl, rfl, rfl⟩ rfl rfl rfl rfl rfl (by kernel_rfl) Tryd.func3 spinEnds_joined
    (of_decide_eq_true (by kernel_rfl)) (by unfold Func.isWrapper; first | (rw [if_pos (by decide +kernel)]; kernel_rfl) | (rw [if_neg (by decide +kernel)]; exact ⟨rfl, rfl⟩))
    (fun os started H enc _ => spinEnds_lifted walk os started H enc)
end Go.Proofs.YtamfbfajlfbooaaDoor
