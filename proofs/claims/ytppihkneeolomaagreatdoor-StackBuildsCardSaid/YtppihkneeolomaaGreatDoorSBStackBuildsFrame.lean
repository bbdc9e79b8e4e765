/- StackBuilds: the row, out of its walk. -/
import Derived.Test.YtppihkneeolomaaGreatDoorSBm3
import Derived.Test.YtppihkneeolomaaGreatDoorSBJoinedP
import Derived.Test.YtppihkneeolomaaGreatDoorSBIsRow
import Derived.Test.YtppihkneeolomaaGreatDoorSBm9
import Derived.Test.YtppihkneeolomaaGreatDoorSBErrsLawQ
import Derived.Test.YtppihkneeolomaaGreatDoorSBTabLaid
import Derived.Lib.SmallJoins
import Derived.OpenShut
import Derived.ShutString
import Derived.ChangeOld
import Derived.Below
set_option linter.unusedVariables false
set_option linter.unusedSimpArgs false
set_option linter.unusedSectionVars false
namespace Go.Proofs.YtppihkneeolomaaGreatDoor
open Go.ChangeShapes Go.WideShapes Go.ChangeAt Go.RowKit Go.Joins
open Go.ChangeMaps (open_string shut_string)
theorem stackBuilds_j0 : (Rows.stackBuildsRow.wf (OpenSpec.ofChange Rows.stackBuildsSpec)) = true := by kernel_rfl
theorem stackBuilds_j3 : (Tryz.f5.params.all (Tryz.pinned.checked.prog.readableRec ·)) = true := by kernel_rfl
theorem stackBuilds_j4 : (namedTie Tryz.pinned.checked.prog Rows.stackBuildsRow.named Rows.stackBuildsSpec.vars) = true := by kernel_rfl
theorem stackBuilds_j5 : ((Rows.stackBuildsRow.stops == [])) = true := by kernel_rfl
theorem stackBuilds_j7 : ((Rows.stackBuildsRow.knobs == [])) = true := by kernel_rfl
theorem stackBuilds_j9 : ((Rows.stackBuildsRow.inPlace == Tryz.pinned.checked.prog.inPlace 5)) = true := by kernel_rfl
theorem stackBuilds_j10 : ((Rows.stackBuildsRow.unfollowed == Tryz.pinned.checked.prog.unfollowed 5)) = true := by kernel_rfl
theorem stackBuilds_j11 : ((Rows.stackBuildsRow.recurses == Tryz.pinned.checked.prog.recurses 5)) = true := by kernel_rfl
theorem stackBuilds_j12 : ((Rows.stackBuildsRow.named == Tryz.pinned.checked.prog.varsNamed 5)) = true := by kernel_rfl
theorem stackBuilds_j13 : ((Rows.stackBuildsRow.maps == (Tryz.f5.params.toList ++ Rows.stackBuildsSpec.plain.varTypes Tryz.pinned.checked.prog).any (Tryz.pinned.checked.prog.mapsRec ·))) = true := by kernel_rfl
theorem stackBuilds_j14 : ((Rows.stackBuildsRow.ifaces == (Tryz.f5.params.toList ++ Rows.stackBuildsSpec.plain.varTypes Tryz.pinned.checked.prog).any (Tryz.pinned.checked.prog.ifacesRec ·))) = true := by kernel_rfl
theorem stackBuilds_j15 : ((Rows.stackBuildsRow.mapsOut == Tryz.pinned.checked.prog.mapsAmong Tryz.f5.resultTypes.toList)) = true := by kernel_rfl
theorem stackBuilds_j16 : ((Rows.stackBuildsRow.loops == (Tryz.f5.params.toList ++ Rows.stackBuildsSpec.plain.varTypes Tryz.pinned.checked.prog).any (Tryz.pinned.checked.prog.loopsFrom ·))) = true := by kernel_rfl
theorem stackBuilds_j17 : ((Rows.stackBuildsRow.wideKeys == (Tryz.f5.params.toList ++ Rows.stackBuildsSpec.plain.varTypes Tryz.pinned.checked.prog ++ Tryz.f5.resultTypes.toList).any (Tryz.pinned.checked.prog.wideKeysFrom ·))) = true := by kernel_rfl
theorem stackBuilds_j18 : (Rows.stackBuildsSpec.vars.all (Tryz.pinned.checked.prog.varReadable ·)) = true := by kernel_rfl
theorem stackBuilds_j19 : (Tryz.f5.resultTypes.all (fun t => Tryz.pinned.checked.prog.readableRec t && decide (t < Tryz.pinned.checked.prog.types.size))) = true := by kernel_rfl
theorem stackBuilds_j20 : ((Rows.stackBuildsRow.ifacesOut == Tryz.f5.resultTypes.toList.any (Tryz.pinned.checked.prog.ifacesRec ·))) = true := by kernel_rfl
theorem stackBuilds_j21 : ((Rows.stackBuildsRow.loopsOut == Tryz.f5.resultTypes.toList.any (Tryz.pinned.checked.prog.loopsFrom ·))) = true := by kernel_rfl
theorem stackBuilds_j22 : ((Rows.stackBuildsRow.plainKeys == Tryz.pinned.checked.prog.plainKeys)) = true := by
  rw [show Rows.stackBuildsRow.plainKeys = true from rfl]; exact jp22
theorem stackBuilds_j23 : (Rows.stackBuildsRow.shortTexts.isNone) = true := by kernel_rfl
theorem stackBuilds_j26 : ((Rows.stackBuildsRow.lifted == Tryz.pinned.checked.prog.liftsFinal)) = true := by
  rw [show Rows.stackBuildsRow.lifted = false from rfl]; exact jp26
theorem stackBuilds_j27 : ((Tryz.pinned.checked.prog.make == some Rows.stackBuildsRow.make)) = true := by
  rw [show Rows.stackBuildsRow.make = Make.cut from rfl]; exact jp27
theorem stackBuilds_j28 : ((Rows.stackBuildsRow.kinds == kindsOf Tryz.pinned.checked.prog Rows.stackBuildsRow.domain.isEmpty Tryz.f5.params.toList)) = true := by kernel_rfl
theorem stackBuilds_j29 : ((Rows.stackBuildsRow.pinned == Rows.stackBuildsRow.pinnedBy)) = true := by kernel_rfl
theorem stackBuilds_j30 : ((Rows.stackBuildsRow.veiled == (Tryz.f5.params.toList ++ Rows.stackBuildsSpec.plain.varTypes Tryz.pinned.checked.prog ++ Tryz.f5.resultTypes.toList).any (Tryz.pinned.checked.prog.veiledRec ·))) = true := by kernel_rfl
theorem stackBuilds_j31 : (Rows.stackBuildsRow.veiledFits Tryz.pinned.checked.prog Tryz.f5.params.toList (Tryz.f5.params.toList ++ Rows.stackBuildsSpec.plain.varTypes Tryz.pinned.checked.prog ++ Tryz.f5.resultTypes.toList)) = true := by kernel_rfl
theorem stackBuilds_joined : joinedFacts Tryz.pinned.checked.prog 5 Tryz.f5 Rows.stackBuildsSpec Rows.stackBuildsRow = true :=
  joined_of (P := Tryz.pinned.checked.prog) (f := 5) (fn := Tryz.f5) (s := Rows.stackBuildsSpec) (c := Rows.stackBuildsRow) stackBuilds_j0 jp1 jp2 stackBuilds_j3 stackBuilds_j4 stackBuilds_j5 jp6 stackBuilds_j7 jp8 stackBuilds_j9 stackBuilds_j10 stackBuilds_j11 stackBuilds_j12 stackBuilds_j13 stackBuilds_j14 stackBuilds_j15 stackBuilds_j16 stackBuilds_j17 stackBuilds_j18 stackBuilds_j19 stackBuilds_j20 stackBuilds_j21 stackBuilds_j22 stackBuilds_j23 jp24 jp25 stackBuilds_j26 stackBuilds_j27 stackBuilds_j28 stackBuilds_j29 stackBuilds_j30 stackBuilds_j31
theorem laid_errs_stackBuilds : (Rows.stackBuildsRow.laid.filter fun x => x.2.handleName?.isSome) = [hd10] ∧ ((Rows.stackBuildsRow.laid.filter fun x => x.2.handleName?.isNone).drop 3).take 9 = nine := ⟨by kernel_rfl, by kernel_rfl⟩
theorem tab_stackBuilds {W : World} (h : laidMetH Tryz.prog Rows.stackBuildsRow.laid W) : TabW W :=
  tab_of_laid (k := 2) (nm := ((Rows.stackBuildsRow.laid.map (·.1)).getD 2 "")) laid_errs_stackBuilds.1 (by kernel_rfl) (by kernel_rfl) h
set_option maxRecDepth 100000 in
theorem stackBuilds_lifted (walk : ∀ (a0 : Int) (a1 : Option Addr) (len1 cap1 : Nat) (z1 : List (List ROp)) (w : World), (Lit.int .i64 a0).wf = true → IsOps w a1 len1 cap1 z1 → (∃ a, ErrsAt w a) → TabW w → Calls Tryz.prog 5 #[.int .i64 a0, .slice a1 len1 cap1] w fun e w' => e = .returned (.bool true) ∧ Below w.heap.size w w')
    (os : Os) (started : os.Started) (H : Type) (enc : TypeId × Value → H) :
    ReturnsInHanded {} Tryz.checked os 5 .any (fun w args => (Rows.stackBuildsSpec.pre enc Tryz.prog Tryz.f5 [] false w args ∧ laidMetH Tryz.prog Rows.stackBuildsRow.laid w) ∧ sizedMet enc Tryz.prog Tryz.f5 (OpenSpec.ofChange Rows.stackBuildsSpec) false w args)
      (Rows.stackBuildsSpec.post enc Tryz.prog Tryz.f5 false true false false) := by
  refine returnsInHanded_of_change_and (C := Tryz.checked) (X := fun w _ => laidMetH Tryz.prog Rows.stackBuildsRow.laid w) (fun _ _ _ hh h => h.of_heap hh) own started (by kernel_rfl) Tryz.func5
    (ChangeSpec.witness_at (enc := enc) (C := Tryz.checked) (os := os) (X := fun w _ => laidMetH Tryz.prog Rows.stackBuildsRow.laid w) false (laidWorld os) #[.int .i64 0, .slice none 0 0] 8 rfl (by kernel_rfl) (by kernel_rfl) (by kernel_rfl) (by kernel_rfl) (by kernel_rfl) (laid_met_stackBuilds os _)) ?_
  intro W base args ds gs before hval0 hW _ _ hL _
  have hval : ∀ (j : Nat) t v, Tryz.f5.params[j]? = some t → args[j]? = some v → Value.okWide Tryz.prog W .any base t v := hval0
  have hW' := hW
  obtain ⟨p, q, hA0, hV, rfl, hfz, hnd⟩ := hW
  have hA : DataW.TrodAll enc Tryz.prog W 0 (fun _ => true) true Tryz.f5.params.toList args.toList ds p := hA0
  rw [Tryz.params5] at hA hval
  obtain ⟨v0, vs0, d0, ds0, p0, q0, hargs, rfl, rfl, h0, r0⟩ := trodAll_cons hA
  obtain ⟨v1, vs1, d1, ds1, p1, q1, rfl, rfl, rfl, h1, r1⟩ := trodAll_cons r0
  obtain ⟨rfl, rfl, rfl⟩ := trodAll_nil r1
  obtain rfl : args = #[v0, v1] := by cases args; simp_all
  obtain ⟨rfl, rfl⟩ := trodVars_none hV
  obtain ⟨a0, rfl, rfl, rfl, w0⟩ := open_int Tryz.underlying3 (hval 0 3 v0 rfl rfl) h0
  obtain ⟨a1, len1, cap1, rfl⟩ := okWide_slice Tryz.underlying22 (hval 1 22 v1 rfl rfl)
  have k1 := h1
  have lt1 : ∀ x ∈ p1, x.block < W.heap.size := by obtain ⟨m, hm⟩ := k1; exact DataW.trod_lt m _ _ _ hm
  obtain ⟨z1, w1⟩ : ∃ zs, IsOps W a1 len1 cap1 zs := isOps_of h1
  clear hA0 hval0
  refine (walk a0 a1 len1 cap1 z1 W w0 w1 (errs_of_laid_q laid_errs_stackBuilds hL) (tab_stackBuilds hL)).mono fun e W' ⟨he, bel⟩ => ?_
  subst he
  exact ⟨_, rfl, _, _, _, [], _, [], hW', trodAll_mk1 (shut_bool Tryz.underlying4 _), (trodAll_cons_mk (shut_int Tryz.underlying3 w0) (trodAll_cons_mk (Below.trod laidOut (by kernel_rfl) (of_decide_eq_true (by kernel_rfl)) k1 bel lt1) trodAll_mk0)), rfl, bel.frame _, fun h => by cases h⟩
theorem stackBuilds_over (walk : ∀ (a0 : Int) (a1 : Option Addr) (len1 cap1 : Nat) (z1 : List (List ROp)) (w : World), (Lit.int .i64 a0).wf = true → IsOps w a1 len1 cap1 z1 → (∃ a, ErrsAt w a) → TabW w → Calls Tryz.prog 5 #[.int .i64 a0, .slice a1 len1 cap1] w fun e w' => e = .returned (.bool true) ∧ Below w.heap.size w w') :
    Rows.StackBuildsSaid :=
  OpenClaim.holds_of_wide 5 Tryz.f5 rfl rfl rfl rfl rfl rfl rfl ⟨rfl, rfl, rfl, rfl, rfl⟩ rfl rfl rfl rfl rfl (by kernel_rfl) Tryz.func5 stackBuilds_joined
    (of_decide_eq_true (by kernel_rfl)) (by unfold Func.isWrapper; first | (rw [if_pos (by decide +kernel)]; kernel_rfl) | (rw [if_neg (by decide +kernel)]; exact ⟨rfl, rfl⟩))
    (fun os started H enc _ => stackBuilds_lifted walk os started H enc)
end Go.Proofs.YtppihkneeolomaaGreatDoor
