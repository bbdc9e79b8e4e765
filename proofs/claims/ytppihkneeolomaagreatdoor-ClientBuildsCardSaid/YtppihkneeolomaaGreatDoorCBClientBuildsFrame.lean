/- ClientBuilds: the row, out of its walk. -/
import Derived.Test.YtppihkneeolomaaGreatDoorCBm3
import Derived.Test.YtppihkneeolomaaGreatDoorCBJoinedP
import Derived.Test.YtppihkneeolomaaGreatDoorCBIsRow
import Derived.Test.YtppihkneeolomaaGreatDoorCBm8
import Derived.Test.YtppihkneeolomaaGreatDoorCBErrsLawQ
import Derived.Test.YtppihkneeolomaaGreatDoorCBm9
import Derived.Lib.SmallJoins
import Derived.OpenShut
import Derived.ShutString
import Derived.ChangeOld
import Derived.Below
set_option linter.unusedVariables false
set_option linter.unusedSimpArgs false
set_option linter.unusedSectionVars false
namespace Go.Proofs.YtppihkneeolomaaGreatDoor
open Go.ChangeShapes Go.WideShapes Go.ChangeAt Go.RowKit Go.Joins
open Go.ChangeMaps (open_string shut_string)
theorem clientBuilds_j0 : (Rows.clientBuildsRow.wf (OpenSpec.ofChange Rows.clientBuildsSpec)) = true := by kernel_rfl
theorem clientBuilds_j3 : (Tryz.f6.params.all (Tryz.pinned.checked.prog.readableRec ·)) = true := by kernel_rfl
theorem clientBuilds_j4 : (namedTie Tryz.pinned.checked.prog Rows.clientBuildsRow.named Rows.clientBuildsSpec.vars) = true := by kernel_rfl
theorem clientBuilds_j5 : ((Rows.clientBuildsRow.stops == [])) = true := by kernel_rfl
theorem clientBuilds_j7 : ((Rows.clientBuildsRow.knobs == [])) = true := by kernel_rfl
theorem clientBuilds_j9 : ((Rows.clientBuildsRow.inPlace == Tryz.pinned.checked.prog.inPlace 6)) = true := by kernel_rfl
theorem clientBuilds_j10 : ((Rows.clientBuildsRow.unfollowed == Tryz.pinned.checked.prog.unfollowed 6)) = true := by kernel_rfl
theorem clientBuilds_j11 : ((Rows.clientBuildsRow.recurses == Tryz.pinned.checked.prog.recurses 6)) = true := by kernel_rfl
theorem clientBuilds_j12 : ((Rows.clientBuildsRow.named == Tryz.pinned.checked.prog.varsNamed 6)) = true := by kernel_rfl
theorem clientBuilds_j13 : ((Rows.clientBuildsRow.maps == (Tryz.f6.params.toList ++ Rows.clientBuildsSpec.plain.varTypes Tryz.pinned.checked.prog).any (Tryz.pinned.checked.prog.mapsRec ·))) = true := by kernel_rfl
theorem clientBuilds_j14 : ((Rows.clientBuildsRow.ifaces == (Tryz.f6.params.toList ++ Rows.clientBuildsSpec.plain.varTypes Tryz.pinned.checked.prog).any (Tryz.pinned.checked.prog.ifacesRec ·))) = true := by kernel_rfl
theorem clientBuilds_j15 : ((Rows.clientBuildsRow.mapsOut == Tryz.pinned.checked.prog.mapsAmong Tryz.f6.resultTypes.toList)) = true := by kernel_rfl
theorem clientBuilds_j16 : ((Rows.clientBuildsRow.loops == (Tryz.f6.params.toList ++ Rows.clientBuildsSpec.plain.varTypes Tryz.pinned.checked.prog).any (Tryz.pinned.checked.prog.loopsFrom ·))) = true := by kernel_rfl
theorem clientBuilds_j17 : ((Rows.clientBuildsRow.wideKeys == (Tryz.f6.params.toList ++ Rows.clientBuildsSpec.plain.varTypes Tryz.pinned.checked.prog ++ Tryz.f6.resultTypes.toList).any (Tryz.pinned.checked.prog.wideKeysFrom ·))) = true := by kernel_rfl
theorem clientBuilds_j18 : (Rows.clientBuildsSpec.vars.all (Tryz.pinned.checked.prog.varReadable ·)) = true := by kernel_rfl
theorem clientBuilds_j19 : (Tryz.f6.resultTypes.all (fun t => Tryz.pinned.checked.prog.readableRec t && decide (t < Tryz.pinned.checked.prog.types.size))) = true := by kernel_rfl
theorem clientBuilds_j20 : ((Rows.clientBuildsRow.ifacesOut == Tryz.f6.resultTypes.toList.any (Tryz.pinned.checked.prog.ifacesRec ·))) = true := by kernel_rfl
theorem clientBuilds_j21 : ((Rows.clientBuildsRow.loopsOut == Tryz.f6.resultTypes.toList.any (Tryz.pinned.checked.prog.loopsFrom ·))) = true := by kernel_rfl
theorem clientBuilds_j22 : ((Rows.clientBuildsRow.plainKeys == Tryz.pinned.checked.prog.plainKeys)) = true := by
  rw [show Rows.clientBuildsRow.plainKeys = true from rfl]; exact jp22
theorem clientBuilds_j23 : (Rows.clientBuildsRow.shortTexts.isNone) = true := by kernel_rfl
theorem clientBuilds_j26 : ((Rows.clientBuildsRow.lifted == Tryz.pinned.checked.prog.liftsFinal)) = true := by
  rw [show Rows.clientBuildsRow.lifted = false from rfl]; exact jp26
theorem clientBuilds_j27 : ((Tryz.pinned.checked.prog.make == some Rows.clientBuildsRow.make)) = true := by
  rw [show Rows.clientBuildsRow.make = Make.cut from rfl]; exact jp27
theorem clientBuilds_j28 : ((Rows.clientBuildsRow.kinds == kindsOf Tryz.pinned.checked.prog Rows.clientBuildsRow.domain.isEmpty Tryz.f6.params.toList)) = true := by kernel_rfl
theorem clientBuilds_j29 : ((Rows.clientBuildsRow.pinned == Rows.clientBuildsRow.pinnedBy)) = true := by kernel_rfl
theorem clientBuilds_j30 : ((Rows.clientBuildsRow.veiled == (Tryz.f6.params.toList ++ Rows.clientBuildsSpec.plain.varTypes Tryz.pinned.checked.prog ++ Tryz.f6.resultTypes.toList).any (Tryz.pinned.checked.prog.veiledRec ·))) = true := by kernel_rfl
theorem clientBuilds_j31 : (Rows.clientBuildsRow.veiledFits Tryz.pinned.checked.prog Tryz.f6.params.toList (Tryz.f6.params.toList ++ Rows.clientBuildsSpec.plain.varTypes Tryz.pinned.checked.prog ++ Tryz.f6.resultTypes.toList)) = true := by kernel_rfl
theorem clientBuilds_joined : joinedFacts Tryz.pinned.checked.prog 6 Tryz.f6 Rows.clientBuildsSpec Rows.clientBuildsRow = true :=
  joined_of (P := Tryz.pinned.checked.prog) (f := 6) (fn := Tryz.f6) (s := Rows.clientBuildsSpec) (c := Rows.clientBuildsRow) clientBuilds_j0 jp1 jp2 clientBuilds_j3 clientBuilds_j4 clientBuilds_j5 jp6 clientBuilds_j7 jp8 clientBuilds_j9 clientBuilds_j10 clientBuilds_j11 clientBuilds_j12 clientBuilds_j13 clientBuilds_j14 clientBuilds_j15 clientBuilds_j16 clientBuilds_j17 clientBuilds_j18 clientBuilds_j19 clientBuilds_j20 clientBuilds_j21 clientBuilds_j22 clientBuilds_j23 jp24 jp25 clientBuilds_j26 clientBuilds_j27 clientBuilds_j28 clientBuilds_j29 clientBuilds_j30 clientBuilds_j31
theorem laid_errs_clientBuilds : (Rows.clientBuildsRow.laid.filter fun x => x.2.handleName?.isSome) = [hd10] ∧ ((Rows.clientBuildsRow.laid.filter fun x => x.2.handleName?.isNone).drop 3).take 9 = nine := ⟨by kernel_rfl, by kernel_rfl⟩
theorem laid_kinds_clientBuilds : ((Rows.clientBuildsRow.laid.filter fun x => x.2.handleName?.isNone).drop 12).take 1 = [("quiescent/client.kinds", kindsD)] := by kernel_rfl
theorem kinds_clientBuilds {W : World} (h : laidMetH Tryz.prog Rows.clientBuildsRow.laid W) : KindsW W := by
  unfold laidMetH at h
  have h1 := laidMet_part h.1 12 1
  rw [laid_kinds_clientBuilds] at h1
  obtain ⟨ps, hL, _⟩ := h1
  exact kinds_of_vars (by kernel_rfl) (by kernel_rfl) hL
set_option maxRecDepth 100000 in
theorem clientBuilds_lifted (walk : ∀ (a0 : Int) (a1 : Option Addr) (len1 cap1 : Nat) (z1 : List (List ROp)) (w : World), (Lit.int .i64 a0).wf = true → IsOps w a1 len1 cap1 z1 → (∃ a, ErrsAt w a) → KindsW w → Calls Tryz.prog 6 #[.int .i64 a0, .slice a1 len1 cap1] w fun e w' => e = .returned (.bool true) ∧ Below w.heap.size w w')
    (os : Os) (started : os.Started) (H : Type) (enc : TypeId × Value → H) :
    ReturnsInHanded {} Tryz.checked os 6 .any (fun w args => (Rows.clientBuildsSpec.pre enc Tryz.prog Tryz.f6 [] false w args ∧ laidMetH Tryz.prog Rows.clientBuildsRow.laid w) ∧ sizedMet enc Tryz.prog Tryz.f6 (OpenSpec.ofChange Rows.clientBuildsSpec) false w args)
      (Rows.clientBuildsSpec.post enc Tryz.prog Tryz.f6 false true false false) := by
  refine returnsInHanded_of_change_and (C := Tryz.checked) (X := fun w _ => laidMetH Tryz.prog Rows.clientBuildsRow.laid w) (fun _ _ _ hh h => h.of_heap hh) own started (by kernel_rfl) Tryz.func6
    (ChangeSpec.witness_shaped (enc := enc) (C := Tryz.checked) (os := os) (X := fun w _ => laidMetH Tryz.prog Rows.clientBuildsRow.laid w) false (laidWorldK os) #[.int .i64 0, .slice none 0 0] 8 rfl (World.shaped_of_RefB (by kernel_rfl) (by kernel_rfl)) (by kernel_rfl) (by kernel_rfl) (by kernel_rfl) (laid_met_clientBuilds os _)) ?_
  intro W base args ds gs before hval0 hW _ _ hL _
  have hval : ∀ (j : Nat) t v, Tryz.f6.params[j]? = some t → args[j]? = some v → Value.okWide Tryz.prog W .any base t v := hval0
  have hW' := hW
  obtain ⟨p, q, hA0, hV, rfl, hfz, hnd⟩ := hW
  have hA : DataW.TrodAll enc Tryz.prog W 0 (fun _ => true) true Tryz.f6.params.toList args.toList ds p := hA0
  rw [Tryz.params6] at hA hval
  obtain ⟨v0, vs0, d0, ds0, p0, q0, hargs, rfl, rfl, h0, r0⟩ := trodAll_cons hA
  obtain ⟨v1, vs1, d1, ds1, p1, q1, rfl, rfl, rfl, h1, r1⟩ := trodAll_cons r0
  obtain ⟨rfl, rfl, rfl⟩ := trodAll_nil r1
  obtain rfl : args = #[v0, v1] := by cases args; simp_all
  obtain ⟨rfl, rfl⟩ := trodVars_none hV
  obtain ⟨a0, rfl, rfl, rfl, w0⟩ := open_int Tryz.underlying3 (hval 0 3 v0 rfl rfl) h0
  obtain ⟨a1, len1, cap1, rfl⟩ := okWide_slice Tryz.underlying22 (hval 1 22 v1 rfl rfl)
  have k1 := h1
  have lt1 : ∀ x ∈ p1, x.block < W.heap.size := by obtain ⟨m, hm⟩ := k1; exact DataW.trod_lt m _ _ _ hm
  obtain ⟨z1, w1⟩ : ∃ zs, IsOps W a1 len1 cap1 zs := isOps_of h1
  clear hA0 hval0
  refine (walk a0 a1 len1 cap1 z1 W w0 w1 (errs_of_laid_q laid_errs_clientBuilds hL) (kinds_clientBuilds hL)).mono fun e W' ⟨he, bel⟩ => ?_
  subst he
  exact ⟨_, rfl, _, _, _, [], _, [], hW', trodAll_mk1 (shut_bool Tryz.underlying4 _), (trodAll_cons_mk (shut_int Tryz.underlying3 w0) (trodAll_cons_mk (Below.trod laidOut (by kernel_rfl) (of_decide_eq_true (by kernel_rfl)) k1 bel lt1) trodAll_mk0)), rfl, bel.frame _, fun h => by cases h⟩
theorem clientBuilds_over (walk : ∀ (a0 : Int) (a1 : Option Addr) (len1 cap1 : Nat) (z1 : List (List ROp)) (w : World), (Lit.int .i64 a0).wf = true → IsOps w a1 len1 cap1 z1 → (∃ a, ErrsAt w a) → KindsW w → Calls Tryz.prog 6 #[.int .i64 a0, .slice a1 len1 cap1] w fun e w' => e = .returned (.bool true) ∧ Below w.heap.size w w') :
    Rows.ClientBuildsSaid :=
  OpenClaim.holds_of_wide 6 Tryz.f6 rfl rfl rfl rfl rfl rfl rfl ⟨rfl, rfl, rfl, rfl, rfl⟩ rfl rfl rfl rfl rfl (by kernel_rfl) Tryz.func6 clientBuilds_joined
    (of_decide_eq_true (by kernel_rfl)) (by unfold Func.isWrapper; first | (rw [if_pos (by decide +kernel)]; kernel_rfl) | (rw [if_neg (by decide +kernel)]; exact ⟨rfl, rfl⟩))
    (fun os started H enc _ => clientBuilds_lifted walk os started H enc)
end Go.Proofs.YtppihkneeolomaaGreatDoor
