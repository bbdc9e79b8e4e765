/- ClientChecks: the row, out of its walk. -/
import Derived.Test.YtppihkneeolomaaGreatDoorCCm3
import Derived.Test.YtppihkneeolomaaGreatDoorCCJoinedP
import Derived.Test.YtppihkneeolomaaGreatDoorCCIsRow
import Derived.Test.YtppihkneeolomaaGreatDoorCCm8
import Derived.Test.YtppihkneeolomaaGreatDoorCCErrsLawQ
import Derived.Test.YtppihkneeolomaaGreatDoorCCm9
import Derived.Lib.SmallJoins
import Derived.OpenShut
import Derived.ShutString
import Derived.ChangeOld
import Derived.Below
set_option linter.unusedVariables false
set_option linter.unusedSimpArgs false
set_option linter.unusedSectionVars false
namespace Go.Proofs.YtppihkneeolomaaGreatDoor
open Go.ChangeShapes Go.WideShapes Go.ChangeAt Go.RowKit Go.Joins
open Go.ChangeMaps (open_string shut_string)
theorem clientChecks_j0 : (Rows.clientChecksRow.wf (OpenSpec.ofChange Rows.clientChecksSpec)) = true := by kernel_rfl
theorem clientChecks_j3 : (Tryz.f7.params.all (Tryz.pinned.checked.prog.readableRec ·)) = true := by kernel_rfl
theorem clientChecks_j4 : (namedTie Tryz.pinned.checked.prog Rows.clientChecksRow.named Rows.clientChecksSpec.vars) = true := by kernel_rfl
theorem clientChecks_j5 : ((Rows.clientChecksRow.stops == [])) = true := by kernel_rfl
theorem clientChecks_j7 : ((Rows.clientChecksRow.knobs == [])) = true := by kernel_rfl
theorem clientChecks_j9 : ((Rows.clientChecksRow.inPlace == Tryz.pinned.checked.prog.inPlace 7)) = true := by kernel_rfl
theorem clientChecks_j10 : ((Rows.clientChecksRow.unfollowed == Tryz.pinned.checked.prog.unfollowed 7)) = true := by kernel_rfl
theorem clientChecks_j11 : ((Rows.clientChecksRow.recurses == Tryz.pinned.checked.prog.recurses 7)) = true := by kernel_rfl
theorem clientChecks_j12 : ((Rows.clientChecksRow.named == Tryz.pinned.checked.prog.varsNamed 7)) = true := by kernel_rfl
theorem clientChecks_j13 : ((Rows.clientChecksRow.maps == (Tryz.f7.params.toList ++ Rows.clientChecksSpec.plain.varTypes Tryz.pinned.checked.prog).any (Tryz.pinned.checked.prog.mapsRec ·))) = true := by kernel_rfl
theorem clientChecks_j14 : ((Rows.clientChecksRow.ifaces == (Tryz.f7.params.toList ++ Rows.clientChecksSpec.plain.varTypes Tryz.pinned.checked.prog).any (Tryz.pinned.checked.prog.ifacesRec ·))) = true := by kernel_rfl
theorem clientChecks_j15 : ((Rows.clientChecksRow.mapsOut == Tryz.pinned.checked.prog.mapsAmong Tryz.f7.resultTypes.toList)) = true := by kernel_rfl
theorem clientChecks_j16 : ((Rows.clientChecksRow.loops == (Tryz.f7.params.toList ++ Rows.clientChecksSpec.plain.varTypes Tryz.pinned.checked.prog).any (Tryz.pinned.checked.prog.loopsFrom ·))) = true := by kernel_rfl
theorem clientChecks_j17 : ((Rows.clientChecksRow.wideKeys == (Tryz.f7.params.toList ++ Rows.clientChecksSpec.plain.varTypes Tryz.pinned.checked.prog ++ Tryz.f7.resultTypes.toList).any (Tryz.pinned.checked.prog.wideKeysFrom ·))) = true := by kernel_rfl
theorem clientChecks_j18 : (Rows.clientChecksSpec.vars.all (Tryz.pinned.checked.prog.varReadable ·)) = true := by kernel_rfl
theorem clientChecks_j19 : (Tryz.f7.resultTypes.all (fun t => Tryz.pinned.checked.prog.readableRec t && decide (t < Tryz.pinned.checked.prog.types.size))) = true := by kernel_rfl
theorem clientChecks_j20 : ((Rows.clientChecksRow.ifacesOut == Tryz.f7.resultTypes.toList.any (Tryz.pinned.checked.prog.ifacesRec ·))) = true := by kernel_rfl
theorem clientChecks_j21 : ((Rows.clientChecksRow.loopsOut == Tryz.f7.resultTypes.toList.any (Tryz.pinned.checked.prog.loopsFrom ·))) = true := by kernel_rfl
theorem clientChecks_j22 : ((Rows.clientChecksRow.plainKeys == Tryz.pinned.checked.prog.plainKeys)) = true := by
  rw [show Rows.clientChecksRow.plainKeys = true from rfl]; exact jp22
theorem clientChecks_j23 : (Rows.clientChecksRow.shortTexts.isNone) = true := by kernel_rfl
theorem clientChecks_j26 : ((Rows.clientChecksRow.lifted == Tryz.pinned.checked.prog.liftsFinal)) = true := by
  rw [show Rows.clientChecksRow.lifted = false from rfl]; exact jp26
theorem clientChecks_j27 : ((Tryz.pinned.checked.prog.make == some Rows.clientChecksRow.make)) = true := by
  rw [show Rows.clientChecksRow.make = Make.cut from rfl]; exact jp27
theorem clientChecks_j28 : ((Rows.clientChecksRow.kinds == kindsOf Tryz.pinned.checked.prog Rows.clientChecksRow.domain.isEmpty Tryz.f7.params.toList)) = true := by kernel_rfl
theorem clientChecks_j29 : ((Rows.clientChecksRow.pinned == Rows.clientChecksRow.pinnedBy)) = true := by kernel_rfl
theorem clientChecks_j30 : ((Rows.clientChecksRow.veiled == (Tryz.f7.params.toList ++ Rows.clientChecksSpec.plain.varTypes Tryz.pinned.checked.prog ++ Tryz.f7.resultTypes.toList).any (Tryz.pinned.checked.prog.veiledRec ·))) = true := by kernel_rfl
theorem clientChecks_j31 : (Rows.clientChecksRow.veiledFits Tryz.pinned.checked.prog Tryz.f7.params.toList (Tryz.f7.params.toList ++ Rows.clientChecksSpec.plain.varTypes Tryz.pinned.checked.prog ++ Tryz.f7.resultTypes.toList)) = true := by kernel_rfl
theorem clientChecks_joined : joinedFacts Tryz.pinned.checked.prog 7 Tryz.f7 Rows.clientChecksSpec Rows.clientChecksRow = true :=
  joined_of (P := Tryz.pinned.checked.prog) (f := 7) (fn := Tryz.f7) (s := Rows.clientChecksSpec) (c := Rows.clientChecksRow) clientChecks_j0 jp1 jp2 clientChecks_j3 clientChecks_j4 clientChecks_j5 jp6 clientChecks_j7 jp8 clientChecks_j9 clientChecks_j10 clientChecks_j11 clientChecks_j12 clientChecks_j13 clientChecks_j14 clientChecks_j15 clientChecks_j16 clientChecks_j17 clientChecks_j18 clientChecks_j19 clientChecks_j20 clientChecks_j21 clientChecks_j22 clientChecks_j23 jp24 jp25 clientChecks_j26 clientChecks_j27 clientChecks_j28 clientChecks_j29 clientChecks_j30 clientChecks_j31
theorem laid_errs_clientChecks : (Rows.clientChecksRow.laid.filter fun x => x.2.handleName?.isSome) = [hd10] ∧ ((Rows.clientChecksRow.laid.filter fun x => x.2.handleName?.isNone).drop 3).take 9 = nine := ⟨by kernel_rfl, by kernel_rfl⟩
theorem laid_kinds_clientChecks : ((Rows.clientChecksRow.laid.filter fun x => x.2.handleName?.isNone).drop 12).take 1 = [("quiescent/client.kinds", kindsD)] := by kernel_rfl
theorem kinds_clientChecks {W : World} (h : laidMetH Tryz.prog Rows.clientChecksRow.laid W) : KindsW W := by
  unfold laidMetH at h
  have h1 := laidMet_part h.1 12 1
  rw [laid_kinds_clientChecks] at h1
  obtain ⟨ps, hL, _⟩ := h1
  exact kinds_of_vars (by kernel_rfl) (by kernel_rfl) hL
set_option maxRecDepth 100000 in
theorem clientChecks_lifted (walk : ∀ (a0 : Option Addr) (len0 cap0 : Nat) (z0 : List (List ROp)) (w : World), IsOps w a0 len0 cap0 z0 → (∃ a, ErrsAt w a) → KindsW w → Calls Tryz.prog 7 #[.slice a0 len0 cap0] w fun e w' => e = .returned (.bool true) ∧ Below w.heap.size w w')
    (os : Os) (started : os.Started) (H : Type) (enc : TypeId × Value → H) :
    ReturnsInHanded {} Tryz.checked os 7 .any (fun w args => (Rows.clientChecksSpec.pre enc Tryz.prog Tryz.f7 [] false w args ∧ laidMetH Tryz.prog Rows.clientChecksRow.laid w) ∧ sizedMet enc Tryz.prog Tryz.f7 (OpenSpec.ofChange Rows.clientChecksSpec) false w args)
      (Rows.clientChecksSpec.post enc Tryz.prog Tryz.f7 false true false false) := by
  refine returnsInHanded_of_change_and (C := Tryz.checked) (X := fun w _ => laidMetH Tryz.prog Rows.clientChecksRow.laid w) (fun _ _ _ hh h => h.of_heap hh) own started (by kernel_rfl) Tryz.func7
    (ChangeSpec.witness_shaped (enc := enc) (C := Tryz.checked) (os := os) (X := fun w _ => laidMetH Tryz.prog Rows.clientChecksRow.laid w) false (laidWorldK os) #[.slice none 0 0] 8 rfl (World.shaped_of_RefB (by kernel_rfl) (by kernel_rfl)) (by kernel_rfl) (by kernel_rfl) (by kernel_rfl) (laid_met_clientChecks os _)) ?_
  intro W base args ds gs before hval0 hW _ _ hL _
  have hval : ∀ (j : Nat) t v, Tryz.f7.params[j]? = some t → args[j]? = some v → Value.okWide Tryz.prog W .any base t v := hval0
  have hW' := hW
  obtain ⟨p, q, hA0, hV, rfl, hfz, hnd⟩ := hW
  have hA : DataW.TrodAll enc Tryz.prog W 0 (fun _ => true) true Tryz.f7.params.toList args.toList ds p := hA0
  rw [Tryz.params7] at hA hval
  obtain ⟨v0, vs0, d0, ds0, p0, q0, hargs, rfl, rfl, h0, r0⟩ := trodAll_cons hA
  obtain ⟨rfl, rfl, rfl⟩ := trodAll_nil r0
  obtain rfl : args = #[v0] := by cases args; simp_all
  obtain ⟨rfl, rfl⟩ := trodVars_none hV
  obtain ⟨a0, len0, cap0, rfl⟩ := okWide_slice Tryz.underlying22 (hval 0 22 v0 rfl rfl)
  have k0 := h0
  have lt0 : ∀ x ∈ p0, x.block < W.heap.size := by obtain ⟨m, hm⟩ := k0; exact DataW.trod_lt m _ _ _ hm
  obtain ⟨z0, w0⟩ : ∃ zs, IsOps W a0 len0 cap0 zs := isOps_of h0
  clear hA0 hval0
  refine (walk a0 len0 cap0 z0 W w0 (errs_of_laid_q laid_errs_clientChecks hL) (kinds_clientChecks hL)).mono fun e W' ⟨he, bel⟩ => ?_
  subst he
  exact ⟨_, rfl, _, _, _, [], _, [], hW', trodAll_mk1 (shut_bool Tryz.underlying4 _), (trodAll_cons_mk (Below.trod laidOut (by kernel_rfl) (of_decide_eq_true (by kernel_rfl)) k0 bel lt0) trodAll_mk0), rfl, bel.frame _, fun h => by cases h⟩
theorem clientChecks_over (walk : ∀ (a0 : Option Addr) (len0 cap0 : Nat) (z0 : List (List ROp)) (w : World), IsOps w a0 len0 cap0 z0 → (∃ a, ErrsAt w a) → KindsW w → Calls Tryz.prog 7 #[.slice a0 len0 cap0] w fun e w' => e = .returned (.bool true) ∧ Below w.heap.size w w') :
    Rows.ClientChecksSaid :=
  OpenClaim.holds_of_wide 7 Tryz.f7 rfl rfl rfl rfl rfl rfl rfl ⟨rfl, rfl, rfl, rfl, rfl⟩ rfl rfl rfl rfl rfl (by kernel_rfl) Tryz.func7 clientChecks_joined
    (of_decide_eq_true (by kernel_rfl)) (by unfold Func.isWrapper; first | (rw [if_pos (by decide +kernel)]; kernel_rfl) | (rw [if_neg (by decide +kernel)]; exact ⟨rfl, rfl⟩))
    (fun os started H enc _ => clientChecks_lifted walk os started H enc)
end Go.Proofs.YtppihkneeolomaaGreatDoor
