/- ClientOne: the row, out of its walk. -/
import Derived.Test.YtppihkneeolomaaDoorCOm5
import Derived.Lib.LaidTab
import Derived.Test.YtppihkneeolomaaDoorCOm3
import Derived.Test.YtppihkneeolomaaDoorCOJoinedP
import Derived.Test.YtppihkneeolomaaDoorCOm10
import Derived.Test.YtppihkneeolomaaDoorCOErrsLawQ
import Derived.Test.YtppihkneeolomaaDoorCOErrsI
import Derived.Lib.SmallJoins
import Derived.OpenShut
import Derived.ShutString
import Derived.ChangeOld
import Derived.Below
set_option linter.unusedVariables false
set_option linter.unusedSimpArgs false
set_option linter.unusedSectionVars false
namespace Go.Proofs.YtppihkneeolomaaDoor
open Go.ChangeShapes Go.WideShapes Go.ChangeAt Go.RowKit Go.Joins
open Go.ChangeMaps (open_string shut_string)
theorem clientOne_j0 : (Rows.clientOneRow.wf (OpenSpec.ofChange Rows.clientOneSpec)) = true := by kernel_rfl
theorem clientOne_j3 : (Tryd.f6.params.all (Tryd.pinned.checked.prog.readableRec ·)) = true := by kernel_rfl
theorem clientOne_j4 : (namedTie Tryd.pinned.checked.prog Rows.clientOneRow.named Rows.clientOneSpec.vars) = true := by kernel_rfl
theorem clientOne_j5 : ((Rows.clientOneRow.stops == [])) = true := by kernel_rfl
theorem clientOne_j7 : ((Rows.clientOneRow.knobs == [])) = true := by kernel_rfl
theorem clientOne_j9 : ((Rows.clientOneRow.inPlace == Tryd.pinned.checked.prog.inPlace 6)) = true := by kernel_rfl
theorem clientOne_j10 : ((Rows.clientOneRow.unfollowed == Tryd.pinned.checked.prog.unfollowed 6)) = true := by kernel_rfl
theorem clientOne_j11 : ((Rows.clientOneRow.recurses == Tryd.pinned.checked.prog.recurses 6)) = true := by kernel_rfl
theorem clientOne_j12 : ((Rows.clientOneRow.named == Tryd.pinned.checked.prog.varsNamed 6)) = true := by kernel_rfl
theorem clientOne_j13 : ((Rows.clientOneRow.maps == (Tryd.f6.params.toList ++ Rows.clientOneSpec.plain.varTypes Tryd.pinned.checked.prog).any (Tryd.pinned.checked.prog.mapsRec ·))) = true := by kernel_rfl
theorem clientOne_j14 : ((Rows.clientOneRow.ifaces == (Tryd.f6.params.toList ++ Rows.clientOneSpec.plain.varTypes Tryd.pinned.checked.prog).any (Tryd.pinned.checked.prog.ifacesRec ·))) = true := by kernel_rfl
theorem clientOne_j15 : ((Rows.clientOneRow.mapsOut == Tryd.pinned.checked.prog.mapsAmong Tryd.f6.resultTypes.toList)) = true := by kernel_rfl
theorem clientOne_j16 : ((Rows.clientOneRow.loops == (Tryd.f6.params.toList ++ Rows.clientOneSpec.plain.varTypes Tryd.pinned.checked.prog).any (Tryd.pinned.checked.prog.loopsFrom ·))) = true := by kernel_rfl
theorem clientOne_j17 : ((Rows.clientOneRow.wideKeys == (Tryd.f6.params.toList ++ Rows.clientOneSpec.plain.varTypes Tryd.pinned.checked.prog ++ Tryd.f6.resultTypes.toList).any (Tryd.pinned.checked.prog.wideKeysFrom ·))) = true := by kernel_rfl
theorem clientOne_j18 : (Rows.clientOneSpec.vars.all (Tryd.pinned.checked.prog.varReadable ·)) = true := by kernel_rfl
theorem clientOne_j19 : (Tryd.f6.resultTypes.all (fun t => Tryd.pinned.checked.prog.readableRec t && decide (t < Tryd.pinned.checked.prog.types.size))) = true := by kernel_rfl
theorem clientOne_j20 : ((Rows.clientOneRow.ifacesOut == Tryd.f6.resultTypes.toList.any (Tryd.pinned.checked.prog.ifacesRec ·))) = true := by kernel_rfl
theorem clientOne_j21 : ((Rows.clientOneRow.loopsOut == Tryd.f6.resultTypes.toList.any (Tryd.pinned.checked.prog.loopsFrom ·))) = true := by kernel_rfl
theorem clientOne_j22 : ((Rows.clientOneRow.plainKeys == Tryd.pinned.checked.prog.plainKeys)) = true := by
  rw [show Rows.clientOneRow.plainKeys = true from rfl]; exact jp22
theorem clientOne_j23 : (Rows.clientOneRow.shortTexts.isNone) = true := by kernel_rfl
theorem clientOne_j26 : ((Rows.clientOneRow.lifted == Tryd.pinned.checked.prog.liftsFinal)) = true := by
  rw [show Rows.clientOneRow.lifted = false from rfl]; exact jp26
theorem clientOne_j27 : ((Tryd.pinned.checked.prog.make == some Rows.clientOneRow.make)) = true := by
  rw [show Rows.clientOneRow.make = Make.cut from rfl]; exact jp27
theorem clientOne_j28 : ((Rows.clientOneRow.kinds == kindsOf Tryd.pinned.checked.prog Rows.clientOneRow.domain.isEmpty Tryd.f6.params.toList)) = true := by kernel_rfl
theorem clientOne_j29 : ((Rows.clientOneRow.pinned == Rows.clientOneRow.pinnedBy)) = true := by kernel_rfl
theorem clientOne_j30 : ((Rows.clientOneRow.veiled == (Tryd.f6.params.toList ++ Rows.clientOneSpec.plain.varTypes Tryd.pinned.checked.prog ++ Tryd.f6.resultTypes.toList).any (Tryd.pinned.checked.prog.veiledRec ·))) = true := by kernel_rfl
theorem clientOne_j31 : (Rows.clientOneRow.veiledFits Tryd.pinned.checked.prog Tryd.f6.params.toList (Tryd.f6.params.toList ++ Rows.clientOneSpec.plain.varTypes Tryd.pinned.checked.prog ++ Tryd.f6.resultTypes.toList)) = true := by kernel_rfl
theorem clientOne_joined : joinedFacts Tryd.pinned.checked.prog 6 Tryd.f6 Rows.clientOneSpec Rows.clientOneRow = true :=
  joined_of (P := Tryd.pinned.checked.prog) (f := 6) (fn := Tryd.f6) (s := Rows.clientOneSpec) (c := Rows.clientOneRow) clientOne_j0 jp1 jp2 clientOne_j3 clientOne_j4 clientOne_j5 jp6 clientOne_j7 jp8 clientOne_j9 clientOne_j10 clientOne_j11 clientOne_j12 clientOne_j13 clientOne_j14 clientOne_j15 clientOne_j16 clientOne_j17 clientOne_j18 clientOne_j19 clientOne_j20 clientOne_j21 clientOne_j22 clientOne_j23 jp24 jp25 clientOne_j26 clientOne_j27 clientOne_j28 clientOne_j29 clientOne_j30 clientOne_j31
theorem laid0_clientOne : (Rows.clientOneRow.laid.filter fun x => x.2.handleName?.isSome) = [] := by kernel_rfl
theorem laid_kinds_clientOne : ((Rows.clientOneRow.laid).drop 8).take 1 = [("quiescent/client.kinds", kindsD)] := by kernel_rfl
theorem kinds_clientOne {W : World} (h : laidMetH Tryd.prog Rows.clientOneRow.laid W) : KindsW W := by
  unfold laidMetH at h
  rw [laid0_clientOne] at h
  have h1 := laidMet_part h 8 1
  rw [laid_kinds_clientOne] at h1
  obtain ⟨ps, hL, _⟩ := h1
  exact kinds_of_vars (by kernel_rfl) (by kernel_rfl) hL
theorem laidE_clientOne : (Rows.clientOneRow.laid.drop 3).take 5 = lstI [1, 2, 3, 4, 7] := by kernel_rfl
set_option maxRecDepth 100000 in
theorem clientOne_lifted (walk : ∀ (a0 : Int) (a1 : Option Addr) (len1 cap1 : Nat) (z1 : List Int) (w : World), (Lit.int .i64 a0).wf = true → IsRow .i64 w a1 len1 cap1 z1 → KindsW w → (∃ a, ErrsC w a) → Calls Tryd.prog 6 #[.int .i64 a0, .slice a1 len1 cap1] w fun e w' => e = .returned (.bool true) ∧ Below w.heap.size w w')
    (os : Os) (started : os.Started) (H : Type) (enc : TypeId × Value → H) :
    ReturnsInHanded {} Tryd.checked os 6 .any (fun w args => (Rows.clientOneSpec.pre enc Tryd.prog Tryd.f6 [] false w args ∧ laidMetH Tryd.prog Rows.clientOneRow.laid w) ∧ sizedMet enc Tryd.prog Tryd.f6 (OpenSpec.ofChange Rows.clientOneSpec) false w args)
      (Rows.clientOneSpec.post enc Tryd.prog Tryd.f6 false true false false) := by
  refine returnsInHanded_of_change_and (C := Tryd.checked) (X := fun w _ => laidMetH Tryd.prog Rows.clientOneRow.laid w) (fun _ _ _ hh h => h.of_heap hh) own started (by kernel_rfl) Tryd.func6
    (ChangeSpec.witness_shaped (enc := enc) (C := Tryd.checked) (os := os) (X := fun w _ => laidMetH Tryd.prog Rows.clientOneRow.laid w) false (laidWorldK os) #[.int .i64 0, .slice none 0 0] 8 rfl (World.shaped_of_RefB (by kernel_rfl) (by kernel_rfl)) (by kernel_rfl) (by kernel_rfl) (by kernel_rfl) (laid_met_clientOne os _)) ?_
  intro W base args ds gs before hval0 hW _ _ hL _
  have hval : ∀ (j : Nat) t v, Tryd.f6.params[j]? = some t → args[j]? = some v → Value.okWide Tryd.prog W .any base t v := hval0
  have hW' := hW
  obtain ⟨p, q, hA0, hV, rfl, hfz, hnd⟩ := hW
  have hA : DataW.TrodAll enc Tryd.prog W 0 (fun _ => true) true Tryd.f6.params.toList args.toList ds p := hA0
  rw [Tryd.params6] at hA hval
  obtain ⟨v0, vs0, d0, ds0, p0, q0, hargs, rfl, rfl, h0, r0⟩ := trodAll_cons hA
  obtain ⟨v1, vs1, d1, ds1, p1, q1, rfl, rfl, rfl, h1, r1⟩ := trodAll_cons r0
  obtain ⟨rfl, rfl, rfl⟩ := trodAll_nil r1
  obtain rfl : args = #[v0, v1] := by cases args; simp_all
  obtain ⟨rfl, rfl⟩ := trodVars_none hV
  obtain ⟨a0, rfl, rfl, rfl, w0⟩ := open_int Tryd.underlying3 (hval 0 3 v0 rfl rfl) h0
  obtain ⟨a1, len1, cap1, rfl⟩ := okWide_slice Tryd.underlying23 (hval 1 23 v1 rfl rfl)
  have k1 := h1
  have lt1 : ∀ x ∈ p1, x.block < W.heap.size := by obtain ⟨m, hm⟩ := k1; exact DataW.trod_lt m _ _ _ hm
  obtain ⟨z1, w1⟩ : ∃ zs, IsRow .i64 W a1 len1 cap1 zs := isRow_of Tryd.underlying23 Tryd.underlying3 (by kernel_rfl) h1
  clear hA0 hval0
  refine (walk a0 a1 len1 cap1 z1 W w0 w1 (kinds_clientOne hL) (errs5 laid0_clientOne laidE_clientOne hL)).mono fun e W' ⟨he, bel⟩ => ?_
  subst he
  exact ⟨_, rfl, _, _, _, [], _, [], hW', trodAll_mk1 (shut_bool Tryd.underlying4 _), (trodAll_cons_mk (shut_int Tryd.underlying3 w0) (trodAll_cons_mk (Below.trod laidOut (by kernel_rfl) (of_decide_eq_true (by kernel_rfl)) k1 bel lt1) trodAll_mk0)), rfl, bel.frame _, fun h => by cases h⟩
theorem clientOne_over (walk : ∀ (a0 : Int) (a1 : Option Addr) (len1 cap1 : Nat) (z1 : List Int) (w : World), (Lit.int .i64 a0).wf = true → IsRow .i64 w a1 len1 cap1 z1 → KindsW w → (∃ a, ErrsC w a) → Calls Tryd.prog 6 #[.int .i64 a0, .slice a1 len1 cap1] w fun e w' => e = .returned (.bool true) ∧ Below w.heap.size w w') :
    Rows.ClientOneSaid :=
  OpenClaim.holds_of_wide 6 Tryd.f6 rfl rfl rfl rfl rfl rfl rfl ⟨rfl, rfl, rfl, rfl, rfl⟩ rfl rfl rfl rfl rfl (by kernel_rfl) Tryd.func6 clientOne_joined
    (of_decide_eq_true (by kernel_rfl)) (by unfold Func.isWrapper; first | (rw [if_pos (by decide +kernel)]; kernel_rfl) | (rw [if_neg (by decide +kernel)]; exact ⟨rfl, rfl⟩))
    (fun os started H enc _ => clientOne_lifted walk os started H enc)
end Go.Proofs.YtppihkneeolomaaDoor
