/- ClientSafe: the row, out of its walk. -/
import Derived.Test.YtppihkneeolomaaGreatDoorCSm6
import Derived.Lib.LaidTab
import Derived.Test.YtppihkneeolomaaGreatDoorCSm3
import Derived.Test.YtppihkneeolomaaGreatDoorCSJoinedP
import Derived.Test.YtppihkneeolomaaGreatDoorCSm11
import Derived.Test.YtppihkneeolomaaGreatDoorCSm10
import Derived.Test.YtppihkneeolomaaGreatDoorCSErrsLawQ
import Derived.Test.YtppihkneeolomaaGreatDoorCSErrsI
import Derived.Lib.SmallJoins
import Derived.OpenShut
import Derived.ShutString
import Derived.ChangeOld
import Derived.Below
set_option linter.unusedVariables false
set_option linter.unusedSimpArgs false
set_option linter.unusedSectionVars false
namespace Go.Proofs.YtppihkneeolomaaGreatDoor
open Go.ChangeShapes Go.WideShapes Go.ChangeAt Go.RowKit Go.Joins
open Go.ChangeMaps (open_string shut_string)
theorem clientSafe_j0 : (Rows.clientSafeRow.wf (OpenSpec.ofChange Rows.clientSafeSpec)) = true := by kernel_rfl
theorem clientSafe_j3 : (Tryz.f4.params.all (Tryz.pinned.checked.prog.readableRec ·)) = true := by kernel_rfl
theorem clientSafe_j4 : (namedTie Tryz.pinned.checked.prog Rows.clientSafeRow.named Rows.clientSafeSpec.vars) = true := by kernel_rfl
theorem clientSafe_j5 : ((Rows.clientSafeRow.stops == [])) = true := by kernel_rfl
theorem clientSafe_j7 : ((Rows.clientSafeRow.knobs == [])) = true := by kernel_rfl
theorem clientSafe_j9 : ((Rows.clientSafeRow.inPlace == Tryz.pinned.checked.prog.inPlace 4)) = true := by kernel_rfl
theorem clientSafe_j10 : ((Rows.clientSafeRow.unfollowed == Tryz.pinned.checked.prog.unfollowed 4)) = true := by kernel_rfl
theorem clientSafe_j11 : ((Rows.clientSafeRow.recurses == Tryz.pinned.checked.prog.recurses 4)) = true := by kernel_rfl
theorem clientSafe_j12 : ((Rows.clientSafeRow.named == Tryz.pinned.checked.prog.varsNamed 4)) = true := by kernel_rfl
theorem clientSafe_j13 : ((Rows.clientSafeRow.maps == (Tryz.f4.params.toList ++ Rows.clientSafeSpec.plain.varTypes Tryz.pinned.checked.prog).any (Tryz.pinned.checked.prog.mapsRec ·))) = true := by kernel_rfl
theorem clientSafe_j14 : ((Rows.clientSafeRow.ifaces == (Tryz.f4.params.toList ++ Rows.clientSafeSpec.plain.varTypes Tryz.pinned.checked.prog).any (Tryz.pinned.checked.prog.ifacesRec ·))) = true := by kernel_rfl
theorem clientSafe_j15 : ((Rows.clientSafeRow.mapsOut == Tryz.pinned.checked.prog.mapsAmong Tryz.f4.resultTypes.toList)) = true := by kernel_rfl
theorem clientSafe_j16 : ((Rows.clientSafeRow.loops == (Tryz.f4.params.toList ++ Rows.clientSafeSpec.plain.varTypes Tryz.pinned.checked.prog).any (Tryz.pinned.checked.prog.loopsFrom ·))) = true := by kernel_rfl
theorem clientSafe_j17 : ((Rows.clientSafeRow.wideKeys == (Tryz.f4.params.toList ++ Rows.clientSafeSpec.plain.varTypes Tryz.pinned.checked.prog ++ Tryz.f4.resultTypes.toList).any (Tryz.pinned.checked.prog.wideKeysFrom ·))) = true := by kernel_rfl
theorem clientSafe_j18 : (Rows.clientSafeSpec.vars.all (Tryz.pinned.checked.prog.varReadable ·)) = true := by kernel_rfl
theorem clientSafe_j19 : (Tryz.f4.resultTypes.all (fun t => Tryz.pinned.checked.prog.readableRec t && decide (t < Tryz.pinned.checked.prog.types.size))) = true := by kernel_rfl
theorem clientSafe_j20 : ((Rows.clientSafeRow.ifacesOut == Tryz.f4.resultTypes.toList.any (Tryz.pinned.checked.prog.ifacesRec ·))) = true := by kernel_rfl
theorem clientSafe_j21 : ((Rows.clientSafeRow.loopsOut == Tryz.f4.resultTypes.toList.any (Tryz.pinned.checked.prog.loopsFrom ·))) = true := by kernel_rfl
theorem clientSafe_j22 : ((Rows.clientSafeRow.plainKeys == Tryz.pinned.checked.prog.plainKeys)) = true := by
  rw [show Rows.clientSafeRow.plainKeys = true from rfl]; exact jp22
theorem clientSafe_j23 : (Rows.clientSafeRow.shortTexts.isNone) = true := by kernel_rfl
theorem clientSafe_j26 : ((Rows.clientSafeRow.lifted == Tryz.pinned.checked.prog.liftsFinal)) = true := by
  rw [show Rows.clientSafeRow.lifted = false from rfl]; exact jp26
theorem clientSafe_j27 : ((Tryz.pinned.checked.prog.make == some Rows.clientSafeRow.make)) = true := by
  rw [show Rows.clientSafeRow.make = Make.cut from rfl]; exact jp27
theorem clientSafe_j28 : ((Rows.clientSafeRow.kinds == kindsOf Tryz.pinned.checked.prog Rows.clientSafeRow.domain.isEmpty Tryz.f4.params.toList)) = true := by kernel_rfl
theorem clientSafe_j29 : ((Rows.clientSafeRow.pinned == Rows.clientSafeRow.pinnedBy)) = true := by kernel_rfl
theorem clientSafe_j30 : ((Rows.clientSafeRow.veiled == (Tryz.f4.params.toList ++ Rows.clientSafeSpec.plain.varTypes Tryz.pinned.checked.prog ++ Tryz.f4.resultTypes.toList).any (Tryz.pinned.checked.prog.veiledRec ·))) = true := by kernel_rfl
theorem clientSafe_j31 : (Rows.clientSafeRow.veiledFits Tryz.pinned.checked.prog Tryz.f4.params.toList (Tryz.f4.params.toList ++ Rows.clientSafeSpec.plain.varTypes Tryz.pinned.checked.prog ++ Tryz.f4.resultTypes.toList)) = true := by kernel_rfl
theorem clientSafe_joined : joinedFacts Tryz.pinned.checked.prog 4 Tryz.f4 Rows.clientSafeSpec Rows.clientSafeRow = true :=
  joined_of (P := Tryz.pinned.checked.prog) (f := 4) (fn := Tryz.f4) (s := Rows.clientSafeSpec) (c := Rows.clientSafeRow) clientSafe_j0 jp1 jp2 clientSafe_j3 clientSafe_j4 clientSafe_j5 jp6 clientSafe_j7 jp8 clientSafe_j9 clientSafe_j10 clientSafe_j11 clientSafe_j12 clientSafe_j13 clientSafe_j14 clientSafe_j15 clientSafe_j16 clientSafe_j17 clientSafe_j18 clientSafe_j19 clientSafe_j20 clientSafe_j21 clientSafe_j22 clientSafe_j23 jp24 jp25 clientSafe_j26 clientSafe_j27 clientSafe_j28 clientSafe_j29 clientSafe_j30 clientSafe_j31
theorem laid0_clientSafe : (Rows.clientSafeRow.laid.filter fun x => x.2.handleName?.isSome) = [] := by kernel_rfl
theorem laid_kinds_clientSafe : ((Rows.clientSafeRow.laid).drop 8).take 1 = [("quiescent/client.kinds", kindsD)] := by kernel_rfl
theorem kinds_clientSafe {W : World} (h : laidMetH Tryz.prog Rows.clientSafeRow.laid W) : KindsW W := by
  unfold laidMetH at h
  rw [laid0_clientSafe] at h
  have h1 := laidMet_part h 8 1
  rw [laid_kinds_clientSafe] at h1
  obtain ⟨ps, hL, _⟩ := h1
  exact kinds_of_vars (by kernel_rfl) (by kernel_rfl) hL
theorem laidE_clientSafe : (Rows.clientSafeRow.laid.drop 3).take 5 = lstI [1, 2, 3, 4, 7] := by kernel_rfl
set_option maxRecDepth 100000 in
theorem clientSafe_lifted (walk : ∀ (a0 : Int) (a1 : Option Addr) (len1 cap1 : Nat) (z1 : List (List ROp)) (a2 : Option Addr) (len2 cap2 : Nat) (z2 : List Int) (w : World), (Lit.int .i64 a0).wf = true → IsOps w a1 len1 cap1 z1 → IsRow .i64 w a2 len2 cap2 z2 → KindsW w → (∃ a, ErrsC w a) → Calls Tryz.prog 4 #[.int .i64 a0, .slice a1 len1 cap1, .slice a2 len2 cap2] w fun e w' => e = .returned (.bool true) ∧ Below w.heap.size w w')
    (os : Os) (started : os.Started) (H : Type) (enc : TypeId × Value → H) :
    ReturnsInHanded {} Tryz.checked os 4 .any (fun w args => (Rows.clientSafeSpec.pre enc Tryz.prog Tryz.f4 [] false w args ∧ laidMetH Tryz.prog Rows.clientSafeRow.laid w) ∧ sizedMet enc Tryz.prog Tryz.f4 (OpenSpec.ofChange Rows.clientSafeSpec) false w args)
      (Rows.clientSafeSpec.post enc Tryz.prog Tryz.f4 false true false false) := by
  refine returnsInHanded_of_change_and (C := Tryz.checked) (X := fun w _ => laidMetH Tryz.prog Rows.clientSafeRow.laid w) (fun _ _ _ hh h => h.of_heap hh) own started (by kernel_rfl) Tryz.func4
    (ChangeSpec.witness_shaped (enc := enc) (C := Tryz.checked) (os := os) (X := fun w _ => laidMetH Tryz.prog Rows.clientSafeRow.laid w) false (laidWorldK os) #[.int .i64 0, .slice none 0 0, .slice none 0 0] 8 rfl (World.shaped_of_RefB (by kernel_rfl) (by kernel_rfl)) (by kernel_rfl) (by kernel_rfl) (by kernel_rfl) (laid_met_clientSafe os _)) ?_
  intro W base args ds gs before hval0 hW _ _ hL _
  have hval : ∀ (j : Nat) t v, Tryz.f4.params[j]? = some t → args[j]? = some v → Value.okWide Tryz.prog W .any base t v := hval0
  have hW' := hW
  obtain ⟨p, q, hA0, hV, rfl, hfz, hnd⟩ := hW
  have hA : DataW.TrodAll enc Tryz.prog W 0 (fun _ => true) true Tryz.f4.params.toList args.toList ds p := hA0
  rw [Tryz.params4] at hA hval
  obtain ⟨v0, vs0, d0, ds0, p0, q0, hargs, rfl, rfl, h0, r0⟩ := trodAll_cons hA
  obtain ⟨v1, vs1, d1, ds1, p1, q1, rfl, rfl, rfl, h1, r1⟩ := trodAll_cons r0
  obtain ⟨v2, vs2, d2, ds2, p2, q2, rfl, rfl, rfl, h2, r2⟩ := trodAll_cons r1
  obtain ⟨rfl, rfl, rfl⟩ := trodAll_nil r2
  obtain rfl : args = #[v0, v1, v2] := by cases args; simp_all
  obtain ⟨rfl, rfl⟩ := trodVars_none hV
  obtain ⟨a0, rfl, rfl, rfl, w0⟩ := open_int Tryz.underlying3 (hval 0 3 v0 rfl rfl) h0
  obtain ⟨a1, len1, cap1, rfl⟩ := okWide_slice Tryz.underlying22 (hval 1 22 v1 rfl rfl)
  have k1 := h1
  have lt1 : ∀ x ∈ p1, x.block < W.heap.size := by obtain ⟨m, hm⟩ := k1; exact DataW.trod_lt m _ _ _ hm
  obtain ⟨z1, w1⟩ : ∃ zs, IsOps W a1 len1 cap1 zs := isOps_of h1
  obtain ⟨a2, len2, cap2, rfl⟩ := okWide_slice Tryz.underlying23 (hval 2 23 v2 rfl rfl)
  have k2 := h2
  have lt2 : ∀ x ∈ p2, x.block < W.heap.size := by obtain ⟨m, hm⟩ := k2; exact DataW.trod_lt m _ _ _ hm
  obtain ⟨z2, w2⟩ : ∃ zs, IsRow .i64 W a2 len2 cap2 zs := isRow_of Tryz.underlying23 Tryz.underlying3 (by kernel_rfl) h2
  clear hA0 hval0
  refine (walk a0 a1 len1 cap1 z1 a2 len2 cap2 z2 W w0 w1 w2 (kinds_clientSafe hL) (errs5 laid0_clientSafe laidE_clientSafe hL)).mono fun e W' ⟨he, bel⟩ => ?_
  subst he
  exact ⟨_, rfl, _, _, _, [], _, [], hW', trodAll_mk1 (shut_bool Tryz.underlying4 _), (trodAll_cons_mk (shut_int Tryz.underlying3 w0) (trodAll_cons_mk (Below.trod laidOut (by kernel_rfl) (of_decide_eq_true (by kernel_rfl)) k1 bel lt1) (trodAll_cons_mk (Below.trod laidOut (by kernel_rfl) (of_decide_eq_true (by kernel_rfl)) k2 bel lt2) trodAll_mk0))), rfl, bel.frame _, fun h => by cases h⟩
theorem clientSafe_over (walk : ∀ (a0 : Int) (a1 : Option Addr) (len1 cap1 : Nat) (z1 : List (List ROp)) (a2 : Option Addr) (len2 cap2 : Nat) (z2 : List Int) (w : World), (Lit.int .i64 a0).wf = true → IsOps w a1 len1 cap1 z1 → IsRow .i64 w a2 len2 cap2 z2 → KindsW w → (∃ a, ErrsC w a) → Calls Tryz.prog 4 #[.int .i64 a0, .slice a1 len1 cap1, .slice a2 len2 cap2] w fun e w' => e = .returned (.bool true) ∧ Below w.heap.size w w') :
    Rows.ClientSafeSaid :=
  OpenClaim.holds_of_wide 4 Tryz.f4 rfl rfl rfl rfl rfl rfl rfl ⟨rfl, rfl, rfl, rfl, rfl⟩ rfl rfl rfl rfl rfl (by kernel_rfl) Tryz.func4 clientSafe_joined
    (of_decide_eq_true (by kernel_rfl)) (by unfold Func.isWrapper; first | (rw [if_pos (by decide +kernel)]; kernel_rfl) | (rw [if_neg (by decide +kernel)]; exact ⟨rfl, rfl⟩))
    (fun os started H enc _ => clientSafe_lifted walk os started H enc)
end Go.Proofs.YtppihkneeolomaaGreatDoor
