/- MachSteps: the row, out of its walk. -/
import Derived.Test.YtciaficoeajeaaaGreatDoorMSm3
import Derived.Test.YtciaficoeajeaaaGreatDoorMSJoinedP
import Derived.Test.YtciaficoeajeaaaGreatDoorMSm6
import Derived.Test.YtciaficoeajeaaaGreatDoorMSErrsLawQ
import Derived.Lib.SmallJoins
import Derived.OpenShut
import Derived.ShutString
import Derived.ChangeOld
import Derived.Below
set_option linter.unusedVariables false
set_option linter.unusedSimpArgs false
set_option linter.unusedSectionVars false
namespace Go.Proofs.YtciaficoeajeaaaGreatDoor
open Go.ChangeShapes Go.WideShapes Go.ChangeAt Go.RowKit Go.Joins
open Go.ChangeMaps (open_string shut_string)
theorem machSteps_j0 : (Rows.machStepsRow.wf (OpenSpec.ofChange Rows.machStepsSpec)) = true := by kernel_rfl
theorem machSteps_j3 : (Tryz.f3.params.all (Tryz.pinned.checked.prog.readableRec ·)) = true := by kernel_rfl
theorem machSteps_j4 : (namedTie Tryz.pinned.checked.prog Rows.machStepsRow.named Rows.machStepsSpec.vars) = true := by kernel_rfl
theorem machSteps_j5 : ((Rows.machStepsRow.stops == [])) = true := by kernel_rfl
theorem machSteps_j7 : ((Rows.machStepsRow.knobs == [])) = true := by kernel_rfl
theorem machSteps_j9 : ((Rows.machStepsRow.inPlace == Tryz.pinned.checked.prog.inPlace 3)) = true := by kernel_rfl
theorem machSteps_j10 : ((Rows.machStepsRow.unfollowed == Tryz.pinned.checked.prog.unfollowed 3)) = true := by kernel_rfl
theorem machSteps_j11 : ((Rows.machStepsRow.recurses == Tryz.pinned.checked.prog.recurses 3)) = true := by kernel_rfl
theorem machSteps_j12 : ((Rows.machStepsRow.named == Tryz.pinned.checked.prog.varsNamed 3)) = true := by kernel_rfl
theorem machSteps_j13 : ((Rows.machStepsRow.maps == (Tryz.f3.params.toList ++ Rows.machStepsSpec.plain.varTypes Tryz.pinned.checked.prog).any (Tryz.pinned.checked.prog.mapsRec ·))) = true := by kernel_rfl
theorem machSteps_j14 : ((Rows.machStepsRow.ifaces == (Tryz.f3.params.toList ++ Rows.machStepsSpec.plain.varTypes Tryz.pinned.checked.prog).any (Tryz.pinned.checked.prog.ifacesRec ·))) = true := by kernel_rfl
theorem machSteps_j15 : ((Rows.machStepsRow.mapsOut == Tryz.pinned.checked.prog.mapsAmong Tryz.f3.resultTypes.toList)) = true := by kernel_rfl
theorem machSteps_j16 : ((Rows.machStepsRow.loops == (Tryz.f3.params.toList ++ Rows.machStepsSpec.plain.varTypes Tryz.pinned.checked.prog).any (Tryz.pinned.checked.prog.loopsFrom ·))) = true := by kernel_rfl
theorem machSteps_j17 : ((Rows.machStepsRow.wideKeys == (Tryz.f3.params.toList ++ Rows.machStepsSpec.plain.varTypes Tryz.pinned.checked.prog ++ Tryz.f3.resultTypes.toList).any (Tryz.pinned.checked.prog.wideKeysFrom ·))) = true := by kernel_rfl
theorem machSteps_j18 : (Rows.machStepsSpec.vars.all (Tryz.pinned.checked.prog.varReadable ·)) = true := by kernel_rfl
theorem machSteps_j19 : (Tryz.f3.resultTypes.all (fun t => Tryz.pinned.checked.prog.readableRec t && decide (t < Tryz.pinned.checked.prog.types.size))) = true := by kernel_rfl
theorem machSteps_j20 : ((Rows.machStepsRow.ifacesOut == Tryz.f3.resultTypes.toList.any (Tryz.pinned.checked.prog.ifacesRec ·))) = true := by kernel_rfl
theorem machSteps_j21 : ((Rows.machStepsRow.loopsOut == Tryz.f3.resultTypes.toList.any (Tryz.pinned.checked.prog.loopsFrom ·))) = true := by kernel_rfl
theorem machSteps_j22 : ((Rows.machStepsRow.plainKeys == Tryz.pinned.checked.prog.plainKeys)) = true := by
  rw [show Rows.machStepsRow.plainKeys = true from rfl]; exact jp22
theorem machSteps_j23 : (Rows.machStepsRow.shortTexts.isNone) = true := by kernel_rfl
theorem machSteps_j26 : ((Rows.machStepsRow.lifted == Tryz.pinned.checked.prog.liftsFinal)) = true := by
  rw [show Rows.machStepsRow.lifted = false from rfl]; exact jp26
theorem machSteps_j27 : ((Tryz.pinned.checked.prog.make == some Rows.machStepsRow.make)) = true := by
  rw [show Rows.machStepsRow.make = Make.cut from rfl]; exact jp27
theorem machSteps_j28 : ((Rows.machStepsRow.kinds == kindsOf Tryz.pinned.checked.prog Rows.machStepsRow.domain.isEmpty Tryz.f3.params.toList)) = true := by kernel_rfl
theorem machSteps_j29 : ((Rows.machStepsRow.pinned == Rows.machStepsRow.pinnedBy)) = true := by kernel_rfl
theorem machSteps_j30 : ((Rows.machStepsRow.veiled == (Tryz.f3.params.toList ++ Rows.machStepsSpec.plain.varTypes Tryz.pinned.checked.prog ++ Tryz.f3.resultTypes.toList).any (Tryz.pinned.checked.prog.veiledRec ·))) = true := by kernel_rfl
theorem machSteps_j31 : (Rows.machStepsRow.veiledFits Tryz.pinned.checked.prog Tryz.f3.params.toList (Tryz.f3.params.toList ++ Rows.machStepsSpec.plain.varTypes Tryz.pinned.checked.prog ++ Tryz.f3.resultTypes.toList)) = true := by kernel_rfl
theorem machSteps_joined : joinedFacts Tryz.pinned.checked.prog 3 Tryz.f3 Rows.machStepsSpec Rows.machStepsRow = true :=
  joined_of (P := Tryz.pinned.checked.prog) (f := 3) (fn := Tryz.f3) (s := Rows.machStepsSpec) (c := Rows.machStepsRow) machSteps_j0 jp1 jp2 machSteps_j3 machSteps_j4 machSteps_j5 jp6 machSteps_j7 jp8 machSteps_j9 machSteps_j10 machSteps_j11 machSteps_j12 machSteps_j13 machSteps_j14 machSteps_j15 machSteps_j16 machSteps_j17 machSteps_j18 machSteps_j19 machSteps_j20 machSteps_j21 machSteps_j22 machSteps_j23 jp24 jp25 machSteps_j26 machSteps_j27 machSteps_j28 machSteps_j29 machSteps_j30 machSteps_j31
theorem laid_errs_machSteps : (Rows.machStepsRow.laid.filter fun x => x.2.handleName?.isSome) = [hd10] ∧ ((Rows.machStepsRow.laid.filter fun x => x.2.handleName?.isNone).drop 0).take 9 = nine := ⟨by kernel_rfl, by kernel_rfl⟩
set_option maxRecDepth 100000 in
theorem machSteps_lifted (walk : ∀ (a0 : Int) (iw0 rw0 : Value) (zi0 zr0 : List (List Int)) (a1 : Option Addr) (len1 cap1 : Nat) (z1 : List (List Qh.RI)) (cv1 : Nat → Value) (a2 : Option Addr) (len2 cap2 : Nat) (z2 : List Int) (a3 : Int) (a4 : Int) (w : World), StartIn w a0 iw0 rw0 zi0 zr0 → InsRows w (.slice a1 len1 cap1) z1 cv1 → IsRow .i64 w a2 len2 cap2 z2 → (Lit.int .i64 a3).wf = true → (Lit.int .i64 a4).wf = true → (∃ a, ErrsAt w a) → Calls Tryz.prog 3 #[.agg #[.int .i64 a0, iw0, rw0], .slice a1 len1 cap1, .slice a2 len2 cap2, .int .i64 a3, .int .i64 a4] w fun e w' => e = .returned (.bool true) ∧ Below w.heap.size w w')
    (os : Os) (started : os.Started) (H : Type) (enc : TypeId × Value → H) :
    ReturnsInHanded {} Tryz.checked os 3 .any (fun w args => (Rows.machStepsSpec.pre enc Tryz.prog Tryz.f3 [] false w args ∧ laidMetH Tryz.prog Rows.machStepsRow.laid w) ∧ sizedMet enc Tryz.prog Tryz.f3 (OpenSpec.ofChange Rows.machStepsSpec) false w args)
      (Rows.machStepsSpec.post enc Tryz.prog Tryz.f3 false true false false) := by
  refine returnsInHanded_of_change_and (C := Tryz.checked) (X := fun w _ => laidMetH Tryz.prog Rows.machStepsRow.laid w) (fun _ _ _ hh h => h.of_heap hh) own started (by kernel_rfl) Tryz.func3
    (ChangeSpec.witness_at (enc := enc) (C := Tryz.checked) (os := os) (X := fun w _ => laidMetH Tryz.prog Rows.machStepsRow.laid w) false (laidWorld os) #[.agg #[.int .i64 0, .slice none 0 0, .slice none 0 0], .slice none 0 0, .slice none 0 0, .int .i64 0, .int .i64 0] 8 rfl (by kernel_rfl) (by kernel_rfl) (by kernel_rfl) (by kernel_rfl) (by kernel_rfl) (laid_met_machSteps os _)) ?_
  intro W base args ds gs before hval0 hW _ _ hL _
  have hval : ∀ (j : Nat) t v, Tryz.f3.params[j]? = some t → args[j]? = some v → Value.okWide Tryz.prog W .any base t v := hval0
  have hW' := hW
  obtain ⟨p, q, hA0, hV, rfl, hfz, hnd⟩ := hW
  have hA : DataW.TrodAll enc Tryz.prog W 0 (fun _ => true) true Tryz.f3.params.toList args.toList ds p := hA0
  rw [Tryz.params3] at hA hval
  obtain ⟨v0, vs0, d0, ds0, p0, q0, hargs, rfl, rfl, h0, r0⟩ := trodAll_cons hA
  obtain ⟨v1, vs1, d1, ds1, p1, q1, rfl, rfl, rfl, h1, r1⟩ := trodAll_cons r0
  obtain ⟨v2, vs2, d2, ds2, p2, q2, rfl, rfl, rfl, h2, r2⟩ := trodAll_cons r1
  obtain ⟨v3, vs3, d3, ds3, p3, q3, rfl, rfl, rfl, h3, r3⟩ := trodAll_cons r2
  obtain ⟨v4, vs4, d4, ds4, p4, q4, rfl, rfl, rfl, h4, r4⟩ := trodAll_cons r3
  obtain ⟨rfl, rfl, rfl⟩ := trodAll_nil r4
  obtain rfl : args = #[v0, v1, v2, v3, v4] := by cases args; simp_all
  obtain ⟨rfl, rfl⟩ := trodVars_none hV
  have k0 := h0
  have lt0 : ∀ x ∈ p0, x.block < W.heap.size := by obtain ⟨m, hm⟩ := k0; exact DataW.trod_lt m _ _ _ hm
  obtain ⟨a0, iw0, rw0, zi0, zr0, rfl, w0⟩ := start_open (hval 0 24 v0 rfl rfl) h0
  obtain ⟨a1, len1, cap1, rfl⟩ := okWide_slice Tryz.underlying25 (hval 1 25 v1 rfl rfl)
  have k1 := h1
  have lt1 : ∀ x ∈ p1, x.block < W.heap.size := by obtain ⟨m, hm⟩ := k1; exact DataW.trod_lt m _ _ _ hm
  obtain ⟨z1, cv1, w1⟩ : ∃ zs cv, InsRows W (.slice a1 len1 cap1) zs cv := insRows_of h1
  obtain ⟨a2, len2, cap2, rfl⟩ := okWide_slice Tryz.underlying26 (hval 2 26 v2 rfl rfl)
  have k2 := h2
  have lt2 : ∀ x ∈ p2, x.block < W.heap.size := by obtain ⟨m, hm⟩ := k2; exact DataW.trod_lt m _ _ _ hm
  obtain ⟨z2, w2⟩ : ∃ zs, IsRow .i64 W a2 len2 cap2 zs := isRow_of Tryz.underlying26 Tryz.underlying3 (by kernel_rfl) h2
  obtain ⟨a3, rfl, rfl, rfl, w3⟩ := open_int Tryz.underlying3 (hval 3 3 v3 rfl rfl) h3
  obtain ⟨a4, rfl, rfl, rfl, w4⟩ := open_int Tryz.underlying3 (hval 4 3 v4 rfl rfl) h4
  clear hA0 hval0
  refine (walk a0 iw0 rw0 zi0 zr0 a1 len1 cap1 z1 cv1 a2 len2 cap2 z2 a3 a4 W w0 w1 w2 w3 w4 (errs_of_laid_q laid_errs_machSteps hL)).mono fun e W' ⟨he, bel⟩ => ?_
  subst he
  exact ⟨_, rfl, _, _, _, [], _, [], hW', trodAll_mk1 (shut_bool Tryz.underlying4 _), (trodAll_cons_mk (Below.trod laidOut (by kernel_rfl) (of_decide_eq_true (by kernel_rfl)) k0 bel lt0) (trodAll_cons_mk (Below.trod laidOut (by kernel_rfl) (of_decide_eq_true (by kernel_rfl)) k1 bel lt1) (trodAll_cons_mk (Below.trod laidOut (by kernel_rfl) (of_decide_eq_true (by kernel_rfl)) k2 bel lt2) (trodAll_cons_mk (shut_int Tryz.underlying3 w3) (trodAll_cons_mk (shut_int Tryz.underlying3 w4) trodAll_mk0))))), rfl, bel.frame _, fun h => by cases h⟩
theorem machSteps_over (walk : ∀ (a0 : Int) (iw0 rw0 : Value) (zi0 zr0 : List (List Int)) (a1 : Option Addr) (len1 cap1 : Nat) (z1 : List (List Qh.RI)) (cv1 : Nat → Value) (a2 : Option Addr) (len2 cap2 : Nat) (z2 : List Int) (a3 : Int) (a4 : Int) (w : World), StartIn w a0 iw0 rw0 zi0 zr0 → InsRows w (.slice a1 len1 cap1) z1 cv1 → IsRow .i64 w a2 len2 cap2 z2 → (Lit.int .i64 a3).wf = true → (Lit.int .i64 a4).wf = true → (∃ a, ErrsAt w a) → Calls Tryz.prog 3 #[.agg #[.int .i64 a0, iw0, rw0], .slice a1 len1 cap1, .slice a2 len2 cap2, .int .i64 a3, .int .i64 a4] w fun e w' => e = .returned (.bool true) ∧ Below w.heap.size w w') :
    Rows.MachStepsSaid :=
  OpenClaim.holds_of_wide 3 Tryz.f3 rfl rfl rfl rfl rfl rfl rfl ⟨rfl, rfl, rfl, rfl, rfl⟩ rfl rfl rfl rfl rfl (by kernel_rfl) Tryz.func3 machSteps_joined
    (of_decide_eq_true (by kernel_rfl)) (by unfold Func.isWrapper; first | (rw [if_pos (by decide +kernel)]; kernel_rfl) | (rw [if_neg (by decide +kernel)]; exact ⟨rfl, rfl⟩))
    (fun os started H enc _ => machSteps_lifted walk os started H enc)
end Go.Proofs.YtciaficoeajeaaaGreatDoor
