/- MachRuns: the row, out of its walk. -/
import Derived.Test.YtciaficoeajeaaaGreatDoorMRm3
import Derived.Test.YtciaficoeajeaaaGreatDoorMRJoinedP
import Derived.Test.YtciaficoeajeaaaGreatDoorMRm6
import Derived.Test.YtciaficoeajeaaaGreatDoorMRErrsLawQ
import Derived.Lib.SmallJoins
import Derived.OpenShut
import Derived.ShutString
import Derived.ChangeOld
import Derived.Below
set_option linter.unusedVariables false
set_option linter.unusedSimpArgs false
set_option linter.unusedSectionVars false
namespace Go.Proofs.YtciaficoeajeaaaGreatDoor
open Go.ChangeShapes Go.WideShapes Go.ChangeAt Go.RowKit Go.Joins
open Go.ChangeMaps (open_string shut_string)
theorem machRuns_j0 : (Rows.machRunsRow.wf (OpenSpec.ofChange Rows.machRunsSpec)) = true := by kernel_rfl
theorem machRuns_j3 : (Tryz.f4.params.all (Tryz.pinned.checked.prog.readableRec ·)) = true := by kernel_rfl
theorem machRuns_j4 : (namedTie Tryz.pinned.checked.prog Rows.machRunsRow.named Rows.machRunsSpec.vars) = true := by kernel_rfl
theorem machRuns_j5 : ((Rows.machRunsRow.stops == [])) = true := by kernel_rfl
theorem machRuns_j7 : ((Rows.machRunsRow.knobs == [])) = true := by kernel_rfl
theorem machRuns_j9 : ((Rows.machRunsRow.inPlace == Tryz.pinned.checked.prog.inPlace 4)) = true := by kernel_rfl
theorem machRuns_j10 : ((Rows.machRunsRow.unfollowed == Tryz.pinned.checked.prog.unfollowed 4)) = true := by kernel_rfl
theorem machRuns_j11 : ((Rows.machRunsRow.recurses == Tryz.pinned.checked.prog.recurses 4)) = true := by kernel_rfl
theorem machRuns_j12 : ((Rows.machRunsRow.named == Tryz.pinned.checked.prog.varsNamed 4)) = true := by kernel_rfl
theorem machRuns_j13 : ((Rows.machRunsRow.maps == (Tryz.f4.params.toList ++ Rows.machRunsSpec.plain.varTypes Tryz.pinned.checked.prog).any (Tryz.pinned.checked.prog.mapsRec ·))) = true := by kernel_rfl
theorem machRuns_j14 : ((Rows.machRunsRow.ifaces == (Tryz.f4.params.toList ++ Rows.machRunsSpec.plain.varTypes Tryz.pinned.checked.prog).any (Tryz.pinned.checked.prog.ifacesRec ·))) = true := by kernel_rfl
theorem machRuns_j15 : ((Rows.machRunsRow.mapsOut == Tryz.pinned.checked.prog.mapsAmong Tryz.f4.resultTypes.toList)) = true := by kernel_rfl
theorem machRuns_j16 : ((Rows.machRunsRow.loops == (Tryz.f4.params.toList ++ Rows.machRunsSpec.plain.varTypes Tryz.pinned.checked.prog).any (Tryz.pinned.checked.prog.loopsFrom ·))) = true := by kernel_rfl
theorem machRuns_j17 : ((Rows.machRunsRow.wideKeys == (Tryz.f4.params.toList ++ Rows.machRunsSpec.plain.varTypes Tryz.pinned.checked.prog ++ Tryz.f4.resultTypes.toList).any (Tryz.pinned.checked.prog.wideKeysFrom ·))) = true := by kernel_rfl
theorem machRuns_j18 : (Rows.machRunsSpec.vars.all (Tryz.pinned.checked.prog.varReadable ·)) = true := by kernel_rfl
theorem machRuns_j19 : (Tryz.f4.resultTypes.all (fun t => Tryz.pinned.checked.prog.readableRec t && decide (t < Tryz.pinned.checked.prog.types.size))) = true := by kernel_rfl
theorem machRuns_j20 : ((Rows.machRunsRow.ifacesOut == Tryz.f4.resultTypes.toList.any (Tryz.pinned.checked.prog.ifacesRec ·))) = true := by kernel_rfl
theorem machRuns_j21 : ((Rows.machRunsRow.loopsOut == Tryz.f4.resultTypes.toList.any (Tryz.pinned.checked.prog.loopsFrom ·))) = true := by kernel_rfl
theorem machRuns_j22 : ((Rows.machRunsRow.plainKeys == Tryz.pinned.checked.prog.plainKeys)) = true := by
  rw [show Rows.machRunsRow.plainKeys = true from rfl]; exact jp22
theorem machRuns_j23 : (Rows.machRunsRow.shortTexts.isNone) = true := by kernel_rfl
theorem machRuns_j26 : ((Rows.machRunsRow.lifted == Tryz.pinned.checked.prog.liftsFinal)) = true := by
  rw [show Rows.machRunsRow.lifted = false from rfl]; exact jp26
theorem machRuns_j27 : ((Tryz.pinned.checked.prog.make == some Rows.machRunsRow.make)) = true := by
  rw [show Rows.machRunsRow.make = Make.cut from rfl]; exact jp27
theorem machRuns_j28 : ((Rows.machRunsRow.kinds == kindsOf Tryz.pinned.checked.prog Rows.machRunsRow.domain.isEmpty Tryz.f4.params.toList)) = true := by kernel_rfl
theorem machRuns_j29 : ((Rows.machRunsRow.pinned == Rows.machRunsRow.pinnedBy)) = true := by kernel_rfl
theorem machRuns_j30 : ((Rows.machRunsRow.veiled == (Tryz.f4.params.toList ++ Rows.machRunsSpec.plain.varTypes Tryz.pinned.checked.prog ++ Tryz.f4.resultTypes.toList).any (Tryz.pinned.checked.prog.veiledRec ·))) = true := by kernel_rfl
theorem machRuns_j31 : (Rows.machRunsRow.veiledFits Tryz.pinned.checked.prog Tryz.f4.params.toList (Tryz.f4.params.toList ++ Rows.machRunsSpec.plain.varTypes Tryz.pinned.checked.prog ++ Tryz.f4.resultTypes.toList)) = true := by kernel_rfl
theorem machRuns_joined : joinedFacts Tryz.pinned.checked.prog 4 Tryz.f4 Rows.machRunsSpec Rows.machRunsRow = true :=
  joined_of (P := Tryz.pinned.checked.prog) (f := 4) (fn := Tryz.f4) (s := Rows.machRunsSpec) (c := Rows.machRunsRow) machRuns_j0 jp1 jp2 machRuns_j3 machRuns_j4 machRuns_j5 jp6 machRuns_j7 jp8 machRuns_j9 machRuns_j10 machRuns_j11 machRuns_j12 machRuns_j13 machRuns_j14 machRuns_j15 machRuns_j16 machRuns_j17 machRuns_j18 machRuns_j19 machRuns_j20 machRuns_j21 machRuns_j22 machRuns_j23 jp24 jp25 machRuns_j26 machRuns_j27 machRuns_j28 machRuns_j29 machRuns_j30 machRuns_j31
theorem laid_errs_machRuns : (Rows.machRunsRow.laid.filter fun x => x.2.handleName?.isSome) = [hd10] ∧ ((Rows.machRunsRow.laid.filter fun x => x.2.handleName?.isNone).drop 0).take 9 = nine := ⟨by kernel_rfl, by kernel_rfl⟩
set_option maxRecDepth 100000 in
theorem machRuns_lifted (walk : ∀ (a0 : Int) (iw0 rw0 : Value) (zi0 zr0 : List (List Int)) (a1 : Option Addr) (len1 cap1 : Nat) (z1 : List (List Qh.RI)) (cv1 : Nat → Value) (a2 : Option Addr) (len2 cap2 : Nat) (z2 : List Int) (w : World), StartIn w a0 iw0 rw0 zi0 zr0 → InsRows w (.slice a1 len1 cap1) z1 cv1 → IsRow .i64 w a2 len2 cap2 z2 → (∃ a, ErrsAt w a) → Calls Tryz.prog 4 #[.agg #[.int .i64 a0, iw0, rw0], .slice a1 len1 cap1, .slice a2 len2 cap2] w fun e w' => e = .returned (.bool true) ∧ Below w.heap.size w w')
    (os : Os) (started : os.Started) (H : Type) (enc : TypeId × Value → H) :
    ReturnsInHanded {} Tryz.checked os 4 .any (fun w args => (Rows.machRunsSpec.pre enc Tryz.prog Tryz.f4 [] false w args ∧ laidMetH Tryz.prog Rows.machRunsRow.laid w) ∧ sizedMet enc Tryz.prog Tryz.f4 (OpenSpec.ofChange Rows.machRunsSpec) false w args)
      (Rows.machRunsSpec.post enc Tryz.prog Tryz.f4 false true false false) := by
  refine returnsInHanded_of_change_and (C := Tryz.checked) (X := fun w _ => laidMetH Tryz.prog Rows.machRunsRow.laid w) (fun _ _ _ hh h => h.of_heap hh) own started (by kernel_rfl) Tryz.func4
    (ChangeSpec.witness_at (enc := enc) (C := Tryz.checked) (os := os) (X := fun w _ => laidMetH Tryz.prog Rows.machRunsRow.laid w) false (laidWorld os) #[.agg #[.int .i64 0, .slice none 0 0, .slice none 0 0], .slice none 0 0, .slice none 0 0] 8 rfl (by kernel_rfl) (by kernel_rfl) (by kernel_rfl) (by kernel_rfl) (by kernel_rfl) (laid_met_machRuns os _)) ?_
  intro W base args ds gs before hval0 hW _ _ hL _
  have hval : ∀ (j : Nat) t v, Tryz.f4.params[j]? = some t → args[j]? = some v → Value.okWide Tryz.prog W .any base t v := hval0
  have hW' := hW
  obtain ⟨p, q, hA0, hV, rfl, hfz, hnd⟩ := hW
  have hA : DataW.TrodAll enc Tryz.prog W 0 (fun _ => true) true Tryz.f4.params.toList args.toList ds p := hA0
  rw [Tryz.params4] at hA hval
  obtain ⟨v0, vs0, d0, ds0, p0, q0, hargs, rfl, rfl, h0, r0⟩ := trodAll_cons hA
  obtain ⟨v1, vs1, d1, ds1, p1, q1, rfl, rfl, rfl, h1, r1⟩ := trodAll_cons r0
  obtain ⟨v2, vs2, d2, ds2, p2, q2, rfl, rfl, rfl, h2, r2⟩ := trodAll_cons r1
  obtain ⟨rfl, rfl, rfl⟩ := trodAll_nil r2
  obtain rfl : args = #[v0, v1, v2] := by cases args; simp_all
  obtain ⟨rfl, rfl⟩ := trodVars_none hV
  have k0 := h0
  have lt0 : ∀ x ∈ p0, x.block < W.heap.size := by obtain ⟨m, hm⟩ := k0; exact DataW.trod_lt m _ _ _ hm
  obtain ⟨a0, iw0, rw0, zi0, zr0, rfl, w0⟩ := start_open (hval 0 24 v0 rfl rfl) h0
  obtain ⟨a1, len1, cap1, rfl⟩ := okWide_slice Tryz.underlying25 (hval 1 25 v1 rfl rfl)
  have k1 := h1
  have lt1 : ∀ x ∈ p1, x.block < W.heap.size := by obtain ⟨m, hm⟩ := k1; exact DataW.trod_lt m _ _ _ hm
  obtain ⟨z1, cv1, w1⟩ : ∃ zs cv, InsRows W (.slice a1 len1 cap1) zs cv := insRows_of h1
  obtain ⟨a2, len2, cap2, rfl⟩ := okWide_slice Tryz.underlying26 (hval 2 26 v2 rfl rfl)
  have k2 := h2
  have lt2 : ∀ x ∈ p2, x.block < W.heap.size := by obtain ⟨m, hm⟩ := k2; exact DataW.trod_lt m _ _ _ hm
  obtain ⟨z2, w2⟩ : ∃ zs, IsRow .i64 W a2 len2 cap2 zs := isRow_of Tryz.underlying26 Tryz.underlying3 (by kernel_rfl) h2
  clear hA0 hval0
  refine (walk a0 iw0 rw0 zi0 zr0 a1 len1 cap1 z1 cv1 a2 len2 cap2 z2 W w0 w1 w2 (errs_of_laid_q laid_errs_machRuns hL)).mono fun e W' ⟨he, bel⟩ => ?_
  subst he
  exact ⟨_, rfl, _, _, _, [], _, [], hW', trodAll_mk1 (shut_bool Tryz.underlying4 _), (trodAll_cons_mk (Below.trod laidOut (by kernel_rfl) (of_decide_eq_true (by kernel_rfl)) k0 bel lt0) (trodAll_cons_mk (Below.trod laidOut (by kernel_rfl) (of_decide_eq_true (by kernel_rfl)) k1 bel lt1) (trodAll_cons_mk (Below.trod laidOut (by kernel_rfl) (of_decide_eq_true (by kernel_rfl)) k2 bel lt2) trodAll_mk0))), rfl, bel.frame _, fun h => by cases h⟩
theorem machRuns_over (walk : ∀ (a0 : Int) (iw0 rw0 : Value) (zi0 zr0 : List (List Int)) (a1 : Option Addr) (len1 cap1 : Nat) (z1 : List (List Qh.RI)) (cv1 : Nat → Value) (a2 : Option Addr) (len2 cap2 : Nat) (z2 : List Int) (w : World), StartIn w a0 iw0 rw0 zi0 zr0 → InsRows w (.slice a1 len1 cap1) z1 cv1 → IsRow .i64 w a2 len2 cap2 z2 → (∃ a, ErrsAt w a) → Calls Tryz.prog 4 #[.agg #[.int .i64 a0, iw0, rw0], .slice a1 len1 cap1, .slice a2 len2 cap2] w fun e w' => e = .returned (.bool true) ∧ Below w.heap.size w w') :
    Rows.MachRunsSaid :=
  OpenClaim.holds_of_wide 4 Tryz.f4 rfl rfl rfl rfl rfl rfl rfl ⟨rfl, rfl, rfl, rfl, rfl⟩ rfl rfl rfl rfl rfl (by kernel_rfl) Tryz.func4 machRuns_joined
    (of_decide_eq_true (by kernel_rfl)) (by unfold Func.isWrapper; first | (rw [if_pos (by decide +kernel)]; kernel_rfl) | (rw [if_neg (by decide +kernel)]; exact ⟨rfl, rfl⟩))
    (fun os started H enc _ => machRuns_lifted walk os started H enc)
end Go.Proofs.YtciaficoeajeaaaGreatDoor
