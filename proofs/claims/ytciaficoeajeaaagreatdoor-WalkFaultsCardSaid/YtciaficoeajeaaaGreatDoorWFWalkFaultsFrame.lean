/- WalkFaults: the row, out of its walk. -/
import Derived.Test.YtciaficoeajeaaaGreatDoorWFm3
import Derived.Test.YtciaficoeajeaaaGreatDoorWFJoinedP
import Derived.Test.YtciaficoeajeaaaGreatDoorWFm5
import Derived.Test.YtciaficoeajeaaaGreatDoorWFm9
import Derived.Test.YtciaficoeajeaaaGreatDoorWFErrsM
import Derived.Lib.SmallJoins
import Derived.OpenShut
import Derived.ShutString
import Derived.ChangeOld
import Derived.Below
set_option linter.unusedVariables false
set_option linter.unusedSimpArgs false
set_option linter.unusedSectionVars false
namespace Go.Proofs.YtciaficoeajeaaaGreatDoor
open Go.ChangeShapes Go.WideShapes Go.ChangeAt Go.RowKit Go.Joins
open Go.ChangeMaps (open_string shut_string)
theorem walkFaults_j0 : (Rows.walkFaultsRow.wf (OpenSpec.ofChange Rows.walkFaultsSpec)) = true := by kernel_rfl
theorem walkFaults_j3 : (Tryz.f6.params.all (Tryz.pinned.checked.prog.readableRec ·)) = true := by kernel_rfl
theorem walkFaults_j4 : (namedTie Tryz.pinned.checked.prog Rows.walkFaultsRow.named Rows.walkFaultsSpec.vars) = true := by kernel_rfl
theorem walkFaults_j5 : ((Rows.walkFaultsRow.stops == [])) = true := by kernel_rfl
theorem walkFaults_j7 : ((Rows.walkFaultsRow.knobs == [])) = true := by kernel_rfl
theorem walkFaults_j9 : ((Rows.walkFaultsRow.inPlace == Tryz.pinned.checked.prog.inPlace 6)) = true := by kernel_rfl
theorem walkFaults_j10 : ((Rows.walkFaultsRow.unfollowed == Tryz.pinned.checked.prog.unfollowed 6)) = true := by kernel_rfl
theorem walkFaults_j11 : ((Rows.walkFaultsRow.recurses == Tryz.pinned.checked.prog.recurses 6)) = true := by kernel_rfl
theorem walkFaults_j12 : ((Rows.walkFaultsRow.named == Tryz.pinned.checked.prog.varsNamed 6)) = true := by kernel_rfl
theorem walkFaults_j13 : ((Rows.walkFaultsRow.maps == (Tryz.f6.params.toList ++ Rows.walkFaultsSpec.plain.varTypes Tryz.pinned.checked.prog).any (Tryz.pinned.checked.prog.mapsRec ·))) = true := by kernel_rfl
theorem walkFaults_j14 : ((Rows.walkFaultsRow.ifaces == (Tryz.f6.params.toList ++ Rows.walkFaultsSpec.plain.varTypes Tryz.pinned.checked.prog).any (Tryz.pinned.checked.prog.ifacesRec ·))) = true := by kernel_rfl
theorem walkFaults_j15 : ((Rows.walkFaultsRow.mapsOut == Tryz.pinned.checked.prog.mapsAmong Tryz.f6.resultTypes.toList)) = true := by kernel_rfl
theorem walkFaults_j16 : ((Rows.walkFaultsRow.loops == (Tryz.f6.params.toList ++ Rows.walkFaultsSpec.plain.varTypes Tryz.pinned.checked.prog).any (Tryz.pinned.checked.prog.loopsFrom ·))) = true := by kernel_rfl
theorem walkFaults_j17 : ((Rows.walkFaultsRow.wideKeys == (Tryz.f6.params.toList ++ Rows.walkFaultsSpec.plain.varTypes Tryz.pinned.checked.prog ++ Tryz.f6.resultTypes.toList).any (Tryz.pinned.checked.prog.wideKeysFrom ·))) = true := by kernel_rfl
theorem walkFaults_j18 : (Rows.walkFaultsSpec.vars.all (Tryz.pinned.checked.prog.varReadable ·)) = true := by kernel_rfl
theorem walkFaults_j19 : (Tryz.f6.resultTypes.all (fun t => Tryz.pinned.checked.prog.readableRec t && decide (t < Tryz.pinned.checked.prog.types.size))) = true := by kernel_rfl
theorem walkFaults_j20 : ((Rows.walkFaultsRow.ifacesOut == Tryz.f6.resultTypes.toList.any (Tryz.pinned.checked.prog.ifacesRec ·))) = true := by kernel_rfl
theorem walkFaults_j21 : ((Rows.walkFaultsRow.loopsOut == Tryz.f6.resultTypes.toList.any (Tryz.pinned.checked.prog.loopsFrom ·))) = true := by kernel_rfl
theorem walkFaults_j22 : ((Rows.walkFaultsRow.plainKeys == Tryz.pinned.checked.prog.plainKeys)) = true := by
  rw [show Rows.walkFaultsRow.plainKeys = true from rfl]; exact jp22
theorem walkFaults_j23 : (Rows.walkFaultsRow.shortTexts.isNone) = true := by kernel_rfl
theorem walkFaults_j26 : ((Rows.walkFaultsRow.lifted == Tryz.pinned.checked.prog.liftsFinal)) = true := by
  rw [show Rows.walkFaultsRow.lifted = false from rfl]; exact jp26
theorem walkFaults_j27 : ((Tryz.pinned.checked.prog.make == some Rows.walkFaultsRow.make)) = true := by
  rw [show Rows.walkFaultsRow.make = Make.cut from rfl]; exact jp27
theorem walkFaults_j28 : ((Rows.walkFaultsRow.kinds == kindsOf Tryz.pinned.checked.prog Rows.walkFaultsRow.domain.isEmpty Tryz.f6.params.toList)) = true := by kernel_rfl
theorem walkFaults_j29 : ((Rows.walkFaultsRow.pinned == Rows.walkFaultsRow.pinnedBy)) = true := by kernel_rfl
theorem walkFaults_j30 : ((Rows.walkFaultsRow.veiled == (Tryz.f6.params.toList ++ Rows.walkFaultsSpec.plain.varTypes Tryz.pinned.checked.prog ++ Tryz.f6.resultTypes.toList).any (Tryz.pinned.checked.prog.veiledRec ·))) = true := by kernel_rfl
theorem walkFaults_j31 : (Rows.walkFaultsRow.veiledFits Tryz.pinned.checked.prog Tryz.f6.params.toList (Tryz.f6.params.toList ++ Rows.walkFaultsSpec.plain.varTypes Tryz.pinned.checked.prog ++ Tryz.f6.resultTypes.toList)) = true := by kernel_rfl
theorem walkFaults_joined : joinedFacts Tryz.pinned.checked.prog 6 Tryz.f6 Rows.walkFaultsSpec Rows.walkFaultsRow = true :=
  joined_of (P := Tryz.pinned.checked.prog) (f := 6) (fn := Tryz.f6) (s := Rows.walkFaultsSpec) (c := Rows.walkFaultsRow) walkFaults_j0 jp1 jp2 walkFaults_j3 walkFaults_j4 walkFaults_j5 jp6 walkFaults_j7 jp8 walkFaults_j9 walkFaults_j10 walkFaults_j11 walkFaults_j12 walkFaults_j13 walkFaults_j14 walkFaults_j15 walkFaults_j16 walkFaults_j17 walkFaults_j18 walkFaults_j19 walkFaults_j20 walkFaults_j21 walkFaults_j22 walkFaults_j23 jp24 jp25 walkFaults_j26 walkFaults_j27 walkFaults_j28 walkFaults_j29 walkFaults_j30 walkFaults_j31
theorem laid_errs_walkFaults : (Rows.walkFaultsRow.laid.filter fun x => x.2.handleName?.isSome) = [hd10] ∧ ((Rows.walkFaultsRow.laid.filter fun x => x.2.handleName?.isNone).drop 0).take 7 = lstI [1, 2, 3, 4, 5, 6, 8] := ⟨by kernel_rfl, by kernel_rfl⟩
set_option maxRecDepth 100000 in
theorem walkFaults_lifted (walk : ∀ (a0 : Int) (iw0 rw0 : Value) (zi0 zr0 : List (List Int)) (a1 : Option Addr) (len1 cap1 : Nat) (z1 : List (List Qh.RI)) (cv1 : Nat → Value) (a2 : Option Addr) (len2 cap2 : Nat) (z2 : List Int) (w : World), StartIn w a0 iw0 rw0 zi0 zr0 → InsRows w (.slice a1 len1 cap1) z1 cv1 → IsRow .i64 w a2 len2 cap2 z2 → (∃ a, ErrsM w a) → Calls Tryz.prog 6 #[.agg #[.int .i64 a0, iw0, rw0], .slice a1 len1 cap1, .slice a2 len2 cap2] w fun e w' => e = .returned (.bool true) ∧ Below w.heap.size w w')
    (os : Os) (started : os.Started) (H : Type) (enc : TypeId × Value → H) :
    ReturnsInHanded {} Tryz.checked os 6 .any (fun w args => (Rows.walkFaultsSpec.pre enc Tryz.prog Tryz.f6 [] false w args ∧ laidMetH Tryz.prog Rows.walkFaultsRow.laid w) ∧ sizedMet enc Tryz.prog Tryz.f6 (OpenSpec.ofChange Rows.walkFaultsSpec) false w args)
      (Rows.walkFaultsSpec.post enc Tryz.prog Tryz.f6 false true false false) := by
  refine returnsInHanded_of_change_and (C := Tryz.checked) (X := fun w _ => laidMetH Tryz.prog Rows.walkFaultsRow.laid w) (fun _ _ _ hh h => h.of_heap hh) own started (by kernel_rfl) Tryz.func6
    (ChangeSpec.witness_at (enc := enc) (C := Tryz.checked) (os := os) (X := fun w _ => laidMetH Tryz.prog Rows.walkFaultsRow.laid w) false (laidWorld os) #[.agg #[.int .i64 0, .slice none 0 0, .slice none 0 0], .slice none 0 0, .slice none 0 0] 8 rfl (by kernel_rfl) (by kernel_rfl) (by kernel_rfl) (by kernel_rfl) (by kernel_rfl) (laid_met_walkFaults os _)) ?_
  intro W base args ds gs before hval0 hW _ _ hL _
  have hval : ∀ (j : Nat) t v, Tryz.f6.params[j]? = some t → args[j]? = some v → Value.okWide Tryz.prog W .any base t v := hval0
  have hW' := hW
  obtain ⟨p, q, hA0, hV, rfl, hfz, hnd⟩ := hW
  have hA : DataW.TrodAll enc Tryz.prog W 0 (fun _ => true) true Tryz.f6.params.toList args.toList ds p := hA0
  rw [Tryz.params6] at hA hval
  obtain ⟨v0, vs0, d0, ds0, p0, q0, hargs, rfl, rfl, h0, r0⟩ := trodAll_cons hA
  obtain ⟨v1, vs1, d1, ds1, p1, q1, rfl, rfl, rfl, h1, r1⟩ := trodAll_cons r0
  obtain ⟨v2, vs2, d2, ds2, p2, q2, rfl, rfl, rfl, h2, r2⟩ := trodAll_cons r1
  obtain ⟨rfl, rfl, rfl⟩ := trodAll_nil r2
  obtain rfl : args = #[v0, v1, v2] := by cases args; simp_all
  obtain ⟨rfl, rfl⟩ := trodVars_none hV
  have k0 := h0
  have lt0 : ∀ x ∈ p0, x.block < W.heap.size := by obtain ⟨m, hm⟩ := k0; exact DataW.trod_lt m _ _ _ hm
  obtain ⟨a0, iw0, rw0, zi0, zr0, rfl, w0⟩ := start_open (hval 0 24 v0 rfl rfl) h0
  obtain ⟨a1, len1, cap1, rfl⟩ := okWide_slice Tryz.underlying25 (hval 1 25 v1 rfl rfl)
  have k1 := h1
  have lt1 : ∀ x ∈ p1, x.block < W.heap.size := by obtain ⟨m, hm⟩ := k1; exact DataW.trod_lt m _ _ _ hm
  obtain ⟨z1, cv1, w1⟩ : ∃ zs cv, InsRows W (.slice a1 len1 cap1) zs cv := insRows_of h1
  obtain ⟨a2, len2, cap2, rfl⟩ := okWide_slice Tryz.underlying26 (hval 2 26 v2 rfl rfl)
  have k2 := h2
  have lt2 : ∀ x ∈ p2, x.block < W.heap.size := by obtain ⟨m, hm⟩ := k2; exact DataW.trod_lt m _ _ _ hm
  obtain ⟨z2, w2⟩ : ∃ zs, IsRow .i64 W a2 len2 cap2 zs := isRow_of Tryz.underlying26 Tryz.underlying3 (by kernel_rfl) h2
  clear hA0 hval0
  refine (walk a0 iw0 rw0 zi0 zr0 a1 len1 cap1 z1 cv1 a2 len2 cap2 z2 W w0 w1 w2 (errsM_of_laid laid_errs_walkFaults.1 laid_errs_walkFaults.2 hL)).mono fun e W' ⟨he, bel⟩ => ?_
  subst he
  exact ⟨_, rfl, _, _, _, [], _, [], hW', trodAll_mk1 (shut_bool Tryz.underlying4 _), (trodAll_cons_mk (Below.trod laidOut (by kernel_rfl) (of_decide_eq_true (by kernel_rfl)) k0 bel lt0) (trodAll_cons_mk (Below.trod laidOut (by kernel_rfl) (of_decide_eq_true (by kernel_rfl)) k1 bel lt1) (trodAll_cons_mk (Below.trod laidOut (by kernel_rfl) (of_decide_eq_true (by kernel_rfl)) k2 bel lt2) trodAll_mk0))), rfl, bel.frame _, fun h => by cases h⟩
theorem walkFaults_over (walk : ∀ (a0 : Int) (iw0 rw0 : Value) (zi0 zr0 : List (List Int)) (a1 : Option Addr) (len1 cap1 : Nat) (z1 : List (List Qh.RI)) (cv1 : Nat → Value) (a2 : Option Addr) (len2 cap2 : Nat) (z2 : List Int) (w : World), StartIn w a0 iw0 rw0 zi0 zr0 → InsRows w (.slice a1 len1 cap1) z1 cv1 → IsRow .i64 w a2 len2 cap2 z2 → (∃ a, ErrsM w a) → Calls Tryz.prog 6 #[.agg #[.int .i64 a0, iw0, rw0], .slice a1 len1 cap1, .slice a2 len2 cap2] w fun e w' => e = .returned (.bool true) ∧ Below w.heap.size w w') :
    Rows.WalkFaultsSaid :=
  OpenClaim.holds_of_wide 6 Tryz.f6 rfl rfl rfl rfl rfl rfl rfl ⟨rfl, rfl, rfl, rfl, rfl⟩ rfl rfl rfl rfl rfl (by kernel_rfl) Tryz.func6 walkFaults_joined
    (of_decide_eq_true (by kernel_rfl)) (by unfold Func.isWrapper; first | (rw [if_pos (by decide +kernel)]; kernel_rfl) | (rw [if_neg (by decide +kernel)]; exact ⟨rfl, rfl⟩))
    (fun os started H enc _ => walkFaults_lifted walk os started H enc)
end Go.Proofs.YtciaficoeajeaaaGreatDoor
