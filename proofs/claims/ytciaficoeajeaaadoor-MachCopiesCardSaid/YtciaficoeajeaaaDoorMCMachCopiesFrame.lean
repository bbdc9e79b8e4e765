/- MachCopies: the row, out of its walk. -/
import Derived.Test.YtciaficoeajeaaaDoorMCm3
import Derived.Test.YtciaficoeajeaaaDoorMCJoinedP
import Derived.Test.YtciaficoeajeaaaDoorMCm5
import Derived.Test.YtciaficoeajeaaaDoorMCm8
import Derived.Test.YtciaficoeajeaaaDoorMCErrsLawQ
import Derived.Lib.SmallJoins
import Derived.OpenShut
import Derived.ShutString
import Derived.ChangeOld
import Derived.Below
set_option linter.unusedVariables false
set_option linter.unusedSimpArgs false
set_option linter.unusedSectionVars false
namespace Go.Proofs.YtciaficoeajeaaaDoor
open Go.ChangeShapes Go.WideShapes Go.ChangeAt Go.RowKit Go.Joins
open Go.ChangeMaps (open_string shut_string)
theorem machCopies_j0 : (Rows.machCopiesRow.wf (OpenSpec.ofChange Rows.machCopiesSpec)) = true := by kernel_rfl
theorem machCopies_j3 : (Tryd.f3.params.all (Tryd.pinned.checked.prog.readableRec ·)) = true := by kernel_rfl
theorem machCopies_j4 : (namedTie Tryd.pinned.checked.prog Rows.machCopiesRow.named Rows.machCopiesSpec.vars) = true := by kernel_rfl
theorem machCopies_j5 : ((Rows.machCopiesRow.stops == [])) = true := by kernel_rfl
theorem machCopies_j7 : ((Rows.machCopiesRow.knobs == [])) = true := by kernel_rfl
theorem machCopies_j9 : ((Rows.machCopiesRow.inPlace == Tryd.pinned.checked.prog.inPlace 3)) = true := by kernel_rfl
theorem machCopies_j10 : ((Rows.machCopiesRow.unfollowed == Tryd.pinned.checked.prog.unfollowed 3)) = true := by kernel_rfl
theorem machCopies_j11 : ((Rows.machCopiesRow.recurses == Tryd.pinned.checked.prog.recurses 3)) = true := by kernel_rfl
theorem machCopies_j12 : ((Rows.machCopiesRow.named == Tryd.pinned.checked.prog.varsNamed 3)) = true := by kernel_rfl
theorem machCopies_j13 : ((Rows.machCopiesRow.maps == (Tryd.f3.params.toList ++ Rows.machCopiesSpec.plain.varTypes Tryd.pinned.checked.prog).any (Tryd.pinned.checked.prog.mapsRec ·))) = true := by kernel_rfl
theorem machCopies_j14 : ((Rows.machCopiesRow.ifaces == (Tryd.f3.params.toList ++ Rows.machCopiesSpec.plain.varTypes Tryd.pinned.checked.prog).any (Tryd.pinned.checked.prog.ifacesRec ·))) = true := by kernel_rfl
theorem machCopies_j15 : ((Rows.machCopiesRow.mapsOut == Tryd.pinned.checked.prog.mapsAmong Tryd.f3.resultTypes.toList)) = true := by kernel_rfl
theorem machCopies_j16 : ((Rows.machCopiesRow.loops == (Tryd.f3.params.toList ++ Rows.machCopiesSpec.plain.varTypes Tryd.pinned.checked.prog).any (Tryd.pinned.checked.prog.loopsFrom ·))) = true := by kernel_rfl
theorem machCopies_j17 : ((Rows.machCopiesRow.wideKeys == (Tryd.f3.params.toList ++ Rows.machCopiesSpec.plain.varTypes Tryd.pinned.checked.prog ++ Tryd.f3.resultTypes.toList).any (Tryd.pinned.checked.prog.wideKeysFrom ·))) = true := by kernel_rfl
theorem machCopies_j18 : (Rows.machCopiesSpec.vars.all (Tryd.pinned.checked.prog.varReadable ·)) = true := by kernel_rfl
theorem machCopies_j19 : (Tryd.f3.resultTypes.all (fun t => Tryd.pinned.checked.prog.readableRec t && decide (t < Tryd.pinned.checked.prog.types.size))) = true := by kernel_rfl
theorem machCopies_j20 : ((Rows.machCopiesRow.ifacesOut == Tryd.f3.resultTypes.toList.any (Tryd.pinned.checked.prog.ifacesRec ·))) = true := by kernel_rfl
theorem machCopies_j21 : ((Rows.machCopiesRow.loopsOut == Tryd.f3.resultTypes.toList.any (Tryd.pinned.checked.prog.loopsFrom ·))) = true := by kernel_rfl
theorem machCopies_j22 : ((Rows.machCopiesRow.plainKeys == Tryd.pinned.checked.prog.plainKeys)) = true := by
  rw [show Rows.machCopiesRow.plainKeys = true from rfl]; exact jp22
theorem machCopies_j23 : (Rows.machCopiesRow.shortTexts.isNone) = true := by kernel_rfl
theorem machCopies_j26 : ((Rows.machCopiesRow.lifted == Tryd.pinned.checked.prog.liftsFinal)) = true := by
  rw [show Rows.machCopiesRow.lifted = false from rfl]; exact jp26
theorem machCopies_j27 : ((Tryd.pinned.checked.prog.make == some Rows.machCopiesRow.make)) = true := by
  rw [show Rows.machCopiesRow.make = Make.cut from rfl]; exact jp27
theorem machCopies_j28 : ((Rows.machCopiesRow.kinds == kindsOf Tryd.pinned.checked.prog Rows.machCopiesRow.domain.isEmpty Tryd.f3.params.toList)) = true := by kernel_rfl
theorem machCopies_j29 : ((Rows.machCopiesRow.pinned == Rows.machCopiesRow.pinnedBy)) = true := by kernel_rfl
theorem machCopies_j30 : ((Rows.machCopiesRow.veiled == (Tryd.f3.params.toList ++ Rows.machCopiesSpec.plain.varTypes Tryd.pinned.checked.prog ++ Tryd.f3.resultTypes.toList).any (Tryd.pinned.checked.prog.veiledRec ·))) = true := by kernel_rfl
theorem machCopies_j31 : (Rows.machCopiesRow.veiledFits Tryd.pinned.checked.prog Tryd.f3.params.toList (Tryd.f3.params.toList ++ Rows.machCopiesSpec.plain.varTypes Tryd.pinned.checked.prog ++ Tryd.f3.resultTypes.toList)) = true := by kernel_rfl
theorem machCopies_joined : joinedFacts Tryd.pinned.checked.prog 3 Tryd.f3 Rows.machCopiesSpec Rows.machCopiesRow = true :=
  joined_of (P := Tryd.pinned.checked.prog) (f := 3) (fn := Tryd.f3) (s := Rows.machCopiesSpec) (c := Rows.machCopiesRow) machCopies_j0 jp1 jp2 machCopies_j3 machCopies_j4 machCopies_j5 jp6 machCopies_j7 jp8 machCopies_j9 machCopies_j10 machCopies_j11 machCopies_j12 machCopies_j13 machCopies_j14 machCopies_j15 machCopies_j16 machCopies_j17 machCopies_j18 machCopies_j19 machCopies_j20 machCopies_j21 machCopies_j22 machCopies_j23 jp24 jp25 machCopies_j26 machCopies_j27 machCopies_j28 machCopies_j29 machCopies_j30 machCopies_j31
theorem laid_errs_machCopies : (Rows.machCopiesRow.laid.filter fun x => x.2.handleName?.isSome) = [hd10] ∧ ((Rows.machCopiesRow.laid.filter fun x => x.2.handleName?.isNone).drop 0).take 9 = nine := ⟨by kernel_rfl, by kernel_rfl⟩
set_option maxRecDepth 100000 in
theorem machCopies_lifted (walk : ∀ (a0 : Int) (iw0 rw0 : Value) (zi0 zr0 : List (List Int)) (a1 : Option Addr) (len1 cap1 : Nat) (z1 : List (List Qh.RI)) (cv1 : Nat → Value) (a2 : Option Addr) (len2 cap2 : Nat) (z2 : List Int) (a3 : Option Addr) (len3 cap3 : Nat) (z3 : List Int) (w : World), StartIn w a0 iw0 rw0 zi0 zr0 → InsRows w (.slice a1 len1 cap1) z1 cv1 → IsRow .i64 w a2 len2 cap2 z2 → IsRow .i64 w a3 len3 cap3 z3 → (∃ a, ErrsAt w a) → Calls Tryd.prog 3 #[.agg #[.int .i64 a0, iw0, rw0], .slice a1 len1 cap1, .slice a2 len2 cap2, .slice a3 len3 cap3] w fun e w' => e = .returned (.bool true) ∧ Below w.heap.size w w')
    (os : Os) (started : os.Started) (H : Type) (enc : TypeId × Value → H) :
    ReturnsInHanded {} Tryd.checked os 3 .any (fun w args => (Rows.machCopiesSpec.pre enc Tryd.prog Tryd.f3 [] false w args ∧ laidMetH Tryd.prog Rows.machCopiesRow.laid w) ∧ sizedMet enc Tryd.prog Tryd.f3 (OpenSpec.ofChange Rows.machCopiesSpec) false w args)
      (Rows.machCopiesSpec.post enc Tryd.prog Tryd.f3 false true false false) := by
  refine returnsInHanded_of_change_and (C := Tryd.checked) (X := fun w _ => laidMetH Tryd.prog Rows.machCopiesRow.laid w) (fun _ _ _ hh h => h.of_heap hh) own started (by kernel_rfl) Tryd.func3
    (ChangeSpec.witness_at (enc := enc) (C := Tryd.checked) (os := os) (X := fun w _ => laidMetH Tryd.prog Rows.machCopiesRow.laid w) false (laidWorld os) #[.agg #[.int .i64 0, .slice none 0 0, .slice none 0 0], .slice none 0 0, .slice none 0 0, .slice none 0 0] 8 rfl (by kernel_rfl) (by kernel_rfl) (by kernel_rfl) (by kernel_rfl) (by kernel_rfl) (laid_met_machCopies os _)) ?_
  intro W base args ds gs before hval0 hW _ _ hL _
  have hval : ∀ (j : Nat) t v, Tryd.f3.params[j]? = some t → args[j]? = some v → Value.okWide Tryd.prog W .any base t v := hval0
  have hW' := hW
  obtain ⟨p, q, hA0, hV, rfl, hfz, hnd⟩ := hW
  have hA : DataW.TrodAll enc Tryd.prog W 0 (fun _ => true) true Tryd.f3.params.toList args.toList ds p := hA0
  rw [Tryd.params3] at hA hval
  obtain ⟨v0, vs0, d0, ds0, p0, q0, hargs, rfl, rfl, h0, r0⟩ := trodAll_cons hA
  obtain ⟨v1, vs1, d1, ds1, p1, q1, rfl, rfl, rfl, h1, r1⟩ := trodAll_cons r0
  obtain ⟨v2, vs2, d2, ds2, p2, q2, rfl, rfl, rfl, h2, r2⟩ := trodAll_cons r1
  obtain ⟨v3, vs3, d3, ds3, p3, q3, rfl, rfl, rfl, h3, r3⟩ := trodAll_cons r2
  obtain ⟨rfl, rfl, rfl⟩ := trodAll_nil r3
  obtain rfl : args = #[v0, v1, v2, v3] := by cases args; simp_all
  obtain ⟨rfl, rfl⟩ := trodVars_none hV
  have k0 := h0
  have lt0 : ∀ x ∈ p0, x.block < W.heap.size := by obtain ⟨m, hm⟩ := k0; exact DataW.trod_lt m _ _ _ hm
  obtain ⟨a0, iw0, rw0, zi0, zr0, rfl, w0⟩ := start_open (hval 0 24 v0 rfl rfl) h0
  obtain ⟨a1, len1, cap1, rfl⟩ := okWide_slice Tryd.underlying25 (hval 1 25 v1 rfl rfl)
  have k1 := h1
  have lt1 : ∀ x ∈ p1, x.block < W.heap.size := by obtain ⟨m, hm⟩ := k1; exact DataW.trod_lt m _ _ _ hm
  obtain ⟨z1, cv1, w1⟩ : ∃ zs cv, InsRows W (.slice a1 len1 cap1) zs cv := insRows_of h1
  obtain ⟨a2, len2, cap2, rfl⟩ := okWide_slice Tryd.underlying26 (hval 2 26 v2 rfl rfl)
  have k2 := h2
  have lt2 : ∀ x ∈ p2, x.block < W.heap.size := by obtain ⟨m, hm⟩ := k2; exact DataW.trod_lt m _ _ _ hm
  obtain ⟨z2, w2⟩ : ∃ zs, IsRow .i64 W a2 len2 cap2 zs := isRow_of Tryd.underlying26 Tryd.underlying3 (by kernel_rfl) h2
  obtain ⟨a3, len3, cap3, rfl⟩ := okWide_slice Tryd.underlying26 (hval 3 26 v3 rfl rfl)
  have k3 := h3
  have lt3 : ∀ x ∈ p3, x.block < W.heap.size := by obtain ⟨m, hm⟩ := k3; exact DataW.trod_lt m _ _ _ hm
  obtain ⟨z3, w3⟩ : ∃ zs, IsRow .i64 W a3 len3 cap3 zs := isRow_of Tryd.underlying26 Tryd.underlying3 (by kernel_rfl) h3
  clear hA0 hval0
  refine (walk a0 iw0 rw0 zi0 zr0 a1 len1 cap1 z1 cv1 a2 len2 cap2 z2 a3 len3 cap3 z3 W w0 w1 w2 w3 (errs_of_laid_q laid_errs_machCopies hL)).mono fun e W' ⟨he, bel⟩ => ?_
  subst he
  exact ⟨_, rfl, _, _, _, [], _, [], hW', trodAll_mk1 (shut_bool Tryd.underlying4 _), (trodAll_cons_mk (Below.trod laidOut (by kernel_rfl) (of_decide_eq_true (by kernel_rfl)) k0 bel lt0) (trodAll_cons_mk (Below.trod laidOut (by kernel_rfl) (of_decide_eq_true (by kernel_rfl)) k1 bel lt1) (trodAll_cons_mk (Below.trod laidOut (by kernel_rfl) (of_decide_eq_true (by kernel_rfl)) k2 bel lt2) (trodAll_cons_mk (Below.trod laidOut (by kernel_rfl) (of_decide_eq_true (by kernel_rfl)) k3 bel lt3) trodAll_mk0)))), rfl, bel.frame _, fun h => by cases h⟩
theorem machCopies_over (walk : ∀ (a0 : Int) (iw0 rw0 : Value) (zi0 zr0 : List (List Int)) (a1 : Option Addr) (len1 cap1 : Nat) (z1 : List (List Qh.RI)) (cv1 : Nat → Value) (a2 : Option Addr) (len2 cap2 : Nat) (z2 : List Int) (a3 : Option Addr) (len3 cap3 : Nat) (z3 : List Int) (w : World), StartIn w a0 iw0 rw0 zi0 zr0 → InsRows w (.slice a1 len1 cap1) z1 cv1 → IsRow .i64 w a2 len2 cap2 z2 → IsRow .i64 w a3 len3 cap3 z3 → (∃ a, ErrsAt w a) → Calls Tryd.prog 3 #[.agg #[.int .i64 a0, iw0, rw0], .slice a1 len1 cap1, .slice a2 len2 cap2, .slice a3 len3 cap3] w fun e w' => e = .returned (.bool true) ∧ Below w.heap.size w w') :
    Rows.MachCopiesSaid :=
  OpenClaim.holds_of_wide 3 Tryd.f3 rfl rfl rfl rfl rfl rfl rfl ⟨rfl, rfl, rfl, rfl, rfl⟩ rfl rfl rfl rfl rfl (by kernel_rfl) Tryd.func3 machCopies_joined
    (of_decide_eq_true (by kernel_rfl)) (by unfold Func.isWrapper; first | (rw [if_pos (by decide +kernel)]; kernel_rfl) | (rw [if_neg (by decide +kernel)]; exact ⟨rfl, rfl⟩))
    (fun os started H enc _ => machCopies_lifted walk os started H enc)
end Go.Proofs.YtciaficoeajeaaaDoor
