/- StackSafe: the row, out of its walk. -/
import Derived.Test.YtppihkneeolomaaGreatDoorSSm3
import Derived.Test.YtppihkneeolomaaGreatDoorSSJoinedP
import Derived.Test.YtppihkneeolomaaGreatDoorSSm10
import Derived.Test.YtppihkneeolomaaGreatDoorSSErrsI
import Derived.Test.YtppihkneeolomaaGreatDoorSSTabLaid
import Derived.Lib.SmallJoins
import Derived.OpenShut
import Derived.ShutString
import Derived.ChangeOld
import Derived.Below
set_option linter.unusedVariables false
set_option linter.unusedSimpArgs false
set_option linter.unusedSectionVars false
namespace Go.Proofs.YtppihkneeolomaaGreatDoor
open Go.ChangeShapes Go.WideShapes Go.ChangeAt Go.RowKit Go.Joins
open Go.ChangeMaps (open_string shut_string)
theorem stackSafe_j0 : (Rows.stackSafeRow.wf (OpenSpec.ofChange Rows.stackSafeSpec)) = true := by kernel_rfl
theorem stackSafe_j3 : (Tryz.f3.params.all (Tryz.pinned.checked.prog.readableRec ·)) = true := by kernel_rfl
theorem stackSafe_j4 : (namedTie Tryz.pinned.checked.prog Rows.stackSafeRow.named Rows.stackSafeSpec.vars) = true := by kernel_rfl
theorem stackSafe_j5 : ((Rows.stackSafeRow.stops == [])) = true := by kernel_rfl
theorem stackSafe_j7 : ((Rows.stackSafeRow.knobs == [])) = true := by kernel_rfl
theorem stackSafe_j9 : ((Rows.stackSafeRow.inPlace == Tryz.pinned.checked.prog.inPlace 3)) = true := by kernel_rfl
theorem stackSafe_j10 : ((Rows.stackSafeRow.unfollowed == Tryz.pinned.checked.prog.unfollowed 3)) = true := by kernel_rfl
theorem stackSafe_j11 : ((Rows.stackSafeRow.recurses == Tryz.pinned.checked.prog.recurses 3)) = true := by kernel_rfl
theorem stackSafe_j12 : ((Rows.stackSafeRow.named == Tryz.pinned.checked.prog.varsNamed 3)) = true := by kernel_rfl
theorem stackSafe_j13 : ((Rows.stackSafeRow.maps == (Tryz.f3.params.toList ++ Rows.stackSafeSpec.plain.varTypes Tryz.pinned.checked.prog).any (Tryz.pinned.checked.prog.mapsRec ·))) = true := by kernel_rfl
theorem stackSafe_j14 : ((Rows.stackSafeRow.ifaces == (Tryz.f3.params.toList ++ Rows.stackSafeSpec.plain.varTypes Tryz.pinned.checked.prog).any (Tryz.pinned.checked.prog.ifacesRec ·))) = true := by kernel_rfl
theorem stackSafe_j15 : ((Rows.stackSafeRow.mapsOut == Tryz.pinned.checked.prog.mapsAmong Tryz.f3.resultTypes.toList)) = true := by kernel_rfl
theorem stackSafe_j16 : ((Rows.stackSafeRow.loops == (Tryz.f3.params.toList ++ Rows.stackSafeSpec.plain.varTypes Tryz.pinned.checked.prog).any (Tryz.pinned.checked.prog.loopsFrom ·))) = true := by kernel_rfl
theorem stackSafe_j17 : ((Rows.stackSafeRow.wideKeys == (Tryz.f3.params.toList ++ Rows.stackSafeSpec.plain.varTypes Tryz.pinned.checked.prog ++ Tryz.f3.resultTypes.toList).any (Tryz.pinned.checked.prog.wideKeysFrom ·))) = true := by kernel_rfl
theorem stackSafe_j18 : (Rows.stackSafeSpec.vars.all (Tryz.pinned.checked.prog.varReadable ·)) = true := by kernel_rfl
theorem stackSafe_j19 : (Tryz.f3.resultTypes.all (fun t => Tryz.pinned.checked.prog.readableRec t && decide (t < Tryz.pinned.checked.prog.types.size))) = true := by kernel_rfl
theorem stackSafe_j20 : ((Rows.stackSafeRow.ifacesOut == Tryz.f3.resultTypes.toList.any (Tryz.pinned.checked.prog.ifacesRec ·))) = true := by kernel_rfl
theorem stackSafe_j21 : ((Rows.stackSafeRow.loopsOut == Tryz.f3.resultTypes.toList.any (Tryz.pinned.checked.prog.loopsFrom ·))) = true := by kernel_rfl
theorem stackSafe_j22 : ((Rows.stackSafeRow.plainKeys == Tryz.pinned.checked.prog.plainKeys)) = true := by
  rw [show Rows.stackSafeRow.plainKeys = true from rfl]; exact jp22
theorem stackSafe_j23 : (Rows.stackSafeRow.shortTexts.isNone) = true := by kernel_rfl
theorem stackSafe_j26 : ((Rows.stackSafeRow.lifted == Tryz.pinned.checked.prog.liftsFinal)) = true := by
  rw [show Rows.stackSafeRow.lifted = false from rfl]; exact jp26
theorem stackSafe_j27 : ((Tryz.pinned.checked.prog.make == some Rows.stackSafeRow.make)) = true := by
  rw [show Rows.stackSafeRow.make = Make.cut from rfl]; exact jp27
theorem stackSafe_j28 : ((Rows.stackSafeRow.kinds == kindsOf Tryz.pinned.checked.prog Rows.stackSafeRow.domain.isEmpty Tryz.f3.params.toList)) = true := by kernel_rfl
theorem stackSafe_j29 : ((Rows.stackSafeRow.pinned == Rows.stackSafeRow.pinnedBy)) = true := by kernel_rfl
theorem stackSafe_j30 : ((Rows.stackSafeRow.veiled == (Tryz.f3.params.toList ++ Rows.stackSafeSpec.plain.varTypes Tryz.pinned.checked.prog ++ Tryz.f3.resultTypes.toList).any (Tryz.pinned.checked.prog.veiledRec ·))) = true := by kernel_rfl
theorem stackSafe_j31 : (Rows.stackSafeRow.veiledFits Tryz.pinned.checked.prog Tryz.f3.params.toList (Tryz.f3.params.toList ++ Rows.stackSafeSpec.plain.varTypes Tryz.pinned.checked.prog ++ Tryz.f3.resultTypes.toList)) = true := by kernel_rfl
theorem stackSafe_joined : joinedFacts Tryz.pinned.checked.prog 3 Tryz.f3 Rows.stackSafeSpec Rows.stackSafeRow = true :=
  joined_of (P := Tryz.pinned.checked.prog) (f := 3) (fn := Tryz.f3) (s := Rows.stackSafeSpec) (c := Rows.stackSafeRow) stackSafe_j0 jp1 jp2 stackSafe_j3 stackSafe_j4 stackSafe_j5 jp6 stackSafe_j7 jp8 stackSafe_j9 stackSafe_j10 stackSafe_j11 stackSafe_j12 stackSafe_j13 stackSafe_j14 stackSafe_j15 stackSafe_j16 stackSafe_j17 stackSafe_j18 stackSafe_j19 stackSafe_j20 stackSafe_j21 stackSafe_j22 stackSafe_j23 jp24 jp25 stackSafe_j26 stackSafe_j27 stackSafe_j28 stackSafe_j29 stackSafe_j30 stackSafe_j31
theorem laid0_stackSafe : (Rows.stackSafeRow.laid.filter fun x => x.2.handleName?.isSome) = [] := by kernel_rfl
theorem laidE_stackSafe : (Rows.stackSafeRow.laid.drop 3).take 3 = lstI [1, 2, 3] := by kernel_rfl
theorem tab_stackSafe {W : World} (h : laidMetH Tryz.prog Rows.stackSafeRow.laid W) : TabW W :=
  tab_of_laid0 (k := 2) (nm := ((Rows.stackSafeRow.laid.map (·.1)).getD 2 "")) laid0_stackSafe (by kernel_rfl) (by kernel_rfl) h
set_option maxRecDepth 100000 in
theorem stackSafe_lifted (walk : ∀ (a0 : Int) (a1 : Option Addr) (len1 cap1 : Nat) (z1 : List (List ROp)) (a2 : Option Addr) (len2 cap2 : Nat) (z2 : List Int) (w : World), (Lit.int .i64 a0).wf = true → IsOps w a1 len1 cap1 z1 → IsRow .i64 w a2 len2 cap2 z2 → (∃ a, ErrsS w a) → TabW w → Calls Tryz.prog 3 #[.int .i64 a0, .slice a1 len1 cap1, .slice a2 len2 cap2] w fun e w' => e = .returned (.bool true) ∧ Below w.heap.size w w')
    (os : Os) (started : os.Started) (H : Type) (enc : TypeId × Value → H) :
    ReturnsInHanded {} Tryz.checked os 3 .any (fun w args => (Rows.stackSafeSpec.pre enc Tryz.prog Tryz.f3 [] false w args ∧ laidMetH Tryz.prog Rows.stackSafeRow.laid w) ∧ sizedMet enc Tryz.prog Tryz.f3 (OpenSpec.ofChange Rows.stackSafeSpec) false w args)
      (Rows.stackSafeSpec.post enc Tryz.prog Tryz.f3 false true false false) := by
  refine returnsInHanded_of_change_and (C := Tryz.checked) (X := fun w _ => laidMetH Tryz.prog Rows.stackSafeRow.laid w) (fun _ _ _ hh h => h.of_heap hh) own started (by kernel_rfl) Tryz.func3
    (ChangeSpec.witness_at (enc := enc) (C := Tryz.checked) (os := os) (X := fun w _ => laidMetH Tryz.prog Rows.stackSafeRow.laid w) false (laidWorld os) #[.int .i64 0, .slice none 0 0, .slice none 0 0] 8 rfl (by kernel_rfl) (by kernel_rfl) (by kernel_rfl) (by kernel_rfl) (by kernel_rfl) (laid_met_stackSafe os _)) ?_
  intro W base args ds gs before hval0 hW _ _ hL _
  have hval : ∀ (j : Nat) t v, Tryz.f3.params[j]? = some t → args[j]? = some v → Value.okWide Tryz.prog W .any base t v := hval0
  have hW' := hW
  obtain ⟨p, q, hA0, hV, rfl, hfz, hnd⟩ := hW
  have hA : DataW.TrodAll enc Tryz.prog W 0 (fun _ => true) true Tryz.f3.params.toList args.toList ds p := hA0
  rw [Tryz.params3] at hA hval
  obtain ⟨v0, vs0, d0, ds0, p0, q0, hargs, rfl, rfl, h0, r0⟩ := trodAll_cons hA
  obtain ⟨v1, vs1, d1, ds1, p1, q1, rfl, rfl, rfl, h1, r1⟩ := trodAll_cons r0
  obtain ⟨v2, vs2, d2, ds2, p2, q2, rfl, rfl, rfl, h2, r2⟩ := trodAll_cons r1
  obtain ⟨rfl, rfl, rfl⟩ := trodAll_nil r2
  obtain rfl : args = #[v0, v1, v2] := by cases args; simp_all
  obtain ⟨rfl, rfl⟩ := trodVars_none hV
  obtain ⟨a0, rfl, rfl, rfl, w0⟩ := open_int Tryz.underlying3 (hval 0 3 v0 rfl rfl) h0
  obtain ⟨a1, len1, cap1, rfl⟩ := okWide_slice Tryz.underlying22 (hval 1 22 v1 rfl rfl)
  have k1 := h1
  have lt1 : ∀ x ∈ p1, x.block < W.heap.size := by obtain ⟨m, hm⟩ := k1; exact DataW.trod_lt m _ _ _ hm
  obtain ⟨z1, w1⟩ : ∃ zs, IsOps W a1 len1 cap1 zs := isOps_of h1
  obtain ⟨a2, len2, cap2, rfl⟩ := okWide_slice Tryz.underlying23 (hval 2 23 v2 rfl rfl)
  have k2 := h2
  have lt2 : ∀ x ∈ p2, x.block < W.heap.size := by obtain ⟨m, hm⟩ := k2; exact DataW.trod_lt m _ _ _ hm
  obtain ⟨z2, w2⟩ : ∃ zs, IsRow .i64 W a2 len2 cap2 zs := isRow_of Tryz.underlying23 Tryz.underlying3 (by kernel_rfl) h2
  clear hA0 hval0
  refine (walk a0 a1 len1 cap1 z1 a2 len2 cap2 z2 W w0 w1 w2 (errs3 laid0_stackSafe laidE_stackSafe hL) (tab_stackSafe hL)).mono fun e W' ⟨he, bel⟩ => ?_
  subst he
  exact ⟨_, rfl, _, _, _, [], _, [], hW', trodAll_mk1 (shut_bool Tryz.underlying4 _), (trodAll_cons_mk (shut_int Tryz.underlying3 w0) (trodAll_cons_mk (Below.trod laidOut (by kernel_rfl) (of_decide_eq_true (by kernel_rfl)) k1 bel lt1) (trodAll_cons_mk (Below.trod laidOut (by kernel_rfl) (of_decide_eq_true (by kernel_rfl)) k2 bel lt2) trodAll_mk0))), rfl, bel.frame _, fun h => by cases h⟩
theorem stackSafe_over (walk : ∀ (a0 : Int) (a1 : Option Addr) (len1 cap1 : Nat) (z1 : List (List ROp)) (a2 : Option Addr) (len2 cap2 : Nat) (z2 : List Int) (w : World), (Lit.int .i64 a0).wf = true → IsOps w a1 len1 cap1 z1 → IsRow .i64 w a2 len2 cap2 z2 → (∃ a, ErrsS w a) → TabW w → Calls Tryz.prog 3 #[.int .i64 a0, .slice a1 len1 cap1, .slice a2 len2 cap2] w fun e w' => e = .returned (.bool true) ∧ Below w.heap.size w w') :
    Rows.StackSafeSaid :=
  OpenClaim.holds_of_wide 3 Tryz.f3 rfl rfl rfl rfl rfl rfl rfl ⟨rfl, rfl, rfl, rfl, rfl⟩ rfl rfl rfl rfl rfl (by kernel_rfl) Tryz.func3 stackSafe_joined
    (of_decide_eq_true (by kernel_rfl)) (by unfold Func.isWrapper; first | (rw [if_pos (by decide +kernel)]; kernel_rfl) | (rw [if_neg (by decide +kernel)]; exact ⟨rfl, rfl⟩))
    (fun os started H enc _ => stackSafe_lifted walk os started H enc)
end Go.Proofs.YtppihkneeolomaaGreatDoor
