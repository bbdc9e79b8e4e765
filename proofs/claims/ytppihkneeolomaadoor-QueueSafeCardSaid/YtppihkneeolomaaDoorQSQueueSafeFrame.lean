/- QueueSafe: the row, out of its walk. -/
import Derived.Test.YtppihkneeolomaaDoorQSm3
import Derived.Test.YtppihkneeolomaaDoorQSJoinedP
import Derived.Test.YtppihkneeolomaaDoorQSm11
import Derived.Lib.SmallJoins
import Derived.OpenShut
import Derived.ShutString
import Derived.ChangeOld
import Derived.Below
set_option linter.unusedVariables false
set_option linter.unusedSimpArgs false
set_option linter.unusedSectionVars false
namespace Go.Proofs.YtppihkneeolomaaDoor
open Go.ChangeShapes Go.WideShapes Go.ChangeAt Go.RowKit Go.Joins
open Go.ChangeMaps (open_string shut_string)
theorem queueSafe_j0 : (Rows.queueSafeRow.wf (OpenSpec.ofChange Rows.queueSafeSpec)) = true := by kernel_rfl
theorem queueSafe_j3 : (Tryd.f3.params.all (Tryd.pinned.checked.prog.readableRec ·)) = true := by kernel_rfl
theorem queueSafe_j4 : (namedTie Tryd.pinned.checked.prog Rows.queueSafeRow.named Rows.queueSafeSpec.vars) = true := by kernel_rfl
theorem queueSafe_j5 : ((Rows.queueSafeRow.stops == [])) = true := by kernel_rfl
theorem queueSafe_j7 : ((Rows.queueSafeRow.knobs == [])) = true := by kernel_rfl
theorem queueSafe_j9 : ((Rows.queueSafeRow.inPlace == Tryd.pinned.checked.prog.inPlace 3)) = true := by kernel_rfl
theorem queueSafe_j10 : ((Rows.queueSafeRow.unfollowed == Tryd.pinned.checked.prog.unfollowed 3)) = true := by kernel_rfl
theorem queueSafe_j11 : ((Rows.queueSafeRow.recurses == Tryd.pinned.checked.prog.recurses 3)) = true := by kernel_rfl
theorem queueSafe_j12 : ((Rows.queueSafeRow.named == Tryd.pinned.checked.prog.varsNamed 3)) = true := by kernel_rfl
theorem queueSafe_j13 : ((Rows.queueSafeRow.maps == (Tryd.f3.params.toList ++ Rows.queueSafeSpec.plain.varTypes Tryd.pinned.checked.prog).any (Tryd.pinned.checked.prog.mapsRec ·))) = true := by kernel_rfl
theorem queueSafe_j14 : ((Rows.queueSafeRow.ifaces == (Tryd.f3.params.toList ++ Rows.queueSafeSpec.plain.varTypes Tryd.pinned.checked.prog).any (Tryd.pinned.checked.prog.ifacesRec ·))) = true := by kernel_rfl
theorem queueSafe_j15 : ((Rows.queueSafeRow.mapsOut == Tryd.pinned.checked.prog.mapsAmong Tryd.f3.resultTypes.toList)) = true := by kernel_rfl
theorem queueSafe_j16 : ((Rows.queueSafeRow.loops == (Tryd.f3.params.toList ++ Rows.queueSafeSpec.plain.varTypes Tryd.pinned.checked.prog).any (Tryd.pinned.checked.prog.loopsFrom ·))) = true := by kernel_rfl
theorem queueSafe_j17 : ((Rows.queueSafeRow.wideKeys == (Tryd.f3.params.toList ++ Rows.queueSafeSpec.plain.varTypes Tryd.pinned.checked.prog ++ Tryd.f3.resultTypes.toList).any (Tryd.pinned.checked.prog.wideKeysFrom ·))) = true := by kernel_rfl
theorem queueSafe_j18 : (Rows.queueSafeSpec.vars.all (Tryd.pinned.checked.prog.varReadable ·)) = true := by kernel_rfl
theorem queueSafe_j19 : (Tryd.f3.resultTypes.all (fun t => Tryd.pinned.checked.prog.readableRec t && decide (t < Tryd.pinned.checked.prog.types.size))) = true := by kernel_rfl
theorem queueSafe_j20 : ((Rows.queueSafeRow.ifacesOut == Tryd.f3.resultTypes.toList.any (Tryd.pinned.checked.prog.ifacesRec ·))) = true := by kernel_rfl
theorem queueSafe_j21 : ((Rows.queueSafeRow.loopsOut == Tryd.f3.resultTypes.toList.any (Tryd.pinned.checked.prog.loopsFrom ·))) = true := by kernel_rfl
theorem queueSafe_j22 : ((Rows.queueSafeRow.plainKeys == Tryd.pinned.checked.prog.plainKeys)) = true := by
  rw [show Rows.queueSafeRow.plainKeys = true from rfl]; exact jp22
theorem queueSafe_j23 : (Rows.queueSafeRow.shortTexts.isNone) = true := by kernel_rfl
theorem queueSafe_j26 : ((Rows.queueSafeRow.lifted == Tryd.pinned.checked.prog.liftsFinal)) = true := by
  rw [show Rows.queueSafeRow.lifted = false from rfl]; exact jp26
theorem queueSafe_j27 : ((Tryd.pinned.checked.prog.make == some Rows.queueSafeRow.make)) = true := by
  rw [show Rows.queueSafeRow.make = Make.cut from rfl]; exact jp27
theorem queueSafe_j28 : ((Rows.queueSafeRow.kinds == kindsOf Tryd.pinned.checked.prog Rows.queueSafeRow.domain.isEmpty Tryd.f3.params.toList)) = true := by kernel_rfl
theorem queueSafe_j29 : ((Rows.queueSafeRow.pinned == Rows.queueSafeRow.pinnedBy)) = true := by kernel_rfl
theorem queueSafe_j30 : ((Rows.queueSafeRow.veiled == (Tryd.f3.params.toList ++ Rows.queueSafeSpec.plain.varTypes Tryd.pinned.checked.prog ++ Tryd.f3.resultTypes.toList).any (Tryd.pinned.checked.prog.veiledRec ·))) = true := by kernel_rfl
theorem queueSafe_j31 : (Rows.queueSafeRow.veiledFits Tryd.pinned.checked.prog Tryd.f3.params.toList (Tryd.f3.params.toList ++ Rows.queueSafeSpec.plain.varTypes Tryd.pinned.checked.prog ++ Tryd.f3.resultTypes.toList)) = true := by kernel_rfl
theorem queueSafe_joined : joinedFacts Tryd.pinned.checked.prog 3 Tryd.f3 Rows.queueSafeSpec Rows.queueSafeRow = true :=
  joined_of (P := Tryd.pinned.checked.prog) (f := 3) (fn := Tryd.f3) (s := Rows.queueSafeSpec) (c := Rows.queueSafeRow) queueSafe_j0 jp1 jp2 queueSafe_j3 queueSafe_j4 queueSafe_j5 jp6 queueSafe_j7 jp8 queueSafe_j9 queueSafe_j10 queueSafe_j11 queueSafe_j12 queueSafe_j13 queueSafe_j14 queueSafe_j15 queueSafe_j16 queueSafe_j17 queueSafe_j18 queueSafe_j19 queueSafe_j20 queueSafe_j21 queueSafe_j22 queueSafe_j23 jp24 jp25 queueSafe_j26 queueSafe_j27 queueSafe_j28 queueSafe_j29 queueSafe_j30 queueSafe_j31
set_option maxRecDepth 100000 in
theorem queueSafe_lifted (walk : ∀ (a0 : Option Addr) (len0 cap0 : Nat) (z0 : List (List ROp)) (a1 : Option Addr) (len1 cap1 : Nat) (z1 : List Int) (w : World), IsOps w a0 len0 cap0 z0 → IsRow .i64 w a1 len1 cap1 z1 → Calls Tryd.prog 3 #[.slice a0 len0 cap0, .slice a1 len1 cap1] w fun e w' => e = .returned (.bool true) ∧ Below w.heap.size w w')
    (os : Os) (started : os.Started) (H : Type) (enc : TypeId × Value → H) :
    ReturnsInHanded {} Tryd.checked os 3 .any (fun w args => (Rows.queueSafeSpec.pre enc Tryd.prog Tryd.f3 [] false w args ∧ laidMetH Tryd.prog Rows.queueSafeRow.laid w) ∧ sizedMet enc Tryd.prog Tryd.f3 (OpenSpec.ofChange Rows.queueSafeSpec) false w args)
      (Rows.queueSafeSpec.post enc Tryd.prog Tryd.f3 false true false false) := by
  refine returnsInHanded_of_change_and (C := Tryd.checked) (X := fun w _ => laidMetH Tryd.prog Rows.queueSafeRow.laid w) (fun _ _ _ hh h => h.of_heap hh) own started (by kernel_rfl) Tryd.func3
    (ChangeSpec.witness_at (enc := enc) (C := Tryd.checked) (os := os) (X := fun w _ => laidMetH Tryd.prog Rows.queueSafeRow.laid w) false (laidWorld os) #[.slice none 0 0, .slice none 0 0] 8 rfl (by kernel_rfl) (by kernel_rfl) (by kernel_rfl) (by kernel_rfl) (by kernel_rfl) (laid_met_queueSafe os _)) ?_
  intro W base args ds gs before hval0 hW _ _ hL _
  have hval : ∀ (j : Nat) t v, Tryd.f3.params[j]? = some t → args[j]? = some v → Value.okWide Tryd.prog W .any base t v := hval0
  have hW' := hW
  obtain ⟨p, q, hA0, hV, rfl, hfz, hnd⟩ := hW
  have hA : DataW.TrodAll enc Tryd.prog W 0 (fun _ => true) true Tryd.f3.params.toList args.toList ds p := hA0
  rw [Tryd.params3] at hA hval
  obtain ⟨v0, vs0, d0, ds0, p0, q0, hargs, rfl, rfl, h0, r0⟩ := trodAll_cons hA
  obtain ⟨v1, vs1, d1, ds1, p1, q1, rfl, rfl, rfl, h1, r1⟩ := trodAll_cons r0
  obtain ⟨rfl, rfl, rfl⟩ := trodAll_nil r1
  obtain rfl : args = #[v0, v1] := by cases args; simp_all
  obtain ⟨rfl, rfl⟩ := trodVars_none hV
  obtain ⟨a0, len0, cap0, rfl⟩ := okWide_slice Tryd.underlying22 (hval 0 22 v0 rfl rfl)
  have k0 := h0
  have lt0 : ∀ x ∈ p0, x.block < W.heap.size := by obtain ⟨m, hm⟩ := k0; exact DataW.trod_lt m _ _ _ hm
  obtain ⟨z0, w0⟩ : ∃ zs, IsOps W a0 len0 cap0 zs := isOps_of h0
  obtain ⟨a1, len1, cap1, rfl⟩ := okWide_slice Tryd.underlying23 (hval 1 23 v1 rfl rfl)
  have k1 := h1
  have lt1 : ∀ x ∈ p1, x.block < W.heap.size := by obtain ⟨m, hm⟩ := k1; exact DataW.trod_lt m _ _ _ hm
  obtain ⟨z1, w1⟩ : ∃ zs, IsRow .i64 W a1 len1 cap1 zs := isRow_of Tryd.underlying23 Tryd.underlying3 (by kernel_rfl) h1
  clear hA0 hval0
  refine (walk a0 len0 cap0 z0 a1 len1 cap1 z1 W w0 w1).mono fun e W' ⟨he, bel⟩ => ?_
  subst he
  exact ⟨_, rfl, _, _, _, [], _, [], hW', trodAll_mk1 (shut_bool Tryd.underlying4 _), (trodAll_cons_mk (Below.trod laidOut (by kernel_rfl) (of_decide_eq_true (by kernel_rfl)) k0 bel lt0) (trodAll_cons_mk (Below.trod laidOut (by kernel_rfl) (of_decide_eq_true (by kernel_rfl)) k1 bel lt1) trodAll_mk0)), rfl, bel.frame _, fun h => by cases h⟩
theorem queueSafe_over (walk : ∀ (a0 : Option Addr) (len0 cap0 : Nat) (z0 : List (List ROp)) (a1 : Option Addr) (len1 cap1 : Nat) (z1 : List Int) (w : World), IsOps w a0 len0 cap0 z0 → IsRow .i64 w a1 len1 cap1 z1 → Calls Tryd.prog 3 #[.slice a0 len0 cap0, .slice a1 len1 cap1] w fun e w' => e = .returned (.bool true) ∧ Below w.heap.size w w') :
    Rows.QueueSafeSaid :=
  OpenClaim.holds_of_wide 3 Tryd.f3 rfl rfl rfl rfl rfl rfl rfl ⟨rfl, rfl, rfl, rfl, rfl⟩ rfl rfl rfl rfl rfl (by kernel_rfl) Tryd.func3 queueSafe_joined
    (of_decide_eq_true (by kernel_rfl)) (by unfold Func.isWrapper; first | (rw [if_pos (by decide +kernel)]; kernel_rfl) | (rw [if_neg (by decide +kernel)]; exact ⟨rfl, rfl⟩))
    (fun os started H enc _ => queueSafe_lifted walk os started H enc)
end Go.Proofs.YtppihkneeolomaaDoor
