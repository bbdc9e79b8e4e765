/- SpinSafe: the row, out of its walk. -/
import Derived.Test.YtamfbfajlfbooaaDoorQm3
import Derived.Test.YtamfbfajlfbooaaDoorQJoinedP
import Derived.OpenShut
import Derived.ShutString
import Derived.ChangeOld
import Derived.Below
set_option linter.unusedVariables false
set_option linter.unusedSimpArgs false
set_option linter.unusedSectionVars false
namespace Go.Proofs.YtamfbfajlfbooaaDoor
open Go.ChangeShapes Go.WideShapes Go.ChangeAt Go.RowKit
open Go.ChangeMaps (open_string shut_string)
theorem spinSafe_j0 : (Rows.spinSafeRow.wf (OpenSpec.ofChange Rows.spinSafeSpec)) = true := by kernel_rfl
theorem spinSafe_j3 : (Tryd.f4.params.all (Tryd.pinned.checked.prog.readableRec ·)) = true := by kernel_rfl
theorem spinSafe_j4 : (namedTie Tryd.pinned.checked.prog Rows.spinSafeRow.named Rows.spinSafeSpec.vars) = true := by kernel_rfl
theorem spinSafe_j5 : ((Rows.spinSafeRow.stops == [])) = true := by kernel_rfl
theorem spinSafe_j7 : ((Rows.spinSafeRow.knobs == [])) = true := by kernel_rfl
theorem spinSafe_j9 : ((Rows.spinSafeRow.inPlace == Tryd.pinned.checked.prog.inPlace 4)) = true := by kernel_rfl
theorem spinSafe_j10 : ((Rows.spinSafeRow.unfollowed == Tryd.pinned.checked.prog.unfollowed 4)) = true := by kernel_rfl
theorem spinSafe_j11 : ((Rows.spinSafeRow.recurses == Tryd.pinned.checked.prog.recurses 4)) = true := by kernel_rfl
theorem spinSafe_j12 : ((Rows.spinSafeRow.named == Tryd.pinned.checked.prog.varsNamed 4)) = true := by kernel_rfl
theorem spinSafe_j13 : ((Rows.spinSafeRow.maps == (Tryd.f4.params.toList ++ Rows.spinSafeSpec.plain.varTypes Tryd.pinned.checked.prog).any (Tryd.pinned.checked.prog.mapsRec ·))) = true := by kernel_rfl
theorem spinSafe_j14 : ((Rows.spinSafeRow.ifaces == (Tryd.f4.params.toList ++ Rows.spinSafeSpec.plain.varTypes Tryd.pinned.checked.prog).any (Tryd.pinned.checked.prog.ifacesRec ·))) = true := by kernel_rfl
theorem spinSafe_j15 : ((Rows.spinSafeRow.mapsOut == Tryd.pinned.checked.prog.mapsAmong Tryd.f4.resultTypes.toList)) = true := by kernel_rfl
theorem spinSafe_j16 : ((Rows.spinSafeRow.loops == (Tryd.f4.params.toList ++ Rows.spinSafeSpec.plain.varTypes Tryd.pinned.checked.prog).any (Tryd.pinned.checked.prog.loopsFrom ·))) = true := by kernel_rfl
theorem spinSafe_j17 : ((Rows.spinSafeRow.wideKeys == (Tryd.f4.params.toList ++ Rows.spinSafeSpec.plain.varTypes Tryd.pinned.checked.prog ++ Tryd.f4.resultTypes.toList).any (Tryd.pinned.checked.prog.wideKeysFrom ·))) = true := by kernel_rfl
theorem spinSafe_j18 : (Rows.spinSafeSpec.vars.all (Tryd.pinned.checked.prog.varReadable ·)) = true := by kernel_rfl
theorem spinSafe_j19 : (Tryd.f4.resultTypes.all (fun t => Tryd.pinned.checked.prog.readableRec t && decide (t < Tryd.pinned.checked.prog.types.size))) = true := by kernel_rfl
theorem spinSafe_j20 : ((Rows.spinSafeRow.ifacesOut == Tryd.f4.resultTypes.toList.any (Tryd.pinned.checked.prog.ifacesRec ·))) = true := by kernel_rfl
theorem spinSafe_j21 : ((Rows.spinSafeRow.loopsOut == Tryd.f4.resultTypes.toList.any (Tryd.pinned.checked.prog.loopsFrom ·))) = true := by kernel_rfl
theorem spinSafe_j22 : ((Rows.spinSafeRow.plainKeys == Tryd.pinned.checked.prog.plainKeys)) = true := by
  rw [show Rows.spinSafeRow.plainKeys = true from rfl]; exact jp22
theorem spinSafe_j23 : (Rows.spinSafeRow.shortTexts.isNone) = true := by kernel_rfl
theorem spinSafe_j26 : ((Rows.spinSafeRow.lifted == Tryd.pinned.checked.prog.liftsFinal)) = true := by
  rw [show Rows.spinSafeRow.lifted = false from rfl]; exact jp26
theorem spinSafe_j27 : ((Tryd.pinned.checked.prog.make == some Rows.spinSafeRow.make)) = true := by
  rw [show Rows.spinSafeRow.make = Make.cut from rfl]; exact jp27
theorem spinSafe_j28 : ((Rows.spinSafeRow.kinds == kindsOf Tryd.pinned.checked.prog Rows.spinSafeRow.domain.isEmpty Tryd.f4.params.toList)) = true := by kernel_rfl
theorem spinSafe_j29 : ((Rows.spinSafeRow.pinned == Rows.spinSafeRow.pinnedBy)) = true := by kernel_rfl
theorem spinSafe_j30 : ((Rows.spinSafeRow.veiled == (Tryd.f4.params.toList ++ Rows.spinSafeSpec.plain.varTypes Tryd.pinned.checked.prog ++ Tryd.f4.resultTypes.toList).any (Tryd.pinned.checked.prog.veiledRec ·))) = true := by kernel_rfl
theorem spinSafe_j31 : (Rows.spinSafeRow.veiledFits Tryd.pinned.checked.prog Tryd.f4.params.toList (Tryd.f4.params.toList ++ Rows.spinSafeSpec.plain.varTypes Tryd.pinned.checked.prog ++ Tryd.f4.resultTypes.toList)) = true := by kernel_rfl
theorem spinSafe_joined : joinedFacts Tryd.pinned.checked.prog 4 Tryd.f4 Rows.spinSafeSpec Rows.spinSafeRow = true :=
  joined_of (P := Tryd.pinned.checked.prog) (f := 4) (fn := Tryd.f4) (s := Rows.spinSafeSpec) (c := Rows.spinSafeRow) spinSafe_j0 jp1 jp2 spinSafe_j3 spinSafe_j4 spinSafe_j5 jp6 spinSafe_j7 jp8 spinSafe_j9 spinSafe_j10 spinSafe_j11 spinSafe_j12 spinSafe_j13 spinSafe_j14 spinSafe_j15 spinSafe_j16 spinSafe_j17 spinSafe_j18 spinSafe_j19 spinSafe_j20 spinSafe_j21 spinSafe_j22 spinSafe_j23 jp24 jp25 spinSafe_j26 spinSafe_j27 spinSafe_j28 spinSafe_j29 spinSafe_j30 spinSafe_j31
set_option maxRecDepth 100000 in
theorem spinSafe_lifted (walk : ∀ (a0 : Int) (a1 : Int) (a2 : Option Addr) (len2 cap2 : Nat) (z2 : List Int) (w : World), (Lit.int .i64 a0).wf = true → (Lit.int .i64 a1).wf = true → IsRow .i64 w a2 len2 cap2 z2 → Calls Tryd.prog 4 #[.int .i64 a0, .int .i64 a1, .slice a2 len2 cap2] w fun e w' => e = .returned (.bool true) ∧ Below w.heap.size w w')
    (os : Os) (started : os.Started) (H : Type) (enc : TypeId × Value → H) :
    ReturnsInHanded {} Tryd.checked os 4 .any (fun w args => (Rows.spinSafeSpec.pre enc Tryd.prog Tryd.f4 [] false w args ∧ laidMetH Tryd.prog Rows.spinSafeRow.laid w) ∧ sizedMet enc Tryd.prog Tryd.f4 (OpenSpec.ofChange Rows.spinSafeSpec) false w args)
      (Rows.spinSafeSpec.post enc Tryd.prog Tryd.f4 false true false false) := by
  refine returnsInHanded_of_change_and (C := Tryd.checked) (X := fun w _ => laidMetH Tryd.prog Rows.spinSafeRow.laid w) (fun _ _ _ hh h => h.of_heap hh) own started (by kernel_rfl) Tryd.func4
    (ChangeSpec.witness_at (enc := enc) (C := Tryd.checked) (os := os) (X := fun w _ => laidMetH Tryd.prog Rows.spinSafeRow.laid w) false (laidWorld os) #[.int .i64 0, .int .i64 0, .slice none 0 0] 8 rfl (by kernel_rfl) (by kernel_rfl) (by kernel_rfl) (by kernel_rfl) (by kernel_rfl) (laid_met2 os _)) ?_
  intro W base args ds gs before hval0 hW _ _ hL _
  have hval : ∀ (j : Nat) t v, Tryd.f4.params[j]? = some t → args[j]? = some v → Value.okWide Tryd.prog W .any base t v := hval0
  have hW' := hW
  obtain ⟨p, q, hA0, hV, rfl, hfz, hnd⟩ := hW
  have hA : DataW.TrodAll enc Tryd.prog W 0 (fun _ => true) true Tryd.f4.params.toList args.toList ds p := hA0
  rw [Tryd.params4] at hA hval
  obtain ⟨v0, vs0, d0, ds0, p0, q0, hargs, rfl, rfl, h0, r0⟩ := trodAll_cons hA
  obtain ⟨v1, vs1, d1, ds1, p1, q1, rfl, rfl, rfl, h1, r1⟩ := trodAll_cons r0
  obtain ⟨v2, vs2, d2, ds2, p2, q2, rfl, rfl, rfl, h2, r2⟩ := trodAll_cons r1
  obtain ⟨rfl, rfl, rfl⟩ := trodAll_nil r2
  obtain rfl : args = #[v0, v1, v2] := by cases args; simp_all
  obtain ⟨rfl, rfl⟩ := trodVars_none hV
  obtain ⟨a0, rfl, rfl, rfl, w0⟩ := open_int Tryd.underlying3 (hval 0 3 v0 rfl rfl) h0
  obtain ⟨a1, rfl, rfl, rfl, w1⟩ := open_int Tryd.underlying3 (hval 1 3 v1 rfl rfl) h1
  obtain ⟨a2, len2, cap2, rfl⟩ := okWide_slice Tryd.underlying23 (hval 2 23 v2 rfl rfl)
  have k2 := h2
  have lt2 : ∀ x ∈ p2, x.block < W.heap.size := by obtain ⟨m, hm⟩ := k2; exact DataW.trod_lt m _ _ _ hm
  obtain ⟨z2, w2⟩ : ∃ zs, IsRow .i64 W a2 len2 cap2 zs := isRow_of Tryd.underlying23 Tryd.underlying3 (by kernel_rfl) h2
  clear hA0 hval0
  refine (walk a0 a1 a2 len2 cap2 z2 W w0 w1 w2).mono fun e W' ⟨he, bel⟩ => ?_
  subst he
  exact ⟨_, rfl, _, _, _, [], _, [], hW', trodAll_mk1 (shut_bool Tryd.underlying4 _), (trodAll_cons_mk (shut_int Tryd.underlying3 w0) (trodAll_cons_mk (shut_int Tryd.underlying3 w1) (trodAll_cons_mk (Below.trod laidOut (by kernel_rfl) (of_decide_eq_true (by kernel_rfl)) k2 bel lt2) trodAll_mk0))), rfl, bel.frame _, fun h => by cases h⟩
theorem spinSafe_over (walk : ∀ (a0 : Int) (a1 : Int) (a2 : Option Addr) (len2 cap2 : Nat) (z2 : List Int) (w : World), (Lit.int .i64 a0).wf = true → (Lit.int .i64 a1).wf = true → IsRow .i64 w a2 len2 cap2 z2 → Calls Tryd.prog 4 #[.int .i64 a0, .int .i64 a1, .slice a2 len2 cap2] w fun e w' => e = .returned (.bool true) ∧ Below w.heap.size w w') :
    Rows.SpinSafeSaid :=
  OpenClaim.holds_of_wide 4 Tryd.f4 rfl rfl rfl rfl rfl rfl rfl ⟨rfl, rfl, rfl, rfl, rfl⟩ rfl rfl rfl rfl rfl (by kernel_rfl) Tryd.func4 spinSafe_joined
    (of_decide_eq_true (by kernel_rfl)) (by unfold Func.isWrapper; first | (rw [if_pos (by decide +kernel)]; kernel_rfl) | (rw [if_neg (by decide +kernel)]; exact ⟨rfl, rfl⟩))
    (fun os started H enc _ => spinSafe_lifted walk os started H enc)
end Go.Proofs.YtamfbfajlfbooaaDoor
