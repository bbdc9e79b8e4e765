/- QueueOrder: the row, out of its walk. -/
import Derived.Test.YtlapbfajdamlcaaDoorQOm3
import Derived.Test.YtlapbfajdamlcaaDoorQOJoinedP
import Derived.Lib.SmallJoins
import Derived.OpenShut
import Derived.ShutString
import Derived.ChangeOld
import Derived.Below
set_option linter.unusedVariables false
set_option linter.unusedSimpArgs false
set_option linter.unusedSectionVars false
namespace Go.Proofs.YtlapbfajdamlcaaDoor
open Go.ChangeShapes Go.WideShapes Go.ChangeAt Go.RowKit Go.Joins
open Go.ChangeMaps (open_string shut_string)
theorem queueOrder_j0 : (Rows.queueOrderRow.wf (OpenSpec.ofChange Rows.queueOrderSpec)) = true := by kernel_rfl
theorem queueOrder_j3 : (Tryd.f3.params.all (Tryd.pinned.checked.prog.readableRec ·)) = true := by kernel_rfl
theorem queueOrder_j4 : (namedTie Tryd.pinned.checked.prog Rows.queueOrderRow.named Rows.queueOrderSpec.vars) = true := by kernel_rfl
theorem queueOrder_j5 : ((Rows.queueOrderRow.stops == [])) = true := by kernel_rfl
theorem queueOrder_j7 : ((Rows.queueOrderRow.knobs == [])) = true := by kernel_rfl
theorem queueOrder_j9 : ((Rows.queueOrderRow.inPlace == Tryd.pinned.checked.prog.inPlace 3)) = true := by kernel_rfl
theorem queueOrder_j10 : ((Rows.queueOrderRow.unfollowed == Tryd.pinned.checked.prog.unfollowed 3)) = true := by kernel_rfl
theorem queueOrder_j11 : ((Rows.queueOrderRow.recurses == Tryd.pinned.checked.prog.recurses 3)) = true := by kernel_rfl
theorem queueOrder_j12 : ((Rows.queueOrderRow.named == Tryd.pinned.checked.prog.varsNamed 3)) = true := by kernel_rfl
theorem queueOrder_j13 : ((Rows.queueOrderRow.maps == (Tryd.f3.params.toList ++ Rows.queueOrderSpec.plain.varTypes Tryd.pinned.checked.prog).any (Tryd.pinned.checked.prog.mapsRec ·))) = true := by kernel_rfl
theorem queueOrder_j14 : ((Rows.queueOrderRow.ifaces == (Tryd.f3.params.toList ++ Rows.queueOrderSpec.plain.varTypes Tryd.pinned.checked.prog).any (Tryd.pinned.checked.prog.ifacesRec ·))) = true := by kernel_rfl
theorem queueOrder_j15 : ((Rows.queueOrderRow.mapsOut == Tryd.pinned.checked.prog.mapsAmong Tryd.f3.resultTypes.toList)) = true := by kernel_rfl
theorem queueOrder_j16 : ((Rows.queueOrderRow.loops == (Tryd.f3.params.toList ++ Rows.queueOrderSpec.plain.varTypes Tryd.pinned.checked.prog).any (Tryd.pinned.checked.prog.loopsFrom ·))) = true := by kernel_rfl
theorem queueOrder_j17 : ((Rows.queueOrderRow.wideKeys == (Tryd.f3.params.toList ++ Rows.queueOrderSpec.plain.varTypes Tryd.pinned.checked.prog ++ Tryd.f3.resultTypes.toList).any (Tryd.pinned.checked.prog.wideKeysFrom ·))) = true := by kernel_rfl
theorem queueOrder_j18 : (Rows.queueOrderSpec.vars.all (Tryd.pinned.checked.prog.varReadable ·)) = true := by kernel_rfl
theorem queueOrder_j19 : (Tryd.f3.resultTypes.all (fun t => Tryd.pinned.checked.prog.readableRec t && decide (t < Tryd.pinned.checked.prog.types.size))) = true := by kernel_rfl
theorem queueOrder_j20 : ((Rows.queueOrderRow.ifacesOut == Tryd.f3.resultTypes.toList.any (Tryd.pinned.checked.prog.ifacesRec ·))) = true := by kernel_rfl
theorem queueOrder_j21 : ((Rows.queueOrderRow.loopsOut == Tryd.f3.resultTypes.toList.any (Tryd.pinned.checked.prog.loopsFrom ·))) = true := by kernel_rfl
theorem queueOrder_j22 : ((Rows.queueOrderRow.plainKeys == Tryd.pinned.checked.prog.plainKeys)) = true := by
  rw [show Rows.queueOrderRow.plainKeys = true from rfl]; exact jp22
theorem queueOrder_j23 : (Rows.queueOrderRow.shortTexts.isNone) = true := by kernel_rfl
theorem queueOrder_j26 : ((Rows.queueOrderRow.lifted == Tryd.pinned.checked.prog.liftsFinal)) = true := by
  rw [show Rows.queueOrderRow.lifted = false from rfl]; exact jp26
theorem queueOrder_j27 : ((Tryd.pinned.checked.prog.make == some Rows.queueOrderRow.make)) = true := by
  rw [show Rows.queueOrderRow.make = Make.cut from rfl]; exact jp27
theorem queueOrder_j28 : ((Rows.queueOrderRow.kinds == kindsOf Tryd.pinned.checked.prog Rows.queueOrderRow.domain.isEmpty Tryd.f3.params.toList)) = true := by kernel_rfl
theorem queueOrder_j29 : ((Rows.queueOrderRow.pinned == Rows.queueOrderRow.pinnedBy)) = true := by kernel_rfl
theorem queueOrder_j30 : ((Rows.queueOrderRow.veiled == (Tryd.f3.params.toList ++ Rows.queueOrderSpec.plain.varTypes Tryd.pinned.checked.prog ++ Tryd.f3.resultTypes.toList).any (Tryd.pinned.checked.prog.veiledRec ·))) = true := by kernel_rfl
theorem queueOrder_j31 : (Rows.queueOrderRow.veiledFits Tryd.pinned.checked.prog Tryd.f3.params.toList (Tryd.f3.params.toList ++ Rows.queueOrderSpec.plain.varTypes Tryd.pinned.checked.prog ++ Tryd.f3.resultTypes.toList)) = true := by kernel_rfl
theorem queueOrder_joined : joinedFacts Tryd.pinned.checked.prog 3 Tryd.f3 Rows.queueOrderSpec Rows.queueOrderRow = true :=
  joined_of (P := Tryd.pinned.checked.prog) (f := 3) (fn := Tryd.f3) (s := Rows.queueOrderSpec) (c := Rows.queueOrderRow) queueOrder_j0 jp1 jp2 queueOrder_j3 queueOrder_j4 queueOrder_j5 jp6 queueOrder_j7 jp8 queueOrder_j9 queueOrder_j10 queueOrder_j11 queueOrder_j12 queueOrder_j13 queueOrder_j14 queueOrder_j15 queueOrder_j16 queueOrder_j17 queueOrder_j18 queueOrder_j19 queueOrder_j20 queueOrder_j21 queueOrder_j22 queueOrder_j23 jp24 jp25 queueOrder_j26 queueOrder_j27 queueOrder_j28 queueOrder_j29 queueOrder_j30 queueOrder_j31
set_option maxRecDepth 100000 in
theorem queueOrder_lifted (walk : ∀ (a0 : Int) (a1 : Int) (a2 : Option Addr) (len2 cap2 : Nat) (z2 : List Int) (w : World), (Lit.int .i64 a0).wf = true → (Lit.int .i64 a1).wf = true → IsRow .i64 w a2 len2 cap2 z2 → Calls Tryd.prog 3 #[.int .i64 a0, .int .i64 a1, .slice a2 len2 cap2] w fun e w' => e = .returned (.bool true) ∧ Below w.heap.size w w')
    (os : Os) (started : os.Started) (H : Type) (enc : TypeId × Value → H) :
    ReturnsInHanded {} Tryd.checked os 3 .any (fun w args => (Rows.queueOrderSpec.pre enc Tryd.prog Tryd.f3 [] false w args ∧ laidMetH Tryd.prog Rows.queueOrderRow.laid w) ∧ sizedMet enc Tryd.prog Tryd.f3 (OpenSpec.ofChange Rows.queueOrderSpec) false w args)
      (Rows.queueOrderSpec.post enc Tryd.prog Tryd.f3 false true false false) := by
  refine returnsInHanded_of_change_and (C := Tryd.checked) (X := fun w _ => laidMetH Tryd.prog Rows.queueOrderRow.laid w) (fun _ _ _ hh h => h.of_heap hh) own started (by kernel_rfl) Tryd.func3
    (ChangeSpec.witness_at (enc := enc) (C := Tryd.checked) (os := os) (X := fun w _ => laidMetH Tryd.prog Rows.queueOrderRow.laid w) false (laidWorld os) #[.int .i64 0, .int .i64 0, .slice none 0 0] 8 rfl (by kernel_rfl) (by kernel_rfl) (by kernel_rfl) (by kernel_rfl) (by kernel_rfl) (laid_metQ os _)) ?_
  intro W base args ds gs before hval0 hW _ _ hL _
  have hval : ∀ (j : Nat) t v, Tryd.f3.params[j]? = some t → args[j]? = some v → Value.okWide Tryd.prog W .any base t v := hval0
  have hW' := hW
  obtain ⟨p, q, hA0, hV, rfl, hfz, hnd⟩ := hW
  have hA : DataW.TrodAll enc Tryd.prog W 0 (fun _ => true) true Tryd.f3.params.toList args.toList ds p := hA0
  rw [Tryd.params3] at hA hval
  obtain ⟨v0, vs0, d0, ds0, p0, q0, hargs, rfl, rfl, h0, r0⟩ := trodAll_cons hA
  obtain ⟨v1, vs1, d1, ds1, p1, q1, rfl, rfl, rfl, h1, r1⟩ := trodAll_cons r0
  obtain ⟨v2, vs2, d2, ds2, p2, q2, rfl, rfl, rfl, h2, r2⟩ := trodAll_cons r1
  obtain ⟨rfl, rfl, rfl⟩ := trodAll_nil r2
  obtain rfl : args = #[v0, v1, v2] := by cases args; simp_all
  obtain ⟨rfl, rfl⟩ := trodVars_none hV
  obtain ⟨a0, rfl, rfl, rfl, w0⟩ := open_int Tryd.underlying3 (hval 0 3 v0 rfl rfl) h0
  obtain ⟨a1, rfl, rfl, rfl, w1⟩ := open_int Tryd.underlying3 (hval 1 3 v1 rfl rfl) h1
  obtain ⟨a2, len2, cap2, rfl⟩ := okWide_slice Tryd.underlying22 (hval 2 22 v2 rfl rfl)
  have k2 := h2
  have lt2 : ∀ x ∈ p2, x.block < W.heap.size := by obtain ⟨m, hm⟩ := k2; exact DataW.trod_lt m _ _ _ hm
  obtain ⟨z2, w2⟩ : ∃ zs, IsRow .i64 W a2 len2 cap2 zs := isRow_of Tryd.underlying22 Tryd.underlying3 (by kernel_rfl) h2
  clear hA0 hval0
  refine (walk a0 a1 a2 len2 cap2 z2 W w0 w1 w2).mono fun e W' ⟨he, bel⟩ => ?_
  subst he
  exact ⟨_, rfl, _, _, _, [], _, [], hW', trodAll_mk1 (shut_bool Tryd.underlying4 _), (trodAll_cons_mk (shut_int Tryd.underlying3 w0) (trodAll_cons_mk (shut_int Tryd.underlying3 w1) (trodAll_cons_mk (Below.trod laidOut (by kernel_rfl) (of_decide_eq_true (by kernel_rfl)) k2 bel lt2) trodAll_mk0))), rfl, bel.frame _, fun h => by cases h⟩
theorem queueOrder_over (walk : ∀ (a0 : Int) (a1 : Int) (a2 : Option Addr) (len2 cap2 : Nat) (z2 : List Int) (w : World), (Lit.int .i64 a0).wf = true → (Lit.int .i64 a1).wf = true → IsRow .i64 w a2 len2 cap2 z2 → Calls Tryd.prog 3 #[.int .i64 a0, .int .i64 a1, .slice a2 len2 cap2] w fun e w' => e = .returned (.bool true) ∧ Below w.heap.size w w') :
    Rows.QueueOrderSaid :=
  OpenClaim.holds_of_wide 3 Tryd.f3 rfl rfl rfl rfl rfl rfl rfl ⟨rfl, rfl, rfl, rfl, rfl⟩ rfl rfl rfl rfl rfl (by kernel_rfl) Tryd.func3 queueOrder_joined
    (of_decide_eq_true (by kernel_rfl)) (by unfold Func.isWrapper; first | (rw [if_pos (by decide +kernel)]; kernel_rfl) | (rw [if_neg (by decide +kernel)]; exact ⟨rfl, rfl⟩))
    (fun os started H enc _ => queueOrder_lifted walk os started H enc)
end Go.Proofs.YtlapbfajdamlcaaDoor
