/- MemoryAlone: the row, out of its walk. -/
import Derived.Test.YtamfbfajlfbooaaDoorRLaid
import Derived.Test.YtamfbfajlfbooaaDoorRJoinedP
import Derived.Test.YtamfbfajlfbooaaDoorRm3
import Derived.Test.YtamfbfajlfbooaaDoorRStructs
import Derived.Test.YtamfbfajlfbooaaDoorRErrs4Law
import Derived.Lib.SmallJoins
import Derived.OpenShut
import Derived.ShutString
import Derived.ChangeOld
import Derived.Below
set_option linter.unusedVariables false
set_option linter.unusedSimpArgs false
set_option linter.unusedSectionVars false
namespace Go.Proofs.YtamfbfajlfbooaaDoor
open Go.ChangeShapes Go.WideShapes Go.ChangeAt Go.RowKit Go.Joins
open Go.ChangeMaps (open_string shut_string)
theorem memoryAlone_j0 : (Rows.memoryAloneRow.wf (OpenSpec.ofChange Rows.memoryAloneSpec)) = true := by kernel_rfl
theorem memoryAlone_j3 : (Tryd.f5.params.all (Tryd.pinned.checked.prog.readableRec ·)) = true := by kernel_rfl
theorem memoryAlone_j4 : (namedTie Tryd.pinned.checked.prog Rows.memoryAloneRow.named Rows.memoryAloneSpec.vars) = true := by kernel_rfl
theorem memoryAlone_j5 : ((Rows.memoryAloneRow.stops == [])) = true := by kernel_rfl
theorem memoryAlone_j7 : ((Rows.memoryAloneRow.knobs == [])) = true := by kernel_rfl
theorem memoryAlone_j9 : ((Rows.memoryAloneRow.inPlace == Tryd.pinned.checked.prog.inPlace 5)) = true := by kernel_rfl
theorem memoryAlone_j10 : ((Rows.memoryAloneRow.unfollowed == Tryd.pinned.checked.prog.unfollowed 5)) = true := by kernel_rfl
theorem memoryAlone_j11 : ((Rows.memoryAloneRow.recurses == Tryd.pinned.checked.prog.recurses 5)) = true := by kernel_rfl
theorem memoryAlone_j12 : ((Rows.memoryAloneRow.named == Tryd.pinned.checked.prog.varsNamed 5)) = true := by kernel_rfl
theorem memoryAlone_j13 : ((Rows.memoryAloneRow.maps == (Tryd.f5.params.toList ++ Rows.memoryAloneSpec.plain.varTypes Tryd.pinned.checked.prog).any (Tryd.pinned.checked.prog.mapsRec ·))) = true := by kernel_rfl
theorem memoryAlone_j14 : ((Rows.memoryAloneRow.ifaces == (Tryd.f5.params.toList ++ Rows.memoryAloneSpec.plain.varTypes Tryd.pinned.checked.prog).any (Tryd.pinned.checked.prog.ifacesRec ·))) = true := by kernel_rfl
theorem memoryAlone_j15 : ((Rows.memoryAloneRow.mapsOut == Tryd.pinned.checked.prog.mapsAmong Tryd.f5.resultTypes.toList)) = true := by kernel_rfl
theorem memoryAlone_j16 : ((Rows.memoryAloneRow.loops == (Tryd.f5.params.toList ++ Rows.memoryAloneSpec.plain.varTypes Tryd.pinned.checked.prog).any (Tryd.pinned.checked.prog.loopsFrom ·))) = true := by kernel_rfl
theorem memoryAlone_j17 : ((Rows.memoryAloneRow.wideKeys == (Tryd.f5.params.toList ++ Rows.memoryAloneSpec.plain.varTypes Tryd.pinned.checked.prog ++ Tryd.f5.resultTypes.toList).any (Tryd.pinned.checked.prog.wideKeysFrom ·))) = true := by kernel_rfl
theorem memoryAlone_j18 : (Rows.memoryAloneSpec.vars.all (Tryd.pinned.checked.prog.varReadable ·)) = true := by kernel_rfl
theorem memoryAlone_j19 : (Tryd.f5.resultTypes.all (fun t => Tryd.pinned.checked.prog.readableRec t && decide (t < Tryd.pinned.checked.prog.types.size))) = true := by kernel_rfl
theorem memoryAlone_j20 : ((Rows.memoryAloneRow.ifacesOut == Tryd.f5.resultTypes.toList.any (Tryd.pinned.checked.prog.ifacesRec ·))) = true := by kernel_rfl
theorem memoryAlone_j21 : ((Rows.memoryAloneRow.loopsOut == Tryd.f5.resultTypes.toList.any (Tryd.pinned.checked.prog.loopsFrom ·))) = true := by kernel_rfl
theorem memoryAlone_j22 : ((Rows.memoryAloneRow.plainKeys == Tryd.pinned.checked.prog.plainKeys)) = true := by
  rw [show Rows.memoryAloneRow.plainKeys = true from rfl]; exact jp22
theorem memoryAlone_j23 : (Rows.memoryAloneRow.shortTexts.isNone) = true := by kernel_rfl
theorem memoryAlone_j26 : ((Rows.memoryAloneRow.lifted == Tryd.pinned.checked.prog.liftsFinal)) = true := by
  rw [show Rows.memoryAloneRow.lifted = false from rfl]; exact jp26
theorem memoryAlone_j27 : ((Tryd.pinned.checked.prog.make == some Rows.memoryAloneRow.make)) = true := by
  rw [show Rows.memoryAloneRow.make = Make.cut from rfl]; exact jp27
theorem memoryAlone_j28 : ((Rows.memoryAloneRow.kinds == kindsOf Tryd.pinned.checked.prog Rows.memoryAloneRow.domain.isEmpty Tryd.f5.params.toList)) = true := by kernel_rfl
theorem memoryAlone_j29 : ((Rows.memoryAloneRow.pinned == Rows.memoryAloneRow.pinnedBy)) = true := by kernel_rfl
theorem memoryAlone_j30 : ((Rows.memoryAloneRow.veiled == (Tryd.f5.params.toList ++ Rows.memoryAloneSpec.plain.varTypes Tryd.pinned.checked.prog ++ Tryd.f5.resultTypes.toList).any (Tryd.pinned.checked.prog.veiledRec ·))) = true := by kernel_rfl
theorem memoryAlone_j31 : (Rows.memoryAloneRow.veiledFits Tryd.pinned.checked.prog Tryd.f5.params.toList (Tryd.f5.params.toList ++ Rows.memoryAloneSpec.plain.varTypes Tryd.pinned.checked.prog ++ Tryd.f5.resultTypes.toList)) = true := by kernel_rfl
theorem memoryAlone_joined : joinedFacts Tryd.pinned.checked.prog 5 Tryd.f5 Rows.memoryAloneSpec Rows.memoryAloneRow = true :=
  joined_of (P := Tryd.pinned.checked.prog) (f := 5) (fn := Tryd.f5) (s := Rows.memoryAloneSpec) (c := Rows.memoryAloneRow) memoryAlone_j0 jp1 jp2 memoryAlone_j3 memoryAlone_j4 memoryAlone_j5 jp6 memoryAlone_j7 jp8 memoryAlone_j9 memoryAlone_j10 memoryAlone_j11 memoryAlone_j12 memoryAlone_j13 memoryAlone_j14 memoryAlone_j15 memoryAlone_j16 memoryAlone_j17 memoryAlone_j18 memoryAlone_j19 memoryAlone_j20 memoryAlone_j21 memoryAlone_j22 memoryAlone_j23 jp24 jp25 memoryAlone_j26 memoryAlone_j27 memoryAlone_j28 memoryAlone_j29 memoryAlone_j30 memoryAlone_j31
set_option maxRecDepth 100000 in
theorem memoryAlone_lifted (walk : ∀ (a0 : Option Addr) (len0 cap0 : Nat) (z0 : List MAct) (w : World), IsMAct w a0 len0 cap0 z0 → (∃ a, Errs4 w a) → Calls Tryd.prog 5 #[.slice a0 len0 cap0] w fun e w' => e = .returned (.bool true) ∧ Below w.heap.size w w')
    (os : Os) (started : os.Started) (H : Type) (enc : TypeId × Value → H) :
    ReturnsInHanded {} Tryd.checked os 5 .any (fun w args => (Rows.memoryAloneSpec.pre enc Tryd.prog Tryd.f5 [] false w args ∧ laidMetH Tryd.prog Rows.memoryAloneRow.laid w) ∧ sizedMet enc Tryd.prog Tryd.f5 (OpenSpec.ofChange Rows.memoryAloneSpec) false w args)
      (Rows.memoryAloneSpec.post enc Tryd.prog Tryd.f5 false true false false) := by
  refine returnsInHanded_of_change_and (C := Tryd.checked) (X := fun w _ => laidMetH Tryd.prog Rows.memoryAloneRow.laid w) (fun _ _ _ hh h => h.of_heap hh) own started (by kernel_rfl) Tryd.func5
    (ChangeSpec.witness_at (enc := enc) (C := Tryd.checked) (os := os) (X := fun w _ => laidMetH Tryd.prog Rows.memoryAloneRow.laid w) false (laidWorld os) #[.slice none 0 0] 8 rfl (by kernel_rfl) (by kernel_rfl) (by kernel_rfl) (by kernel_rfl) (by kernel_rfl) (laid_met4 os _)) ?_
  intro W base args ds gs before hval0 hW _ _ hL _
  have hval : ∀ (j : Nat) t v, Tryd.f5.params[j]? = some t → args[j]? = some v → Value.okWide Tryd.prog W .any base t v := hval0
  have hW' := hW
  obtain ⟨p, q, hA0, hV, rfl, hfz, hnd⟩ := hW
  have hA : DataW.TrodAll enc Tryd.prog W 0 (fun _ => true) true Tryd.f5.params.toList args.toList ds p := hA0
  rw [Tryd.params5] at hA hval
  obtain ⟨v0, vs0, d0, ds0, p0, q0, hargs, rfl, rfl, h0, r0⟩ := trodAll_cons hA
  obtain ⟨rfl, rfl, rfl⟩ := trodAll_nil r0
  obtain rfl : args = #[v0] := by cases args; simp_all
  obtain ⟨rfl, rfl⟩ := trodVars_none hV
  obtain ⟨a0, len0, cap0, rfl⟩ := okWide_slice Tryd.underlying51 (hval 0 51 v0 rfl rfl)
  have k0 := h0
  have lt0 : ∀ x ∈ p0, x.block < W.heap.size := by obtain ⟨m, hm⟩ := k0; exact DataW.trod_lt m _ _ _ hm
  obtain ⟨z0, w0⟩ : ∃ zs, IsMAct W a0 len0 cap0 zs := isMAct_of h0
  clear hA0 hval0
  refine (walk a0 len0 cap0 z0 W w0 (errs4_of_laid hL)).mono fun e W' ⟨he, bel⟩ => ?_
  subst he
  exact ⟨_, rfl, _, _, _, [], _, [], hW', trodAll_mk1 (shut_bool Tryd.underlying4 _), (trodAll_cons_mk (Below.trod laidOut (by kernel_rfl) (of_decide_eq_true (by kernel_rfl)) k0 bel lt0) trodAll_mk0), rfl, bel.frame _, fun h => by cases h⟩
theorem memoryAlone_over (walk : ∀ (a0 : Option Addr) (len0 cap0 : Nat) (z0 : List MAct) (w : World), IsMAct w a0 len0 cap0 z0 → (∃ a, Errs4 w a) → Calls Tryd.prog 5 #[.slice a0 len0 cap0] w fun e w' => e = .returned (.bool true) ∧ Below w.heap.size w w') :
    Rows.MemoryAloneSaid :=
  OpenClaim.holds_of_wide 5 Tryd.f5 rfl rfl rfl rfl rfl rfl rfl ⟨rfl, rfl, rfl, rfl, rfl⟩ rfl rfl rfl rfl rfl (by kernel_rfl) Tryd.func5 memoryAlone_joined
    (of_decide_eq_true (by kernel_rfl)) (by unfold Func.isWrapper; first | (rw [if_pos (by decide +kernel)]; kernel_rfl) | (rw [if_neg (by decide +kernel)]; exact ⟨rfl, rfl⟩))
    (fun os started H enc _ => memoryAlone_lifted walk os started H enc)
end Go.Proofs.YtamfbfajlfbooaaDoor
