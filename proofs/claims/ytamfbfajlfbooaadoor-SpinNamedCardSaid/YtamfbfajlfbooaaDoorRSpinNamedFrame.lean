/- SpinNamed: the row, out of its walk. -/
import Derived.Test.YtamfbfajlfbooaaDoorRLaid
import Derived.Test.YtamfbfajlfbooaaDoorRJoinedP
import Derived.Test.YtamfbfajlfbooaaDoorRm3
import Derived.Test.YtamfbfajlfbooaaDoorRStructs
import Derived.Test.YtamfbfajlfbooaaDoorRErrsLaw
import Derived.Lib.SmallJoins
import Derived.OpenShut
import Derived.ShutString
import Derived.ChangeOld
import Derived.Below
set_option linter.unusedVariables false
set_option linter.unusedSimpArgs false
set_option linter.unusedSectionVars false
namespace Go.Proofs.YtamfbfajlfbooaaDoor
open Go.ChangeShapes Go.WideShapes Go.ChangeAt Go.RowKit Go.Joins
open Go.ChangeMaps (open_string shut_string)
theorem spinNamed_j0 : (Rows.spinNamedRow.wf (OpenSpec.ofChange Rows.spinNamedSpec)) = true := by kernel_rfl
theorem spinNamed_j3 : (Tryd.f16.params.all (Tryd.pinned.checked.prog.readableRec ·)) = true := by kernel_rfl
theorem spinNamed_j4 : (namedTie Tryd.pinned.checked.prog Rows.spinNamedRow.named Rows.spinNamedSpec.vars) = true := by kernel_rfl
theorem spinNamed_j5 : ((Rows.spinNamedRow.stops == [])) = true := by kernel_rfl
theorem spinNamed_j7 : ((Rows.spinNamedRow.knobs == [])) = true := by kernel_rfl
theorem spinNamed_j9 : ((Rows.spinNamedRow.inPlace == Tryd.pinned.checked.prog.inPlace 16)) = true := by kernel_rfl
theorem spinNamed_j10 : ((Rows.spinNamedRow.unfollowed == Tryd.pinned.checked.prog.unfollowed 16)) = true := by kernel_rfl
theorem spinNamed_j11 : ((Rows.spinNamedRow.recurses == Tryd.pinned.checked.prog.recurses 16)) = true := by kernel_rfl
theorem spinNamed_j12 : ((Rows.spinNamedRow.named == Tryd.pinned.checked.prog.varsNamed 16)) = true := by kernel_rfl
theorem spinNamed_j13 : ((Rows.spinNamedRow.maps == (Tryd.f16.params.toList ++ Rows.spinNamedSpec.plain.varTypes Tryd.pinned.checked.prog).any (Tryd.pinned.checked.prog.mapsRec ·))) = true := by kernel_rfl
theorem spinNamed_j14 : ((Rows.spinNamedRow.ifaces == (Tryd.f16.params.toList ++ Rows.spinNamedSpec.plain.varTypes Tryd.pinned.checked.prog).any (Tryd.pinned.checked.prog.ifacesRec ·))) = true := by kernel_rfl
theorem spinNamed_j15 : ((Rows.spinNamedRow.mapsOut == Tryd.pinned.checked.prog.mapsAmong Tryd.f16.resultTypes.toList)) = true := by kernel_rfl
theorem spinNamed_j16 : ((Rows.spinNamedRow.loops == (Tryd.f16.params.toList ++ Rows.spinNamedSpec.plain.varTypes Tryd.pinned.checked.prog).any (Tryd.pinned.checked.prog.loopsFrom ·))) = true := by kernel_rfl
theorem spinNamed_j17 : ((Rows.spinNamedRow.wideKeys == (Tryd.f16.params.toList ++ Rows.spinNamedSpec.plain.varTypes Tryd.pinned.checked.prog ++ Tryd.f16.resultTypes.toList).any (Tryd.pinned.checked.prog.wideKeysFrom ·))) = true := by kernel_rfl
theorem spinNamed_j18 : (Rows.spinNamedSpec.vars.all (Tryd.pinned.checked.prog.varReadable ·)) = true := by kernel_rfl
theorem spinNamed_j19 : (Tryd.f16.resultTypes.all (fun t => Tryd.pinned.checked.prog.readableRec t && decide (t < Tryd.pinned.checked.prog.types.size))) = true := by kernel_rfl
theorem spinNamed_j20 : ((Rows.spinNamedRow.ifacesOut == Tryd.f16.resultTypes.toList.any (Tryd.pinned.checked.prog.ifacesRec ·))) = true := by kernel_rfl
theorem spinNamed_j21 : ((Rows.spinNamedRow.loopsOut == Tryd.f16.resultTypes.toList.any (Tryd.pinned.checked.prog.loopsFrom ·))) = true := by kernel_rfl
theorem spinNamed_j22 : ((Rows.spinNamedRow.plainKeys == Tryd.pinned.checked.prog.plainKeys)) = true := by
  rw [show Rows.spinNamedRow.plainKeys = true from rfl]; exact jp22
theorem spinNamed_j23 : (Rows.spinNamedRow.shortTexts.isNone) = true := by kernel_rfl
theorem spinNamed_j26 : ((Rows.spinNamedRow.lifted == Tryd.pinned.checked.prog.liftsFinal)) = true := by
  rw [show Rows.spinNamedRow.lifted = false from rfl]; exact jp26
theorem spinNamed_j27 : ((Tryd.pinned.checked.prog.make == some Rows.spinNamedRow.make)) = true := by
  rw [show Rows.spinNamedRow.make = Make.cut from rfl]; exact jp27
theorem spinNamed_j28 : ((Rows.spinNamedRow.kinds == kindsOf Tryd.pinned.checked.prog Rows.spinNamedRow.domain.isEmpty Tryd.f16.params.toList)) = true := by kernel_rfl
theorem spinNamed_j29 : ((Rows.spinNamedRow.pinned == Rows.spinNamedRow.pinnedBy)) = true := by kernel_rfl
theorem spinNamed_j30 : ((Rows.spinNamedRow.veiled == (Tryd.f16.params.toList ++ Rows.spinNamedSpec.plain.varTypes Tryd.pinned.checked.prog ++ Tryd.f16.resultTypes.toList).any (Tryd.pinned.checked.prog.veiledRec ·))) = true := by kernel_rfl
theorem spinNamed_j31 : (Rows.spinNamedRow.veiledFits Tryd.pinned.checked.prog Tryd.f16.params.toList (Tryd.f16.params.toList ++ Rows.spinNamedSpec.plain.varTypes Tryd.pinned.checked.prog ++ Tryd.f16.resultTypes.toList)) = true := by kernel_rfl
theorem spinNamed_joined : joinedFacts Tryd.pinned.checked.prog 16 Tryd.f16 Rows.spinNamedSpec Rows.spinNamedRow = true :=
  joined_of (P := Tryd.pinned.checked.prog) (f := 16) (fn := Tryd.f16) (s := Rows.spinNamedSpec) (c := Rows.spinNamedRow) spinNamed_j0 jp1 jp2 spinNamed_j3 spinNamed_j4 spinNamed_j5 jp6 spinNamed_j7 jp8 spinNamed_j9 spinNamed_j10 spinNamed_j11 spinNamed_j12 spinNamed_j13 spinNamed_j14 spinNamed_j15 spinNamed_j16 spinNamed_j17 spinNamed_j18 spinNamed_j19 spinNamed_j20 spinNamed_j21 spinNamed_j22 spinNamed_j23 jp24 jp25 spinNamed_j26 spinNamed_j27 spinNamed_j28 spinNamed_j29 spinNamed_j30 spinNamed_j31
set_option maxRecDepth 100000 in
theorem spinNamed_lifted (walk : ∀ (a0 : ByteArray) (a1 : Option Addr) (len1 cap1 : Nat) (z1 : List RIns) (w : World), a0.size ≤ maxLen → IsIns w a1 len1 cap1 z1 → (∃ a, ErrsAt w a) → Calls Tryd.prog 16 #[.string a0, .slice a1 len1 cap1] w fun e w' => e = .returned (.bool true) ∧ Below w.heap.size w w')
    (os : Os) (started : os.Started) (H : Type) (enc : TypeId × Value → H) :
    ReturnsInHanded {} Tryd.checked os 16 .any (fun w args => (Rows.spinNamedSpec.pre enc Tryd.prog Tryd.f16 [] false w args ∧ laidMetH Tryd.prog Rows.spinNamedRow.laid w) ∧ sizedMet enc Tryd.prog Tryd.f16 (OpenSpec.ofChange Rows.spinNamedSpec) false w args)
      (Rows.spinNamedSpec.post enc Tryd.prog Tryd.f16 false true false false) := by
  refine returnsInHanded_of_change_and (C := Tryd.checked) (X := fun w _ => laidMetH Tryd.prog Rows.spinNamedRow.laid w) (fun _ _ _ hh h => h.of_heap hh) own started (by kernel_rfl) Tryd.func16
    (ChangeSpec.witness_at (enc := enc) (C := Tryd.checked) (os := os) (X := fun w _ => laidMetH Tryd.prog Rows.spinNamedRow.laid w) false (laidWorld os) #[.string ByteArray.empty, .slice none 0 0] 8 rfl (by kernel_rfl) (by kernel_rfl) (by kernel_rfl) (by kernel_rfl) (by kernel_rfl) (laid_met10 os _)) ?_
  intro W base args ds gs before hval0 hW _ _ hL _
  have hval : ∀ (j : Nat) t v, Tryd.f16.params[j]? = some t → args[j]? = some v → Value.okWide Tryd.prog W .any base t v := hval0
  have hW' := hW
  obtain ⟨p, q, hA0, hV, rfl, hfz, hnd⟩ := hW
  have hA : DataW.TrodAll enc Tryd.prog W 0 (fun _ => true) true Tryd.f16.params.toList args.toList ds p := hA0
  rw [Tryd.params16] at hA hval
  obtain ⟨v0, vs0, d0, ds0, p0, q0, hargs, rfl, rfl, h0, r0⟩ := trodAll_cons hA
  obtain ⟨v1, vs1, d1, ds1, p1, q1, rfl, rfl, rfl, h1, r1⟩ := trodAll_cons r0
  obtain ⟨rfl, rfl, rfl⟩ := trodAll_nil r1
  obtain rfl : args = #[v0, v1] := by cases args; simp_all
  obtain ⟨rfl, rfl⟩ := trodVars_none hV
  obtain ⟨a0, rfl, rfl, rfl, w0⟩ := open_string Tryd.underlying9 (hval 0 9 v0 rfl rfl) h0
  obtain ⟨a1, len1, cap1, rfl⟩ := okWide_slice Tryd.underlying28 (hval 1 28 v1 rfl rfl)
  have k1 := h1
  have lt1 : ∀ x ∈ p1, x.block < W.heap.size := by obtain ⟨m, hm⟩ := k1; exact DataW.trod_lt m _ _ _ hm
  obtain ⟨z1, w1⟩ : ∃ zs, IsIns W a1 len1 cap1 zs := isIns_of h1
  clear hA0 hval0
  refine (walk a0 a1 len1 cap1 z1 W w0 w1 (errs_of_laid hL)).mono fun e W' ⟨he, bel⟩ => ?_
  subst he
  exact ⟨_, rfl, _, _, _, [], _, [], hW', trodAll_mk1 (shut_bool Tryd.underlying4 _), (trodAll_cons_mk (shut_string Tryd.underlying9 w0) (trodAll_cons_mk (Below.trod laidOut (by kernel_rfl) (of_decide_eq_true (by kernel_rfl)) k1 bel lt1) trodAll_mk0)), rfl, bel.frame _, fun h => by cases h⟩
theorem spinNamed_over (walk : ∀ (a0 : ByteArray) (a1 : Option Addr) (len1 cap1 : Nat) (z1 : List RIns) (w : World), a0.size ≤ maxLen → IsIns w a1 len1 cap1 z1 → (∃ a, ErrsAt w a) → Calls Tryd.prog 16 #[.string a0, .slice a1 len1 cap1] w fun e w' => e = .returned (.bool true) ∧ Below w.heap.size w w') :
    Rows.SpinNamedSaid :=
  OpenClaim.holds_of_wide 16 Tryd.f16 rfl rfl rfl rfl rfl rfl rfl ⟨rfl, rfl, rfl, rfl, rfl⟩ rfl rfl rfl rfl rfl (by kernel_rfl) Tryd.func16 spinNamed_joined
    (of_decide_eq_true (by kernel_rfl)) (by unfold Func.isWrapper; first | (rw [if_pos (by decide +kernel)]; kernel_rfl) | (rw [if_neg (by decide +kernel)]; exact ⟨rfl, rfl⟩))
    (fun os started H enc _ => spinNamed_lifted walk os started H enc)
end Go.Proofs.YtamfbfajlfbooaaDoor
