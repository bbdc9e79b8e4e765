/- StackAlone: the row, out of its walk. -/
import Derived.Test.YtppihkneeolomaaDoorSAm3
import Derived.Test.YtppihkneeolomaaDoorSAJoinedP
import Derived.Test.YtppihkneeolomaaDoorSAIsRow
import Derived.Test.YtppihkneeolomaaDoorSAm10
import Derived.Test.YtppihkneeolomaaDoorSAErrsI
import Derived.Test.YtppihkneeolomaaDoorSATabLaid
import Derived.Lib.SmallJoins
import Derived.OpenShut
import Derived.ShutString
import Derived.ChangeOld
import Derived.Below
set_option linter.unusedVariables false
set_option linter.unusedSimpArgs false
set_option linter.unusedSectionVars false
namespace Go.Proofs.YtppihkneeolomaaDoor
open Go.ChangeShapes Go.WideShapes Go.ChangeAt Go.RowKit Go.Joins
open Go.ChangeMaps (open_string shut_string)
theorem stackAlone_j0 : (Rows.stackAloneRow.wf (OpenSpec.ofChange Rows.stackAloneSpec)) = true := by kernel_rfl
theorem stackAlone_j3 : (Tryd.f5.params.all (Tryd.pinned.checked.prog.readableRec ·)) = true := by kernel_rfl
theorem stackAlone_j4 : (namedTie Tryd.pinned.checked.prog Rows.stackAloneRow.named Rows.stackAloneSpec.vars) = true := by kernel_rfl
theorem stackAlone_j5 : ((Rows.stackAloneRow.stops == [])) = true := by kernel_rfl
theorem stackAlone_j7 : ((Rows.stackAloneRow.knobs == [])) = true := by kernel_rfl
theorem stackAlone_j9 : ((Rows.stackAloneRow.inPlace == Tryd.pinned.checked.prog.inPlace 5)) = true := by kernel_rfl
theorem stackAlone_j10 : ((Rows.stackAloneRow.unfollowed == Tryd.pinned.checked.prog.unfollowed 5)) = true := by kernel_rfl
theorem stackAlone_j11 : ((Rows.stackAloneRow.recurses == Tryd.pinned.checked.prog.recurses 5)) = true := by kernel_rfl
theorem stackAlone_j12 : ((Rows.stackAloneRow.named == Tryd.pinned.checked.prog.varsNamed 5)) = true := by kernel_rfl
theorem stackAlone_j13 : ((Rows.stackAloneRow.maps == (Tryd.f5.params.toList ++ Rows.stackAloneSpec.plain.varTypes Tryd.pinned.checked.prog).any (Tryd.pinned.checked.prog.mapsRec ·))) = true := by kernel_rfl
theorem stackAlone_j14 : ((Rows.stackAloneRow.ifaces == (Tryd.f5.params.toList ++ Rows.stackAloneSpec.plain.varTypes Tryd.pinned.checked.prog).any (Tryd.pinned.checked.prog.ifacesRec ·))) = true := by kernel_rfl
theorem stackAlone_j15 : ((Rows.stackAloneRow.mapsOut == Tryd.pinned.checked.prog.mapsAmong Tryd.f5.resultTypes.toList)) = true := by kernel_rfl
theorem stackAlone_j16 : ((Rows.stackAloneRow.loops == (Tryd.f5.params.toList ++ Rows.stackAloneSpec.plain.varTypes Tryd.pinned.checked.prog).any (Tryd.pinned.checked.prog.loopsFrom ·))) = true := by kernel_rfl
theorem stackAlone_j17 : ((Rows.stackAloneRow.wideKeys == (Tryd.f5.params.toList ++ Rows.stackAloneSpec.plain.varTypes Tryd.pinned.checked.prog ++ Tryd.f5.resultTypes.toList).any (Tryd.pinned.checked.prog.wideKeysFrom ·))) = true := by kernel_rfl
theorem stackAlone_j18 : (Rows.stackAloneSpec.vars.all (Tryd.pinned.checked.prog.varReadable ·)) = true := by kernel_rfl
theorem stackAlone_j19 : (Tryd.f5.resultTypes.all (fun t => Tryd.pinned.checked.prog.readableRec t && decide (t < Tryd.pinned.checked.prog.types.size))) = true := by kernel_rfl
theorem stackAlone_j20 : ((Rows.stackAloneRow.ifacesOut == Tryd.f5.resultTypes.toList.any (Tryd.pinned.checked.prog.ifacesRec ·))) = true := by kernel_rfl
theorem stackAlone_j21 : ((Rows.stackAloneRow.loopsOut == Tryd.f5.resultTypes.toList.any (Tryd.pinned.checked.prog.loopsFrom ·))) = true := by kernel_rfl
theorem stackAlone_j22 : ((Rows.stackAloneRow.plainKeys == Tryd.pinned.checked.prog.plainKeys)) = true := by
  rw [show Rows.stackAloneRow.plainKeys = true from rfl]; exact jp22
theorem stackAlone_j23 : (Rows.stackAloneRow.shortTexts.isNone) = true := by kernel_rfl
theorem stackAlone_j26 : ((Rows.stackAloneRow.lifted == Tryd.pinned.checked.prog.liftsFinal)) = true := by
  rw [show Rows.stackAloneRow.lifted = false from rfl]; exact jp26
theorem stackAlone_j27 : ((Tryd.pinned.checked.prog.make == some Rows.stackAloneRow.make)) = true := by
  rw [show Rows.stackAloneRow.make = Make.cut from rfl]; exact jp27
theorem stackAlone_j28 : ((Rows.stackAloneRow.kinds == kindsOf Tryd.pinned.checked.prog Rows.stackAloneRow.domain.isEmpty Tryd.f5.params.toList)) = true := by kernel_rfl
theorem stackAlone_j29 : ((Rows.stackAloneRow.pinned == Rows.stackAloneRow.pinnedBy)) = true := by kernel_rfl
theorem stackAlone_j30 : ((Rows.stackAloneRow.veiled == (Tryd.f5.params.toList ++ Rows.stackAloneSpec.plain.varTypes Tryd.pinned.checked.prog ++ Tryd.f5.resultTypes.toList).any (Tryd.pinned.checked.prog.veiledRec ·))) = true := by kernel_rfl
theorem stackAlone_j31 : (Rows.stackAloneRow.veiledFits Tryd.pinned.checked.prog Tryd.f5.params.toList (Tryd.f5.params.toList ++ Rows.stackAloneSpec.plain.varTypes Tryd.pinned.checked.prog ++ Tryd.f5.resultTypes.toList)) = true := by kernel_rfl
theorem stackAlone_joined : joinedFacts Tryd.pinned.checked.prog 5 Tryd.f5 Rows.stackAloneSpec Rows.stackAloneRow = true :=
  joined_of (P := Tryd.pinned.checked.prog) (f := 5) (fn := Tryd.f5) (s := Rows.stackAloneSpec) (c := Rows.stackAloneRow) stackAlone_j0 jp1 jp2 stackAlone_j3 stackAlone_j4 stackAlone_j5 jp6 stackAlone_j7 jp8 stackAlone_j9 stackAlone_j10 stackAlone_j11 stackAlone_j12 stackAlone_j13 stackAlone_j14 stackAlone_j15 stackAlone_j16 stackAlone_j17 stackAlone_j18 stackAlone_j19 stackAlone_j20 stackAlone_j21 stackAlone_j22 stackAlone_j23 jp24 jp25 stackAlone_j26 stackAlone_j27 stackAlone_j28 stackAlone_j29 stackAlone_j30 stackAlone_j31
theorem laid0_stackAlone : (Rows.stackAloneRow.laid.filter fun x => x.2.handleName?.isSome) = [] := by kernel_rfl
theorem laidE_stackAlone : (Rows.stackAloneRow.laid.drop 3).take 3 = lstI [1, 2, 3] := by kernel_rfl
theorem tab_stackAlone {W : World} (h : laidMetH Tryd.prog Rows.stackAloneRow.laid W) : TabW W :=
  tab_of_laid0 (k := 2) (nm := ((Rows.stackAloneRow.laid.map (·.1)).getD 2 "")) laid0_stackAlone (by kernel_rfl) (by kernel_rfl) h
set_option maxRecDepth 100000 in
theorem stackAlone_lifted (walk : ∀ (a0 : Int) (a1 : Option Addr) (len1 cap1 : Nat) (z1 : List ROp) (w : World), (Lit.int .i64 a0).wf = true → IsOps1 w a1 len1 cap1 z1 → (∃ a, ErrsS w a) → TabW w → Calls Tryd.prog 5 #[.int .i64 a0, .slice a1 len1 cap1] w fun e w' => e = .returned (.bool true) ∧ Below w.heap.size w w')
    (os : Os) (started : os.Started) (H : Type) (enc : TypeId × Value → H) :
    ReturnsInHanded {} Tryd.checked os 5 .any (fun w args => (Rows.stackAloneSpec.pre enc Tryd.prog Tryd.f5 [] false w args ∧ laidMetH Tryd.prog Rows.stackAloneRow.laid w) ∧ sizedMet enc Tryd.prog Tryd.f5 (OpenSpec.ofChange Rows.stackAloneSpec) false w args)
      (Rows.stackAloneSpec.post enc Tryd.prog Tryd.f5 false true false false) := by
  refine returnsInHanded_of_change_and (C := Tryd.checked) (X := fun w _ => laidMetH Tryd.prog Rows.stackAloneRow.laid w) (fun _ _ _ hh h => h.of_heap hh) own started (by kernel_rfl) Tryd.func5
    (ChangeSpec.witness_at (enc := enc) (C := Tryd.checked) (os := os) (X := fun w _ => laidMetH Tryd.prog Rows.stackAloneRow.laid w) false (laidWorld os) #[.int .i64 0, .slice none 0 0] 8 rfl (by kernel_rfl) (by kernel_rfl) (by kernel_rfl) (by kernel_rfl) (by kernel_rfl) (laid_met_stackAlone os _)) ?_
  intro W base args ds gs before hval0 hW _ _ hL _
  have hval : ∀ (j : Nat) t v, Tryd.f5.params[j]? = some t → args[j]? = some v → Value.okWide Tryd.prog W .any base t v := hval0
  have hW' := hW
  obtain ⟨p, q, hA0, hV, rfl, hfz, hnd⟩ := hW
  have hA : DataW.TrodAll enc Tryd.prog W 0 (fun _ => true) true Tryd.f5.params.toList args.toList ds p := hA0
  rw [Tryd.params5] at hA hval
  obtain ⟨v0, vs0, d0, ds0, p0, q0, hargs, rfl, rfl, h0, r0⟩ := trodAll_cons hA
  obtain ⟨v1, vs1, d1, ds1, p1, q1, rfl, rfl, rfl, h1, r1⟩ := trodAll_cons r0
  obtain ⟨rfl, rfl, rfl⟩ := trodAll_nil r1
  obtain rfl : args = #[v0, v1] := by cases args; simp_all
  obtain ⟨rfl, rfl⟩ := trodVars_none hV
  obtain ⟨a0, rfl, rfl, rfl, w0⟩ := open_int Tryd.underlying3 (hval 0 3 v0 rfl rfl) h0
  obtain ⟨a1, len1, cap1, rfl⟩ := okWide_slice Tryd.underlying59 (hval 1 59 v1 rfl rfl)
  have k1 := h1
  have lt1 : ∀ x ∈ p1, x.block < W.heap.size := by obtain ⟨m, hm⟩ := k1; exact DataW.trod_lt m _ _ _ hm
  obtain ⟨z1, w1⟩ : ∃ zs, IsOps1 W a1 len1 cap1 zs := isOps1_of h1
  clear hA0 hval0
  refine (walk a0 a1 len1 cap1 z1 W w0 w1 (errs3 laid0_stackAlone laidE_stackAlone hL) (tab_stackAlone hL)).mono fun e W' ⟨he, bel⟩ => ?_
  subst he
  exact ⟨_, rfl, _, _, _, [], _, [], hW', trodAll_mk1 (shut_bool Tryd.underlying4 _), (trodAll_cons_mk (shut_int Tryd.underlying3 w0) (trodAll_cons_mk (Below.trod laidOut (by kernel_rfl) (of_decide_eq_true (by kernel_rfl)) k1 bel lt1) trodAll_mk0)), rfl, bel.frame _, fun h => by cases h⟩
theorem stackAlone_over (walk : ∀ (a0 : Int) (a1 : Option Addr) (len1 cap1 : Nat) (z1 : List ROp) (w : World), (Lit.int .i64 a0).wf = true → IsOps1 w a1 len1 cap1 z1 → (∃ a, ErrsS w a) → TabW w → Calls Tryd.prog 5 #[.int .i64 a0, .slice a1 len1 cap1] w fun e w' => e = .returned (.bool true) ∧ Below w.heap.size w w') :
    Rows.StackAloneSaid :=
  OpenClaim.holds_of_wide 5 Tryd.f5 rfl rfl rfl rfl rfl rfl rfl ⟨rfl, rfl, rfl, rfl, rfl⟩ rfl rfl rfl rfl rfl (by kernel_rfl) Tryd.func5 stackAlone_joined
    (of_decide_eq_true (by kernel_rfl)) (by unfold Func.isWrapper; first | (rw [if_pos (by decide +kernel)]; kernel_rfl) | (rw [if_neg (by decide +kernel)]; exact ⟨rfl, rfl⟩))
    (fun os started H enc _ => stackAlone_lifted walk os started H enc)
end Go.Proofs.YtppihkneeolomaaDoor
