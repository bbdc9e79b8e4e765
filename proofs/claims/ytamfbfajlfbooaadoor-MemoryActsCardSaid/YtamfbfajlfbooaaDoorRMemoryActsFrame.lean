/- MemoryActs: the row, out of its walk. -/
import Derived.Test.YtamfbfajlfbooaaDoorRLaid
import Derived.Test.YtamfbfajlfbooaaDoorRJoinedP
import Derived.Test.YtamfbfajlfbooaaDoorRm3
import Derived.Test.YtamfbfajlfbooaaDoorRm5
import Derived.Lib.SmallJoins
import Derived.OpenShut
import Derived.ShutString
import Derived.ChangeOld
import Derived.Below
set_option linter.unusedVariables false
set_option linter.unusedSimpArgs false
set_option linter.unusedSectionVars false
namespace Go.Proofs.YtamfbfajlfbooaaDoor
open Go.ChangeShapes Go.WideShapes Go.ChangeAt Go.RowKit Go.Joins
open Go.ChangeMaps (open_string shut_string)
theorem memoryActs_j0 : (Rows.memoryActsRow.wf (OpenSpec.ofChange Rows.memoryActsSpec)) = true := by kernel_rfl
theorem memoryActs_j3 : (Tryd.f18.params.all (Tryd.pinned.checked.prog.readableRec ·)) = true := by kernel_rfl
theorem memoryActs_j4 : (namedTie Tryd.pinned.checked.prog Rows.memoryActsRow.named Rows.memoryActsSpec.vars) = true := by kernel_rfl
theorem memoryActs_j5 : ((Rows.memoryActsRow.stops == [])) = true := by kernel_rfl
theorem memoryActs_j7 : ((Rows.memoryActsRow.knobs == [])) = true := by kernel_rfl
theorem memoryActs_j9 : ((Rows.memoryActsRow.inPlace == Tryd.pinned.checked.prog.inPlace 18)) = true := by kernel_rfl
theorem memoryActs_j10 : ((Rows.memoryActsRow.unfollowed == Tryd.pinned.checked.prog.unfollowed 18)) = true := by kernel_rfl
theorem memoryActs_j11 : ((Rows.memoryActsRow.recurses == Tryd.pinned.checked.prog.recurses 18)) = true := by kernel_rfl
theorem memoryActs_j12 : ((Rows.memoryActsRow.named == Tryd.pinned.checked.prog.varsNamed 18)) = true := by kernel_rfl
theorem memoryActs_j13 : ((Rows.memoryActsRow.maps == (Tryd.f18.params.toList ++ Rows.memoryActsSpec.plain.varTypes Tryd.pinned.checked.prog).any (Tryd.pinned.checked.prog.mapsRec ·))) = true := by kernel_rfl
theorem memoryActs_j14 : ((Rows.memoryActsRow.ifaces == (Tryd.f18.params.toList ++ Rows.memoryActsSpec.plain.varTypes Tryd.pinned.checked.prog).any (Tryd.pinned.checked.prog.ifacesRec ·))) = true := by kernel_rfl
theorem memoryActs_j15 : ((Rows.memoryActsRow.mapsOut == Tryd.pinned.checked.prog.mapsAmong Tryd.f18.resultTypes.toList)) = true := by kernel_rfl
theorem memoryActs_j16 : ((Rows.memoryActsRow.loops == (Tryd.f18.params.toList ++ Rows.memoryActsSpec.plain.varTypes Tryd.pinned.checked.prog).any (Tryd.pinned.checked.prog.loopsFrom ·))) = true := by kernel_rfl
theorem memoryActs_j17 : ((Rows.memoryActsRow.wideKeys == (Tryd.f18.params.toList ++ Rows.memoryActsSpec.plain.varTypes Tryd.pinned.checked.prog ++ Tryd.f18.resultTypes.toList).any (Tryd.pinned.checked.prog.wideKeysFrom ·))) = true := by kernel_rfl
theorem memoryActs_j18 : (Rows.memoryActsSpec.vars.all (Tryd.pinned.checked.prog.varReadable ·)) = true := by kernel_rfl
theorem memoryActs_j19 : (Tryd.f18.resultTypes.all (fun t => Tryd.pinned.checked.prog.readableRec t && decide (t < Tryd.pinned.checked.prog.types.size))) = true := by kernel_rfl
theorem memoryActs_j20 : ((Rows.memoryActsRow.ifacesOut == Tryd.f18.resultTypes.toList.any (Tryd.pinned.checked.prog.ifacesRec ·))) = true := by kernel_rfl
theorem memoryActs_j21 : ((Rows.memoryActsRow.loopsOut == Tryd.f18.resultTypes.toList.any (Tryd.pinned.checked.prog.loopsFrom ·))) = true := by kernel_rfl
theorem memoryActs_j22 : ((Rows.memoryActsRow.plainKeys == Tryd.pinned.checked.prog.plainKeys)) = true := by
  rw [show Rows.memoryActsRow.plainKeys = true from rfl]; exact jp22
theorem memoryActs_j23 : (Rows.memoryActsRow.shortTexts.isNone) = true := by kernel_rfl
theorem memoryActs_j26 : ((Rows.memoryActsRow.lifted == Tryd.pinned.checked.prog.liftsFinal)) = true := by
  rw [show Rows.memoryActsRow.lifted = false from rfl]; exact jp26
theorem memoryActs_j27 : ((Tryd.pinned.checked.prog.make == some Rows.memoryActsRow.make)) = true := by
  rw [show Rows.memoryActsRow.make = Make.cut from rfl]; exact jp27
theorem memoryActs_j28 : ((Rows.memoryActsRow.kinds == kindsOf Tryd.pinned.checked.prog Rows.memoryActsRow.domain.isEmpty Tryd.f18.params.toList)) = true := by kernel_rfl
theorem memoryActs_j29 : ((Rows.memoryActsRow.pinned == Rows.memoryActsRow.pinnedBy)) = true := by kernel_rfl
theorem memoryActs_j30 : ((Rows.memoryActsRow.veiled == (Tryd.f18.params.toList ++ Rows.memoryActsSpec.plain.varTypes Tryd.pinned.checked.prog ++ Tryd.f18.resultTypes.toList).any (Tryd.pinned.checked.prog.veiledRec ·))) = true := by kernel_rfl
theorem memoryActs_j31 : (Rows.memoryActsRow.veiledFits Tryd.pinned.checked.prog Tryd.f18.params.toList (Tryd.f18.params.toList ++ Rows.memoryActsSpec.plain.varTypes Tryd.pinned.checked.prog ++ Tryd.f18.resultTypes.toList)) = true := by kernel_rfl
theorem memoryActs_joined : joinedFacts Tryd.pinned.checked.prog 18 Tryd.f18 Rows.memoryActsSpec Rows.memoryActsRow = true :=
  joined_of (P := Tryd.pinned.checked.prog) (f := 18) (fn := Tryd.f18) (s := Rows.memoryActsSpec) (c := Rows.memoryActsRow) memoryActs_j0 jp1 jp2 memoryActs_j3 memoryActs_j4 memoryActs_j5 jp6 memoryActs_j7 jp8 memoryActs_j9 memoryActs_j10 memoryActs_j11 memoryActs_j12 memoryActs_j13 memoryActs_j14 memoryActs_j15 memoryActs_j16 memoryActs_j17 memoryActs_j18 memoryActs_j19 memoryActs_j20 memoryActs_j21 memoryActs_j22 memoryActs_j23 jp24 jp25 memoryActs_j26 memoryActs_j27 memoryActs_j28 memoryActs_j29 memoryActs_j30 memoryActs_j31
set_option maxRecDepth 100000 in
theorem memoryActs_lifted (walk : ∀ (a0 : Int) (a1 : Int) (a2 : Option Addr) (len2 cap2 : Nat) (z2 : List MAct) (w : World), (Lit.int .i64 a0).wf = true → (Lit.int .i64 a1).wf = true → IsMAct w a2 len2 cap2 z2 → (∃ a, ErrsAt w a) → Calls Tryd.prog 18 #[.int .i64 a0, .int .i64 a1, .slice a2 len2 cap2] w fun e w' => e = .returned (.bool true) ∧ Below w.heap.size w w')
    (os : Os) (started : os.Started) (H : Type) (enc : TypeId × Value → H) :
    ReturnsInHanded {} Tryd.checked os 18 .any (fun w args => (Rows.memoryActsSpec.pre enc Tryd.prog Tryd.f18 [] false w args ∧ laidMetH Tryd.prog Rows.memoryActsRow.laid w) ∧ sizedMet enc Tryd.prog Tryd.f18 (OpenSpec.ofChange Rows.memoryActsSpec) false w args)
      (Rows.memoryActsSpec.post enc Tryd.prog Tryd.f18 false true false false) := by
  refine returnsInHanded_of_change_and (C := Tryd.checked) (X := fun w _ => laidMetH Tryd.prog Rows.memoryActsRow.laid w) (fun _ _ _ hh h => h.of_heap hh) own started (by kernel_rfl) Tryd.func18
    (ChangeSpec.witness_at (enc := enc) (C := Tryd.checked) (os := os) (X := fun w _ => laidMetH Tryd.prog Rows.memoryActsRow.laid w) false (laidWorld os) #[.int .i64 0, .int .i64 0, .slice none 0 0] 8 rfl (by kernel_rfl) (by kernel_rfl) (by kernel_rfl) (by kernel_rfl) (by kernel_rfl) (laid_met10 os _)) ?_
  intro W base args ds gs before hval0 hW _ _ hL _
  have hval : ∀ (j : Nat) t v, Tryd.f18.params[j]? = some t → args[j]? = some v → Value.okWide Tryd.prog W .any base t v := hval0
  have hW' := hW
  obtain ⟨p, q, hA0, hV, rfl, hfz, hnd⟩ := hW
  have hA : DataW.TrodAll enc Tryd.prog W 0 (fun _ => true) true Tryd.f18.params.toList args.toList ds p := hA0
  rw [Tryd.params18] at hA hval
  obtain ⟨v0, vs0, d0, ds0, p0, q0, hargs, rfl, rfl, h0, r0⟩ := trodAll_cons hA
  obtain ⟨v1, vs1, d1, ds1, p1, q1, rfl, rfl, rfl, h1, r1⟩ := trodAll_cons r0
  obtain ⟨v2, vs2, d2, ds2, p2, q2, rfl, rfl, rfl, h2, r2⟩ := trodAll_cons r1
  obtain ⟨rfl, rfl, rfl⟩ := trodAll_nil r2
  obtain rfl : args = #[v0, v1, v2] := by cases args; simp_all
  obtain ⟨rfl, rfl⟩ := trodVars_none hV
  obtain ⟨a0, rfl, rfl, rfl, w0⟩ := open_int Tryd.underlying3 (hval 0 3 v0 rfl rfl) h0
  obtain ⟨a1, rfl, rfl, rfl, w1⟩ := open_int Tryd.underlying3 (hval 1 3 v1 rfl rfl) h1
  obtain ⟨a2, len2, cap2, rfl⟩ := okWide_slice Tryd.underlying51 (hval 2 51 v2 rfl rfl)
  have k2 := h2
  have lt2 : ∀ x ∈ p2, x.block < W.heap.size := by obtain ⟨m, hm⟩ := k2; exact DataW.trod_lt m _ _ _ hm
  obtain ⟨z2, w2⟩ : ∃ zs, IsMAct W a2 len2 cap2 zs := isMAct_of h2
  clear hA0 hval0
  refine (walk a0 a1 a2 len2 cap2 z2 W w0 w1 w2 (errs_of_laid hL)).mono fun e W' ⟨he, bel⟩ => ?_
  subst he
  exact ⟨_, rfl, _, _, _, [], _, [], hW', trodAll_mk1 (shut_bool Tryd.underlying4 _), (trodAll_cons_mk (shut_int Tryd.underlying3 w0) (trodAll_cons_mk (shut_int Tryd.underlying3 w1) (trodAll_cons_mk (Below.trod laidOut (by kernel_rfl) (of_decide_eq_true (by kernel_rfl)) k2 bel lt2) trodAll_mk0))), rfl, bel.frame _, fun h => by cases h⟩
theorem memoryActs_over (walk : ∀ (a0 : Int) (a1 : Int) (a2 : Option Addr) (len2 cap2 : Nat) (z2 : List MAct) (w : World), (Lit.int .i64 a0).wf = true → (Lit.int .i64 a1).wf = true → IsMAct w a2 len2 cap2 z2 → (∃ a, ErrsAt w a) → Calls Tryd.prog 18 #[.int .i64 a0, .int .i64 a1, .slice a2 len2 cap2] w fun e w' => e = .returned (.bool true) ∧ Below w.heap.size w w') :
    Rows.MemoryActsSaid :=
  OpenClaim.holds_of_wide 18 Tryd.f18 rfl rfl rfl rfl rfl rfl rfl ⟨rfl, rfl, rfl, rfl, rfl⟩ rfl rfl rfl rfl rfl (by kernel_rfl) Tryd.func18 memoryActs_joined
    (of_decide_eq_true (by kernel_rfl)) (by unfold Func.isWrapper; first | (rw [if_pos (by decide +kernel)]; kernel_rfl) | (rw [if_neg (by decide +kernel)]; exact ⟨rfl, rfl⟩))
    (fun os started H enc _ => memoryActs_lifted walk os started H enc)
end Go.Proofs.YtamfbfajlfbooaaDoor
