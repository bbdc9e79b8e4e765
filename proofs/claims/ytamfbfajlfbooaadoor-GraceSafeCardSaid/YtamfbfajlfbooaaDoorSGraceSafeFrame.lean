/- GraceSafe: the row, out of its walk. -/
import Derived.Test.YtamfbfajlfbooaaDoorSm3
import Derived.Test.YtamfbfajlfbooaaDoorSJoinedP
import Derived.Test.YtamfbfajlfbooaaDoorSCastRow
import Derived.Lib.SmallJoins
import Derived.OpenShut
import Derived.ShutString
import Derived.ChangeOld
import Derived.Below
set_option linter.unusedVariables false
set_option linter.unusedSimpArgs false
set_option linter.unusedSectionVars false
namespace Go.Proofs.YtamfbfajlfbooaaDoor
open Go.ChangeShapes Go.WideShapes Go.ChangeAt Go.RowKit Go.Joins
open Go.ChangeMaps (open_string shut_string)
theorem graceSafe_j0 : (Rows.graceSafeRow.wf (OpenSpec.ofChange Rows.graceSafeSpec)) = true := by kernel_rfl
theorem graceSafe_j3 : (Tryd.f10.params.all (Tryd.pinned.checked.prog.readableRec ·)) = true := by kernel_rfl
theorem graceSafe_j4 : (namedTie Tryd.pinned.checked.prog Rows.graceSafeRow.named Rows.graceSafeSpec.vars) = true := by kernel_rfl
theorem graceSafe_j5 : ((Rows.graceSafeRow.stops == [])) = true := by kernel_rfl
theorem graceSafe_j7 : ((Rows.graceSafeRow.knobs == [])) = true := by kernel_rfl
theorem graceSafe_j9 : ((Rows.graceSafeRow.inPlace == Tryd.pinned.checked.prog.inPlace 10)) = true := by kernel_rfl
theorem graceSafe_j10 : ((Rows.graceSafeRow.unfollowed == Tryd.pinned.checked.prog.unfollowed 10)) = true := by kernel_rfl
theorem graceSafe_j11 : ((Rows.graceSafeRow.recurses == Tryd.pinned.checked.prog.recurses 10)) = true := by kernel_rfl
theorem graceSafe_j12 : ((Rows.graceSafeRow.named == Tryd.pinned.checked.prog.varsNamed 10)) = true := by kernel_rfl
theorem graceSafe_j13 : ((Rows.graceSafeRow.maps == (Tryd.f10.params.toList ++ Rows.graceSafeSpec.plain.varTypes Tryd.pinned.checked.prog).any (Tryd.pinned.checked.prog.mapsRec ·))) = true := by kernel_rfl
theorem graceSafe_j14 : ((Rows.graceSafeRow.ifaces == (Tryd.f10.params.toList ++ Rows.graceSafeSpec.plain.varTypes Tryd.pinned.checked.prog).any (Tryd.pinned.checked.prog.ifacesRec ·))) = true := by kernel_rfl
theorem graceSafe_j15 : ((Rows.graceSafeRow.mapsOut == Tryd.pinned.checked.prog.mapsAmong Tryd.f10.resultTypes.toList)) = true := by kernel_rfl
theorem graceSafe_j16 : ((Rows.graceSafeRow.loops == (Tryd.f10.params.toList ++ Rows.graceSafeSpec.plain.varTypes Tryd.pinned.checked.prog).any (Tryd.pinned.checked.prog.loopsFrom ·))) = true := by kernel_rfl
theorem graceSafe_j17 : ((Rows.graceSafeRow.wideKeys == (Tryd.f10.params.toList ++ Rows.graceSafeSpec.plain.varTypes Tryd.pinned.checked.prog ++ Tryd.f10.resultTypes.toList).any (Tryd.pinned.checked.prog.wideKeysFrom ·))) = true := by kernel_rfl
theorem graceSafe_j18 : (Rows.graceSafeSpec.vars.all (Tryd.pinned.checked.prog.varReadable ·)) = true := by kernel_rfl
theorem graceSafe_j19 : (Tryd.f10.resultTypes.all (fun t => Tryd.pinned.checked.prog.readableRec t && decide (t < Tryd.pinned.checked.prog.types.size))) = true := by kernel_rfl
theorem graceSafe_j20 : ((Rows.graceSafeRow.ifacesOut == Tryd.f10.resultTypes.toList.any (Tryd.pinned.checked.prog.ifacesRec ·))) = true := by kernel_rfl
theorem graceSafe_j21 : ((Rows.graceSafeRow.loopsOut == Tryd.f10.resultTypes.toList.any (Tryd.pinned.checked.prog.loopsFrom ·))) = true := by kernel_rfl
theorem graceSafe_j22 : ((Rows.graceSafeRow.plainKeys == Tryd.pinned.checked.prog.plainKeys)) = true := by
  rw [show Rows.graceSafeRow.plainKeys = true from rfl]; exact jp22
theorem graceSafe_j23 : (Rows.graceSafeRow.shortTexts.isNone) = true := by kernel_rfl
theorem graceSafe_j26 : ((Rows.graceSafeRow.lifted == Tryd.pinned.checked.prog.liftsFinal)) = true := by
  rw [show Rows.graceSafeRow.lifted = false from rfl]; exact jp26
theorem graceSafe_j27 : ((Tryd.pinned.checked.prog.make == some Rows.graceSafeRow.make)) = true := by
  rw [show Rows.graceSafeRow.make = Make.cut from rfl]; exact jp27
theorem graceSafe_j28 : ((Rows.graceSafeRow.kinds == kindsOf Tryd.pinned.checked.prog Rows.graceSafeRow.domain.isEmpty Tryd.f10.params.toList)) = true := by kernel_rfl
theorem graceSafe_j29 : ((Rows.graceSafeRow.pinned == Rows.graceSafeRow.pinnedBy)) = true := by kernel_rfl
theorem graceSafe_j30 : ((Rows.graceSafeRow.veiled == (Tryd.f10.params.toList ++ Rows.graceSafeSpec.plain.varTypes Tryd.pinned.checked.prog ++ Tryd.f10.resultTypes.toList).any (Tryd.pinned.checked.prog.veiledRec ·))) = true := by kernel_rfl
theorem graceSafe_j31 : (Rows.graceSafeRow.veiledFits Tryd.pinned.checked.prog Tryd.f10.params.toList (Tryd.f10.params.toList ++ Rows.graceSafeSpec.plain.varTypes Tryd.pinned.checked.prog ++ Tryd.f10.resultTypes.toList)) = true := by kernel_rfl
theorem graceSafe_joined : joinedFacts Tryd.pinned.checked.prog 10 Tryd.f10 Rows.graceSafeSpec Rows.graceSafeRow = true :=
  joined_of (P := Tryd.pinned.checked.prog) (f := 10) (fn := Tryd.f10) (s := Rows.graceSafeSpec) (c := Rows.graceSafeRow) graceSafe_j0 jp1 jp2 graceSafe_j3 graceSafe_j4 graceSafe_j5 jp6 graceSafe_j7 jp8 graceSafe_j9 graceSafe_j10 graceSafe_j11 graceSafe_j12 graceSafe_j13 graceSafe_j14 graceSafe_j15 graceSafe_j16 graceSafe_j17 graceSafe_j18 graceSafe_j19 graceSafe_j20 graceSafe_j21 graceSafe_j22 graceSafe_j23 jp24 jp25 graceSafe_j26 graceSafe_j27 graceSafe_j28 graceSafe_j29 graceSafe_j30 graceSafe_j31
set_option maxRecDepth 100000 in
theorem graceSafe_lifted (walk : ∀ (a0 : Int) (a1 : Option Addr) (len1 cap1 : Nat) (z1 : List RCast) (a2 : Option Addr) (len2 cap2 : Nat) (z2 : List Int) (w : World), (Lit.int .i64 a0).wf = true → IsCast w a1 len1 cap1 z1 → IsRow .i64 w a2 len2 cap2 z2 → Calls Tryd.prog 10 #[.int .i64 a0, .slice a1 len1 cap1, .slice a2 len2 cap2] w fun e w' => e = .returned (.bool true) ∧ Below w.heap.size w w')
    (os : Os) (started : os.Started) (H : Type) (enc : TypeId × Value → H) :
    ReturnsInHanded {} Tryd.checked os 10 .any (fun w args => (Rows.graceSafeSpec.pre enc Tryd.prog Tryd.f10 [] false w args ∧ laidMetH Tryd.prog Rows.graceSafeRow.laid w) ∧ sizedMet enc Tryd.prog Tryd.f10 (OpenSpec.ofChange Rows.graceSafeSpec) false w args)
      (Rows.graceSafeSpec.post enc Tryd.prog Tryd.f10 false true false false) := by
  refine returnsInHanded_of_change_and (C := Tryd.checked) (X := fun w _ => laidMetH Tryd.prog Rows.graceSafeRow.laid w) (fun _ _ _ hh h => h.of_heap hh) own started (by kernel_rfl) Tryd.func10
    (ChangeSpec.witness_at (enc := enc) (C := Tryd.checked) (os := os) (X := fun w _ => laidMetH Tryd.prog Rows.graceSafeRow.laid w) false (laidWorld os) #[.int .i64 0, .slice none 0 0, .slice none 0 0] 8 rfl (by kernel_rfl) (by kernel_rfl) (by kernel_rfl) (by kernel_rfl) (by kernel_rfl) (laid_met2 os _)) ?_
  intro W base args ds gs before hval0 hW _ _ hL _
  have hval : ∀ (j : Nat) t v, Tryd.f10.params[j]? = some t → args[j]? = some v → Value.okWide Tryd.prog W .any base t v := hval0
  have hW' := hW
  obtain ⟨p, q, hA0, hV, rfl, hfz, hnd⟩ := hW
  have hA : DataW.TrodAll enc Tryd.prog W 0 (fun _ => true) true Tryd.f10.params.toList args.toList ds p := hA0
  rw [Tryd.params10] at hA hval
  obtain ⟨v0, vs0, d0, ds0, p0, q0, hargs, rfl, rfl, h0, r0⟩ := trodAll_cons hA
  obtain ⟨v1, vs1, d1, ds1, p1, q1, rfl, rfl, rfl, h1, r1⟩ := trodAll_cons r0
  obtain ⟨v2, vs2, d2, ds2, p2, q2, rfl, rfl, rfl, h2, r2⟩ := trodAll_cons r1
  obtain ⟨rfl, rfl, rfl⟩ := trodAll_nil r2
  obtain rfl : args = #[v0, v1, v2] := by cases args; simp_all
  obtain ⟨rfl, rfl⟩ := trodVars_none hV
  obtain ⟨a0, rfl, rfl, rfl, w0⟩ := open_int Tryd.underlying3 (hval 0 3 v0 rfl rfl) h0
  obtain ⟨a1, len1, cap1, rfl⟩ := okWide_slice Tryd.underlying79 (hval 1 79 v1 rfl rfl)
  have k1 := h1
  have lt1 : ∀ x ∈ p1, x.block < W.heap.size := by obtain ⟨m, hm⟩ := k1; exact DataW.trod_lt m _ _ _ hm
  obtain ⟨z1, w1⟩ : ∃ zs, IsCast W a1 len1 cap1 zs := isCast_of h1
  obtain ⟨a2, len2, cap2, rfl⟩ := okWide_slice Tryd.underlying23 (hval 2 23 v2 rfl rfl)
  have k2 := h2
  have lt2 : ∀ x ∈ p2, x.block < W.heap.size := by obtain ⟨m, hm⟩ := k2; exact DataW.trod_lt m _ _ _ hm
  obtain ⟨z2, w2⟩ : ∃ zs, IsRow .i64 W a2 len2 cap2 zs := isRow_of Tryd.underlying23 Tryd.underlying3 (by kernel_rfl) h2
  clear hA0 hval0
  refine (walk a0 a1 len1 cap1 z1 a2 len2 cap2 z2 W w0 w1 w2).mono fun e W' ⟨he, bel⟩ => ?_
  subst he
  exact ⟨_, rfl, _, _, _, [], _, [], hW', trodAll_mk1 (shut_bool Tryd.underlying4 _), (trodAll_cons_mk (shut_int Tryd.underlying3 w0) (trodAll_cons_mk (Below.trod laidOut (by kernel_rfl) (of_decide_eq_true (by kernel_rfl)) k1 bel lt1) (trodAll_cons_mk (Below.trod laidOut (by kernel_rfl) (of_decide_eq_true (by kernel_rfl)) k2 bel lt2) trodAll_mk0))), rfl, bel.frame _, fun h => by cases h⟩
theorem graceSafe_over (walk : ∀ (a0 : Int) (a1 : Option Addr) (len1 cap1 : Nat) (z1 : List RCast) (a2 : Option Addr) (len2 cap2 : Nat) (z2 : List Int) (w : World), (Lit.int .i64 a0).wf = true → IsCast w a1 len1 cap1 z1 → IsRow .i64 w a2 len2 cap2 z2 → Calls Tryd.prog 10 #[.int .i64 a0, .slice a1 len1 cap1, .slice a2 len2 cap2] w fun e w' => e = .returned (.bool true) ∧ Below w.heap.size w w') :
    Rows.GraceSafeSaid :=
  OpenClaim.holds_of_wide 10 Tryd.f10 rfl rfl rfl rfl rfl rfl rfl ⟨rfl, rfl, rfl, rfl, rfl⟩ rfl rfl rfl rfl rfl (by kernel_rfl) Tryd.func10 graceSafe_joined
    (of_decide_eq_true (by kernel_rfl)) (by unfold Func.isWrapper; first | (rw [if_pos (by decide +kernel)]; kernel_rfl) | (rw [if_neg (by decide +kernel)]; exact ⟨rfl, rfl⟩))
    (fun os started H enc _ => graceSafe_lifted walk os started H enc)
end Go.Proofs.YtamfbfajlfbooaaDoor
