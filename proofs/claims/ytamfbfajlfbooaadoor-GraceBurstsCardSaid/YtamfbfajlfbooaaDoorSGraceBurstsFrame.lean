/- GraceBursts: the row, out of its walk. -/
import Derived.Test.YtamfbfajlfbooaaDoorSm3
import Derived.Test.YtamfbfajlfbooaaDoorSJoinedP
import Derived.Test.YtamfbfajlfbooaaDoorSCastRow
import Derived.Lib.SmallJoins
import Derived.OpenShut
import Derived.ShutString
import Derived.ChangeOld
import Derived.Below
set_option linter.unusedVariables false
set_option linter.unusedSimpArgs false
set_option linter.unusedSectionVars false
namespace Go.Proofs.YtamfbfajlfbooaaDoor
open Go.ChangeShapes Go.WideShapes Go.ChangeAt Go.RowKit Go.Joins
open Go.ChangeMaps (open_string shut_string)
theorem graceBursts_j0 : (Rows.graceBurstsRow.wf (OpenSpec.ofChange Rows.graceBurstsSpec)) = true := by kernel_rfl
theorem graceBursts_j3 : (Tryd.f7.params.all (Tryd.pinned.checked.prog.readableRec ·)) = true := by kernel_rfl
theorem graceBursts_j4 : (namedTie Tryd.pinned.checked.prog Rows.graceBurstsRow.named Rows.graceBurstsSpec.vars) = true := by kernel_rfl
theorem graceBursts_j5 : ((Rows.graceBurstsRow.stops == [])) = true := by kernel_rfl
theorem graceBursts_j7 : ((Rows.graceBurstsRow.knobs == [])) = true := by kernel_rfl
theorem graceBursts_j9 : ((Rows.graceBurstsRow.inPlace == Tryd.pinned.checked.prog.inPlace 7)) = true := by kernel_rfl
theorem graceBursts_j10 : ((Rows.graceBurstsRow.unfollowed == Tryd.pinned.checked.prog.unfollowed 7)) = true := by kernel_rfl
theorem graceBursts_j11 : ((Rows.graceBurstsRow.recurses == Tryd.pinned.checked.prog.recurses 7)) = true := by kernel_rfl
theorem graceBursts_j12 : ((Rows.graceBurstsRow.named == Tryd.pinned.checked.prog.varsNamed 7)) = true := by kernel_rfl
theorem graceBursts_j13 : ((Rows.graceBurstsRow.maps == (Tryd.f7.params.toList ++ Rows.graceBurstsSpec.plain.varTypes Tryd.pinned.checked.prog).any (Tryd.pinned.checked.prog.mapsRec ·))) = true := by kernel_rfl
theorem graceBursts_j14 : ((Rows.graceBurstsRow.ifaces == (Tryd.f7.params.toList ++ Rows.graceBurstsSpec.plain.varTypes Tryd.pinned.checked.prog).any (Tryd.pinned.checked.prog.ifacesRec ·))) = true := by kernel_rfl
theorem graceBursts_j15 : ((Rows.graceBurstsRow.mapsOut == Tryd.pinned.checked.prog.mapsAmong Tryd.f7.resultTypes.toList)) = true := by kernel_rfl
theorem graceBursts_j16 : ((Rows.graceBurstsRow.loops == (Tryd.f7.params.toList ++ Rows.graceBurstsSpec.plain.varTypes Tryd.pinned.checked.prog).any (Tryd.pinned.checked.prog.loopsFrom ·))) = true := by kernel_rfl
theorem graceBursts_j17 : ((Rows.graceBurstsRow.wideKeys == (Tryd.f7.params.toList ++ Rows.graceBurstsSpec.plain.varTypes Tryd.pinned.checked.prog ++ Tryd.f7.resultTypes.toList).any (Tryd.pinned.checked.prog.wideKeysFrom ·))) = true := by kernel_rfl
theorem graceBursts_j18 : (Rows.graceBurstsSpec.vars.all (Tryd.pinned.checked.prog.varReadable ·)) = true := by kernel_rfl
theorem graceBursts_j19 : (Tryd.f7.resultTypes.all (fun t => Tryd.pinned.checked.prog.readableRec t && decide (t < Tryd.pinned.checked.prog.types.size))) = true := by kernel_rfl
theorem graceBursts_j20 : ((Rows.graceBurstsRow.ifacesOut == Tryd.f7.resultTypes.toList.any (Tryd.pinned.checked.prog.ifacesRec ·))) = true := by kernel_rfl
theorem graceBursts_j21 : ((Rows.graceBurstsRow.loopsOut == Tryd.f7.resultTypes.toList.any (Tryd.pinned.checked.prog.loopsFrom ·))) = true := by kernel_rfl
theorem graceBursts_j22 : ((Rows.graceBurstsRow.plainKeys == Tryd.pinned.checked.prog.plainKeys)) = true := by
  rw [show Rows.graceBurstsRow.plainKeys = true from rfl]; exact jp22
theorem graceBursts_j23 : (Rows.graceBurstsRow.shortTexts.isNone) = true := by kernel_rfl
theorem graceBursts_j26 : ((Rows.graceBurstsRow.lifted == Tryd.pinned.checked.prog.liftsFinal)) = true := by
  rw [show Rows.graceBurstsRow.lifted = false from rfl]; exact jp26
theorem graceBursts_j27 : ((Tryd.pinned.checked.prog.make == some Rows.graceBurstsRow.make)) = true := by
  rw [show Rows.graceBurstsRow.make = Make.cut from rfl]; exact jp27
theorem graceBursts_j28 : ((Rows.graceBurstsRow.kinds == kindsOf Tryd.pinned.checked.prog Rows.graceBurstsRow.domain.isEmpty Tryd.f7.params.toList)) = true := by kernel_rfl
theorem graceBursts_j29 : ((Rows.graceBurstsRow.pinned == Rows.graceBurstsRow.pinnedBy)) = true := by kernel_rfl
theorem graceBursts_j30 : ((Rows.graceBurstsRow.veiled == (Tryd.f7.params.toList ++ Rows.graceBurstsSpec.plain.varTypes Tryd.pinned.checked.prog ++ Tryd.f7.resultTypes.toList).any (Tryd.pinned.checked.prog.veiledRec ·))) = true := by kernel_rfl
theorem graceBursts_j31 : (Rows.graceBurstsRow.veiledFits Tryd.pinned.checked.prog Tryd.f7.params.toList (Tryd.f7.params.toList ++ Rows.graceBurstsSpec.plain.varTypes Tryd.pinned.checked.prog ++ Tryd.f7.resultTypes.toList)) = true := by kernel_rfl
theorem graceBursts_joined : joinedFacts Tryd.pinned.checked.prog 7 Tryd.f7 Rows.graceBurstsSpec Rows.graceBurstsRow = true :=
  joined_of (P := Tryd.pinned.checked.prog) (f := 7) (fn := Tryd.f7) (s := Rows.graceBurstsSpec) (c := Rows.graceBurstsRow) graceBursts_j0 jp1 jp2 graceBursts_j3 graceBursts_j4 graceBursts_j5 jp6 graceBursts_j7 jp8 graceBursts_j9 graceBursts_j10 graceBursts_j11 graceBursts_j12 graceBursts_j13 graceBursts_j14 graceBursts_j15 graceBursts_j16 graceBursts_j17 graceBursts_j18 graceBursts_j19 graceBursts_j20 graceBursts_j21 graceBursts_j22 graceBursts_j23 jp24 jp25 graceBursts_j26 graceBursts_j27 graceBursts_j28 graceBursts_j29 graceBursts_j30 graceBursts_j31
set_option maxRecDepth 100000 in
theorem graceBursts_lifted (walk : ∀ (a0 : Int) (a1 : Option Addr) (len1 cap1 : Nat) (z1 : List RCast) (a2 : Option Addr) (len2 cap2 : Nat) (z2 : List Int) (a3 : Option Addr) (len3 cap3 : Nat) (z3 : List Int) (w : World), (Lit.int .i64 a0).wf = true → IsCast w a1 len1 cap1 z1 → IsRow .i64 w a2 len2 cap2 z2 → IsRow .i64 w a3 len3 cap3 z3 → Calls Tryd.prog 7 #[.int .i64 a0, .slice a1 len1 cap1, .slice a2 len2 cap2, .slice a3 len3 cap3] w fun e w' => e = .returned (.bool true) ∧ Below w.heap.size w w')
    (os : Os) (started : os.Started) (H : Type) (enc : TypeId × Value → H) :
    ReturnsInHanded {} Tryd.checked os 7 .any (fun w args => (Rows.graceBurstsSpec.pre enc Tryd.prog Tryd.f7 [] false w args ∧ laidMetH Tryd.prog Rows.graceBurstsRow.laid w) ∧ sizedMet enc Tryd.prog Tryd.f7 (OpenSpec.ofChange Rows.graceBurstsSpec) false w args)
      (Rows.graceBurstsSpec.post enc Tryd.prog Tryd.f7 false true false false) := by
  refine returnsInHanded_of_change_and (C := Tryd.checked) (X := fun w _ => laidMetH Tryd.prog Rows.graceBurstsRow.laid w) (fun _ _ _ hh h => h.of_heap hh) own started (by kernel_rfl) Tryd.func7
    (ChangeSpec.witness_at (enc := enc) (C := Tryd.checked) (os := os) (X := fun w _ => laidMetH Tryd.prog Rows.graceBurstsRow.laid w) false (laidWorld os) #[.int .i64 0, .slice none 0 0, .slice none 0 0, .slice none 0 0] 8 rfl (by kernel_rfl) (by kernel_rfl) (by kernel_rfl) (by kernel_rfl) (by kernel_rfl) (laid_met2 os _)) ?_
  intro W base args ds gs before hval0 hW _ _ hL _
  have hval : ∀ (j : Nat) t v, Tryd.f7.params[j]? = some t → args[j]? = some v → Value.okWide Tryd.prog W .any base t v := hval0
  have hW' := hW
  obtain ⟨p, q, hA0, hV, rfl, hfz, hnd⟩ := hW
  have hA : DataW.TrodAll enc Tryd.prog W 0 (fun _ => true) true Tryd.f7.params.toList args.toList ds p := hA0
  rw [Tryd.params7] at hA hval
  obtain ⟨v0, vs0, d0, ds0, p0, q0, hargs, rfl, rfl, h0, r0⟩ := trodAll_cons hA
  obtain ⟨v1, vs1, d1, ds1, p1, q1, rfl, rfl, rfl, h1, r1⟩ := trodAll_cons r0
  obtain ⟨v2, vs2, d2, ds2, p2, q2, rfl, rfl, rfl, h2, r2⟩ := trodAll_cons r1
  obtain ⟨v3, vs3, d3, ds3, p3, q3, rfl, rfl, rfl, h3, r3⟩ := trodAll_cons r2
  obtain ⟨rfl, rfl, rfl⟩ := trodAll_nil r3
  obtain rfl : args = #[v0, v1, v2, v3] := by cases args; simp_all
  obtain ⟨rfl, rfl⟩ := trodVars_none hV
  obtain ⟨a0, rfl, rfl, rfl, w0⟩ := open_int Tryd.underlying3 (hval 0 3 v0 rfl rfl) h0
  obtain ⟨a1, len1, cap1, rfl⟩ := okWide_slice Tryd.underlying79 (hval 1 79 v1 rfl rfl)
  have k1 := h1
  have lt1 : ∀ x ∈ p1, x.block < W.heap.size := by obtain ⟨m, hm⟩ := k1; exact DataW.trod_lt m _ _ _ hm
  obtain ⟨z1, w1⟩ : ∃ zs, IsCast W a1 len1 cap1 zs := isCast_of h1
  obtain ⟨a2, len2, cap2, rfl⟩ := okWide_slice Tryd.underlying23 (hval 2 23 v2 rfl rfl)
  have k2 := h2
  have lt2 : ∀ x ∈ p2, x.block < W.heap.size := by obtain ⟨m, hm⟩ := k2; exact DataW.trod_lt m _ _ _ hm
  obtain ⟨z2, w2⟩ : ∃ zs, IsRow .i64 W a2 len2 cap2 zs := isRow_of Tryd.underlying23 Tryd.underlying3 (by kernel_rfl) h2
  obtain ⟨a3, len3, cap3, rfl⟩ := okWide_slice Tryd.underlying23 (hval 3 23 v3 rfl rfl)
  have k3 := h3
  have lt3 : ∀ x ∈ p3, x.block < W.heap.size := by obtain ⟨m, hm⟩ := k3; exact DataW.trod_lt m _ _ _ hm
  obtain ⟨z3, w3⟩ : ∃ zs, IsRow .i64 W a3 len3 cap3 zs := isRow_of Tryd.underlying23 Tryd.underlying3 (by kernel_rfl) h3
  clear hA0 hval0
  refine (walk a0 a1 len1 cap1 z1 a2 len2 cap2 z2 a3 len3 cap3 z3 W w0 w1 w2 w3).mono fun e W' ⟨he, bel⟩ => ?_
  subst he
  exact ⟨_, rfl, _, _, _, [], _, [], hW', trodAll_mk1 (shut_bool Tryd.underlying4 _), (trodAll_cons_mk (shut_int Tryd.underlying3 w0) (trodAll_cons_mk (Below.trod laidOut (by kernel_rfl) (of_decide_eq_true (by kernel_rfl)) k1 bel lt1) (trodAll_cons_mk (Below.trod laidOut (by kernel_rfl) (of_decide_eq_true (by kernel_rfl)) k2 bel lt2) (trodAll_cons_mk (Below.trod laidOut (by kernel_rfl) (of_decide_eq_true (by kernel_rfl)) k3 bel lt3) trodAll_mk0)))), rfl, bel.frame _, fun h => by cases h⟩
theorem graceBursts_over (walk : ∀ (a0 : Int) (a1 : Option Addr) (len1 cap1 : Nat) (z1 : List RCast) (a2 : Option Addr) (len2 cap2 : Nat) (z2 : List Int) (a3 : Option Addr) (len3 cap3 : Nat) (z3 : List Int) (w : World), (Lit.int .i64 a0).wf = true → IsCast w a1 len1 cap1 z1 → IsRow .i64 w a2 len2 cap2 z2 → IsRow .i64 w a3 len3 cap3 z3 → Calls Tryd.prog 7 #[.int .i64 a0, .slice a1 len1 cap1, .slice a2 len2 cap2, .slice a3 len3 cap3] w fun e w' => e = .returned (.bool true) ∧ Below w.heap.size w w') :
    Rows.GraceBurstsSaid :=
  OpenClaim.holds_of_wide 7 Tryd.f7 rfl rfl rfl rfl rfl rfl rfl ⟨rfl, rfl, rfl, rfl, rfl⟩ rfl rfl rfl rfl rfl (by kernel_rfl) Tryd.func7 graceBursts_joined
    (of_decide_eq_true (by kernel_rfl)) (by unfold Func.isWrapper; first | (rw [if_pos (by decide +kernel)]; kernel_rfl) | (rw [if_neg (by decide +kernel)]; exact ⟨rfl, rfl⟩))
    (fun os started H enc _ => graceBursts_lifted walk os started H enc)
end Go.Proofs.YtamfbfajlfbooaaDoor
