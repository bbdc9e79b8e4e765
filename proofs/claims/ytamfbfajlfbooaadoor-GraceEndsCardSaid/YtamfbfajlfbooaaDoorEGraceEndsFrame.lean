/- GraceEnds: the row, out of its walk. -/
import Derived.Test.YtamfbfajlfbooaaDoorEm3
import Derived.Test.YtamfbfajlfbooaaDoorEJoinedP
import Derived.Test.YtamfbfajlfbooaaDoorECastRow
import Derived.Lib.SmallJoins
import Derived.OpenShut
import Derived.ShutString
import Derived.ChangeOld
import Derived.Below
set_option linter.unusedVariables false
set_option linter.unusedSimpArgs false
set_option linter.unusedSectionVars false
namespace Go.Proofs.YtamfbfajlfbooaaDoor
open Go.ChangeShapes Go.WideShapes Go.ChangeAt Go.RowKit Go.Joins
open Go.ChangeMaps (open_string shut_string)
theorem graceEnds_j0 : (Rows.graceEndsRow.wf (OpenSpec.ofChange Rows.graceEndsSpec)) = true := by kernel_rfl
theorem graceEnds_j3 : (Tryd.f8.params.all (Tryd.pinned.checked.prog.readableRec ·)) = true := by kernel_rfl
theorem graceEnds_j4 : (namedTie Tryd.pinned.checked.prog Rows.graceEndsRow.named Rows.graceEndsSpec.vars) = true := by kernel_rfl
theorem graceEnds_j5 : ((Rows.graceEndsRow.stops == [])) = true := by kernel_rfl
theorem graceEnds_j7 : ((Rows.graceEndsRow.knobs == [])) = true := by kernel_rfl
theorem graceEnds_j9 : ((Rows.graceEndsRow.inPlace == Tryd.pinned.checked.prog.inPlace 8)) = true := by kernel_rfl
theorem graceEnds_j10 : ((Rows.graceEndsRow.unfollowed == Tryd.pinned.checked.prog.unfollowed 8)) = true := by kernel_rfl
theorem graceEnds_j11 : ((Rows.graceEndsRow.recurses == Tryd.pinned.checked.prog.recurses 8)) = true := by kernel_rfl
theorem graceEnds_j12 : ((Rows.graceEndsRow.named == Tryd.pinned.checked.prog.varsNamed 8)) = true := by kernel_rfl
theorem graceEnds_j13 : ((Rows.graceEndsRow.maps == (Tryd.f8.params.toList ++ Rows.graceEndsSpec.plain.varTypes Tryd.pinned.checked.prog).any (Tryd.pinned.checked.prog.mapsRec ·))) = true := by kernel_rfl
theorem graceEnds_j14 : ((Rows.graceEndsRow.ifaces == (Tryd.f8.params.toList ++ Rows.graceEndsSpec.plain.varTypes Tryd.pinned.checked.prog).any (Tryd.pinned.checked.prog.ifacesRec ·))) = true := by kernel_rfl
theorem graceEnds_j15 : ((Rows.graceEndsRow.mapsOut == Tryd.pinned.checked.prog.mapsAmong Tryd.f8.resultTypes.toList)) = true := by kernel_rfl
theorem graceEnds_j16 : ((Rows.graceEndsRow.loops == (Tryd.f8.params.toList ++ Rows.graceEndsSpec.plain.varTypes Tryd.pinned.checked.prog).any (Tryd.pinned.checked.prog.loopsFrom ·))) = true := by kernel_rfl
theorem graceEnds_j17 : ((Rows.graceEndsRow.wideKeys == (Tryd.f8.params.toList ++ Rows.graceEndsSpec.plain.varTypes Tryd.pinned.checked.prog ++ Tryd.f8.resultTypes.toList).any (Tryd.pinned.checked.prog.wideKeysFrom ·))) = true := by kernel_rfl
theorem graceEnds_j18 : (Rows.graceEndsSpec.vars.all (Tryd.pinned.checked.prog.varReadable ·)) = true := by kernel_rfl
theorem graceEnds_j19 : (Tryd.f8.resultTypes.all (fun t => Tryd.pinned.checked.prog.readableRec t && decide (t < Tryd.pinned.checked.prog.types.size))) = true := by kernel_rfl
theorem graceEnds_j20 : ((Rows.graceEndsRow.ifacesOut == Tryd.f8.resultTypes.toList.any (Tryd.pinned.checked.prog.ifacesRec ·))) = true := by kernel_rfl
theorem graceEnds_j21 : ((Rows.graceEndsRow.loopsOut == Tryd.f8.resultTypes.toList.any (Tryd.pinned.checked.prog.loopsFrom ·))) = true := by kernel_rfl
theorem graceEnds_j22 : ((Rows.graceEndsRow.plainKeys == Tryd.pinned.checked.prog.plainKeys)) = true := by
  rw [show Rows.graceEndsRow.plainKeys = true from rfl]; exact jp22
theorem graceEnds_j23 : (Rows.graceEndsRow.shortTexts.isNone) = true := by kernel_rfl
theorem graceEnds_j26 : ((Rows.graceEndsRow.lifted == Tryd.pinned.checked.prog.liftsFinal)) = true := by
  rw [show Rows.graceEndsRow.lifted = false from rfl]; exact jp26
theorem graceEnds_j27 : ((Tryd.pinned.checked.prog.make == some Rows.graceEndsRow.make)) = true := by
  rw [show Rows.graceEndsRow.make = Make.cut from rfl]; exact jp27
theorem graceEnds_j28 : ((Rows.graceEndsRow.kinds == kindsOf Tryd.pinned.checked.prog Rows.graceEndsRow.domain.isEmpty Tryd.f8.params.toList)) = true := by kernel_rfl
theorem graceEnds_j29 : ((Rows.graceEndsRow.pinned == Rows.graceEndsRow.pinnedBy)) = true := by kernel_rfl
theorem graceEnds_j30 : ((Rows.graceEndsRow.veiled == (Tryd.f8.params.toList ++ Rows.graceEndsSpec.plain.varTypes Tryd.pinned.checked.prog ++ Tryd.f8.resultTypes.toList).any (Tryd.pinned.checked.prog.veiledRec ·))) = true := by kernel_rfl
theorem graceEnds_j31 : (Rows.graceEndsRow.veiledFits Tryd.pinned.checked.prog Tryd.f8.params.toList (Tryd.f8.params.toList ++ Rows.graceEndsSpec.plain.varTypes Tryd.pinned.checked.prog ++ Tryd.f8.resultTypes.toList)) = true := by kernel_rfl
theorem graceEnds_joined : joinedFacts Tryd.pinned.checked.prog 8 Tryd.f8 Rows.graceEndsSpec Rows.graceEndsRow = true :=
  joined_of (P := Tryd.pinned.checked.prog) (f := 8) (fn := Tryd.f8) (s := Rows.graceEndsSpec) (c := Rows.graceEndsRow) graceEnds_j0 jp1 jp2 graceEnds_j3 graceEnds_j4 graceEnds_j5 jp6 graceEnds_j7 jp8 graceEnds_j9 graceEnds_j10 graceEnds_j11 graceEnds_j12 graceEnds_j13 graceEnds_j14 graceEnds_j15 graceEnds_j16 graceEnds_j17 graceEnds_j18 graceEnds_j19 graceEnds_j20 graceEnds_j21 graceEnds_j22 graceEnds_j23 jp24 jp25 graceEnds_j26 graceEnds_j27 graceEnds_j28 graceEnds_j29 graceEnds_j30 graceEnds_j31
set_option maxRecDepth 100000 in
theorem graceEnds_lifted (walk : ∀ (a0 : Int) (a1 : Option Addr) (len1 cap1 : Nat) (z1 : List RCast) (w : World), (Lit.int .i64 a0).wf = true → IsCast w a1 len1 cap1 z1 → Calls Tryd.prog 8 #[.int .i64 a0, .slice a1 len1 cap1] w fun e w' => e = .returned (.bool true) ∧ Below w.heap.size w w')
    (os : Os) (started : os.Started) (H : Type) (enc : TypeId × Value → H) :
    ReturnsInHanded {} Tryd.checked os 8 .any (fun w args => (Rows.graceEndsSpec.pre enc Tryd.prog Tryd.f8 [] false w args ∧ laidMetH Tryd.prog Rows.graceEndsRow.laid w) ∧ sizedMet enc Tryd.prog Tryd.f8 (OpenSpec.ofChange Rows.graceEndsSpec) false w args)
      (Rows.graceEndsSpec.post enc Tryd.prog Tryd.f8 false true false false) := by
  refine returnsInHanded_of_change_and (C := Tryd.checked) (X := fun w _ => laidMetH Tryd.prog Rows.graceEndsRow.laid w) (fun _ _ _ hh h => h.of_heap hh) own started (by kernel_rfl) Tryd.func8
    (ChangeSpec.witness_at (enc := enc) (C := Tryd.checked) (os := os) (X := fun w _ => laidMetH Tryd.prog Rows.graceEndsRow.laid w) false (laidWorld os) #[.int .i64 0, .slice none 0 0] 8 rfl (by kernel_rfl) (by kernel_rfl) (by kernel_rfl) (by kernel_rfl) (by kernel_rfl) (laid_met2 os _)) ?_
  intro W base args ds gs before hval0 hW _ _ hL _
  have hval : ∀ (j : Nat) t v, Tryd.f8.params[j]? = some t → args[j]? = some v → Value.okWide Tryd.prog W .any base t v := hval0
  have hW' := hW
  obtain ⟨p, q, hA0, hV, rfl, hfz, hnd⟩ := hW
  have hA : DataW.TrodAll enc Tryd.prog W 0 (fun _ => true) true Tryd.f8.params.toList args.toList ds p := hA0
  rw [Tryd.params8] at hA hval
  obtain ⟨v0, vs0, d0, ds0, p0, q0, hargs, rfl, rfl, h0, r0⟩ := trodAll_cons hA
  obtain ⟨v1, vs1, d1, ds1, p1, q1, rfl, rfl, rfl, h1, r1⟩ := trodAll_cons r0
  obtain ⟨rfl, rfl, rfl⟩ := trodAll_nil r1
  obtain rfl : args = #[v0, v1] := by cases args; simp_all
  obtain ⟨rfl, rfl⟩ := trodVars_none hV
  obtain ⟨a0, rfl, rfl, rfl, w0⟩ := open_int Tryd.underlying3 (hval 0 3 v0 rfl rfl) h0
  obtain ⟨a1, len1, cap1, rfl⟩ := okWide_slice Tryd.underlying79 (hval 1 79 v1 rfl rfl)
  have k1 := h1
  have lt1 : ∀ x ∈ p1, x.block < W.heap.size := by obtain ⟨m, hm⟩ := k1; exact DataW.trod_lt m _ _ _ hm
  obtain ⟨z1, w1⟩ : ∃ zs, IsCast W a1 len1 cap1 zs := isCast_of h1
  clear hA0 hval0
  refine (walk a0 a1 len1 cap1 z1 W w0 w1).mono fun e W' ⟨he, bel⟩ => ?_
  subst he
  exact ⟨_, rfl, _, _, _, [], _, [], hW', trodAll_mk1 (shut_bool Tryd.underlying4 _), (trodAll_cons_mk (shut_int Tryd.underlying3 w0) (trodAll_cons_mk (Below.trod laidOut (by kernel_rfl) (of_decide_eq_true (by kernel_rfl)) k1 bel lt1) trodAll_mk0)), rfl, bel.frame _, fun h => by cases h⟩
theorem graceEnds_over (walk : ∀ (a0 : Int) (a1 : Option Addr) (len1 cap1 : Nat) (z1 : List RCast) (w : World), (Lit.int .i64 a0).wf = true → IsCast w a1 len1 cap1 z1 → Calls Tryd.prog 8 #[.int .i64 a0, .slice a1 len1 cap1] w fun e w' => e = .returned (.bool true) ∧ Below w.heap.size w w') :
    Rows.GraceEndsSaid :=
  OpenClaim.holds_of_wide 8 Tryd.f8 rfl rfl rfl rfl rfl rfl rfl ⟨rfl, rfl, rfl, rfl, rfl⟩ rfl rfl rfl rfl rfl (by kernel_rfl) Tryd.func8 graceEnds_joined
    (of_decide_eq_true (by kernel_rfl)) (by unfold Func.isWrapper; first | (rw [if_pos (by decide +kernel)]; kernel_rfl) | (rw [if_neg (by decide +kernel)]; exact ⟨rfl, rfl⟩))
    (fun os started H enc _ => graceEnds_lifted walk os started H enc)
end Go.Proofs.YtamfbfajlfbooaaDoor
