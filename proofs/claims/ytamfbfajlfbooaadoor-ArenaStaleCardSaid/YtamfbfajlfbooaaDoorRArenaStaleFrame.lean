/- ArenaStale: the row, out of its walk. -/
import Derived.Test.YtamfbfajlfbooaaDoorRLaid
import Derived.Test.YtamfbfajlfbooaaDoorRJoinedP
import Derived.Test.YtamfbfajlfbooaaDoorRm3
import Derived.Test.YtamfbfajlfbooaaDoorRErrsLaw
import Derived.Lib.SmallJoins
import Derived.OpenShut
import Derived.ShutString
import Derived.ChangeOld
import Derived.Below
set_option linter.unusedVariables false
set_option linter.unusedSimpArgs false
set_option linter.unusedSectionVars false
namespace Go.Proofs.YtamfbfajlfbooaaDoor
open Go.ChangeShapes Go.WideShapes Go.ChangeAt Go.RowKit Go.Joins
open Go.ChangeMaps (open_string shut_string)
theorem arenaStale_j0 : (Rows.arenaStaleRow.wf (OpenSpec.ofChange Rows.arenaStaleSpec)) = true := by kernel_rfl
theorem arenaStale_j3 : (Tryd.f14.params.all (Tryd.pinned.checked.prog.readableRec ·)) = true := by kernel_rfl
theorem arenaStale_j4 : (namedTie Tryd.pinned.checked.prog Rows.arenaStaleRow.named Rows.arenaStaleSpec.vars) = true := by kernel_rfl
theorem arenaStale_j5 : ((Rows.arenaStaleRow.stops == [])) = true := by kernel_rfl
theorem arenaStale_j7 : ((Rows.arenaStaleRow.knobs == [])) = true := by kernel_rfl
theorem arenaStale_j9 : ((Rows.arenaStaleRow.inPlace == Tryd.pinned.checked.prog.inPlace 14)) = true := by kernel_rfl
theorem arenaStale_j10 : ((Rows.arenaStaleRow.unfollowed == Tryd.pinned.checked.prog.unfollowed 14)) = true := by kernel_rfl
theorem arenaStale_j11 : ((Rows.arenaStaleRow.recurses == Tryd.pinned.checked.prog.recurses 14)) = true := by kernel_rfl
theorem arenaStale_j12 : ((Rows.arenaStaleRow.named == Tryd.pinned.checked.prog.varsNamed 14)) = true := by kernel_rfl
theorem arenaStale_j13 : ((Rows.arenaStaleRow.maps == (Tryd.f14.params.toList ++ Rows.arenaStaleSpec.plain.varTypes Tryd.pinned.checked.prog).any (Tryd.pinned.checked.prog.mapsRec ·))) = true := by kernel_rfl
theorem arenaStale_j14 : ((Rows.arenaStaleRow.ifaces == (Tryd.f14.params.toList ++ Rows.arenaStaleSpec.plain.varTypes Tryd.pinned.checked.prog).any (Tryd.pinned.checked.prog.ifacesRec ·))) = true := by kernel_rfl
theorem arenaStale_j15 : ((Rows.arenaStaleRow.mapsOut == Tryd.pinned.checked.prog.mapsAmong Tryd.f14.resultTypes.toList)) = true := by kernel_rfl
theorem arenaStale_j16 : ((Rows.arenaStaleRow.loops == (Tryd.f14.params.toList ++ Rows.arenaStaleSpec.plain.varTypes Tryd.pinned.checked.prog).any (Tryd.pinned.checked.prog.loopsFrom ·))) = true := by kernel_rfl
theorem arenaStale_j17 : ((Rows.arenaStaleRow.wideKeys == (Tryd.f14.params.toList ++ Rows.arenaStaleSpec.plain.varTypes Tryd.pinned.checked.prog ++ Tryd.f14.resultTypes.toList).any (Tryd.pinned.checked.prog.wideKeysFrom ·))) = true := by kernel_rfl
theorem arenaStale_j18 : (Rows.arenaStaleSpec.vars.all (Tryd.pinned.checked.prog.varReadable ·)) = true := by kernel_rfl
theorem arenaStale_j19 : (Tryd.f14.resultTypes.all (fun t => Tryd.pinned.checked.prog.readableRec t && decide (t < Tryd.pinned.checked.prog.types.size))) = true := by kernel_rfl
theorem arenaStale_j20 : ((Rows.arenaStaleRow.ifacesOut == Tryd.f14.resultTypes.toList.any (Tryd.pinned.checked.prog.ifacesRec ·))) = true := by kernel_rfl
theorem arenaStale_j21 : ((Rows.arenaStaleRow.loopsOut == Tryd.f14.resultTypes.toList.any (Tryd.pinned.checked.prog.loopsFrom ·))) = true := by kernel_rfl
theorem arenaStale_j22 : ((Rows.arenaStaleRow.plainKeys == Tryd.pinned.checked.prog.plainKeys)) = true := by
  rw [show Rows.arenaStaleRow.plainKeys = true from rfl]; exact jp22
theorem arenaStale_j23 : (Rows.arenaStaleRow.shortTexts.isNone) = true := by kernel_rfl
theorem arenaStale_j26 : ((Rows.arenaStaleRow.lifted == Tryd.pinned.checked.prog.liftsFinal)) = true := by
  rw [show Rows.arenaStaleRow.lifted = false from rfl]; exact jp26
theorem arenaStale_j27 : ((Tryd.pinned.checked.prog.make == some Rows.arenaStaleRow.make)) = true := by
  rw [show Rows.arenaStaleRow.make = Make.cut from rfl]; exact jp27
theorem arenaStale_j28 : ((Rows.arenaStaleRow.kinds == kindsOf Tryd.pinned.checked.prog Rows.arenaStaleRow.domain.isEmpty Tryd.f14.params.toList)) = true := by kernel_rfl
theorem arenaStale_j29 : ((Rows.arenaStaleRow.pinned == Rows.arenaStaleRow.pinnedBy)) = true := by kernel_rfl
theorem arenaStale_j30 : ((Rows.arenaStaleRow.veiled == (Tryd.f14.params.toList ++ Rows.arenaStaleSpec.plain.varTypes Tryd.pinned.checked.prog ++ Tryd.f14.resultTypes.toList).any (Tryd.pinned.checked.prog.veiledRec ·))) = true := by kernel_rfl
theorem arenaStale_j31 : (Rows.arenaStaleRow.veiledFits Tryd.pinned.checked.prog Tryd.f14.params.toList (Tryd.f14.params.toList ++ Rows.arenaStaleSpec.plain.varTypes Tryd.pinned.checked.prog ++ Tryd.f14.resultTypes.toList)) = true := by kernel_rfl
theorem arenaStale_joined : joinedFacts Tryd.pinned.checked.prog 14 Tryd.f14 Rows.arenaStaleSpec Rows.arenaStaleRow = true :=
  joined_of (P := Tryd.pinned.checked.prog) (f := 14) (fn := Tryd.f14) (s := Rows.arenaStaleSpec) (c := Rows.arenaStaleRow) arenaStale_j0 jp1 jp2 arenaStale_j3 arenaStale_j4 arenaStale_j5 jp6 arenaStale_j7 jp8 arenaStale_j9 arenaStale_j10 arenaStale_j11 arenaStale_j12 arenaStale_j13 arenaStale_j14 arenaStale_j15 arenaStale_j16 arenaStale_j17 arenaStale_j18 arenaStale_j19 arenaStale_j20 arenaStale_j21 arenaStale_j22 arenaStale_j23 jp24 jp25 arenaStale_j26 arenaStale_j27 arenaStale_j28 arenaStale_j29 arenaStale_j30 arenaStale_j31
set_option maxRecDepth 100000 in
theorem arenaStale_lifted (walk : ∀ (a0 : Int) (a1 : Int) (w : World), (Lit.int .i64 a0).wf = true → (Lit.int .i64 a1).wf = true → (∃ a, ErrsAt w a) → Calls Tryd.prog 14 #[.int .i64 a0, .int .i64 a1] w fun e w' => e = .returned (.bool true) ∧ Below w.heap.size w w')
    (os : Os) (started : os.Started) (H : Type) (enc : TypeId × Value → H) :
    ReturnsInHanded {} Tryd.checked os 14 .any (fun w args => (Rows.arenaStaleSpec.pre enc Tryd.prog Tryd.f14 [] false w args ∧ laidMetH Tryd.prog Rows.arenaStaleRow.laid w) ∧ sizedMet enc Tryd.prog Tryd.f14 (OpenSpec.ofChange Rows.arenaStaleSpec) false w args)
      (Rows.arenaStaleSpec.post enc Tryd.prog Tryd.f14 false true false false) := by
  refine returnsInHanded_of_change_and (C := Tryd.checked) (X := fun w _ => laidMetH Tryd.prog Rows.arenaStaleRow.laid w) (fun _ _ _ hh h => h.of_heap hh) own started (by kernel_rfl) Tryd.func14
    (ChangeSpec.witness_at (enc := enc) (C := Tryd.checked) (os := os) (X := fun w _ => laidMetH Tryd.prog Rows.arenaStaleRow.laid w) false (laidWorld os) #[.int .i64 0, .int .i64 0] 8 rfl (by kernel_rfl) (by kernel_rfl) (by kernel_rfl) (by kernel_rfl) (by kernel_rfl) (laid_met10 os _)) ?_
  intro W base args ds gs before hval0 hW _ _ hL _
  have hval : ∀ (j : Nat) t v, Tryd.f14.params[j]? = some t → args[j]? = some v → Value.okWide Tryd.prog W .any base t v := hval0
  have hW' := hW
  obtain ⟨p, q, hA0, hV, rfl, hfz, hnd⟩ := hW
  have hA : DataW.TrodAll enc Tryd.prog W 0 (fun _ => true) true Tryd.f14.params.toList args.toList ds p := hA0
  rw [Tryd.params14] at hA hval
  obtain ⟨v0, vs0, d0, ds0, p0, q0, hargs, rfl, rfl, h0, r0⟩ := trodAll_cons hA
  obtain ⟨v1, vs1, d1, ds1, p1, q1, rfl, rfl, rfl, h1, r1⟩ := trodAll_cons r0
  obtain ⟨rfl, rfl, rfl⟩ := trodAll_nil r1
  obtain rfl : args = #[v0, v1] := by cases args; simp_all
  obtain ⟨rfl, rfl⟩ := trodVars_none hV
  obtain ⟨a0, rfl, rfl, rfl, w0⟩ := open_int Tryd.underlying3 (hval 0 3 v0 rfl rfl) h0
  obtain ⟨a1, rfl, rfl, rfl, w1⟩ := open_int Tryd.underlying3 (hval 1 3 v1 rfl rfl) h1
  clear hA0 hval0
  refine (walk a0 a1 W w0 w1 (errs_of_laid hL)).mono fun e W' ⟨he, bel⟩ => ?_
  subst he
  exact ⟨_, rfl, _, _, _, [], _, [], hW', trodAll_mk1 (shut_bool Tryd.underlying4 _), (trodAll_cons_mk (shut_int Tryd.underlying3 w0) (trodAll_cons_mk (shut_int Tryd.underlying3 w1) trodAll_mk0)), rfl, bel.frame _, fun h => by cases h⟩
theorem arenaStale_over (walk : ∀ (a0 : Int) (a1 : Int) (w : World), (Lit.int .i64 a0).wf = true → (Lit.int .i64 a1).wf = true → (∃ a, ErrsAt w a) → Calls Tryd.prog 14 #[.int .i64 a0, .int .i64 a1] w fun e w' => e = .returned (.bool true) ∧ Below w.heap.size w w') :
    Rows.ArenaStaleSaid :=
  OpenClaim.holds_of_wide 14 Tryd.f14 rfl rfl rfl rfl rfl rfl rfl ⟨rfl, rfl, rfl, rfl, rfl⟩ rfl rfl rfl rfl rfl (by kernel_rfl) Tryd.func14 arenaStale_joined
    (of_decide_eq_true (by kernel_rfl)) (by unfold Func.isWrapper; first | (rw [if_pos (by decide +kernel)]; kernel_rfl) | (rw [if_neg (by decide +kernel)]; exact ⟨rfl, rfl⟩))
    (fun os started H enc _ => arenaStale_lifted walk os started H enc)
end Go.Proofs.YtamfbfajlfbooaaDoor
