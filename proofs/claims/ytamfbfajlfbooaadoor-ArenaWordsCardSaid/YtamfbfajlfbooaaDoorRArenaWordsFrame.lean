/- ArenaWords: the row, out of its walk. -/
import Derived.Test.YtamfbfajlfbooaaDoorRLaid
import Derived.Test.YtamfbfajlfbooaaDoorRJoinedP
import Derived.Test.YtamfbfajlfbooaaDoorRm3
import Derived.Test.YtamfbfajlfbooaaDoorRErrsLaw
import Derived.Lib.SmallJoins
import Derived.OpenShut
import Derived.ShutString
import Derived.ChangeOld
import Derived.Below
set_option linter.unusedVariables false
set_option linter.unusedSimpArgs false
set_option linter.unusedSectionVars false
namespace Go.Proofs.YtamfbfajlfbooaaDoor
open Go.ChangeShapes Go.WideShapes Go.ChangeAt Go.RowKit Go.Joins
open Go.ChangeMaps (open_string shut_string)
theorem arenaWords_j0 : (Rows.arenaWordsRow.wf (OpenSpec.ofChange Rows.arenaWordsSpec)) = true := by kernel_rfl
theorem arenaWords_j3 : (Tryd.f11.params.all (Tryd.pinned.checked.prog.readableRec ·)) = true := by kernel_rfl
theorem arenaWords_j4 : (namedTie Tryd.pinned.checked.prog Rows.arenaWordsRow.named Rows.arenaWordsSpec.vars) = true := by kernel_rfl
theorem arenaWords_j5 : ((Rows.arenaWordsRow.stops == [])) = true := by kernel_rfl
theorem arenaWords_j7 : ((Rows.arenaWordsRow.knobs == [])) = true := by kernel_rfl
theorem arenaWords_j9 : ((Rows.arenaWordsRow.inPlace == Tryd.pinned.checked.prog.inPlace 11)) = true := by kernel_rfl
theorem arenaWords_j10 : ((Rows.arenaWordsRow.unfollowed == Tryd.pinned.checked.prog.unfollowed 11)) = true := by kernel_rfl
theorem arenaWords_j11 : ((Rows.arenaWordsRow.recurses == Tryd.pinned.checked.prog.recurses 11)) = true := by kernel_rfl
theorem arenaWords_j12 : ((Rows.arenaWordsRow.named == Tryd.pinned.checked.prog.varsNamed 11)) = true := by kernel_rfl
theorem arenaWords_j13 : ((Rows.arenaWordsRow.maps == (Tryd.f11.params.toList ++ Rows.arenaWordsSpec.plain.varTypes Tryd.pinned.checked.prog).any (Tryd.pinned.checked.prog.mapsRec ·))) = true := by kernel_rfl
theorem arenaWords_j14 : ((Rows.arenaWordsRow.ifaces == (Tryd.f11.params.toList ++ Rows.arenaWordsSpec.plain.varTypes Tryd.pinned.checked.prog).any (Tryd.pinned.checked.prog.ifacesRec ·))) = true := by kernel_rfl
theorem arenaWords_j15 : ((Rows.arenaWordsRow.mapsOut == Tryd.pinned.checked.prog.mapsAmong Tryd.f11.resultTypes.toList)) = true := by kernel_rfl
theorem arenaWords_j16 : ((Rows.arenaWordsRow.loops == (Tryd.f11.params.toList ++ Rows.arenaWordsSpec.plain.varTypes Tryd.pinned.checked.prog).any (Tryd.pinned.checked.prog.loopsFrom ·))) = true := by kernel_rfl
theorem arenaWords_j17 : ((Rows.arenaWordsRow.wideKeys == (Tryd.f11.params.toList ++ Rows.arenaWordsSpec.plain.varTypes Tryd.pinned.checked.prog ++ Tryd.f11.resultTypes.toList).any (Tryd.pinned.checked.prog.wideKeysFrom ·))) = true := by kernel_rfl
theorem arenaWords_j18 : (Rows.arenaWordsSpec.vars.all (Tryd.pinned.checked.prog.varReadable ·)) = true := by kernel_rfl
theorem arenaWords_j19 : (Tryd.f11.resultTypes.all (fun t => Tryd.pinned.checked.prog.readableRec t && decide (t < Tryd.pinned.checked.prog.types.size))) = true := by kernel_rfl
theorem arenaWords_j20 : ((Rows.arenaWordsRow.ifacesOut == Tryd.f11.resultTypes.toList.any (Tryd.pinned.checked.prog.ifacesRec ·))) = true := by kernel_rfl
theorem arenaWords_j21 : ((Rows.arenaWordsRow.loopsOut == Tryd.f11.resultTypes.toList.any (Tryd.pinned.checked.prog.loopsFrom ·))) = true := by kernel_rfl
theorem arenaWords_j22 : ((Rows.arenaWordsRow.plainKeys == Tryd.pinned.checked.prog.plainKeys)) = true := by
  rw [show Rows.arenaWordsRow.plainKeys = true from rfl]; exact jp22
theorem arenaWords_j23 : (Rows.arenaWordsRow.shortTexts.isNone) = true := by kernel_rfl
theorem arenaWords_j26 : ((Rows.arenaWordsRow.lifted == Tryd.pinned.checked.prog.liftsFinal)) = true := by
  rw [show Rows.arenaWordsRow.lifted = false from rfl]; exact jp26
theorem arenaWords_j27 : ((Tryd.pinned.checked.prog.make == some Rows.arenaWordsRow.make)) = true := by
  rw [show Rows.arenaWordsRow.make = Make.cut from rfl]; exact jp27
theorem arenaWords_j28 : ((Rows.arenaWordsRow.kinds == kindsOf Tryd.pinned.checked.prog Rows.arenaWordsRow.domain.isEmpty Tryd.f11.params.toList)) = true := by kernel_rfl
theorem arenaWords_j29 : ((Rows.arenaWordsRow.pinned == Rows.arenaWordsRow.pinnedBy)) = true := by kernel_rfl
theorem arenaWords_j30 : ((Rows.arenaWordsRow.veiled == (Tryd.f11.params.toList ++ Rows.arenaWordsSpec.plain.varTypes Tryd.pinned.checked.prog ++ Tryd.f11.resultTypes.toList).any (Tryd.pinned.checked.prog.veiledRec ·))) = true := by kernel_rfl
theorem arenaWords_j31 : (Rows.arenaWordsRow.veiledFits Tryd.pinned.checked.prog Tryd.f11.params.toList (Tryd.f11.params.toList ++ Rows.arenaWordsSpec.plain.varTypes Tryd.pinned.checked.prog ++ Tryd.f11.resultTypes.toList)) = true := by kernel_rfl
theorem arenaWords_joined : joinedFacts Tryd.pinned.checked.prog 11 Tryd.f11 Rows.arenaWordsSpec Rows.arenaWordsRow = true :=
  joined_of (P := Tryd.pinned.checked.prog) (f := 11) (fn := Tryd.f11) (s := Rows.arenaWordsSpec) (c := Rows.arenaWordsRow) arenaWords_j0 jp1 jp2 arenaWords_j3 arenaWords_j4 arenaWords_j5 jp6 arenaWords_j7 jp8 arenaWords_j9 arenaWords_j10 arenaWords_j11 arenaWords_j12 arenaWords_j13 arenaWords_j14 arenaWords_j15 arenaWords_j16 arenaWords_j17 arenaWords_j18 arenaWords_j19 arenaWords_j20 arenaWords_j21 arenaWords_j22 arenaWords_j23 jp24 jp25 arenaWords_j26 arenaWords_j27 arenaWords_j28 arenaWords_j29 arenaWords_j30 arenaWords_j31
set_option maxRecDepth 100000 in
theorem arenaWords_lifted (walk : ∀ (a0 b0 : Int) (a1 : Int) (w : World), (Lit.int .i64 a0).wf = true → (Lit.int .i64 b0).wf = true → (Lit.int .i64 a1).wf = true → (∃ a, ErrsAt w a) → Calls Tryd.prog 11 #[.agg #[.int .i64 a0, .int .i64 b0], .int .i64 a1] w fun e w' => e = .returned (.bool true) ∧ Below w.heap.size w w')
    (os : Os) (started : os.Started) (H : Type) (enc : TypeId × Value → H) :
    ReturnsInHanded {} Tryd.checked os 11 .any (fun w args => (Rows.arenaWordsSpec.pre enc Tryd.prog Tryd.f11 [] false w args ∧ laidMetH Tryd.prog Rows.arenaWordsRow.laid w) ∧ sizedMet enc Tryd.prog Tryd.f11 (OpenSpec.ofChange Rows.arenaWordsSpec) false w args)
      (Rows.arenaWordsSpec.post enc Tryd.prog Tryd.f11 false true false false) := by
  refine returnsInHanded_of_change_and (C := Tryd.checked) (X := fun w _ => laidMetH Tryd.prog Rows.arenaWordsRow.laid w) (fun _ _ _ hh h => h.of_heap hh) own started (by kernel_rfl) Tryd.func11
    (ChangeSpec.witness_at (enc := enc) (C := Tryd.checked) (os := os) (X := fun w _ => laidMetH Tryd.prog Rows.arenaWordsRow.laid w) false (laidWorld os) #[.agg #[.int .i64 0, .int .i64 0], .int .i64 0] 8 rfl (by kernel_rfl) (by kernel_rfl) (by kernel_rfl) (by kernel_rfl) (by kernel_rfl) (laid_met10 os _)) ?_
  intro W base args ds gs before hval0 hW _ _ hL _
  have hval : ∀ (j : Nat) t v, Tryd.f11.params[j]? = some t → args[j]? = some v → Value.okWide Tryd.prog W .any base t v := hval0
  have hW' := hW
  obtain ⟨p, q, hA0, hV, rfl, hfz, hnd⟩ := hW
  have hA : DataW.TrodAll enc Tryd.prog W 0 (fun _ => true) true Tryd.f11.params.toList args.toList ds p := hA0
  rw [Tryd.params11] at hA hval
  obtain ⟨v0, vs0, d0, ds0, p0, q0, hargs, rfl, rfl, h0, r0⟩ := trodAll_cons hA
  obtain ⟨v1, vs1, d1, ds1, p1, q1, rfl, rfl, rfl, h1, r1⟩ := trodAll_cons r0
  obtain ⟨rfl, rfl, rfl⟩ := trodAll_nil r1
  obtain rfl : args = #[v0, v1] := by cases args; simp_all
  obtain ⟨rfl, rfl⟩ := trodVars_none hV
  have k0 := h0
  have lt0 : ∀ x ∈ p0, x.block < W.heap.size := by obtain ⟨m, hm⟩ := k0; exact DataW.trod_lt m _ _ _ hm
  obtain ⟨c00, c01, y00, y01, m0, rfl, rfl, rfl, hy00, hy01⟩ := open_agg2 Tryd.underlying58 (by kernel_rfl) (show Tryd.prog.cellsOf 58 = 2 by kernel_rfl) (hval 0 58 v0 rfl rfl) h0
  obtain ⟨a0, e00, rfl, w0⟩ := DataW.trod_int Tryd.underlying3 hy00
  obtain ⟨b0, e01, rfl, u0⟩ := DataW.trod_int Tryd.underlying3 hy01
  simp at e00 e01
  subst e00 e01
  obtain ⟨a1, rfl, rfl, rfl, w1⟩ := open_int Tryd.underlying3 (hval 1 3 v1 rfl rfl) h1
  clear hA0 hval0
  refine (walk a0 b0 a1 W w0 u0 w1 (errs_of_laid hL)).mono fun e W' ⟨he, bel⟩ => ?_
  subst he
  exact ⟨_, rfl, _, _, _, [], _, [], hW', trodAll_mk1 (shut_bool Tryd.underlying4 _), (trodAll_cons_mk (Below.trod laidOut (by kernel_rfl) (of_decide_eq_true (by kernel_rfl)) k0 bel lt0) (trodAll_cons_mk (shut_int Tryd.underlying3 w1) trodAll_mk0)), rfl, bel.frame _, fun h => by cases h⟩
theorem arenaWords_over (walk : ∀ (a0 b0 : Int) (a1 : Int) (w : World), (Lit.int .i64 a0).wf = true → (Lit.int .i64 b0).wf = true → (Lit.int .i64 a1).wf = true → (∃ a, ErrsAt w a) → Calls Tryd.prog 11 #[.agg #[.int .i64 a0, .int .i64 b0], .int .i64 a1] w fun e w' => e = .returned (.bool true) ∧ Below w.heap.size w w') :
    Rows.ArenaWordsSaid :=
  OpenClaim.holds_of_wide 11 Tryd.f11 rfl rfl rfl rfl rfl rfl rfl ⟨rfl, rfl, rfl, rfl, rfl⟩ rfl rfl rfl rfl rfl (by kernel_rfl) Tryd.func11 arenaWords_joined
    (of_decide_eq_true (by kernel_rfl)) (by unfold Func.isWrapper; first | (rw [if_pos (by decide +kernel)]; kernel_rfl) | (rw [if_neg (by decide +kernel)]; exact ⟨rfl, rfl⟩))
    (fun os started H enc _ => arenaWords_lifted walk os started H enc)
end Go.Proofs.YtamfbfajlfbooaaDoor
