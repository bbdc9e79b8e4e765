/- ArenaActs: the row, out of its walk. -/
import Derived.Test.YtamfbfajlfbooaaDoorRLaid
import Derived.Test.YtamfbfajlfbooaaDoorRJoinedP
import Derived.Test.YtamfbfajlfbooaaDoorRm3
import Derived.Test.YtamfbfajlfbooaaDoorRStructs
import Derived.Test.YtamfbfajlfbooaaDoorRErrsLaw
import Derived.Lib.SmallJoins
import Derived.OpenShut
import Derived.ShutString
import Derived.ChangeOld
import Derived.Below
set_option linter.unusedVariables false
set_option linter.unusedSimpArgs false
set_option linter.unusedSectionVars false
namespace Go.Proofs.YtamfbfajlfbooaaDoor
open Go.ChangeShapes Go.WideShapes Go.ChangeAt Go.RowKit Go.Joins
open Go.ChangeMaps (open_string shut_string)
theorem arenaActs_j0 : (Rows.arenaActsRow.wf (OpenSpec.ofChange Rows.arenaActsSpec)) = true := by kernel_rfl
theorem arenaActs_j3 : (Tryd.f15.params.all (Tryd.pinned.checked.prog.readableRec ·)) = true := by kernel_rfl
theorem arenaActs_j4 : (namedTie Tryd.pinned.checked.prog Rows.arenaActsRow.named Rows.arenaActsSpec.vars) = true := by kernel_rfl
theorem arenaActs_j5 : ((Rows.arenaActsRow.stops == [])) = true := by kernel_rfl
theorem arenaActs_j7 : ((Rows.arenaActsRow.knobs == [])) = true := by kernel_rfl
theorem arenaActs_j9 : ((Rows.arenaActsRow.inPlace == Tryd.pinned.checked.prog.inPlace 15)) = true := by kernel_rfl
theorem arenaActs_j10 : ((Rows.arenaActsRow.unfollowed == Tryd.pinned.checked.prog.unfollowed 15)) = true := by kernel_rfl
theorem arenaActs_j11 : ((Rows.arenaActsRow.recurses == Tryd.pinned.checked.prog.recurses 15)) = true := by kernel_rfl
theorem arenaActs_j12 : ((Rows.arenaActsRow.named == Tryd.pinned.checked.prog.varsNamed 15)) = true := by kernel_rfl
theorem arenaActs_j13 : ((Rows.arenaActsRow.maps == (Tryd.f15.params.toList ++ Rows.arenaActsSpec.plain.varTypes Tryd.pinned.checked.prog).any (Tryd.pinned.checked.prog.mapsRec ·))) = true := by kernel_rfl
theorem arenaActs_j14 : ((Rows.arenaActsRow.ifaces == (Tryd.f15.params.toList ++ Rows.arenaActsSpec.plain.varTypes Tryd.pinned.checked.prog).any (Tryd.pinned.checked.prog.ifacesRec ·))) = true := by kernel_rfl
theorem arenaActs_j15 : ((Rows.arenaActsRow.mapsOut == Tryd.pinned.checked.prog.mapsAmong Tryd.f15.resultTypes.toList)) = true := by kernel_rfl
theorem arenaActs_j16 : ((Rows.arenaActsRow.loops == (Tryd.f15.params.toList ++ Rows.arenaActsSpec.plain.varTypes Tryd.pinned.checked.prog).any (Tryd.pinned.checked.prog.loopsFrom ·))) = true := by kernel_rfl
theorem arenaActs_j17 : ((Rows.arenaActsRow.wideKeys == (Tryd.f15.params.toList ++ Rows.arenaActsSpec.plain.varTypes Tryd.pinned.checked.prog ++ Tryd.f15.resultTypes.toList).any (Tryd.pinned.checked.prog.wideKeysFrom ·))) = true := by kernel_rfl
theorem arenaActs_j18 : (Rows.arenaActsSpec.vars.all (Tryd.pinned.checked.prog.varReadable ·)) = true := by kernel_rfl
theorem arenaActs_j19 : (Tryd.f15.resultTypes.all (fun t => Tryd.pinned.checked.prog.readableRec t && decide (t < Tryd.pinned.checked.prog.types.size))) = true := by kernel_rfl
theorem arenaActs_j20 : ((Rows.arenaActsRow.ifacesOut == Tryd.f15.resultTypes.toList.any (Tryd.pinned.checked.prog.ifacesRec ·))) = true := by kernel_rfl
theorem arenaActs_j21 : ((Rows.arenaActsRow.loopsOut == Tryd.f15.resultTypes.toList.any (Tryd.pinned.checked.prog.loopsFrom ·))) = true := by kernel_rfl
theorem arenaActs_j22 : ((Rows.arenaActsRow.plainKeys == Tryd.pinned.checked.prog.plainKeys)) = true := by
  rw [show Rows.arenaActsRow.plainKeys = true from rfl]; exact jp22
theorem arenaActs_j23 : (Rows.arenaActsRow.shortTexts.isNone) = true := by kernel_rfl
theorem arenaActs_j26 : ((Rows.arenaActsRow.lifted == Tryd.pinned.checked.prog.liftsFinal)) = true := by
  rw [show Rows.arenaActsRow.lifted = false from rfl]; exact jp26
theorem arenaActs_j27 : ((Tryd.pinned.checked.prog.make == some Rows.arenaActsRow.make)) = true := by
  rw [show Rows.arenaActsRow.make = Make.cut from rfl]; exact jp27
theorem arenaActs_j28 : ((Rows.arenaActsRow.kinds == kindsOf Tryd.pinned.checked.prog Rows.arenaActsRow.domain.isEmpty Tryd.f15.params.toList)) = true := by kernel_rfl
theorem arenaActs_j29 : ((Rows.arenaActsRow.pinned == Rows.arenaActsRow.pinnedBy)) = true := by kernel_rfl
theorem arenaActs_j30 : ((Rows.arenaActsRow.veiled == (Tryd.f15.params.toList ++ Rows.arenaActsSpec.plain.varTypes Tryd.pinned.checked.prog ++ Tryd.f15.resultTypes.toList).any (Tryd.pinned.checked.prog.veiledRec ·))) = true := by kernel_rfl
theorem arenaActs_j31 : (Rows.arenaActsRow.veiledFits Tryd.pinned.checked.prog Tryd.f15.params.toList (Tryd.f15.params.toList ++ Rows.arenaActsSpec.plain.varTypes Tryd.pinned.checked.prog ++ Tryd.f15.resultTypes.toList)) = true := by kernel_rfl
theorem arenaActs_joined : joinedFacts Tryd.pinned.checked.prog 15 Tryd.f15 Rows.arenaActsSpec Rows.arenaActsRow = true :=
  joined_of (P := Tryd.pinned.checked.prog) (f := 15) (fn := Tryd.f15) (s := Rows.arenaActsSpec) (c := Rows.arenaActsRow) arenaActs_j0 jp1 jp2 arenaActs_j3 arenaActs_j4 arenaActs_j5 jp6 arenaActs_j7 jp8 arenaActs_j9 arenaActs_j10 arenaActs_j11 arenaActs_j12 arenaActs_j13 arenaActs_j14 arenaActs_j15 arenaActs_j16 arenaActs_j17 arenaActs_j18 arenaActs_j19 arenaActs_j20 arenaActs_j21 arenaActs_j22 arenaActs_j23 jp24 jp25 arenaActs_j26 arenaActs_j27 arenaActs_j28 arenaActs_j29 arenaActs_j30 arenaActs_j31
set_option maxRecDepth 100000 in
theorem arenaActs_lifted (walk : ∀ (a0 : Int) (a1 : Option Addr) (len1 cap1 : Nat) (z1 : List CAct) (w : World), (Lit.int .i64 a0).wf = true → IsCAct w a1 len1 cap1 z1 → (∃ a, ErrsAt w a) → Calls Tryd.prog 15 #[.int .i64 a0, .slice a1 len1 cap1] w fun e w' => e = .returned (.bool true) ∧ Below w.heap.size w w')
    (os : Os) (started : os.Started) (H : Type) (enc : TypeId × Value → H) :
    ReturnsInHanded {} Tryd.checked os 15 .any (fun w args => (Rows.arenaActsSpec.pre enc Tryd.prog Tryd.f15 [] false w args ∧ laidMetH Tryd.prog Rows.arenaActsRow.laid w) ∧ sizedMet enc Tryd.prog Tryd.f15 (OpenSpec.ofChange Rows.arenaActsSpec) false w args)
      (Rows.arenaActsSpec.post enc Tryd.prog Tryd.f15 false true false false) := by
  refine returnsInHanded_of_change_and (C := Tryd.checked) (X := fun w _ => laidMetH Tryd.prog Rows.arenaActsRow.laid w) (fun _ _ _ hh h => h.of_heap hh) own started (by kernel_rfl) Tryd.func15
    (ChangeSpec.witness_at (enc := enc) (C := Tryd.checked) (os := os) (X := fun w _ => laidMetH Tryd.prog Rows.arenaActsRow.laid w) false (laidWorld os) #[.int .i64 0, .slice none 0 0] 8 rfl (by kernel_rfl) (by kernel_rfl) (by kernel_rfl) (by kernel_rfl) (by kernel_rfl) (laid_met10 os _)) ?_
  intro W base args ds gs before hval0 hW _ _ hL _
  have hval : ∀ (j : Nat) t v, Tryd.f15.params[j]? = some t → args[j]? = some v → Value.okWide Tryd.prog W .any base t v := hval0
  have hW' := hW
  obtain ⟨p, q, hA0, hV, rfl, hfz, hnd⟩ := hW
  have hA : DataW.TrodAll enc Tryd.prog W 0 (fun _ => true) true Tryd.f15.params.toList args.toList ds p := hA0
  rw [Tryd.params15] at hA hval
  obtain ⟨v0, vs0, d0, ds0, p0, q0, hargs, rfl, rfl, h0, r0⟩ := trodAll_cons hA
  obtain ⟨v1, vs1, d1, ds1, p1, q1, rfl, rfl, rfl, h1, r1⟩ := trodAll_cons r0
  obtain ⟨rfl, rfl, rfl⟩ := trodAll_nil r1
  obtain rfl : args = #[v0, v1] := by cases args; simp_all
  obtain ⟨rfl, rfl⟩ := trodVars_none hV
  obtain ⟨a0, rfl, rfl, rfl, w0⟩ := open_int Tryd.underlying3 (hval 0 3 v0 rfl rfl) h0
  obtain ⟨a1, len1, cap1, rfl⟩ := okWide_slice Tryd.underlying114 (hval 1 114 v1 rfl rfl)
  have k1 := h1
  have lt1 : ∀ x ∈ p1, x.block < W.heap.size := by obtain ⟨m, hm⟩ := k1; exact DataW.trod_lt m _ _ _ hm
  obtain ⟨z1, w1⟩ : ∃ zs, IsCAct W a1 len1 cap1 zs := isCAct_of h1
  clear hA0 hval0
  refine (walk a0 a1 len1 cap1 z1 W w0 w1 (errs_of_laid hL)).mono fun e W' ⟨he, bel⟩ => ?_
  subst he
  exact ⟨_, rfl, _, _, _, [], _, [], hW', trodAll_mk1 (shut_bool Tryd.underlying4 _), (trodAll_cons_mk (shut_int Tryd.underlying3 w0) (trodAll_cons_mk (Below.trod laidOut (by kernel_rfl) (of_decide_eq_true (by kernel_rfl)) k1 bel lt1) trodAll_mk0)), rfl, bel.frame _, fun h => by cases h⟩
theorem arenaActs_over (walk : ∀ (a0 : Int) (a1 : Option Addr) (len1 cap1 : Nat) (z1 : List CAct) (w : World), (Lit.int .i64 a0).wf = true → IsCAct w a1 len1 cap1 z1 → (∃ a, ErrsAt w a) → Calls Tryd.prog 15 #[.int .i64 a0, .slice a1 len1 cap1] w fun e w' => e = .returned (.bool true) ∧ Below w.heap.size w w') :
    Rows.ArenaActsSaid :=
  OpenClaim.holds_of_wide 15 Tryd.f15 rfl rfl rfl rfl rfl rfl rfl ⟨rfl, rfl, rfl, rfl, rfl⟩ rfl rfl rfl rfl rfl (by kernel_rfl) Tryd.func15 arenaActs_joined
    (of_decide_eq_true (by kernel_rfl)) (by unfold Func.isWrapper; first | (rw [if_pos (by decide +kernel)]; kernel_rfl) | (rw [if_neg (by decide +kernel)]; exact ⟨rfl, rfl⟩))
    (fun os started H enc _ => arenaActs_lifted walk os started H enc)
end Go.Proofs.YtamfbfajlfbooaaDoor
