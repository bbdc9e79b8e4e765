/- Texts that belong together, joined. -/
import Derived.Test.YtamfbfajlfbooaaDoorRAs
import Derived.LoopTactic
import Derived.Outline
set_option linter.unusedVariables false
set_option linter.unusedSimpArgs false
set_option linter.unusedSectionVars false
/- plain.Code, coded, at nil and at the program's sentinels. -/
section
namespace Go.Proofs.YtamfbfajlfbooaaDoor
open Go.RowKit Go.Extern.Stop Go.Stop Go.Extern Qh
/-- The package-level variables as the program's text lays them: sentinel i is variable i; a type's handle is variable 9. -/
structure ErrsAt (W : World) (a : Nat → Addr) : Prop where
  var : ∀ i, i < 9 → W.cell? ⟨i, 0, none⟩ = some (.iface 152 (.pointer (some (a i))))
  obj : ∀ i, i < 9 → ∃ c t, W.heap[(a i).block]? = some (.cells c t (0, 0))
  inj : ∀ i j, i < 9 → j < 9 → i ≠ j → a i ≠ a j
  et : W.cell? ⟨9, 0, none⟩ = some (.iface 231 (.agg #[.pointer (some ⟨10, 54, none⟩)]))
theorem ErrsAt.keep {W W' : World} {a : Nat → Addr} (h : ErrsAt W a) (hM : Mod noF W W') : ErrsAt W' a :=
  ⟨fun i hi => hM.cell (h.var i hi) (fun e => e), fun i hi => by obtain ⟨c, t, e⟩ := h.obj i hi; exact ⟨c, t, hM.heap e (fun e => e)⟩, h.inj, hM.cell h.et (fun e => e)⟩
/-- The error of sentinel i. -/
def errV (a : Nat → Addr) (i : Nat) : Value := .iface 152 (.pointer (some (a i)))
theorem is_at {W : World} {a : Nat → Addr} (h : ErrsAt W a) {i k : Nat} (hi : i < 9) (hk : k < 9) :
    Calls Tryd.prog 96 #[errV a i, errV a k] W fun e w' => e = .returned (.bool (decide (i = k))) ∧ w' = W := by
  by_cases e : i = k
  · subst e
    exact (is_same (a i) W).mono fun _ _ h => ⟨by rw [h.1]; simp, h.2⟩
  · obtain ⟨c, t, e1⟩ := h.obj i hi
    obtain ⟨c2, t2, e2⟩ := h.obj k hk
    exact (is_other (a i) (a k) c c2 t t2 W (h.inj i k hi hk e) e1 e2).mono fun _ _ h => ⟨by rw [h.1]; simp [e], h.2⟩
theorem code_nil (w : World) : Calls Tryd.prog 37 #[.nilIface] w fun e w' => e = .returned (.tuple #[.int .i64 0, .int .i64 (-1)]) ∧ w' = w := by
  go_enter Tryd.func37, Tryd.ntmps37
  go_wp2
  go_ret2
  exact ⟨rfl, rfl⟩
set_option maxHeartbeats 4000000 in
theorem code_at {w : World} {a : Nat → Addr} (E : ErrsAt w a) (i : Nat) (hi : i < 9) :
    Calls Tryd.prog 37 #[errV a i] w fun e w' => e = .returned (.tuple #[.int .i64 ((i : Int) + 1), .int .i64 (-1)]) ∧ Mod noF w w' := by
  have HE := Lib.hid E
  clear E
  go_enter Tryd.func37, Tryd.ntmps37
  unfold errV
  go_wp2_with fail
  refine (as_miss (a i) ⟨w.heap.size, 0, none⟩ _ ((HE.out.keep ((Mod.refl noF w).alloc _)).et)).mono ?_
  rintro e w2 ⟨rfl, hm2⟩
  have hm := ((Mod.refl noF w).alloc (.cells #[.pointer none] 74)).trans0 hm2
  have E2 := HE.out.keep hm
  have v0 := E2.var 0 (by omega)
  have v1 := E2.var 1 (by omega)
  have v2 := E2.var 2 (by omega)
  have v3 := E2.var 3 (by omega)
  have v4 := E2.var 4 (by omega)
  have v5 := E2.var 5 (by omega)
  have v6 := E2.var 6 (by omega)
  have v7 := E2.var 7 (by omega)
  have v8 := E2.var 8 (by omega)
  have Hm := Lib.hid hm
  have HE2 := Lib.hid E2
  clear hm2 hm E2
  go_wp2
  obtain ⟨wx, hwx⟩ : ∃ wx, w2.alloc (.cells #[.iface 152 (.pointer (some (a 0))), .iface 152 (.pointer (some (a 1))), .iface 152 (.pointer (some (a 2))), .iface 152 (.pointer (some (a 3))), .iface 152 (.pointer (some (a 4))), .iface 152 (.pointer (some (a 5))), .iface 152 (.pointer (some (a 6))), .iface 152 (.pointer (some (a 7))), .iface 152 (.pointer (some (a 8)))] 54) = wx := ⟨_, rfl⟩
  rw [hwx]
  have hq : Mod noF w2 wx := hwx ▸ (Mod.refl noF w2).alloc _
  have E3 := HE2.out.keep hq
  have hnew := hwx ▸ heap_alloc_new w2 (.cells #[.iface 152 (.pointer (some (a 0))), .iface 152 (.pointer (some (a 1))), .iface 152 (.pointer (some (a 2))), .iface 152 (.pointer (some (a 3))), .iface 152 (.pointer (some (a 4))), .iface 152 (.pointer (some (a 5))), .iface 152 (.pointer (some (a 6))), .iface 152 (.pointer (some (a 7))), .iface 152 (.pointer (some (a 8)))] 54)
  have hcell : ∀ k : Nat, k < 9 → wx.cell? ⟨w2.heap.size, 0 + k, none⟩ = some (errV a k) := fun k hk => by
    rw [cell_of_heap hnew]
    rcases (by omega : k = 0 ∨ k = 1 ∨ k = 2 ∨ k = 3 ∨ k = 4 ∨ k = 5 ∨ k = 6 ∨ k = 7 ∨ k = 8) with rfl | rfl | rfl | rfl | rfl | rfl | rfl | rfl | rfl <;> rfl
  have hfin := Hm.out.trans0 hq
  have HE3 := Lib.hid E3
  have Hcell := Lib.hid hcell
  have Hfin := Lib.hid hfin
  clear hwx hq E3 hnew hcell hfin v0 v1 v2 v3 v4 v5 v6 v7 v8
  go_loop [3, 5, 6, 27] (fun v3 _ _ x => ∃ k : Nat, k ≤ i ∧ x = .int .i64 k ∧ v3 = .int .i64 (-1)) (fun _ _ _ x => 9 - (intOf x).toNat)
  case atStart => exact ⟨0, Nat.zero_le _, rfl, rfl⟩
  case round =>
    obtain ⟨k, hk, rfl, rfl⟩ := hrel
    have hlt : (k : Int) < 9 := by omega
    have hd : decide ((k : Int) < 9) = true := by simp; omega
    have hc := Hcell.out k (by omega)
    rw [Nat.zero_add] at hc
    have hcall := is_at HE3.out hi (show k < 9 by omega)
    unfold errV at hc hcall
    have Hcall := Lib.hid hcall
    clear hcall
    go_wp2_with fail
    refine Hcall.out.mono ?_
    rintro e w' ⟨rfl, rfl⟩
    by_cases e : i = k
    · subst e
      have hdd : decide (i = i) = true := by simp
      rw [hdd]
      clear hdd
      go_wp2
      go_ret2
      exact ⟨rfl, Hfin.out⟩
    · have hdd : decide (i = k) = false := by simpa using e
      have hik : k < i := by omega
      rw [hdd]
      clear hdd e
      go_wp2
      go_round
      case rel => exact ⟨k + 1, by omega, by go_num, rfl⟩
      case measure => simp [intOf]; omega
theorem coded_nil (n : Int) (w : World) : Calls Tryd.prog 38 #[.nilIface, .int .i64 n] w fun e w' => e = .returned (.bool (decide (n = 0))) ∧ w' = w := by
  by_cases h : n = 0
  · subst h
    go_enter Tryd.func38, Tryd.ntmps38
    go_wp2_with fail
    refine (code_nil w).mono ?_
    rintro e w' ⟨rfl, rfl⟩
    go_wp2
    go_ret
    exact ⟨rfl, rfl⟩
  · have h1 : ((0 : Int) == n) = false := by rw [beq_eq_false_iff_ne]; omega
    have h2 : decide (n = 0) = false := by simpa using h
    rw [h2]
    go_enter Tryd.func38, Tryd.ntmps38
    go_wp2_with fail
    refine (code_nil w).mono ?_
    rintro e w' ⟨rfl, rfl⟩
    go_wp2
    go_ret
    exact ⟨rfl, rfl⟩
theorem coded_at {w : World} {a : Nat → Addr} (E : ErrsAt w a) (i : Nat) (hi : i < 9) (n : Int) : Calls Tryd.prog 38 #[errV a i, .int .i64 n] w fun e w' => e = .returned (.bool (decide (n = (i : Int) + 1))) ∧ Mod noF w w' := by
  have hcall := code_at E i hi
  by_cases h : n = (i : Int) + 1
  · subst h
    rw [show decide ((i : Int) + 1 = (i : Int) + 1) = true by simp]
    have Hcall := Lib.hid hcall
    clear hcall E
    go_enter Tryd.func38, Tryd.ntmps38
    go_wp2_with fail
    refine Hcall.out.mono ?_
    rintro e w' ⟨rfl, hm⟩
    have Hm := Lib.hid hm
    clear hm
    go_wp2
    go_ret
    exact ⟨rfl, Hm.out⟩
  · have h1 : ((i : Int) + 1 == n) = false := by rw [beq_eq_false_iff_ne]; omega
    rw [show decide (n = (i : Int) + 1) = false by simpa using h]
    have Hcall := Lib.hid hcall
    clear hcall E h
    go_enter Tryd.func38, Tryd.ntmps38
    go_wp2_with fail
    refine Hcall.out.mono ?_
    rintro e w' ⟨rfl, hm⟩
    have Hm := Lib.hid hm
    clear hm
    go_wp2
    go_ret
    exact ⟨rfl, Hm.out⟩
end Go.Proofs.YtamfbfajlfbooaaDoor
end
/- Four of the sentinels: those that cells and stores that wait tell of. -/
section
namespace Go.Proofs.YtamfbfajlfbooaaDoor
open Go.RowKit Qh
structure Errs4 (W : World) (a : Nat → Addr) : Prop where
  var : ∀ i, (i = 1 ∨ i = 4 ∨ i = 5 ∨ i = 6) → W.cell? ⟨i, 0, none⟩ = some (.iface 152 (.pointer (some (a i))))
theorem Errs4.keep {W W' : World} {a : Nat → Addr} (h : Errs4 W a) (hM : Mod noF W W') : Errs4 W' a := ⟨fun i hi => hM.cell (h.var i hi) (fun e => e)⟩
theorem ErrsAt.four {W : World} {a : Nat → Addr} (h : ErrsAt W a) : Errs4 W a := ⟨fun i hi => h.var i (by omega)⟩
end Go.Proofs.YtamfbfajlfbooaaDoor
end
