/- package grace: no such flavour, no such labels. -/
import Derived.Test.YtamfbfajlfbooaaDoorNm7
set_option linter.unusedVariables false
set_option linter.unusedSimpArgs false
set_option linter.unusedSectionVars false
namespace Go.Proofs.YtamfbfajlfbooaaDoor
open Go.RowKit Qs Qh
variable {w0 w w1 : World} {b o : Nat} {v0 : Value} {l : List Instr} {br s : ByteArray} {fe jo co : Bool} {u : Value} {c : Nat}
theorem gbad0 (f : Int) (s : ByteArray) (w : World) (a : Nat → Addr) (i : Nat) (hb : ∀ w1, Mod noF w w1 → Calls Tryd.prog 138 #[.int .i64 f, .string s] w1 fun e w' => e = .returned (.tuple #[.pointer none, errV a i]) ∧ Mod noF w1 w') :
    Calls Tryd.prog 120 #[.int .i64 f, .string s] w fun e w' => e = .returned (.tuple #[.slice none 0 0, errV a i]) ∧ Mod noF w w' := by
  unfold errV at hb ⊢
  have Hb := Lib.hid hb
  clear hb
  go_enter Tryd.func120, Tryd.ntmps120
  go_wp2_with fail
  refine (Hb.out _ (by repeat (first | exact Mod.refl _ _ | refine Mod.drew ?_ | refine Mod.drewN ?_ _ | refine Mod.alloc ?_ _ | refine Mod.setCell ?_ (fun h => absurd h (by simp)) _))).mono ?_
  rintro e w1 ⟨rfl, hm1⟩
  have hs1 := hm1.size
  have Hm1 := Lib.hid hm1
  clear hm1
  go_wp2
  go_ret2
  exact ⟨rfl, (by repeat (first | exact Hm1.out | exact ((Mod.refl noF w).alloc _).trans0 Hm1.out | refine Mod.drew ?_ | refine Mod.drewN ?_ _ | refine Mod.alloc ?_ _ | refine Mod.setCell ?_ (fun h => absurd h (by have := Hm1.out.size; simp at *; omega)) _))⟩
theorem partsbad0 (f : Int) (s : ByteArray) (w : World) (a : Nat → Addr) (i : Nat) (hb : ∀ w1, Mod noF w w1 → Calls Tryd.prog 138 #[.int .i64 f, .string s] w1 fun e w' => e = .returned (.tuple #[.pointer none, errV a i]) ∧ Mod noF w1 w') :
    Calls Tryd.prog 80 #[.int .i64 f, .string s, .int .i64 0] w fun e w' => e = .returned (.tuple #[.slice none 0 0, errV a i]) ∧ Mod noF w w' := by
  have hb := gbad0 f s w a i hb
  unfold errV at hb ⊢
  have Hb := Lib.hid hb
  clear hb
  go_enter Tryd.func80, Tryd.ntmps80
  go_wp2_with fail
  refine Hb.out.mono ?_
  rintro e w' ⟨rfl, hm⟩
  have Hm := Lib.hid hm
  clear hm
  go_wp2
  go_ret2
  exact ⟨rfl, Hm.out⟩
theorem gbad1 (f : Int) (s : ByteArray) (w : World) (a : Nat → Addr) (i : Nat) (hb : ∀ w1, Mod noF w w1 → Calls Tryd.prog 138 #[.int .i64 f, .string s] w1 fun e w' => e = .returned (.tuple #[.pointer none, errV a i]) ∧ Mod noF w1 w') :
    Calls Tryd.prog 121 #[.int .i64 f, .string s] w fun e w' => e = .returned (.tuple #[.slice none 0 0, errV a i]) ∧ Mod noF w w' := by
  unfold errV at hb ⊢
  have Hb := Lib.hid hb
  clear hb
  go_enter Tryd.func121, Tryd.ntmps121
  go_wp2_with fail
  refine (Hb.out _ (by repeat (first | exact Mod.refl _ _ | refine Mod.drew ?_ | refine Mod.drewN ?_ _ | refine Mod.alloc ?_ _ | refine Mod.setCell ?_ (fun h => absurd h (by simp)) _))).mono ?_
  rintro e w1 ⟨rfl, hm1⟩
  have hs1 := hm1.size
  have Hm1 := Lib.hid hm1
  clear hm1
  go_wp2
  go_ret2
  exact ⟨rfl, (by repeat (first | exact Hm1.out | exact ((Mod.refl noF w).alloc _).trans0 Hm1.out | refine Mod.drew ?_ | refine Mod.drewN ?_ _ | refine Mod.alloc ?_ _ | refine Mod.setCell ?_ (fun h => absurd h (by have := Hm1.out.size; simp at *; omega)) _))⟩
theorem partsbad1 (f : Int) (s : ByteArray) (w : World) (a : Nat → Addr) (i : Nat) (hb : ∀ w1, Mod noF w w1 → Calls Tryd.prog 138 #[.int .i64 f, .string s] w1 fun e w' => e = .returned (.tuple #[.pointer none, errV a i]) ∧ Mod noF w1 w') :
    Calls Tryd.prog 80 #[.int .i64 f, .string s, .int .i64 1] w fun e w' => e = .returned (.tuple #[.slice none 0 0, errV a i]) ∧ Mod noF w w' := by
  have hb := gbad1 f s w a i hb
  unfold errV at hb ⊢
  have Hb := Lib.hid hb
  clear hb
  go_enter Tryd.func80, Tryd.ntmps80
  go_wp2_with fail
  refine Hb.out.mono ?_
  rintro e w' ⟨rfl, hm⟩
  have Hm := Lib.hid hm
  clear hm
  go_wp2
  go_ret2
  exact ⟨rfl, Hm.out⟩
theorem gbad2 (f : Int) (s : ByteArray) (w : World) (a : Nat → Addr) (i : Nat) (hb : ∀ w1, Mod noF w w1 → Calls Tryd.prog 138 #[.int .i64 f, .string s] w1 fun e w' => e = .returned (.tuple #[.pointer none, errV a i]) ∧ Mod noF w1 w') :
    Calls Tryd.prog 122 #[.int .i64 f, .string s] w fun e w' => e = .returned (.tuple #[.slice none 0 0, errV a i]) ∧ Mod noF w w' := by
  unfold errV at hb ⊢
  have Hb := Lib.hid hb
  clear hb
  go_enter Tryd.func122, Tryd.ntmps122
  go_wp2_with fail
  refine (Hb.out _ (by repeat (first | exact Mod.refl _ _ | refine Mod.drew ?_ | refine Mod.drewN ?_ _ | refine Mod.alloc ?_ _ | refine Mod.setCell ?_ (fun h => absurd h (by simp)) _))).mono ?_
  rintro e w1 ⟨rfl, hm1⟩
  have hs1 := hm1.size
  have Hm1 := Lib.hid hm1
  clear hm1
  go_wp2
  go_ret2
  exact ⟨rfl, (by repeat (first | exact Hm1.out | exact ((Mod.refl noF w).alloc _).trans0 Hm1.out | refine Mod.drew ?_ | refine Mod.drewN ?_ _ | refine Mod.alloc ?_ _ | refine Mod.setCell ?_ (fun h => absurd h (by have := Hm1.out.size; simp at *; omega)) _))⟩
theorem partsbad2 (f : Int) (s : ByteArray) (w : World) (a : Nat → Addr) (i : Nat) (hb : ∀ w1, Mod noF w w1 → Calls Tryd.prog 138 #[.int .i64 f, .string s] w1 fun e w' => e = .returned (.tuple #[.pointer none, errV a i]) ∧ Mod noF w1 w') :
    Calls Tryd.prog 80 #[.int .i64 f, .string s, .int .i64 2] w fun e w' => e = .returned (.tuple #[.slice none 0 0, errV a i]) ∧ Mod noF w w' := by
  have hb := gbad2 f s w a i hb
  unfold errV at hb ⊢
  have Hb := Lib.hid hb
  clear hb
  go_enter Tryd.func80, Tryd.ntmps80
  go_wp2_with fail
  refine Hb.out.mono ?_
  rintro e w' ⟨rfl, hm⟩
  have Hm := Lib.hid hm
  clear hm
  go_wp2
  go_ret2
  exact ⟨rfl, Hm.out⟩
theorem gbad3 (f : Int) (s : ByteArray) (w : World) (a : Nat → Addr) (i : Nat) (hb : ∀ w1, Mod noF w w1 → Calls Tryd.prog 138 #[.int .i64 f, .string s] w1 fun e w' => e = .returned (.tuple #[.pointer none, errV a i]) ∧ Mod noF w1 w') :
    Calls Tryd.prog 123 #[.int .i64 f, .string s] w fun e w' => e = .returned (.tuple #[.slice none 0 0, errV a i]) ∧ Mod noF w w' := by
  unfold errV at hb ⊢
  have Hb := Lib.hid hb
  clear hb
  go_enter Tryd.func123, Tryd.ntmps123
  go_wp2_with fail
  refine (Hb.out _ (by repeat (first | exact Mod.refl _ _ | refine Mod.drew ?_ | refine Mod.drewN ?_ _ | refine Mod.alloc ?_ _ | refine Mod.setCell ?_ (fun h => absurd h (by simp)) _))).mono ?_
  rintro e w1 ⟨rfl, hm1⟩
  have hs1 := hm1.size
  have Hm1 := Lib.hid hm1
  clear hm1
  go_wp2
  go_ret2
  exact ⟨rfl, (by repeat (first | exact Hm1.out | exact ((Mod.refl noF w).alloc _).trans0 Hm1.out | refine Mod.drew ?_ | refine Mod.drewN ?_ _ | refine Mod.alloc ?_ _ | refine Mod.setCell ?_ (fun h => absurd h (by have := Hm1.out.size; simp at *; omega)) _))⟩
theorem partsbad3 (f : Int) (s : ByteArray) (w : World) (a : Nat → Addr) (i : Nat) (hb : ∀ w1, Mod noF w w1 → Calls Tryd.prog 138 #[.int .i64 f, .string s] w1 fun e w' => e = .returned (.tuple #[.pointer none, errV a i]) ∧ Mod noF w1 w') :
    Calls Tryd.prog 80 #[.int .i64 f, .string s, .int .i64 3] w fun e w' => e = .returned (.tuple #[.slice none 0 0, errV a i]) ∧ Mod noF w w' := by
  have hb := gbad3 f s w a i hb
  unfold errV at hb ⊢
  have Hb := Lib.hid hb
  clear hb
  go_enter Tryd.func80, Tryd.ntmps80
  go_wp2_with fail
  refine Hb.out.mono ?_
  rintro e w' ⟨rfl, hm⟩
  have Hm := Lib.hid hm
  clear hm
  go_wp2
  go_ret2
  exact ⟨rfl, Hm.out⟩
theorem gbad4 (f : Int) (s : ByteArray) (w : World) (a : Nat → Addr) (i : Nat) (hb : ∀ w1, Mod noF w w1 → Calls Tryd.prog 138 #[.int .i64 f, .string s] w1 fun e w' => e = .returned (.tuple #[.pointer none, errV a i]) ∧ Mod noF w1 w') :
    Calls Tryd.prog 97 #[.int .i64 f, .string s] w fun e w' => e = .returned (.tuple #[.slice none 0 0, errV a i]) ∧ Mod noF w w' := by
  unfold errV at hb ⊢
  have Hb := Lib.hid hb
  clear hb
  go_enter Tryd.func97, Tryd.ntmps97
  go_wp2_with fail
  refine (Hb.out _ (by repeat (first | exact Mod.refl _ _ | refine Mod.drew ?_ | refine Mod.drewN ?_ _ | refine Mod.alloc ?_ _ | refine Mod.setCell ?_ (fun h => absurd h (by simp)) _))).mono ?_
  rintro e w1 ⟨rfl, hm1⟩
  have hs1 := hm1.size
  have Hm1 := Lib.hid hm1
  clear hm1
  go_wp2
  go_ret2
  exact ⟨rfl, (by repeat (first | exact Hm1.out | exact ((Mod.refl noF w).alloc _).trans0 Hm1.out | refine Mod.drew ?_ | refine Mod.drewN ?_ _ | refine Mod.alloc ?_ _ | refine Mod.setCell ?_ (fun h => absurd h (by have := Hm1.out.size; simp at *; omega)) _))⟩
theorem partsbad4 (f : Int) (s : ByteArray) (w : World) (a : Nat → Addr) (i : Nat) (hb : ∀ w1, Mod noF w w1 → Calls Tryd.prog 138 #[.int .i64 f, .string s] w1 fun e w' => e = .returned (.tuple #[.pointer none, errV a i]) ∧ Mod noF w1 w') :
    Calls Tryd.prog 80 #[.int .i64 f, .string s, .int .i64 4] w fun e w' => e = .returned (.tuple #[.slice none 0 0, errV a i]) ∧ Mod noF w w' := by
  have hb := gbad4 f s w a i hb
  unfold errV at hb ⊢
  have Hb := Lib.hid hb
  clear hb
  go_enter Tryd.func80, Tryd.ntmps80
  go_wp2_with fail
  refine Hb.out.mono ?_
  rintro e w' ⟨rfl, hm⟩
  have Hm := Lib.hid hm
  clear hm
  go_wp2
  go_ret2
  exact ⟨rfl, Hm.out⟩
theorem parts_bad {k : Nat} (hk : k < 5) (f : Int) (s : ByteArray) (w : World) (a : Nat → Addr) (i : Nat) (hb : ∀ w1, Mod noF w w1 → Calls Tryd.prog 138 #[.int .i64 f, .string s] w1 fun e w' => e = .returned (.tuple #[.pointer none, errV a i]) ∧ Mod noF w1 w') :
    Calls Tryd.prog 80 #[.int .i64 f, .string s, .int .i64 k] w fun e w' => e = .returned (.tuple #[.slice none 0 0, errV a i]) ∧ Mod noF w w' := by
  match k, hk with
  | 0, _ => exact partsbad0 f s w a i hb
  | 1, _ => exact partsbad1 f s w a i hb
  | 2, _ => exact partsbad2 f s w a i hb
  | 3, _ => exact partsbad3 f s w a i hb
  | 4, _ => exact partsbad4 f s w a i hb
theorem flavours_none : True := trivial
theorem ghub_bad (f : Int) (hf : ¬ (1 ≤ f ∧ f ≤ 4)) (w : World) (a : Nat → Addr) (E : ErrsAt w a) :
    Calls Tryd.prog 81 #[.int .i64 f] w fun e w' => e = .returned (.tuple #[.slice none 0 0, errV a 1]) ∧ Mod noF w w' := by
  have hev := fun (w1 : World) (h : Mod noF w w1) => (E.keep h).var 1 (by omega)
  have hfl := flavours_bad f hf
  unfold errV at hev ⊢
  have Hev := Lib.hid hev
  clear hf E hev
  go_enter Tryd.func81, Tryd.ntmps81
  go_wp2_with fail
  refine (hfl w).mono ?_
  rintro e w1 ⟨rfl, hm1⟩
  have hv0 := Hev.out _ hm1
  have hv := Hev.out _ (hm1.alloc (.cells #[.string ⟨#[]⟩, .bool false, .bool false, .bool false] 190))
  have Hm1 := Lib.hid hm1
  clear hm1
  go_wp2
  go_region
  go_wp2
  go_ret2
  exact ⟨rfl, (by repeat (first | exact Hm1.out | refine Mod.drew ?_ | refine Mod.drewN ?_ _ | refine Mod.alloc ?_ _ | refine Mod.setCell ?_ (fun h => absurd h (by have := Hm1.out.size; simp at *; omega)) _))⟩
theorem gown_bad (f : Int) (hf : ¬ (1 ≤ f ∧ f ≤ 4)) (w : World) (a : Nat → Addr) (E : ErrsAt w a) :
    Calls Tryd.prog 82 #[.int .i64 f] w fun e w' => e = .returned (.tuple #[.slice none 0 0, errV a 1]) ∧ Mod noF w w' := by
  have hev := fun (w1 : World) (h : Mod noF w w1) => (E.keep h).var 1 (by omega)
  have hfl := flavours_bad f hf
  unfold errV at hev ⊢
  have Hev := Lib.hid hev
  clear hf E hev
  go_enter Tryd.func82, Tryd.ntmps82
  go_wp2_with fail
  refine (hfl w).mono ?_
  rintro e w1 ⟨rfl, hm1⟩
  have hv0 := Hev.out _ hm1
  have hv := Hev.out _ (hm1.alloc (.cells #[.string ⟨#[]⟩, .bool false, .bool false, .bool false] 190))
  have Hm1 := Lib.hid hm1
  clear hm1
  go_wp2
  go_region
  go_wp2
  go_ret2
  exact ⟨rfl, (by repeat (first | exact Hm1.out | refine Mod.drew ?_ | refine Mod.drewN ?_ _ | refine Mod.alloc ?_ _ | refine Mod.setCell ?_ (fun h => absurd h (by have := Hm1.out.size; simp at *; omega)) _))⟩
theorem glink_bad (f : Int) (hf : ¬ (1 ≤ f ∧ f ≤ 4)) (w : World) (a : Nat → Addr) (E : ErrsAt w a) :
    Calls Tryd.prog 83 #[.int .i64 f] w fun e w' => e = .returned (.tuple #[.int .i64 0, errV a 1]) ∧ Mod noF w w' := by
  have hev := fun (w1 : World) (h : Mod noF w w1) => (E.keep h).var 1 (by omega)
  have hfl := flavours_bad f hf
  unfold errV at hev ⊢
  have Hev := Lib.hid hev
  clear hf E hev
  go_enter Tryd.func83, Tryd.ntmps83
  go_wp2_with fail
  refine (hfl w).mono ?_
  rintro e w1 ⟨rfl, hm1⟩
  have hv0 := Hev.out _ hm1
  have hv := Hev.out _ (hm1.alloc (.cells #[.string ⟨#[]⟩, .bool false, .bool false, .bool false] 190))
  have Hm1 := Lib.hid hm1
  clear hm1
  go_wp2
  go_region
  go_wp2
  go_ret2
  exact ⟨rfl, (by repeat (first | exact Hm1.out | refine Mod.drew ?_ | refine Mod.drewN ?_ _ | refine Mod.alloc ?_ _ | refine Mod.setCell ?_ (fun h => absurd h (by have := Hm1.out.size; simp at *; omega)) _))⟩
/-- Cells at the beginning: four words. -/
def Four (w : World) (v : Value) (z : List Int) (w' : World) : Prop := ∃ b, v = .slice (some ⟨b, 0, none⟩) 4 4 ∧ w.heap.size ≤ b ∧ b < w'.heap.size ∧ (∀ (i : Nat) x, z[i]? = some x → w'.cell? ⟨b, i, none⟩ = some (.int .i64 x)) ∧ Mod noF w w'
theorem four_cells (w : World) (z : List Int) (T : TypeId) : ∀ (i : Nat) x, z[i]? = some x → (w.alloc (.cells (z.map (Value.int .i64)).toArray T)).cell? ⟨w.heap.size, i, none⟩ = some (.int .i64 x) := by
  intro i x h
  rw [World.cell?_alloc_new]
  simp [h]
theorem ghub1 (w : World) :
    Calls Tryd.prog 81 #[.int .i64 1] w fun e w' => ∃ v, e = .returned (.tuple #[v, .nilIface]) ∧ Four w v [1, 0, 0, 0] w' := by
  go_enter Tryd.func81, Tryd.ntmps81
  go_wp2_with fail
  refine (flavours1 w).mono ?_
  rintro e w1 ⟨rfl, hm1⟩
  have hs1 := hm1.size
  have Hm1 := Lib.hid hm1
  clear hm1
  go_wp2
  go_ret2
  exact ⟨_, rfl, _, rfl, by omega, by simp, fun i x h => by simpa using four_cells (w1.alloc (.cells #[.string ⟨#[102, 101, 110, 99, 101]⟩, .bool true, .bool false, .bool false] 190)) [1, 0, 0, 0] 3 i x h, (by repeat (first | exact Hm1.out | refine Mod.drew ?_ | refine Mod.drewN ?_ _ | refine Mod.alloc ?_ _ | refine Mod.setCell ?_ (fun h => absurd h (by have := Hm1.out.size; simp at *; omega)) _))⟩
theorem gown1 (w : World) :
    Calls Tryd.prog 82 #[.int .i64 1] w fun e w' => ∃ v, e = .returned (.tuple #[v, .nilIface]) ∧ Four w v [0, 0, 0, 0] w' := by
  go_enter Tryd.func82, Tryd.ntmps82
  go_wp2_with fail
  refine (flavours1 w).mono ?_
  rintro e w1 ⟨rfl, hm1⟩
  have hs1 := hm1.size
  have Hm1 := Lib.hid hm1
  clear hm1
  go_wp2
  go_ret2
  exact ⟨_, rfl, _, rfl, by omega, by simp, fun i x h => by simpa using four_cells (w1.alloc (.cells #[.string ⟨#[102, 101, 110, 99, 101]⟩, .bool true, .bool false, .bool false] 190)) [0, 0, 0, 0] 3 i x h, (by repeat (first | exact Hm1.out | refine Mod.drew ?_ | refine Mod.drewN ?_ _ | refine Mod.alloc ?_ _ | refine Mod.setCell ?_ (fun h => absurd h (by have := Hm1.out.size; simp at *; omega)) _))⟩
theorem glink1 (w : World) :
    Calls Tryd.prog 83 #[.int .i64 1] w fun e w' => e = .returned (.tuple #[.int .i64 2, .nilIface]) ∧ Mod noF w w' := by
  go_enter Tryd.func83, Tryd.ntmps83
  go_wp2_with fail
  refine (flavours1 w).mono ?_
  rintro e w1 ⟨rfl, hm1⟩
  have hs1 := hm1.size
  have Hm1 := Lib.hid hm1
  clear hm1
  go_wp2
  go_ret2
  exact ⟨rfl, (by repeat (first | exact Hm1.out | refine Mod.drew ?_ | refine Mod.drewN ?_ _ | refine Mod.alloc ?_ _ | refine Mod.setCell ?_ (fun h => absurd h (by have := Hm1.out.size; simp at *; omega)) _))⟩
theorem ghub2 (w : World) :
    Calls Tryd.prog 81 #[.int .i64 2] w fun e w' => ∃ v, e = .returned (.tuple #[v, .nilIface]) ∧ Four w v [1, 0, 0, 0] w' := by
  go_enter Tryd.func81, Tryd.ntmps81
  go_wp2_with fail
  refine (flavours2 w).mono ?_
  rintro e w1 ⟨rfl, hm1⟩
  have hs1 := hm1.size
  have Hm1 := Lib.hid hm1
  clear hm1
  go_wp2
  go_ret2
  exact ⟨_, rfl, _, rfl, by omega, by simp, fun i x h => by simpa using four_cells (w1.alloc (.cells #[.string ⟨#[102, 111, 114, 99, 101]⟩, .bool false, .bool false, .bool false] 190)) [1, 0, 0, 0] 3 i x h, (by repeat (first | exact Hm1.out | refine Mod.drew ?_ | refine Mod.drewN ?_ _ | refine Mod.alloc ?_ _ | refine Mod.setCell ?_ (fun h => absurd h (by have := Hm1.out.size; simp at *; omega)) _))⟩
theorem gown2 (w : World) :
    Calls Tryd.prog 82 #[.int .i64 2] w fun e w' => ∃ v, e = .returned (.tuple #[v, .nilIface]) ∧ Four w v [0, 0, 0, 0] w' := by
  go_enter Tryd.func82, Tryd.ntmps82
  go_wp2_with fail
  refine (flavours2 w).mono ?_
  rintro e w1 ⟨rfl, hm1⟩
  have hs1 := hm1.size
  have Hm1 := Lib.hid hm1
  clear hm1
  go_wp2
  go_ret2
  exact ⟨_, rfl, _, rfl, by omega, by simp, fun i x h => by simpa using four_cells (w1.alloc (.cells #[.string ⟨#[102, 111, 114, 99, 101]⟩, .bool false, .bool false, .bool false] 190)) [0, 0, 0, 0] 3 i x h, (by repeat (first | exact Hm1.out | refine Mod.drew ?_ | refine Mod.drewN ?_ _ | refine Mod.alloc ?_ _ | refine Mod.setCell ?_ (fun h => absurd h (by have := Hm1.out.size; simp at *; omega)) _))⟩
theorem glink2 (w : World) :
    Calls Tryd.prog 83 #[.int .i64 2] w fun e w' => e = .returned (.tuple #[.int .i64 2, .nilIface]) ∧ Mod noF w w' := by
  go_enter Tryd.func83, Tryd.ntmps83
  go_wp2_with fail
  refine (flavours2 w).mono ?_
  rintro e w1 ⟨rfl, hm1⟩
  have hs1 := hm1.size
  have Hm1 := Lib.hid hm1
  clear hm1
  go_wp2
  go_ret2
  exact ⟨rfl, (by repeat (first | exact Hm1.out | refine Mod.drew ?_ | refine Mod.drewN ?_ _ | refine Mod.alloc ?_ _ | refine Mod.setCell ?_ (fun h => absurd h (by have := Hm1.out.size; simp at *; omega)) _))⟩
theorem ghub3 (w : World) :
    Calls Tryd.prog 81 #[.int .i64 3] w fun e w' => ∃ v, e = .returned (.tuple #[v, .nilIface]) ∧ Four w v [1, 0, 0, 0] w' := by
  go_enter Tryd.func81, Tryd.ntmps81
  go_wp2_with fail
  refine (flavours3 w).mono ?_
  rintro e w1 ⟨rfl, hm1⟩
  have hs1 := hm1.size
  have Hm1 := Lib.hid hm1
  clear hm1
  go_wp2
  go_ret2
  exact ⟨_, rfl, _, rfl, by omega, by simp, fun i x h => by simpa using four_cells (w1.alloc (.cells #[.string ⟨#[102, 101, 110, 99, 101]⟩, .bool false, .bool false, .bool true] 190)) [1, 0, 0, 0] 3 i x h, (by repeat (first | exact Hm1.out | refine Mod.drew ?_ | refine Mod.drewN ?_ _ | refine Mod.alloc ?_ _ | refine Mod.setCell ?_ (fun h => absurd h (by have := Hm1.out.size; simp at *; omega)) _))⟩
theorem gown3 (w : World) :
    Calls Tryd.prog 82 #[.int .i64 3] w fun e w' => ∃ v, e = .returned (.tuple #[v, .nilIface]) ∧ Four w v [1, 0, 0, 0] w' := by
  go_enter Tryd.func82, Tryd.ntmps82
  go_wp2_with fail
  refine (flavours3 w).mono ?_
  rintro e w1 ⟨rfl, hm1⟩
  have hs1 := hm1.size
  have Hm1 := Lib.hid hm1
  clear hm1
  go_wp2
  go_ret2
  exact ⟨_, rfl, _, rfl, by omega, by simp, fun i x h => by simpa using four_cells (w1.alloc (.cells #[.string ⟨#[102, 101, 110, 99, 101]⟩, .bool false, .bool false, .bool true] 190)) [1, 0, 0, 0] 3 i x h, (by repeat (first | exact Hm1.out | refine Mod.drew ?_ | refine Mod.drewN ?_ _ | refine Mod.alloc ?_ _ | refine Mod.setCell ?_ (fun h => absurd h (by have := Hm1.out.size; simp at *; omega)) _))⟩
theorem glink3 (w : World) :
    Calls Tryd.prog 83 #[.int .i64 3] w fun e w' => e = .returned (.tuple #[.int .i64 2, .nilIface]) ∧ Mod noF w w' := by
  go_enter Tryd.func83, Tryd.ntmps83
  go_wp2_with fail
  refine (flavours3 w).mono ?_
  rintro e w1 ⟨rfl, hm1⟩
  have hs1 := hm1.size
  have Hm1 := Lib.hid hm1
  clear hm1
  go_wp2
  go_ret2
  exact ⟨rfl, (by repeat (first | exact Hm1.out | refine Mod.drew ?_ | refine Mod.drewN ?_ _ | refine Mod.alloc ?_ _ | refine Mod.setCell ?_ (fun h => absurd h (by have := Hm1.out.size; simp at *; omega)) _))⟩
theorem ghub4 (w : World) :
    Calls Tryd.prog 81 #[.int .i64 4] w fun e w' => ∃ v, e = .returned (.tuple #[v, .nilIface]) ∧ Four w v [1, 0, 0, 0] w' := by
  go_enter Tryd.func81, Tryd.ntmps81
  go_wp2_with fail
  refine (flavours4 w).mono ?_
  rintro e w1 ⟨rfl, hm1⟩
  have hs1 := hm1.size
  have Hm1 := Lib.hid hm1
  clear hm1
  go_wp2
  go_ret2
  exact ⟨_, rfl, _, rfl, by omega, by simp, fun i x h => by simpa using four_cells (w1.alloc (.cells #[.string ⟨#[102, 101, 110, 99, 101]⟩, .bool true, .bool true, .bool false] 190)) [1, 0, 0, 0] 3 i x h, (by repeat (first | exact Hm1.out | refine Mod.drew ?_ | refine Mod.drewN ?_ _ | refine Mod.alloc ?_ _ | refine Mod.setCell ?_ (fun h => absurd h (by have := Hm1.out.size; simp at *; omega)) _))⟩
theorem gown4 (w : World) :
    Calls Tryd.prog 82 #[.int .i64 4] w fun e w' => ∃ v, e = .returned (.tuple #[v, .nilIface]) ∧ Four w v [0, 0, 0, 0] w' := by
  go_enter Tryd.func82, Tryd.ntmps82
  go_wp2_with fail
  refine (flavours4 w).mono ?_
  rintro e w1 ⟨rfl, hm1⟩
  have hs1 := hm1.size
  have Hm1 := Lib.hid hm1
  clear hm1
  go_wp2
  go_ret2
  exact ⟨_, rfl, _, rfl, by omega, by simp, fun i x h => by simpa using four_cells (w1.alloc (.cells #[.string ⟨#[102, 101, 110, 99, 101]⟩, .bool true, .bool true, .bool false] 190)) [0, 0, 0, 0] 3 i x h, (by repeat (first | exact Hm1.out | refine Mod.drew ?_ | refine Mod.drewN ?_ _ | refine Mod.alloc ?_ _ | refine Mod.setCell ?_ (fun h => absurd h (by have := Hm1.out.size; simp at *; omega)) _))⟩
theorem glink4 (w : World) :
    Calls Tryd.prog 83 #[.int .i64 4] w fun e w' => e = .returned (.tuple #[.int .i64 (-1), .nilIface]) ∧ Mod noF w w' := by
  go_enter Tryd.func83, Tryd.ntmps83
  go_wp2_with fail
  refine (flavours4 w).mono ?_
  rintro e w1 ⟨rfl, hm1⟩
  have hs1 := hm1.size
  have Hm1 := Lib.hid hm1
  clear hm1
  go_wp2
  go_ret2
  exact ⟨rfl, (by repeat (first | exact Hm1.out | refine Mod.drew ?_ | refine Mod.drewN ?_ _ | refine Mod.alloc ?_ _ | refine Mod.setCell ?_ (fun h => absurd h (by have := Hm1.out.size; simp at *; omega)) _))⟩
end Go.Proofs.YtamfbfajlfbooaaDoor
