/- R.SameInts; the law Names, walked. -/
import Derived.Test.YtamfbfajlfbooaaDoorRFaultCode
import Derived.Test.YtamfbfajlfbooaaDoorRm2
import Derived.Deep.QuietTactic
import Derived.BigQuiet
import Derived.Outline
set_option linter.unusedVariables false
set_option linter.unusedSimpArgs false
set_option linter.unusedSectionVars false
namespace Go.Proofs.YtamfbfajlfbooaaDoor
open Go.RowKit Qs Qh
theorem intsAt_new {w : World} {b : Nat} {l : List Int} {T : TypeId} (h : w.heap[b]? = some (.cells (l.map (Value.int .i64)).toArray T (0, 0))) (hl : l.length ≤ maxLen) : IntsAt w (.slice (some ⟨b, 0, none⟩) l.length l.length) l :=
  ⟨_, _, rfl, hl, fun i x hi => ⟨b, 0, rfl, lt_of_block h, by rw [cell_of_heap h]; simp [hi]⟩⟩
theorem sameInts_same (v u : Value) (l : List Int) (w : World) (hv : IntsAt w v l) (hu : IntsAt w u l) (hl : l.length ≤ 1000000) :
    Calls Tryd.prog 36 #[v, u] w fun e w' => e = .returned (.bool true) ∧ Mod noF w w' := by
  obtain ⟨va, vc, rfl, _⟩ := hv.at_
  obtain ⟨ua, uc, rfl, _⟩ := hu.at_
  have Hv := Lib.hid hv
  have Hu := Lib.hid hu
  clear hv hu
  have heq : ((l.length : Int) != (l.length : Int)) = false := by simp
  go_enter Tryd.func36, Tryd.ntmps36
  go_wp2
  go_loopw [5] (fun i wr => ∃ k : Nat, k ≤ l.length ∧ i = .int .i64 k ∧ Mod noF w wr) (fun i _ => l.length - (intOf i).toNat)
  case atStart => exact ⟨0, Nat.zero_le _, rfl, Mod.refl _ _⟩
  case round =>
    obtain ⟨k, hk, rfl, hm⟩ := hrel
    have iv_ := Hv.out.frame0 hm
    have iu_ := Hu.out.frame0 hm
    have Hm := Lib.hid hm
    clear hm
    by_cases hlt : k < l.length
    · have hd : decide ((k : Int) < (l.length : Int)) = true := by simp; omega
      have hlti : (k : Int) < (l.length : Int) := by omega
      obtain ⟨x, hx⟩ : ∃ x, l[k]? = some x := ⟨_, List.getElem?_eq_getElem hlt⟩
      obtain ⟨va', vc', e', _, hcv⟩ := iv_.at_
      cases e'
      obtain ⟨ua', uc', e', _, hcu⟩ := iu_.at_
      cases e'
      obtain ⟨b1, o1, rfl, hb1, hc1⟩ := hcv k x hx
      obtain ⟨b2, o2, rfl, hb2, hc2⟩ := hcu k x hx
      clear iv_ iu_ hcv hcu hx
      go_wp2
      go_quiet (fail)
      go_wp2
      go_roundw
      case rel => exact ⟨k + 1, by omega, by go_num, Hm.out.drewN _⟩
      case measure => simp [intOf]; omega
    · have hd : decide ((k : Int) < (l.length : Int)) = false := by simp; omega
      clear iv_ iu_
      go_wp2
      go_ret
      exact ⟨rfl, Hm.out⟩
theorem errNew (s : ByteArray) (w : World) : Calls Tryd.prog 39 #[.string s] w fun e w' => e = .returned (.iface 152 (.pointer (some ⟨w.heap.size, 0, none⟩))) ∧ w' = w.alloc (.cells #[.string s] 154) := by
  go_enter Tryd.func39, Tryd.ntmps39
  go_wp2
  go_ret
  exact ⟨rfl, rfl⟩
set_option maxHeartbeats 4000000 in
theorem names_mod (w : World) (a : Nat → Addr) (E : ErrsAt w a) :
    Calls Tryd.prog 6 #[] w fun e w' => e = .returned (.bool true) ∧ Mod noF w w' := by
  have HE := Lib.hid E
  clear E
  go_enter Tryd.func6, Tryd.ntmps6
  go_wp2_with fail
  have hh0 := heap_alloc_new w (.cells #[.int .i64 64, .int .i64 4, .int .i64 6, .int .i64 8, .int .i64 8, .int .i64 2000, .int .i64 40000, .int .i64 12, .int .i64 20000, .int .i64 60000, .int .i64 20, .int .i64 500, .int .i64 100, .int .i64 16, .int .i64 1, .int .i64 2, .int .i64 3, .int .i64 4] 3)
  have hh1 := heap_alloc_new (w.alloc (.cells #[.int .i64 64, .int .i64 4, .int .i64 6, .int .i64 8, .int .i64 8, .int .i64 2000, .int .i64 40000, .int .i64 12, .int .i64 20000, .int .i64 60000, .int .i64 20, .int .i64 500, .int .i64 100, .int .i64 16, .int .i64 1, .int .i64 2, .int .i64 3, .int .i64 4] 3)) (.cells #[.int .i64 64, .int .i64 4, .int .i64 6, .int .i64 8, .int .i64 8, .int .i64 2000, .int .i64 40000, .int .i64 12, .int .i64 20000, .int .i64 60000, .int .i64 20, .int .i64 500, .int .i64 100, .int .i64 16, .int .i64 1, .int .i64 2, .int .i64 3, .int .i64 4] 3)
  have hh2 := (Below.heap_alloc (w.alloc (.cells #[.int .i64 64, .int .i64 4, .int .i64 6, .int .i64 8, .int .i64 8, .int .i64 2000, .int .i64 40000, .int .i64 12, .int .i64 20000, .int .i64 60000, .int .i64 20, .int .i64 500, .int .i64 100, .int .i64 16, .int .i64 1, .int .i64 2, .int .i64 3, .int .i64 4] 3)) (.cells #[.int .i64 64, .int .i64 4, .int .i64 6, .int .i64 8, .int .i64 8, .int .i64 2000, .int .i64 40000, .int .i64 12, .int .i64 20000, .int .i64 60000, .int .i64 20, .int .i64 500, .int .i64 100, .int .i64 16, .int .i64 1, .int .i64 2, .int .i64 3, .int .i64 4] 3) _ (lt_of_block hh0)).trans hh0
  have i1 := intsAt_new (l := [64, 4, 6, 8, 8, 2000, 40000, 12, 20000, 60000, 20, 500, 100, 16, 1, 2, 3, 4]) hh2 (by decide)
  have i2 := intsAt_new (l := [64, 4, 6, 8, 8, 2000, 40000, 12, 20000, 60000, 20, 500, 100, 16, 1, 2, 3, 4]) hh1 (by decide)
  have hsz : (w.alloc (.cells #[.int .i64 64, .int .i64 4, .int .i64 6, .int .i64 8, .int .i64 8, .int .i64 2000, .int .i64 40000, .int .i64 12, .int .i64 20000, .int .i64 60000, .int .i64 20, .int .i64 500, .int .i64 100, .int .i64 16, .int .i64 1, .int .i64 2, .int .i64 3, .int .i64 4] 3)).heap.size = w.heap.size + 1 := by simp
  rw [hsz] at i2
  have hcall := sameInts_same _ _ _ _ i1 i2 (by decide)
  clear hh0 hh1 hh2 i1 i2 hsz
  refine hcall.mono ?_
  rintro e w1 ⟨rfl, hm1⟩
  have hm := (((Mod.refl noF w).alloc _).alloc _).trans0 hm1
  have E1 := HE.out.keep hm
  have v0 := E1.var 0 (by omega)
  have v1 := E1.var 1 (by omega)
  have v2 := E1.var 2 (by omega)
  have v3 := E1.var 3 (by omega)
  have v4 := E1.var 4 (by omega)
  have v5 := E1.var 5 (by omega)
  have v6 := E1.var 6 (by omega)
  have v7 := E1.var 7 (by omega)
  have v8 := E1.var 8 (by omega)
  have Hm := Lib.hid hm
  have HE1 := Lib.hid E1
  clear hm1 hm E1 hcall
  go_wp2
  obtain ⟨wx, hwx⟩ : ∃ wx, w1.alloc (.cells #[.iface 152 (.pointer (some (a 0))), .iface 152 (.pointer (some (a 1))), .iface 152 (.pointer (some (a 2))), .iface 152 (.pointer (some (a 3))), .iface 152 (.pointer (some (a 4))), .iface 152 (.pointer (some (a 5))), .iface 152 (.pointer (some (a 6))), .iface 152 (.pointer (some (a 7))), .iface 152 (.pointer (some (a 8)))] 54) = wx := ⟨_, rfl⟩
  rw [hwx]
  have hq : Mod noF w1 wx := hwx ▸ (Mod.refl noF w1).alloc _
  have E3 := HE1.out.keep hq
  have hnew := hwx ▸ heap_alloc_new w1 (.cells #[.iface 152 (.pointer (some (a 0))), .iface 152 (.pointer (some (a 1))), .iface 152 (.pointer (some (a 2))), .iface 152 (.pointer (some (a 3))), .iface 152 (.pointer (some (a 4))), .iface 152 (.pointer (some (a 5))), .iface 152 (.pointer (some (a 6))), .iface 152 (.pointer (some (a 7))), .iface 152 (.pointer (some (a 8)))] 54)
  have hfin := Hm.out.trans0 hq
  have HE3 := Lib.hid E3
  have Hnew := Lib.hid hnew
  have Hfin := Lib.hid hfin
  have Hq := Lib.hid hq
  clear hwx hq E3 hnew hfin v0 v1 v2 v3 v4 v5 v6 v7 v8
  go_loopw [4, 5, 6] (fun i _ _ wr => ∃ k : Nat, k ≤ 9 ∧ i = .int .i64 k ∧ Mod noF wx wr) (fun i _ _ _ => 9 - (intOf i).toNat)
  case atStart => exact ⟨0, Nat.zero_le _, rfl, Mod.refl _ _⟩
  case round =>
    obtain ⟨k, hk, rfl, hmr⟩ := hrel
    have hcell : ∀ W, Mod noF wx W → k < 9 → W.cell? ⟨w1.heap.size, k, none⟩ = some (.iface 152 (.pointer (some (a k)))) := fun W hW hk9 => by
      rw [cell_of_heap (hW.heap Hnew.out (fun e => e))]
      rcases (by omega : k = 0 ∨ k = 1 ∨ k = 2 ∨ k = 3 ∨ k = 4 ∨ k = 5 ∨ k = 6 ∨ k = 7 ∨ k = 8) with rfl | rfl | rfl | rfl | rfl | rfl | rfl | rfl | rfl <;> rfl
    have Hmr := Lib.hid hmr
    by_cases hlt : (k : Int) < 9
    · have hd : decide ((k : Int) < 9) = true := by simp; omega
      have hc := hcell wr hmr (by omega)
      have hbl := World.block_lt_of_cell? _ _ hc
      have Hcell := Lib.hid hcell
      clear hcell hmr
      go_wp2_with fail
      have hb := heap_alloc_new wr (.cells #[.int .i64 7, .iface 152 (.pointer (some (a k)))] 76)
      refine (code_fault (HE3.out.keep (Hmr.out.alloc (.cells #[.int .i64 7, .iface 152 (.pointer (some (a k)))] 76))) k (by omega) wr.heap.size 7 ((cell_of_heap hb 0).trans rfl) ((cell_of_heap hb 1).trans rfl)).mono ?_
      rintro e w5 ⟨rfl, hm5⟩
      have hm5' := (Hmr.out.alloc (.cells #[.int .i64 7, .iface 152 (.pointer (some (a k)))] 76)).trans0 hm5
      have hc5 := Hcell.out w5 hm5' (by omega)
      have hbl5 := World.block_lt_of_cell? _ _ hc5
      have Hm5 := Lib.hid hm5'
      clear hm5 hm5' hb hc hbl
      go_wp2_with fail
      have hcod := coded_at (HE3.out.keep Hm5.out) k (by omega) ((k : Int) + 1)
      rw [show decide ((k : Int) + 1 = (k : Int) + 1) = true by simp] at hcod
      unfold errV at hcod
      refine hcod.mono ?_
      rintro e w6 ⟨rfl, hm6⟩
      have Hm6 := Lib.hid (Hm5.out.trans0 hm6)
      have hne : ((k : Int) + 1 != (k : Int) + 1) = false := by simp
      clear hm6 hcod
      go_wp2
      go_roundw
      case rel => exact ⟨k + 1, by omega, by go_num, Hm6.out⟩
      case measure => simp [intOf]; omega
    · have hd : decide ((k : Int) < 9) = false := by simpa using hlt
      clear hcell hmr
      go_wp2_with fail
      refine (errNew _ wr).mono ?_
      rintro e w5 ⟨rfl, rfl⟩
      have E4 := HE3.out.keep Hmr.out
      have E5 := E4.keep ((Mod.refl noF wr).alloc (.cells #[.string ⟨#[97, 110, 111, 116, 104, 101, 114, 32, 111, 110, 101]⟩] 154))
      have hcall := code_other E5 ⟨wr.heap.size, 0, none⟩ ⟨_, _, heap_alloc_new wr _⟩ (fun k hk e => by
        obtain ⟨c, t, h⟩ := E4.obj k hk
        have := lt_of_block h
        rw [← e] at this
        exact Nat.lt_irrefl _ this)
      have HE5 := Lib.hid E5
      have Hcall := Lib.hid hcall
      clear E4 E5 hcall
      go_wp2_with fail
      refine Hcall.out.mono ?_
      rintro e w6 ⟨rfl, hm6⟩
      have Hm6 := Lib.hid ((Hmr.out.alloc _).trans0 hm6)
      clear hm6
      go_wp2_with fail
      refine (coded_nil 0 w6).mono ?_
      rintro e w7 ⟨rfl, rfl⟩
      go_wp2
      go_ret
      exact ⟨rfl, Hfin.out.trans0 Hm6.out⟩
theorem names_any (w : World) (h : ∃ a, ErrsAt w a) :
    Calls Tryd.prog 6 #[] w fun e w' => e = .returned (.bool true) ∧ Below w.heap.size w w' := by
  obtain ⟨a, E⟩ := h
  exact (names_mod w a E).mono fun _ _ h => ⟨h.1, h.2.toBelow⟩
end Go.Proofs.YtamfbfajlfbooaaDoor
