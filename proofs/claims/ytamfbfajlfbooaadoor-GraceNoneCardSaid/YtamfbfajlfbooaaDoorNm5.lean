/- Texts that belong together, joined. -/
import Derived.Test.YtamfbfajlfbooaaDoorNDrain
import Derived.Test.YtamfbfajlfbooaaDoorNm2
import Derived.Deep.LoopGhost
import Derived.Test.YtamfbfajlfbooaaDoorNAs
import Derived.LoopTactic
import Derived.Outline
import Derived.Test.YtamfbfajlfbooaaDoorNm4
import Derived.Test.YtamfbfajlfbooaaDoorNWritten
import Derived.Test.YtamfbfajlfbooaaDoorNCritical
import Derived.Test.YtamfbfajlfbooaaDoorNm1
set_option linter.unusedVariables false
set_option linter.unusedSimpArgs false
set_option linter.unusedSectionVars false
/- (*quiescentref1.Memory).Fence. -/
section
namespace Go.Proofs.YtamfbfajlfbooaaDoor
open Go.RowKit Qs Qh
variable {K : Nat → Bool} {w : World} {L : Lay} {m : M} {N : Int}
/-- Behind some drains of a thread. -/
def Fenced (K : Nat → Bool) (w : World) (L : Lay) (m : M) (t : Nat) (l : List Wt) (k : Nat) (n : Value) (wr : World) : Prop :=
  ∃ pre r Lq, l = pre ++ r ∧ r.length = k ∧ n = .int .i64 ((drainAll m.cells pre).2 : Nat) ∧ Up ty K w L m wr Lq { m with cells := (drainAll m.cells pre).1, waits := m.waits.set t r }
set_option maxRecDepth 100000 in
set_option maxHeartbeats 1000000 in
theorem memFence_any (R : Rep ty K w L m) (h1 : K 1 = true) (h2 : K 2 = true) (h3 : K 3 = true) (h6 : K 6 = true) (h7 : K 7 = true) (om : OkM N m) (ol : OkL L m) (hN : N ≤ 1000000000000) (t : Nat) {l : List Wt} (hl : m.waits[t]? = some l) :
    Calls Tryd.prog 112 #[.pointer (some ⟨L.blk 1 0, 0, none⟩), .int .i64 t] w fun e w' =>
      e = .returned (.int .i64 ((drainAll m.cells l).2 : Nat)) ∧ ∃ L', Up ty K w L m w' L' { m with cells := (drainAll m.cells l).1, waits := m.waits.set t [] } := by
  have ht : t < m.waits.length := (List.getElem?_eq_some_iff.1 hl).1
  have hwl := om.waits
  have hl8 := om.wlen t l hl
  have Hl := Lib.hid hl
  have HR := Lib.hid R
  have Hom := Lib.hid om
  have Hol := Lib.hid ol
  clear hl R om ol
  go_enter Tryd.func112, Tryd.ntmps112
  go_wp2
  go_loopg [5] l.length (fun k n wr => Fenced K w L m t l k n wr)
  case atStart =>
    refine ⟨[], l, L, rfl, rfl, rfl, ?_⟩
    rw [set_back Hl.out]
    exact Up.refl HR.out Hol.out
  case round =>
    obtain ⟨pre, r, Lq, hlq, hrk, rfl, hU⟩ := hrel
    have hwq : (m.waits.set t r)[t]? = some r := by simp [ht]
    have e1 : Lq.blk 1 0 = L.blk 1 0 := (hU.ext.same 1 0 (by omega) (by omega)).1
    have hval := Hom.out.wval t l Hl.out
    have omq : OkM N { m with cells := (drainAll m.cells pre).1, waits := m.waits.set t r } := by
      have o1 := drainAll_ok pre Hom.out (fun x hx => (hval x (by rw [hlq]; simp [hx])).1)
      exact o1.setWaits (by rw [hlq] at hl8; simp at hl8; omega) (fun x hx => by simpa [drainAll_length] using hval x (by rw [hlq]; simp [hx]))
    have c0 := hU.rep.waits_at h1 hU.ok
    have c1 := waits_row hU.rep h3 hU.ok (t := t) hwq
    have hsp3 := hU.ok.sp3
    rw [e1] at c0
    simp only [List.length_set] at c0 hsp3
    have hcount := drainAll_le pre m.cells
    have hpl : pre.length ≤ 8 := by rw [hlq] at hl8; simp at hl8; omega
    generalize hnf : (drainAll m.cells pre).2 = nf at *
    have hnf8 : nf ≤ 8 := by omega
    have Hnf := Lib.hid hnf
    have HU := Lib.hid hU
    have Homq := Lib.hid omq
    have Hlq := Lib.hid hlq
    have E1 := Lib.hid e1
    have Hwq := Lib.hid hwq
    have Hrk := Lib.hid hrk
    clear hnf hU omq hlq e1 hwq hval hrk hcount hpl
    cases r with
    | nil =>
      have hrow : ∃ sa sc, Lq.row 7 t 0 = .slice sa 0 sc := by
        unfold Lay.row
        cases h : Lq.nil 7 t with
        | true => exact ⟨none, 0, rfl⟩
        | false => exact ⟨_, _, rfl⟩
      obtain ⟨sa, sc, hrow⟩ := hrow
      rw [List.length_nil, hrow] at c1
      clear hrow
      go_wp2
      go_ret
      have hlp : l = pre := by have := Hlq.out; simpa using this
      refine ⟨ret_int (by rw [hlp, Hnf.out]), Lq, ?_⟩
      rw [hlp]; exact HU.out
    | cons x r =>
      have hn : Lq.nil 7 t = false := by
        cases h : Lq.nil 7 t with
        | false => rfl
        | true => have := HU.out.ok.n7 t _ Hwq.out h; cases this
      rw [row_some hn] at c1
      simp only [List.length_cons] at c1
      have hcall := drain_some HU.out.rep h1 h2 h3 h6 h7 Homq.out HU.out.ok hN t Hwq.out
      rw [E1.out] at hcall
      have Hcall := Lib.hid hcall
      have hde : drainE (drainAll m.cells pre).1 x = 0 ∨ drainE (drainAll m.cells pre).1 x = 7 := by unfold drainE; split <;> simp
      clear hn hcall
      rcases hde with hde | hde
      · have hb : (drain1 (drainAll m.cells pre).1 x).2 = false := by
          rw [drain1_bad]
          unfold drainE at hde
          cases h : hereIn (drainAll m.cells pre).1 x.c x.g with
          | true => rfl
          | false => rw [h] at hde; simp at hde
        have Hb := Lib.hid hb
        have Hde := Lib.hid hde
        clear hde hb
        go_wp2_with (go_at_call 116; refine Hcall.out.mono ?_; rintro e w5 ⟨rfl, L5, hU5⟩; rw [show drainE _ x = _ from Hde.out])
        go_roundg r.length
        case measure => have := Hrk.out; simp at this; omega
        case rel =>
          refine ⟨pre ++ [x], r, L5, by rw [Hlq.out]; simp, rfl, ?_, ?_⟩
          · rw [drainAll_snoc, Hb.out, Hnf.out]; rfl
          · rw [drainAll_snoc]
            have := HU.out.trans hU5
            simp only [List.set_set] at this
            exact this
      · have hb : (drain1 (drainAll m.cells pre).1 x).2 = true := by
          rw [drain1_bad]
          unfold drainE at hde
          cases h : hereIn (drainAll m.cells pre).1 x.c x.g with
          | true => rw [h] at hde; simp at hde
          | false => rfl
        have Hb := Lib.hid hb
        have Hde := Lib.hid hde
        clear hde hb
        go_wp2_with (go_at_call 116; refine Hcall.out.mono ?_; rintro e w5 ⟨rfl, L5, hU5⟩; rw [show drainE _ x = _ from Hde.out])
        go_roundg r.length
        case measure => have := Hrk.out; simp at this; omega
        case rel =>
          refine ⟨pre ++ [x], r, L5, by rw [Hlq.out]; simp, rfl, ?_, ?_⟩
          · rw [drainAll_snoc, Hb.out, Hnf.out]; simp
          · rw [drainAll_snoc]
            have := HU.out.trans hU5
            simp only [List.set_set] at this
            exact this
end Go.Proofs.YtamfbfajlfbooaaDoor
end
/- plain.Code, coded, at nil and at the program's sentinels. -/
section
namespace Go.Proofs.YtamfbfajlfbooaaDoor
open Go.RowKit Go.Extern.Stop Go.Stop Go.Extern Qh
/-- The package-level variables as the program's text lays them: sentinel i is variable i; a type's handle is variable 9. -/
structure ErrsAt (W : World) (a : Nat → Addr) : Prop where
  var : ∀ i, i < 9 → W.cell? ⟨i, 0, none⟩ = some (.iface 152 (.pointer (some (a i))))
  obj : ∀ i, i < 9 → ∃ c t, W.heap[(a i).block]? = some (.cells c t (0, 0))
  inj : ∀ i j, i < 9 → j < 9 → i ≠ j → a i ≠ a j
  et : W.cell? ⟨9, 0, none⟩ = some (.iface 231 (.agg #[.pointer (some ⟨10, 54, none⟩)]))
theorem ErrsAt.keep {W W' : World} {a : Nat → Addr} (h : ErrsAt W a) (hM : Mod noF W W') : ErrsAt W' a :=
  ⟨fun i hi => hM.cell (h.var i hi) (fun e => e), fun i hi => by obtain ⟨c, t, e⟩ := h.obj i hi; exact ⟨c, t, hM.heap e (fun e => e)⟩, h.inj, hM.cell h.et (fun e => e)⟩
/-- The error of sentinel i. -/
def errV (a : Nat → Addr) (i : Nat) : Value := .iface 152 (.pointer (some (a i)))
theorem is_at {W : World} {a : Nat → Addr} (h : ErrsAt W a) {i k : Nat} (hi : i < 9) (hk : k < 9) :
    Calls Tryd.prog 96 #[errV a i, errV a k] W fun e w' => e = .returned (.bool (decide (i = k))) ∧ w' = W := by
  by_cases e : i = k
  · subst e
    exact (is_same (a i) W).mono fun _ _ h => ⟨by rw [h.1]; simp, h.2⟩
  · obtain ⟨c, t, e1⟩ := h.obj i hi
    obtain ⟨c2, t2, e2⟩ := h.obj k hk
    exact (is_other (a i) (a k) c c2 t t2 W (h.inj i k hi hk e) e1 e2).mono fun _ _ h => ⟨by rw [h.1]; simp [e], h.2⟩
theorem code_nil (w : World) : Calls Tryd.prog 37 #[.nilIface] w fun e w' => e = .returned (.tuple #[.int .i64 0, .int .i64 (-1)]) ∧ w' = w := by
  go_enter Tryd.func37, Tryd.ntmps37
  go_wp2
  go_ret2
  exact ⟨rfl, rfl⟩
set_option maxHeartbeats 4000000 in
theorem code_at {w : World} {a : Nat → Addr} (E : ErrsAt w a) (i : Nat) (hi : i < 9) :
    Calls Tryd.prog 37 #[errV a i] w fun e w' => e = .returned (.tuple #[.int .i64 ((i : Int) + 1), .int .i64 (-1)]) ∧ Mod noF w w' := by
  have HE := Lib.hid E
  clear E
  go_enter Tryd.func37, Tryd.ntmps37
  unfold errV
  go_wp2_with fail
  refine (as_miss (a i) ⟨w.heap.size, 0, none⟩ _ ((HE.out.keep ((Mod.refl noF w).alloc _)).et)).mono ?_
  rintro e w2 ⟨rfl, hm2⟩
  have hm := ((Mod.refl noF w).alloc (.cells #[.pointer none] 74)).trans0 hm2
  have E2 := HE.out.keep hm
  have v0 := E2.var 0 (by omega)
  have v1 := E2.var 1 (by omega)
  have v2 := E2.var 2 (by omega)
  have v3 := E2.var 3 (by omega)
  have v4 := E2.var 4 (by omega)
  have v5 := E2.var 5 (by omega)
  have v6 := E2.var 6 (by omega)
  have v7 := E2.var 7 (by omega)
  have v8 := E2.var 8 (by omega)
  have Hm := Lib.hid hm
  have HE2 := Lib.hid E2
  clear hm2 hm E2
  go_wp2
  obtain ⟨wx, hwx⟩ : ∃ wx, w2.alloc (.cells #[.iface 152 (.pointer (some (a 0))), .iface 152 (.pointer (some (a 1))), .iface 152 (.pointer (some (a 2))), .iface 152 (.pointer (some (a 3))), .iface 152 (.pointer (some (a 4))), .iface 152 (.pointer (some (a 5))), .iface 152 (.pointer (some (a 6))), .iface 152 (.pointer (some (a 7))), .iface 152 (.pointer (some (a 8)))] 54) = wx := ⟨_, rfl⟩
  rw [hwx]
  have hq : Mod noF w2 wx := hwx ▸ (Mod.refl noF w2).alloc _
  have E3 := HE2.out.keep hq
  have hnew := hwx ▸ heap_alloc_new w2 (.cells #[.iface 152 (.pointer (some (a 0))), .iface 152 (.pointer (some (a 1))), .iface 152 (.pointer (some (a 2))), .iface 152 (.pointer (some (a 3))), .iface 152 (.pointer (some (a 4))), .iface 152 (.pointer (some (a 5))), .iface 152 (.pointer (some (a 6))), .iface 152 (.pointer (some (a 7))), .iface 152 (.pointer (some (a 8)))] 54)
  have hcell : ∀ k : Nat, k < 9 → wx.cell? ⟨w2.heap.size, 0 + k, none⟩ = some (errV a k) := fun k hk => by
    rw [cell_of_heap hnew]
    rcases (by omega : k = 0 ∨ k = 1 ∨ k = 2 ∨ k = 3 ∨ k = 4 ∨ k = 5 ∨ k = 6 ∨ k = 7 ∨ k = 8) with rfl | rfl | rfl | rfl | rfl | rfl | rfl | rfl | rfl <;> rfl
  have hfin := Hm.out.trans0 hq
  have HE3 := Lib.hid E3
  have Hcell := Lib.hid hcell
  have Hfin := Lib.hid hfin
  clear hwx hq E3 hnew hcell hfin v0 v1 v2 v3 v4 v5 v6 v7 v8
  go_loop [3, 5, 6, 27] (fun v3 _ _ x => ∃ k : Nat, k ≤ i ∧ x = .int .i64 k ∧ v3 = .int .i64 (-1)) (fun _ _ _ x => 9 - (intOf x).toNat)
  case atStart => exact ⟨0, Nat.zero_le _, rfl, rfl⟩
  case round =>
    obtain ⟨k, hk, rfl, rfl⟩ := hrel
    have hlt : (k : Int) < 9 := by omega
    have hd : decide ((k : Int) < 9) = true := by simp; omega
    have hc := Hcell.out k (by omega)
    rw [Nat.zero_add] at hc
    have hcall := is_at HE3.out hi (show k < 9 by omega)
    unfold errV at hc hcall
    have Hcall := Lib.hid hcall
    clear hcall
    go_wp2_with fail
    refine Hcall.out.mono ?_
    rintro e w' ⟨rfl, rfl⟩
    by_cases e : i = k
    · subst e
      have hdd : decide (i = i) = true := by simp
      rw [hdd]
      clear hdd
      go_wp2
      go_ret2
      exact ⟨rfl, Hfin.out⟩
    · have hdd : decide (i = k) = false := by simpa using e
      have hik : k < i := by omega
      rw [hdd]
      clear hdd e
      go_wp2
      go_round
      case rel => exact ⟨k + 1, by omega, by go_num, rfl⟩
      case measure => simp [intOf]; omega
theorem coded_nil (n : Int) (w : World) : Calls Tryd.prog 38 #[.nilIface, .int .i64 n] w fun e w' => e = .returned (.bool (decide (n = 0))) ∧ w' = w := by
  by_cases h : n = 0
  · subst h
    go_enter Tryd.func38, Tryd.ntmps38
    go_wp2_with fail
    refine (code_nil w).mono ?_
    rintro e w' ⟨rfl, rfl⟩
    go_wp2
    go_ret
    exact ⟨rfl, rfl⟩
  · have h1 : ((0 : Int) == n) = false := by rw [beq_eq_false_iff_ne]; omega
    have h2 : decide (n = 0) = false := by simpa using h
    rw [h2]
    go_enter Tryd.func38, Tryd.ntmps38
    go_wp2_with fail
    refine (code_nil w).mono ?_
    rintro e w' ⟨rfl, rfl⟩
    go_wp2
    go_ret
    exact ⟨rfl, rfl⟩
theorem coded_at {w : World} {a : Nat → Addr} (E : ErrsAt w a) (i : Nat) (hi : i < 9) (n : Int) : Calls Tryd.prog 38 #[errV a i, .int .i64 n] w fun e w' => e = .returned (.bool (decide (n = (i : Int) + 1))) ∧ Mod noF w w' := by
  have hcall := code_at E i hi
  by_cases h : n = (i : Int) + 1
  · subst h
    rw [show decide ((i : Int) + 1 = (i : Int) + 1) = true by simp]
    have Hcall := Lib.hid hcall
    clear hcall E
    go_enter Tryd.func38, Tryd.ntmps38
    go_wp2_with fail
    refine Hcall.out.mono ?_
    rintro e w' ⟨rfl, hm⟩
    have Hm := Lib.hid hm
    clear hm
    go_wp2
    go_ret
    exact ⟨rfl, Hm.out⟩
  · have h1 : ((i : Int) + 1 == n) = false := by rw [beq_eq_false_iff_ne]; omega
    rw [show decide (n = (i : Int) + 1) = false by simpa using h]
    have Hcall := Lib.hid hcall
    clear hcall E h
    go_enter Tryd.func38, Tryd.ntmps38
    go_wp2_with fail
    refine Hcall.out.mono ?_
    rintro e w' ⟨rfl, hm⟩
    have Hm := Lib.hid hm
    clear hm
    go_wp2
    go_ret
    exact ⟨rfl, Hm.out⟩
end Go.Proofs.YtamfbfajlfbooaaDoor
end
/- spin.Prefix, spin.look, spin.Take, spin.Give, where something is wrong. -/
section
namespace Go.Proofs.YtamfbfajlfbooaaDoor
open Go.RowKit Qs Qh
theorem prefix_bad (s : ByteArray) (most : Int) (w : World) (a : Nat → Addr) (E : ErrsAt w a) (hs : s.size ≤ maxLen) (h : nameB s.data.toList = false ∨ most < (s.size : Int)) :
    Calls Tryd.prog 101 #[.string s, .int .i64 most] w fun e w' => e = .returned (errV a 3) ∧ w = w' := by
  have hv := E.var 3 (by omega)
  clear E
  cases hn : nameB s.data.toList with
  | false =>
    have Hn := Lib.hid hn
    clear hn h
    go_enter Tryd.func101, Tryd.ntmps101
    go_wp2_with (go_at_call 109; refine (name_any s _ hs).mono ?_; rintro e w' ⟨rfl, rfl⟩; rw [Hn.out])
    go_ret
    exact ⟨rfl, rfl⟩
  | true =>
    have hm : most < (s.size : Int) := h.resolve_left (by rw [hn]; simp)
    have hd : decide (most < (s.size : Int)) = true := by simpa using hm
    have Hn := Lib.hid hn
    clear hn h
    go_enter Tryd.func101, Tryd.ntmps101
    go_wp2_with (go_at_call 109; refine (name_any s _ hs).mono ?_; rintro e w' ⟨rfl, rfl⟩; rw [Hn.out])
    go_ret
    exact ⟨rfl, rfl⟩
/-- The numbers are within their bounds. -/
def Bounds (cell word tmp : Int) : Prop := 0 ≤ cell ∧ cell < 8 ∧ 0 ≤ word ∧ word < 4 ∧ 0 ≤ tmp ∧ tmp < 7 ∧ cell ≠ tmp ∧ cell ≠ tmp + 1
set_option maxHeartbeats 4000000 in
theorem look_bound (s : ByteArray) (cell word tmp : Int) (w : World) (a : Nat → Addr) (E : ErrsAt w a) (h : ¬ Bounds cell word tmp) :
    Calls Tryd.prog 105 #[.string s, .int .i64 cell, .int .i64 word, .int .i64 tmp] w fun e w' => e = .returned (errV a 1) ∧ w = w' := by
  have hv := E.var 1 (by omega)
  clear E
  by_cases c0 : 0 ≤ cell
  rotate_left
  · have d0 : decide (0 ≤ cell) = false := by simpa using c0
    go_enter Tryd.func105, Tryd.ntmps105
    go_wp2
    go_ret
    exact ⟨rfl, rfl⟩
  have d0 : decide (0 ≤ cell) = true := by simpa using c0
  by_cases c1 : cell < 8
  rotate_left
  · have d1 : decide (cell < 8) = false := by simpa using c1
    go_enter Tryd.func105, Tryd.ntmps105
    go_wp2
    go_ret
    exact ⟨rfl, rfl⟩
  have d1 : decide (cell < 8) = true := by simpa using c1
  by_cases c2 : 0 ≤ word
  rotate_left
  · have d2 : decide (0 ≤ word) = false := by simpa using c2
    go_enter Tryd.func105, Tryd.ntmps105
    go_wp2
    go_ret
    exact ⟨rfl, rfl⟩
  have d2 : decide (0 ≤ word) = true := by simpa using c2
  by_cases c3 : word < 4
  rotate_left
  · have d3 : decide (word < 4) = false := by simpa using c3
    go_enter Tryd.func105, Tryd.ntmps105
    go_wp2
    go_ret
    exact ⟨rfl, rfl⟩
  have d3 : decide (word < 4) = true := by simpa using c3
  by_cases c4 : 0 ≤ tmp
  rotate_left
  · have d4 : decide (0 ≤ tmp) = false := by simpa using c4
    go_enter Tryd.func105, Tryd.ntmps105
    go_wp2
    go_ret
    exact ⟨rfl, rfl⟩
  have d4 : decide (0 ≤ tmp) = true := by simpa using c4
  by_cases c5 : tmp < 7
  rotate_left
  · have d5 : decide (tmp < 7) = false := by simpa using c5
    go_enter Tryd.func105, Tryd.ntmps105
    go_wp2
    go_ret
    exact ⟨rfl, rfl⟩
  have d5 : decide (tmp < 7) = true := by simpa using c5
  by_cases e0 : cell = tmp
  · have d6 : (cell == tmp) = true := by simpa using e0
    clear e0
    go_enter Tryd.func105, Tryd.ntmps105
    go_wp2
    go_ret
    exact ⟨rfl, rfl⟩
  have d6 : (cell == tmp) = false := by simpa using e0
  have e1 : cell = tmp + 1 := by
    rcases Decidable.em (cell = tmp + 1) with e | e
    · exact e
    · exact absurd ⟨c0, c1, c2, c3, c4, c5, e0, e⟩ h
  have d7 : (cell == tmp + 1) = true := by simpa using e1
  clear e0 e1
  go_enter Tryd.func105, Tryd.ntmps105
  go_wp2
  go_ret
  exact ⟨rfl, rfl⟩
theorem look_name (s : ByteArray) (cell word tmp : Int) (w : World) (a : Nat → Addr) (E : ErrsAt w a) (hs : s.size ≤ maxLen) (hb : Bounds cell word tmp) (h : nameB s.data.toList = false ∨ (8 : Int) < (s.size : Int)) :
    Calls Tryd.prog 105 #[.string s, .int .i64 cell, .int .i64 word, .int .i64 tmp] w fun e w' => e = .returned (errV a 3) ∧ w = w' := by
  obtain ⟨c0, c1, w0, w1, t0, t1, n0, n1⟩ := hb
  have d0 : (cell == tmp) = false := by simpa using n0
  have d1 : (cell == tmp + 1) = false := by simpa using n1
  have hcall := prefix_bad s 8 w a E hs h
  unfold errV at hcall
  have Hcall := Lib.hid hcall
  clear hcall E h
  go_enter Tryd.func105, Tryd.ntmps105
  go_wp2_with (go_at_call 101; refine Hcall.out.mono ?_; rintro e w' ⟨rfl, rfl⟩)
  go_ret
  exact ⟨rfl, rfl⟩
theorem take_bad (s : ByteArray) (cell word tmp : Int) (w : World) (a : Nat → Addr) (i : Nat) (h : Calls Tryd.prog 105 #[.string s, .int .i64 cell, .int .i64 word, .int .i64 tmp] w fun e w' => e = .returned (errV a i) ∧ w = w') :
    Calls Tryd.prog 57 #[.string s, .int .i64 cell, .int .i64 word, .int .i64 tmp] w fun e w' => e = .returned (.tuple #[.slice none 0 0, errV a i]) ∧ w = w' := by
  unfold errV at h
  have H := Lib.hid h
  clear h
  go_enter Tryd.func57, Tryd.ntmps57
  go_wp2_with (go_at_call 105; refine H.out.mono ?_; rintro e w' ⟨rfl, rfl⟩)
  go_ret2
  exact ⟨rfl, rfl⟩
theorem give_bad (s : ByteArray) (cell word tmp : Int) (w : World) (a : Nat → Addr) (i : Nat) (h : Calls Tryd.prog 105 #[.string s, .int .i64 cell, .int .i64 word, .int .i64 tmp] w fun e w' => e = .returned (errV a i) ∧ w = w') :
    Calls Tryd.prog 58 #[.string s, .int .i64 cell, .int .i64 word, .int .i64 tmp] w fun e w' => e = .returned (.tuple #[.slice none 0 0, errV a i]) ∧ w = w' := by
  unfold errV at h
  have H := Lib.hid h
  clear h
  go_enter Tryd.func58, Tryd.ntmps58
  go_wp2_with (go_at_call 105; refine H.out.mono ?_; rintro e w' ⟨rfl, rfl⟩)
  go_ret2
  exact ⟨rfl, rfl⟩
end Go.Proofs.YtamfbfajlfbooaaDoor
end
/- SpinCode: the plain law: a lock's code is right, whatever its numbers; what it writes. -/
section
namespace Go.Proofs.YtamfbfajlfbooaaDoor
open Go.RowKit Qs Qh
theorem nameB_more {p : List UInt8} {c : UInt8} (h : nameB p = true) (hl : p.length ≤ 8) (hc : lowB c = true) : nameB (p ++ [46, c]) = true := by
  match p, h with
  | d :: r, h =>
    simp only [nameB, Bool.and_eq_true, decide_eq_true_eq, List.all_cons] at h
    obtain ⟨⟨h1, h2⟩, h3, h4⟩ := h
    simp only [List.cons_append, nameB, Bool.and_eq_true, decide_eq_true_eq, List.all_cons, List.all_append, List.all_nil]
    refine ⟨⟨by simp at hl ⊢; omega, h2⟩, h3, h4, ?_⟩
    have : chB c = true := by unfold chB; rw [hc]; rfl
    have h46 : chB 46 = true := by decide
    simp [this, h46]
theorem lab_ne (p : List UInt8) : ¬ (p ++ [46, 97] = p ++ [46, 98]) := fun e => by
  have := List.append_cancel_left e
  revert this; decide
theorem takeCode_fine {s : ByteArray} {cell word tmp : Int} (h : LookOk s cell word tmp) : CodeFine (takeCode s.data.toList cell word tmp) := by
  obtain ⟨hn, hl, c0, c1, w0, w1, t0, t1, n0, n1⟩ := h
  have hl8 : s.data.toList.length ≤ 8 := by rw [bytes_len]; exact hl
  have na := nameB_more (c := 97) hn hl8 (by decide)
  have nb := nameB_more (c := 98) hn hl8 (by decide)
  generalize s.data.toList = p at *
  have hab := lab_ne p
  have hba : ¬ (p ++ [46, 98] = p ++ [46, 97]) := fun e => hab e.symm
  refine ⟨by simp [takeCode], fun x hx => ?_, fun i x hi h17 => ?_, fun x hx hne => ?_⟩
  · simp only [takeCode, List.mem_cons, List.not_mem_nil, or_false] at hx
    rcases hx with rfl | rfl | rfl | rfl | rfl | rfl | rfl <;> simp [insFine, regB, z0, na, nb] <;> omega
  · have hi7 : i < 7 := by have := (List.getElem?_eq_some_iff.1 hi).1; simpa [takeCode] using this
    rcases (by omega : i = 0 ∨ i = 1 ∨ i = 2 ∨ i = 3 ∨ i = 4 ∨ i = 5 ∨ i = 6) with rfl | rfl | rfl | rfl | rfl | rfl | rfl <;> simp [takeCode] at hi <;> subst hi <;> simp at h17 <;> simp [takeCode, labelAt]
  · simp only [takeCode, List.mem_cons, List.not_mem_nil, or_false] at hx
    rcases hx with rfl | rfl | rfl | rfl | rfl | rfl | rfl <;> simp at hne <;> simp [takeCode, labelAt]
theorem giveCode_fine {s : ByteArray} {cell word tmp : Int} (h : LookOk s cell word tmp) : CodeFine (giveCode cell word tmp) := by
  obtain ⟨hn, hl, c0, c1, w0, w1, t0, t1, n0, n1⟩ := h
  refine ⟨by simp [giveCode], fun x hx => ?_, fun i x hi h17 => ?_, fun x hx hne => ?_⟩
  · simp only [giveCode, List.mem_cons, List.not_mem_nil, or_false] at hx
    rcases hx with rfl | rfl | rfl <;> simp [insFine, regB, z0] <;> omega
  · have hi7 : i < 3 := by have := (List.getElem?_eq_some_iff.1 hi).1; simpa [giveCode] using this
    rcases (by omega : i = 0 ∨ i = 1 ∨ i = 2) with rfl | rfl | rfl <;> simp [giveCode] at hi <;> subst hi <;> simp at h17
  · simp only [giveCode, List.mem_cons, List.not_mem_nil, or_false] at hx
    rcases hx with rfl | rfl | rfl <;> simp at hne
/-- The ops that code may not bear. -/
def barsL : List ByteArray := [⟨#[97, 108, 108, 111, 99]⟩, ⟨#[102, 114, 101, 101]⟩, ⟨#[109, 97, 114, 107]⟩, ⟨#[110, 101, 101, 100]⟩, ⟨#[115, 116, 111, 112]⟩]
theorem wop_bars {n : Nat} (h : wop n = true) : ∀ b ∈ barsL, opStr n ≠ b := by
  have hn : n < 18 := by unfold wop at h; simp only [Bool.or_eq_true, Bool.and_eq_true, decide_eq_true_eq] at h; omega
  have hall : ((List.range 18).all fun n => !wop n || barsL.all fun b => decide (opStr n ≠ b)) = true := by decide +kernel
  have := List.all_eq_true.1 hall n (List.mem_range.2 hn)
  rw [h] at this
  intro b hb
  simpa using List.all_eq_true.1 (by simpa using this : (barsL.all fun b => decide (opStr n ≠ b)) = true) b hb
theorem takeCode_wop (p : List UInt8) (cell word tmp : Int) : ∀ x ∈ takeCode p cell word tmp, wop x.op = true := fun x hx => by
  simp only [takeCode, List.mem_cons, List.not_mem_nil, or_false] at hx
  rcases hx with rfl | rfl | rfl | rfl | rfl | rfl | rfl <;> rfl
theorem giveCode_wop (cell word tmp : Int) : ∀ x ∈ giveCode cell word tmp, wop x.op = true := fun x hx => by
  simp only [giveCode, List.mem_cons, List.not_mem_nil, or_false] at hx
  rcases hx with rfl | rfl | rfl <;> rfl
theorem takeCode_to (s : ByteArray) (cell word tmp : Int) : ∀ x ∈ takeCode s.data.toList cell word tmp, ToOk s x := fun x hx => by
  simp only [takeCode, List.mem_cons, List.not_mem_nil, or_false] at hx
  rcases hx with rfl | rfl | rfl | rfl | rfl | rfl | rfl <;> first | exact .inl rfl | exact .inr ⟨by have := bytes_len s; simp only [List.length_append]; omega, by rw [← bytes_len s]; exact List.take_left⟩
theorem giveCode_to (s : ByteArray) (cell word tmp : Int) : ∀ x ∈ giveCode cell word tmp, ToOk s x := fun x hx => by
  simp only [giveCode, List.mem_cons, List.not_mem_nil, or_false] at hx
  rcases hx with rfl | rfl | rfl <;> exact .inl rfl
theorem getD_set_ne (l : List Bool) (k i : Nat) (b : Bool) (h : ¬ i = k) : (l.set k b).getD i false = l.getD i false := by
  rw [List.getD_eq_getElem?_getD, List.getD_eq_getElem?_getD, List.getElem?_set_ne (Ne.symm h)]
theorem rep_getD (i : Nat) : (List.replicate 8 false).getD i false = false := by
  rw [List.getD_eq_getElem?_getD, List.getElem?_replicate]; split <;> rfl
/-- Only the two registers are written. -/
theorem takeCode_written (p : List UInt8) (cell word : Int) (t i : Nat) (h : ¬ i = t) (h2 : ¬ i = t + 1) : (writtenL (takeCode p cell word t)).getD i false = false := by
  have e : writtenL (takeCode p cell word t) = (((List.replicate 8 false).set t true).set (t + 1) true).set t true := rfl
  rw [e, getD_set_ne _ _ _ _ h, getD_set_ne _ _ _ _ h2, getD_set_ne _ _ _ _ h, rep_getD]
theorem giveCode_written (cell word : Int) (t i : Nat) (h : ¬ i = t) : (writtenL (giveCode cell word t)).getD i false = false := by
  have e : writtenL (giveCode cell word t) = (List.replicate 8 false).set t true := rfl
  rw [e, getD_set_ne _ _ _ _ h, rep_getD]
end Go.Proofs.YtamfbfajlfbooaaDoor
end
/- Code whose labels begin with a prefix: right for every prefix, if it is for one. -/
section
namespace Go.Proofs.YtamfbfajlfbooaaDoor
open Go.RowKit Qs Qh
def preI (p : List UInt8) (x : Instr) : Instr := ⟨x.op, x.A, x.B, x.C, if x.to.isEmpty then [] else p ++ x.to⟩
def preC (p : List UInt8) (l : List Instr) : List Instr := l.map (preI p)
abbrev pre4 : List UInt8 := [97, 97, 97, 97]
theorem preI_empty {p q : List UInt8} (hp : p ≠ []) (hq : q ≠ []) (x : Instr) : (preI p x).to.isEmpty = (preI q x).to.isEmpty := by
  unfold preI
  cases x.to with
  | nil => rfl
  | cons c l =>
    obtain ⟨a, p, rfl⟩ := List.exists_cons_of_ne_nil hp
    obtain ⟨b, q, rfl⟩ := List.exists_cons_of_ne_nil hq
    rfl
theorem nameB_ne {p : List UInt8} (h : nameB p = true) : p ≠ [] := fun e => by subst e; cases h
theorem nameB_pre {p t : List UInt8} (hn : nameB p = true) (hl : p.length ≤ 4) (h : nameB (pre4 ++ t) = true) : nameB (p ++ t) = true := by
  match p, hn with
  | d :: r, hn =>
    simp only [nameB, Bool.and_eq_true, decide_eq_true_eq, List.all_cons] at hn
    obtain ⟨⟨h1, h2⟩, h3, h4⟩ := hn
    simp only [List.cons_append, List.nil_append, nameB, Bool.and_eq_true, decide_eq_true_eq, List.all_cons, List.all_append] at h ⊢
    obtain ⟨⟨g1, g2⟩, g3, g4, g5, g6, g7⟩ := h
    refine ⟨⟨?_, h2⟩, h3, h4, g7⟩
    simp at hl g1 ⊢; omega
theorem preI_name {p : List UInt8} (hn : nameB p = true) (hl : p.length ≤ 4) (x : Instr) (h : nameB (preI pre4 x).to = true) : nameB (preI p x).to = true := by
  unfold preI at h ⊢
  simp only at h ⊢
  split at h
  · cases h
  · rename_i hne
    rw [if_neg hne]
    exact nameB_pre hn hl h
theorem insFine_pre {p : List UInt8} (hn : nameB p = true) (hl : p.length ≤ 4) (x : Instr) (h : insFine (preI pre4 x) = true) : insFine (preI p x) = true := by
  have h1 := preI_empty (nameB_ne hn) (q := pre4) (by simp) x
  have h2 := preI_name hn hl x
  unfold insFine at h ⊢
  generalize (preI p x).to = tp at *
  generalize (preI pre4 x).to = tq at *
  simp only [preI] at h ⊢
  split at h <;> simp_all
theorem labelAt_pre (p t : List UInt8) (ht : t ≠ []) : ∀ (l : List Instr) (i : Nat), labelAt (p ++ t) (preC p l) i = labelAt t l i
  | [], _ => rfl
  | x :: l, i => by
    show labelAt _ (preI p x :: preC p l) i = _
    unfold labelAt
    rw [labelAt_pre p t ht l (i + 1)]
    have e : ((preI p x).op = 17 ∧ (preI p x).to = p ++ t) ↔ (x.op = 17 ∧ x.to = t) := by
      unfold preI
      simp only
      refine and_congr_right fun _ => ?_
      cases h : x.to with
      | nil =>
        simp only [List.isEmpty_nil, if_true]
        constructor
        · intro e
          have := congrArg List.length e
          simp only [List.length_nil, List.length_append] at this
          exact absurd (List.length_eq_zero_iff.1 (show t.length = 0 by omega)) ht
        · intro e; exact absurd e.symm ht
      | cons c r =>
        simp only [List.isEmpty_cons, Bool.false_eq_true, if_false]
        exact ⟨fun e => List.append_cancel_left e, fun e => by rw [e]⟩
    simp only [e]
def preOk (l : List Instr) : Bool := codeFineB (preC pre4 l) && l.all (fun x => !decide (x.op = 17) || !x.to.isEmpty) && l.all (fun x => wop x.op)
theorem preC_fine {p : List UInt8} (hn : nameB p = true) (hl : p.length ≤ 4) {l : List Instr} (h : preOk l = true) : CodeFine (preC p l) := by
  unfold preOk at h
  simp only [Bool.and_eq_true, List.all_eq_true] at h
  obtain ⟨⟨h1, h2⟩, h3⟩ := h
  have F := codeFine_of h1
  refine ⟨?_, fun y hy => ?_, fun i y hy h17 => ?_, fun y hy hne => ?_⟩
  · have := F.len; simpa [preC] using this
  · obtain ⟨x, hx, rfl⟩ := List.mem_map.1 hy
    exact insFine_pre hn hl x (F.ins _ (List.mem_map_of_mem hx))
  · unfold preC at hy
    rw [List.getElem?_map] at hy
    obtain ⟨x, hx, rfl⟩ := Option.map_eq_some_iff.1 hy
    have h17' : x.op = 17 := h17
    have hto := h2 x (List.mem_of_getElem? hx)
    rw [h17'] at hto
    have hne : x.to ≠ [] := by intro e; rw [e] at hto; simp at hto
    have e1 : ∀ q : List UInt8, (preI q x).to = q ++ x.to := fun q => by unfold preI; simp only; rw [if_neg (by simpa using hne)]
    rw [e1, labelAt_pre p _ hne, ← labelAt_pre pre4 _ hne, ← e1]
    exact F.set i _ (by unfold preC; rw [List.getElem?_map, hx]; rfl) h17'
  · obtain ⟨x, hx, rfl⟩ := List.mem_map.1 hy
    have hne' : x.to ≠ [] := by intro e; apply hne; unfold preI; rw [e]; rfl
    have e1 : ∀ q : List UInt8, (preI q x).to = q ++ x.to := fun q => by unfold preI; simp only; rw [if_neg (by simpa using hne')]
    rw [e1, labelAt_pre p _ hne', ← labelAt_pre pre4 _ hne', ← e1]
    exact F.lab _ (List.mem_map_of_mem hx) (by rw [e1]; simp)
theorem preC_wop {p : List UInt8} {l : List Instr} (h : preOk l = true) : ∀ x ∈ preC p l, wop x.op = true := fun y hy => by
  unfold preOk at h
  simp only [Bool.and_eq_true, List.all_eq_true] at h
  obtain ⟨x, hx, rfl⟩ := List.mem_map.1 hy
  exact h.2 x hx
theorem preC_to (s : ByteArray) (l : List Instr) : ∀ x ∈ preC s.data.toList l, ToOk s x := fun y hy => by
  obtain ⟨x, hx, rfl⟩ := List.mem_map.1 hy
  unfold preI ToOk
  simp only
  split
  · exact .inl rfl
  · exact .inr ⟨by have := bytes_len s; simp only [List.length_append]; omega, by rw [← bytes_len s]; exact List.take_left⟩
theorem preC_written (p : List UInt8) (l : List Instr) : writtenL (preC p l) = writtenL l := by
  unfold writtenL preC
  generalize List.replicate 8 false = o
  induction l generalizing o with
  | nil => rfl
  | cons x l ih => exact ih _
theorem preC_len (p : List UInt8) (l : List Instr) : (preC p l).length = l.length := by simp [preC]
end Go.Proofs.YtamfbfajlfbooaaDoor
end
/- stack.Push, stack.Pop: their code. -/
section
namespace Go.Proofs.YtamfbfajlfbooaaDoor
open Go.RowKit Qs Qh
def pushCode (p : List UInt8) : List Instr :=
  [⟨17, 0, 0, 0, p ++ [46, 97]⟩, ⟨6, 0, 5, 0, []⟩, ⟨7, 3, 0, 1, []⟩, ⟨1, 1, 0, 0, []⟩, ⟨1, 2, 3, 0, []⟩, ⟨9, 5, 1, 0, []⟩, ⟨15, 0, 1, 0, p ++ [46, 98]⟩, ⟨16, 0, 0, 0, p ++ [46, 97]⟩, ⟨17, 0, 0, 0, p ++ [46, 98]⟩]
set_option maxHeartbeats 4000000 in
theorem push_ok (s : ByteArray) (w : World) (hn : nameB s.data.toList = true) (hm : (s.size : Int) ≤ 8) :
    Calls Tryd.prog 50 #[.string s] w fun e w' => ∃ v, e = .returned (.tuple #[v, .nilIface]) ∧ Made (pushCode s.data.toList) w v w' := by
  have hs : s.size ≤ maxLen := by unfold maxLen; omega
  have Hn := Lib.hid hn
  clear hn
  go_enter Tryd.func50, Tryd.ntmps50
  go_wp2_with (go_at_call 101; refine (prefix_ok s 8 _ hs Hn.out hm).mono ?_; rintro e w' ⟨rfl, rfl⟩)
  go_wp2_with fail
  refine (label_chain (Chain.start (b := w.heap.size) (o := 0) (v := .slice none 0 0) (l := []) ⟨by simp, by simp, InsRow.nil _ _, by simp [Value.ownBlock], by simp⟩) (by simp) (s.data.toList ++ [46, 97]) _ (bytes_cat s _)).mono ?_
  rintro e w1 ⟨rfl, C1⟩
  have HC1 := Lib.hid C1
  clear C1
  go_wp2_with fail
  refine (op3_chain (HC1.out.quiet ((Mod.refl _ _).alloc _)) (by simp) 6 _ rfl w1.heap.size 0 5 0 3 (by simp) (by simp) (by simp) (by simp)).mono ?_
  rintro e w2 ⟨rfl, C2⟩
  have HC2 := Lib.hid C2
  clear C2
  go_wp2_with fail
  refine (op3_chain (HC2.out.quiet ((Mod.refl _ _).alloc _)) (by simp) 7 _ rfl w2.heap.size 3 0 1 3 (by simp) (by simp) (by simp) (by simp)).mono ?_
  rintro e w3 ⟨rfl, C3⟩
  have HC3 := Lib.hid C3
  clear C3
  go_wp2_with fail
  refine (op2_chain (HC3.out.quiet ((Mod.refl _ _).alloc _)) (by simp) 1 _ rfl w3.heap.size 1 0 2 (by simp) (by simp) (by simp)).mono ?_
  rintro e w4 ⟨rfl, C4⟩
  have HC4 := Lib.hid C4
  clear C4
  go_wp2_with fail
  refine (op2_chain (HC4.out.quiet ((Mod.refl _ _).alloc _)) (by simp) 1 _ rfl w4.heap.size 2 3 2 (by simp) (by simp) (by simp)).mono ?_
  rintro e w5 ⟨rfl, C5⟩
  have HC5 := Lib.hid C5
  clear C5
  go_wp2_with fail
  refine (op3_chain (HC5.out.quiet ((Mod.refl _ _).alloc _)) (by simp) 9 _ rfl w5.heap.size 5 1 0 3 (by simp) (by simp) (by simp) (by simp)).mono ?_
  rintro e w6 ⟨rfl, C6⟩
  have HC6 := Lib.hid C6
  clear C6
  go_wp2_with fail
  refine (to2_chain (HC6.out.quiet ((Mod.refl _ _).alloc _)) (by simp) 15 _ rfl (s.data.toList ++ [46, 98]) _ (bytes_cat s _) w6.heap.size 0 1 2 (by simp) (by simp) (by simp)).mono ?_
  rintro e w7 ⟨rfl, C7⟩
  have HC7 := Lib.hid C7
  clear C7
  go_wp2_with fail
  refine (to0_chain HC7.out (by simp) 16 _ rfl (s.data.toList ++ [46, 97]) _ (bytes_cat s _)).mono ?_
  rintro e w8 ⟨rfl, C8⟩
  have HC8 := Lib.hid C8
  clear C8
  go_wp2_with fail
  refine (label_chain HC8.out (by simp) (s.data.toList ++ [46, 98]) _ (bytes_cat s _)).mono ?_
  rintro e w9 ⟨rfl, C9⟩
  have HC9 := Lib.hid C9
  clear C9
  obtain ⟨v, ec, hv⟩ := HC9.out.made (w := w) (by simp [Value.ownBlock]) ((Mod.refl _ _).alloc _) (Nat.le_refl _)
  have Hv := Lib.hid hv
  clear hv
  go_wp2
  go_ret2
  exact ⟨v, rfl, Hv.out⟩
theorem push_bad (s : ByteArray) (w : World) (a : Nat → Addr) (E : ErrsAt w a) (hs : s.size ≤ maxLen) (h : nameB s.data.toList = false ∨ (8 : Int) < (s.size : Int)) :
    Calls Tryd.prog 50 #[.string s] w fun e w' => e = .returned (.tuple #[.slice none 0 0, errV a 3]) ∧ w = w' := by
  have h := prefix_bad s 8 w a E hs h
  unfold errV at h
  have H := Lib.hid h
  clear h E
  go_enter Tryd.func50, Tryd.ntmps50
  go_wp2_with (go_at_call 101; refine H.out.mono ?_; rintro e w' ⟨rfl, rfl⟩)
  go_ret2
  exact ⟨rfl, rfl⟩
def popCode (p : List UInt8) : List Instr :=
  [⟨17, 0, 0, 0, p ++ [46, 97]⟩, ⟨6, 0, 5, 0, []⟩, ⟨14, 0, 0, 0, p ++ [46, 98]⟩, ⟨6, 2, 0, 1, []⟩, ⟨1, 1, 0, 0, []⟩, ⟨9, 5, 1, 0, []⟩, ⟨15, 0, 1, 0, p ++ [46, 98]⟩, ⟨16, 0, 0, 0, p ++ [46, 97]⟩, ⟨17, 0, 0, 0, p ++ [46, 98]⟩, ⟨1, 3, 0, 0, []⟩]
set_option maxHeartbeats 4000000 in
theorem pop_ok (s : ByteArray) (w : World) (hn : nameB s.data.toList = true) (hm : (s.size : Int) ≤ 8) :
    Calls Tryd.prog 51 #[.string s] w fun e w' => ∃ v, e = .returned (.tuple #[v, .nilIface]) ∧ Made (popCode s.data.toList) w v w' := by
  have hs : s.size ≤ maxLen := by unfold maxLen; omega
  have Hn := Lib.hid hn
  clear hn
  go_enter Tryd.func51, Tryd.ntmps51
  go_wp2_with (go_at_call 101; refine (prefix_ok s 8 _ hs Hn.out hm).mono ?_; rintro e w' ⟨rfl, rfl⟩)
  go_wp2_with fail
  refine (label_chain (Chain.start (b := w.heap.size) (o := 0) (v := .slice none 0 0) (l := []) ⟨by simp, by simp, InsRow.nil _ _, by simp [Value.ownBlock], by simp⟩) (by simp) (s.data.toList ++ [46, 97]) _ (bytes_cat s _)).mono ?_
  rintro e w1 ⟨rfl, C1⟩
  have HC1 := Lib.hid C1
  clear C1
  go_wp2_with fail
  refine (op3_chain (HC1.out.quiet ((Mod.refl _ _).alloc _)) (by simp) 6 _ rfl w1.heap.size 0 5 0 3 (by simp) (by simp) (by simp) (by simp)).mono ?_
  rintro e w2 ⟨rfl, C2⟩
  have HC2 := Lib.hid C2
  clear C2
  go_wp2_with fail
  refine (to1_chain (HC2.out.quiet ((Mod.refl _ _).alloc _)) (by simp) 14 _ rfl (s.data.toList ++ [46, 98]) _ (bytes_cat s _) w2.heap.size 0 1 (by simp) (by simp)).mono ?_
  rintro e w3 ⟨rfl, C3⟩
  have HC3 := Lib.hid C3
  clear C3
  go_wp2_with fail
  refine (op3_chain (HC3.out.quiet ((Mod.refl _ _).alloc _)) (by simp) 6 _ rfl w3.heap.size 2 0 1 3 (by simp) (by simp) (by simp) (by simp)).mono ?_
  rintro e w4 ⟨rfl, C4⟩
  have HC4 := Lib.hid C4
  clear C4
  go_wp2_with fail
  refine (op2_chain (HC4.out.quiet ((Mod.refl _ _).alloc _)) (by simp) 1 _ rfl w4.heap.size 1 0 2 (by simp) (by simp) (by simp)).mono ?_
  rintro e w5 ⟨rfl, C5⟩
  have HC5 := Lib.hid C5
  clear C5
  go_wp2_with fail
  refine (op3_chain (HC5.out.quiet ((Mod.refl _ _).alloc _)) (by simp) 9 _ rfl w5.heap.size 5 1 0 3 (by simp) (by simp) (by simp) (by simp)).mono ?_
  rintro e w6 ⟨rfl, C6⟩
  have HC6 := Lib.hid C6
  clear C6
  go_wp2_with fail
  refine (to2_chain (HC6.out.quiet ((Mod.refl _ _).alloc _)) (by simp) 15 _ rfl (s.data.toList ++ [46, 98]) _ (bytes_cat s _) w6.heap.size 0 1 2 (by simp) (by simp) (by simp)).mono ?_
  rintro e w7 ⟨rfl, C7⟩
  have HC7 := Lib.hid C7
  clear C7
  go_wp2_with fail
  refine (to0_chain HC7.out (by simp) 16 _ rfl (s.data.toList ++ [46, 97]) _ (bytes_cat s _)).mono ?_
  rintro e w8 ⟨rfl, C8⟩
  have HC8 := Lib.hid C8
  clear C8
  go_wp2_with fail
  refine (label_chain HC8.out (by simp) (s.data.toList ++ [46, 98]) _ (bytes_cat s _)).mono ?_
  rintro e w9 ⟨rfl, C9⟩
  have HC9 := Lib.hid C9
  clear C9
  go_wp2_with fail
  refine (op2_chain (HC9.out.quiet ((Mod.refl _ _).alloc _)) (by simp) 1 _ rfl w9.heap.size 3 0 2 (by simp) (by simp) (by simp)).mono ?_
  rintro e w10 ⟨rfl, C10⟩
  have HC10 := Lib.hid C10
  clear C10
  obtain ⟨v, ec, hv⟩ := HC10.out.made (w := w) (by simp [Value.ownBlock]) ((Mod.refl _ _).alloc _) (Nat.le_refl _)
  have Hv := Lib.hid hv
  clear hv
  go_wp2
  go_ret2
  exact ⟨v, rfl, Hv.out⟩
theorem pop_bad (s : ByteArray) (w : World) (a : Nat → Addr) (E : ErrsAt w a) (hs : s.size ≤ maxLen) (h : nameB s.data.toList = false ∨ (8 : Int) < (s.size : Int)) :
    Calls Tryd.prog 51 #[.string s] w fun e w' => e = .returned (.tuple #[.slice none 0 0, errV a 3]) ∧ w = w' := by
  have h := prefix_bad s 8 w a E hs h
  unfold errV at h
  have H := Lib.hid h
  clear h E
  go_enter Tryd.func51, Tryd.ntmps51
  go_wp2_with (go_at_call 101; refine H.out.mono ?_; rintro e w' ⟨rfl, rfl⟩)
  go_ret2
  exact ⟨rfl, rfl⟩
end Go.Proofs.YtamfbfajlfbooaaDoor
end
/- What SpinSafe and SpinEnds build: the law. -/
section
namespace Go.Proofs.YtamfbfajlfbooaaDoor
open Go.RowKit Qs Qh
def spR : List Int := [0, 0, 0, 0, 0, 0, 0, 1]
theorem codesInfo : (Tryd.prog.info? 28).map (fun i => (i.zero, i.size, i.bytes)) = some (some (.slice none 0 0), 1, 24) := by kernel_rfl
theorem rowsInfo : (Tryd.prog.info? 23).map (fun i => (i.zero, i.size, i.bytes)) = some (some (.slice none 0 0), 1, 24) := by kernel_rfl
theorem heap3_a (w : World) (a b c : Obj) : (((w.alloc a).alloc b).alloc c).heap[w.heap.size]? = some a := by
  have h0 := heap_alloc_new w a
  have h1 := (Below.heap_alloc (w.alloc a) b _ (lt_of_block h0)).trans h0
  exact (Below.heap_alloc ((w.alloc a).alloc b) c _ (lt_of_block h1)).trans h1
theorem heap3_b (w : World) (a b c : Obj) : (((w.alloc a).alloc b).alloc c).heap[w.heap.size + 1]? = some b := by
  have h0 := heap_alloc_new (w.alloc a) b
  have h1 := (Below.heap_alloc ((w.alloc a).alloc b) c _ (lt_of_block h0)).trans h0
  simpa using h1
theorem heap3_c (w : World) (a b c : Obj) : (((w.alloc a).alloc b).alloc c).heap[w.heap.size + 1 + 1]? = some c := by
  have h0 := heap_alloc_new ((w.alloc a).alloc b) c
  simpa using h0
def spW (w : World) : World := ((w.alloc (.cells #[] 3)).alloc (.cells #[.slice (some ⟨w.heap.size, 0, none⟩) 0 0] 23)).alloc (.cells #[.int .i64 1, .slice (some ⟨w.heap.size + 1, 0, none⟩) 1 1, .slice none 0 0] 26)
theorem spSet (w : World) : SetRel w (w.heap.size + 1 + 1) 1 (.slice (some ⟨w.heap.size + 1, 0, none⟩) 1 1) [[]] (.slice none 0 0) (.slice none 0 0) [] [] (fun _ => .bool false) (fun _ => .bool false) (spW w) := by
  have hb := heap3_b w (.cells #[] 3) (.cells #[.slice (some ⟨w.heap.size, 0, none⟩) 0 0] 23) (.cells #[.int .i64 1, .slice (some ⟨w.heap.size + 1, 0, none⟩) 1 1, .slice none 0 0] 26)
  have ha := heap3_a w (.cells #[] 3) (.cells #[.slice (some ⟨w.heap.size, 0, none⟩) 0 0] 23) (.cells #[.int .i64 1, .slice (some ⟨w.heap.size + 1, 0, none⟩) 1 1, .slice none 0 0] 26)
  refine ⟨heap3_c w _ _ _, World.ownsRow_nil _ 0 _ 1, World.ownsRow_nil _ 0 _ 1, (fun i c h => by simp at h), (fun i c h => by simp at h), ?_, (fun h => by cases h), (fun h => by cases h), (fun g h => by cases h), ((((Mod.refl noF w).alloc _).alloc _).alloc _).toBelow, by omega, (fun g h => by cases h), (fun g h => by cases h)⟩
  have hlt1 := lt_of_block hb
  have hlt0 := lt_of_block ha
  refine ⟨_, _, rfl, fun g hg => ?_, fun i l hl => ?_⟩
  · have : w.heap.size + 1 = g := by simpa [Value.ownBlock] using hg
    exact ⟨⟨by omega, (fun h => by cases h), (fun h => by cases h)⟩, this ▸ hlt1⟩
  · have hi : i = 0 := by have := (List.getElem?_eq_some_iff.1 hl).1; simp at this; exact this
    subst hi
    have : l = [] := by simpa using hl.symm
    subst this
    refine ⟨_, 0, _, rfl, hlt1, (cell_of_heap (w := spW w) hb 0).trans rfl, ⟨_, _, rfl, Nat.zero_le _, fun i x h => by simp at h⟩, fun g hg => ?_⟩
    have : w.heap.size = g := by simpa [Value.ownBlock] using hg
    exact ⟨⟨⟨by omega, (fun h => by cases h), (fun h => by cases h)⟩, this ▸ hlt0⟩, this ▸ hlt0⟩
theorem rep_snoc {α : Type} (k : Nat) (a : α) : List.replicate k a ++ [a] = List.replicate (k + 1) a := by rw [List.replicate_succ']
theorem slice_one (a : Option Addr) (b c : Nat) : ∀ u ∈ [Value.slice a b c], u.oneCell' = true := by
  intro u hu; simp at hu; subst hu; rfl
/-- The start that is built. -/
theorem spStart_eq (th n : Nat) (h1 : 1 ≤ th) (h4 : th ≤ 4) : startM 1 [[]] (List.replicate th spR) (List.replicate th (spCode n)) = spStart th n := by
  rcases (by omega : th = 1 ∨ th = 2 ∨ th = 3 ∨ th = 4) with rfl | rfl | rfl | rfl <;> rfl
theorem spFine : CodeFine (spCode 1) ∧ CodeFine (spCode 2) ∧ CodeFine (spCode 3) := ⟨codeFine_of (by decide +kernel), codeFine_of (by decide +kernel), codeFine_of (by decide +kernel)⟩
theorem spFine_of {n : Nat} (h1 : 1 ≤ n) (h3 : n ≤ 3) : CodeFine (spCode n) := by
  rcases (by omega : n = 1 ∨ n = 2 ∨ n = 3) with rfl | rfl | rfl
  · exact spFine.1
  · exact spFine.2.1
  · exact spFine.2.2
theorem spFines {th n : Nat} (h1 : 1 ≤ n) (h3 : n ≤ 3) : ∀ c ∈ List.replicate th (spCode n), CodeFine c := fun c hc => by rw [List.eq_of_mem_replicate hc]; exact spFine_of h1 h3
theorem spInit : RowsFine 4 [[]] := fun l hl => by simp at hl; subst hl; simp
theorem spRegs (th : Nat) : RowsFine 8 (List.replicate th spR) := fun l hl => by
  rw [List.eq_of_mem_replicate hl]
  exact ⟨by decide, fun v hv => by simp [spR] at hv; rcases hv with rfl | rfl <;> rfl⟩
end Go.Proofs.YtamfbfajlfbooaaDoor
end
