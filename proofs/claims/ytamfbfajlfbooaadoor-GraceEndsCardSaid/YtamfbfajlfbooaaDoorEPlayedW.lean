/- quiescentlaw2.played, walked. -/
import Derived.Test.YtamfbfajlfbooaaDoorEm7
import Derived.Deep.RegionHeld3
set_option linter.unusedVariables false
set_option linter.unusedSimpArgs false
set_option linter.unusedSectionVars false
namespace Go.Proofs.YtamfbfajlfbooaaDoor
open Go.RowKit Qs Qh
set_option maxRecDepth 100000 in
set_option maxHeartbeats 16000000 in
theorem played_ok {f : Nat} (h1 : 1 ≤ f) (h4 : f ≤ 4) {l : List Cst} (hl1 : 1 ≤ l.length) (hl4 : l.length ≤ 4) (hc : ∀ x ∈ l, x.t ≤ 3 ∧ x.r ≤ 5) (wait : Bool) (fine : ∀ x ∈ l, CodeFine (castCode f wait x)) (w : World) (v : Value) (C : CastAt w v l) :
    Calls Tryd.prog 42 #[.int .i64 f, v, .bool wait] w fun e w' => ∃ L, e = .returned (.tuple #[.pointer (some ⟨L.blk 0 0, 0, none⟩), .bool true]) ∧ Mach ty w' L (startM 30 (grInit f l.length) (grRegs l.length) (l.map (castCode f wait))) 1 ∧ Below w.heap.size w w' ∧ ∀ j, Foot ty allK L (startM 30 (grInit f l.length) (grRegs l.length) (l.map (castCode f wait))) j → w.heap.size ≤ j := by
  obtain ⟨i1, hi1, hy0, hy1, hy2⟩ := info_parts codesInfo
  have hfd := fault_code
  obtain ⟨a, c, rfl, hx⟩ := C
  have Hx := Lib.hid hx
  have Hc := Lib.hid hc
  have Hfine := Lib.hid fine
  clear hx hc fine
  go_enter Tryd.func42, Tryd.ntmps42
  go_wp2_with fail
  refine (world_ok h1 h4 hl1 hl4 w).mono ?_
  rintro e w1 ⟨iv, uv, rfl, hI, hR, hm1⟩
  obtain ⟨ia, ib, ic, rfl⟩ : ∃ a b c, iv = .slice a b c := by obtain ⟨a, c, e, _⟩ := hI; exact ⟨_, _, _, e⟩
  obtain ⟨ua, ub, uc, rfl⟩ : ∃ a b c, uv = .slice a b c := by obtain ⟨a, c, e, _⟩ := hR; exact ⟨_, _, _, e⟩
  have hb1 := ((Mod.refl noF w1).alloc (.cells #[.int .i64 30, (.slice ia ib ic), (.slice ua ub uc)] 26))
  have HI := Lib.hid (hI.keep hb1.toBelow)
  have HR := Lib.hid (hR.keep hb1.toBelow)
  have HM1 := Lib.hid (hm1.trans0 hb1)
  obtain ⟨w2, hw2⟩ : ∃ w2, w2 = w1.alloc (.cells #[.int .i64 30, (.slice ia ib ic), (.slice ua ub uc)] 26) := ⟨_, rfl⟩
  have hbox : w2.heap[w1.heap.size]? = some (.cells #[.int .i64 30, (.slice ia ib ic), (.slice ua ub uc)] 26 (0, 0)) := by rw [hw2]; exact heap_alloc_new w1 _
  have hlt2 := lt_of_block hbox
  rw [← hw2] at HI HR HM1
  have Hbox := Lib.hid hbox
  clear hI hR hm1 hb1 hbox
  go_wp2
  rw [← hw2]
  have Hw2 := Lib.hid hw2
  clear hw2
  go_loopw [10, 11, 12, 13] (fun t i _ _ wr => ∃ k : Nat, k ≤ l.length ∧ i = .int .i64 k ∧ ∃ cv, CodeTab w2 t ((l.take k).map (castCode f wait)) cv wr) (fun _ i _ _ _ => l.length - (intOf i).toNat)
  case atStart => exact ⟨0, Nat.zero_le _, rfl, _, by simpa using CodeTab.start w2 (fun _ => undef)⟩
  case round =>
    obtain ⟨k, hk, rfl, cv, T⟩ := hrel
    obtain ⟨ta, tb, tc, rfl⟩ := slice_of_own T.vrow
    have hMr := Mod.below T.below
    have hsr := hMr.size
    have HMr := Lib.hid hMr
    have HT := Lib.hid T
    clear T hMr
    by_cases hlt : k < l.length
    · have hd : decide ((k : Int) < (l.length : Int)) = true := by simp; omega
      obtain ⟨x, hxk⟩ : ∃ x, l[k]? = some x := ⟨_, List.getElem?_eq_getElem hlt⟩
      obtain ⟨b, off, rfl, hbw, e0, e1, e2, e3⟩ := Hx.out k x hxk
      have q0 := HMr.out.cell (HM1.out.cell e0 (fun e => e)) (fun e => e)
      have q1 := HMr.out.cell (HM1.out.cell e1 (fun e => e)) (fun e => e)
      have q2 := HMr.out.cell (HM1.out.cell e2 (fun e => e)) (fun e => e)
      have q3 := HMr.out.cell (HM1.out.cell e3 (fun e => e)) (fun e => e)
      obtain ⟨hct, hcr⟩ := Hc.out x (List.mem_of_getElem? hxk)
      have hkl : (k : Int) < (l.length : Int) := by omega
      have hk0 : (0 : Int) ≤ (k : Int) := by omega
      have hbr : b < wr.heap.size := by have := HM1.out.size; omega
      have htk : (l.take (k + 1)).map (castCode f wait) = (l.take k).map (castCode f wait) ++ [castCode f wait x] := by
        rw [List.take_add_one, hxk]; simp
      have Htk := Lib.hid htk
      have Hxk := Lib.hid hxk
      clear e0 e1 e2 e3 htk hxk
      obtain ⟨xw, xt, xr, xn⟩ := x
      simp only at q0 q1 q2 q3 hct hcr
      cases xw with
      | true =>
        go_wp2_with fail
        refine (writer_ok h1 h4 hct wait wr).mono ?_
        rintro e w3 ⟨v3, rfl, O⟩
        have hcx := InsRow.code O.row
        have hq := Mod.below O.below
        have hown : ∀ g, v3.ownBlock = some g → wr.heap.size ≤ g ∧ g < w3.heap.size := fun g hg => ⟨O.own g hg, InsRow.lt O.row hg⟩
        obtain ⟨xa, xc, rfl, _, _⟩ := O.row.slice
        have HO := Lib.hid O
        have Hcx := Lib.hid hcx
        have Hq := Lib.hid hq
        have Hown := Lib.hid hown
        clear O hcx hq hown q0 q1 q2 q3
        go_wp2_with (at_builtin; refine wpList_append_mine _ rfl (.tmp 67) (.tmp 69) 27 rfl 28 i1 (.slice none 0 0) 1 24 Tryd.underlying27 hi1 hy0 hy1 hy2 rfl (by decide) _ _ _ rfl (World.ownsRow.alloc (HT.out.quiet Hq.out).vrow _) ⟨_, 0, none⟩ 1 1 [.slice xa (wrCode f wait xt).length xc] rfl rfl (new_cells_at w3 _ _ rfl) (slice_one _ _ _) (world_bnd (by simp; omega) (by omega)) (world_bnd2 (by simp; omega) (by omega)) ?_; intro v4 w4 hown hgr hfr hz; obtain ⟨a4, b4, c4, rfl⟩ := slice_of_own hown; have T4 := (HT.out.quiet Hq.out).add (c := wrCode f wait xt) (Hcx.out.frame ((Mod.refl noF _).alloc _) (fun _ _ e => e)) (fun g hg => ⟨fun e => by have := (World.ownsRow.lt HT.out.vrow _ e).2; have := (Hown.out g hg).1; omega, by have := (Hown.out g hg).2; simp; omega⟩) ((Mod.refl noF _).alloc _) hown hgr hfr; have HT4 := Lib.hid T4; clear T4 hown hgr hfr hz)
        go_roundw
        case rel => exact ⟨k + 1, by omega, by go_num, _, by rw [Htk.out]; exact HT4.out⟩
        case measure => simp [intOf]; omega
      | false =>
        go_wp2
        go_region_with (go_at_call 100; refine (reader_any h1 h4 hct hcr xn _).mono ?_; rintro e w3 ⟨v3, rfl, O⟩)
        all_goals
          have hcx := InsRow.code O.row
          have hq := (Mod.refl noF wr).drew.trans0 (Mod.below O.below)
          have hown : ∀ g, v3.ownBlock = some g → wr.heap.size ≤ g ∧ g < w3.heap.size := fun g hg => ⟨O.own g hg, InsRow.lt O.row hg⟩
          obtain ⟨xa, xc, rfl, _, _⟩ := O.row.slice
          have Hcx := Lib.hid hcx
          have Hq := Lib.hid hq
          have Hown := Lib.hid hown
          clear O hcx hq hown q0 q1 q2 q3
          go_wp2_with (at_builtin; refine wpList_append_mine _ rfl (.tmp 67) (.tmp 69) 27 rfl 28 i1 (.slice none 0 0) 1 24 Tryd.underlying27 hi1 hy0 hy1 hy2 rfl (by decide) _ _ _ rfl (World.ownsRow.alloc (HT.out.quiet Hq.out).vrow _) ⟨_, 0, none⟩ 1 1 [.slice xa (rdCode f (if xn then 3 else 1) xr xt).length xc] rfl rfl (new_cells_at w3 _ _ rfl) (slice_one _ _ _) (world_bnd (by simp; omega) (by omega)) (world_bnd2 (by simp; omega) (by omega)) ?_; intro v4 w4 hown hgr hfr hz; obtain ⟨a4, b4, c4, rfl⟩ := slice_of_own hown; have T4 := (HT.out.quiet Hq.out).add (c := rdCode f (if xn then 3 else 1) xr xt) (Hcx.out.frame ((Mod.refl noF _).alloc _) (fun _ _ e => e)) (fun g hg => ⟨fun e => by have := (World.ownsRow.lt HT.out.vrow _ e).2; have := (Hown.out g hg).1; omega, by have := (Hown.out g hg).2; simp; omega⟩) ((Mod.refl noF _).alloc _) hown hgr hfr; have HT4 := Lib.hid T4; clear T4 hown hgr hfr hz)
          go_roundw
          case rel => exact ⟨k + 1, by omega, by go_num, _, by rw [Htk.out]; exact HT4.out⟩
          case measure => simp [intOf]; omega
    · have hd : decide ((k : Int) < (l.length : Int)) = false := by simp; omega
      obtain rfl : k = l.length := by omega
      have htl : (l.take l.length).map (castCode f wait) = l.map (castCode f wait) := by rw [List.take_length]
      have hT := HT.out
      rw [htl] at hT
      have HT2 := Lib.hid hT
      have hbr := HMr.out.heap Hbox.out (fun e => e)
      have p0 : wr.cell? ⟨w1.heap.size, 0, none⟩ = some (.int .i64 30) := (cell_of_heap hbr _).trans rfl
      have p1 : wr.cell? ⟨w1.heap.size, 1, none⟩ = some (.slice ia ib ic) := (cell_of_heap hbr _).trans rfl
      have p2 : wr.cell? ⟨w1.heap.size, 2, none⟩ = some (.slice ua ub uc) := (cell_of_heap hbr _).trans rfl
      have hfs : ∀ c ∈ l.map (castCode f wait), CodeFine c := fun c hc => by
        obtain ⟨x, hx, rfl⟩ := List.mem_map.1 hc
        exact Hfine.out x hx
      have Hfs := Lib.hid hfs
      clear hT htl hfs hbr
      go_wp2_with fail
      refine (startFault_ok 30 _ _ _ (grInit f l.length) (grRegs l.length) (l.map (castCode f wait)) cv wr (HI.out.keep HMr.out.toBelow) (HR.out.keep HMr.out.toBelow) HT2.out.at_ (by omega) (by omega) (by simpa using hl1) (by simp; omega) (by simp [grInit]; omega) (by simp [grRegs]) (grInit_fine hl4) (grRegs_fine hl4) Hfs.out).mono ?_
      rintro e w5 ⟨rfl, hm5⟩
      have r0 := hm5.cell p0 (fun e => e)
      have r1 := hm5.cell p1 (fun e => e)
      have r2 := hm5.cell p2 (fun e => e)
      have Hm5 := Lib.hid hm5
      clear hm5 p0 p1 p2
      go_wp2_with fail
      refine (newMachine_ok 30 _ _ _ (grInit f l.length) (grRegs l.length) (l.map (castCode f wait)) cv w5 (HI.out.keep (HMr.out.trans0 Hm5.out).toBelow) (HR.out.keep (HMr.out.trans0 Hm5.out).toBelow) (HT2.out.at_.keep Hm5.out.toBelow) (by omega) (by omega) (by simpa using hl1) (by simp; omega) (by simp [grInit]; omega) (by simp [grRegs]) (grInit_fine hl4) (grRegs_fine hl4) Hfs.out).mono ?_
      rintro e w6 ⟨L, rfl, X, hb6, hft⟩
      have HX := Lib.hid X
      have Hb6 := Lib.hid hb6
      have Hft := Lib.hid hft
      clear X hb6 hft
      go_wp2
      go_ret2
      have hw := (HM1.out.trans0 HMr.out).trans0 Hm5.out
      exact ⟨L, rfl, HX.out, (hw.trans0 (Mod.below Hb6.out)).toBelow, fun j hj => by have := Hft.out j hj; have := hw.size; omega⟩
end Go.Proofs.YtamfbfajlfbooaaDoor
