/- MemoryAlone, walked. -/
import Derived.Test.YtamfbfajlfbooaaDoorRAloneLaw
import Derived.Test.YtamfbfajlfbooaaDoorRPWaits
import Derived.Test.YtamfbfajlfbooaaDoorRStructs
import Derived.Test.YtamfbfajlfbooaaDoorRSetLaw
import Derived.Test.YtamfbfajlfbooaaDoorRm3
import Derived.Laws.StructEq
import Derived.StillTailTactics
import Derived.Outline
import Derived.Deep.RegionHeld3
import Derived.Laws.BitsLemmas
import Derived.Laws.Entries
set_option linter.unusedVariables false
set_option linter.unusedSimpArgs false
set_option linter.unusedSectionVars false
namespace Go.Proofs.YtamfbfajlfbooaaDoor
open Go.RowKit Qs Qh
theorem and_one (cc : Int) : ∃ kk : Nat, kk < 2 ∧ bits .and .i64 cc 1 = (kk : Int) := by
  have h : (BitVec.ofInt 64 cc &&& BitVec.ofInt 64 1).toNat = (BitVec.ofInt 64 cc).toNat % 2 := by
    rw [BitVec.toNat_and]
    show _ &&& 1 = _
    exact Nat.and_one_is_mod _
  refine ⟨(BitVec.ofInt 64 cc).toNat % 2, by omega, ?_⟩
  show IntKind.i64.wrap (((BitVec.ofInt 64 cc &&& BitVec.ofInt 64 1).toNat : Nat) : Int) = _
  rw [h, IntKind.wrap_i64]; omega
/-- What the law keeps: the memory, the two refs, what was stored last. -/
structure AloneAt (w : World) (a : Nat → Addr) (B : PB) (bR bN : Nat) (l : List Cell) (q : List Wt) (now : List Int) (vs : List Value) (wr : World) : Prop where
  mem : PMV wr B l [q, []] vs
  low : PLow w wr a B vs
  hR : wr.heap[bR]? = some (.cells #[.int .i64 0, .int .i64 0, .int .i64 1, .int .i64 0] 58 (0, 0))
  hN : wr.heap[bN]? = some (.cells (now.map iv).toArray 3 (0, 0))
  oR : ¬ PFoot B vs bR
  oN : ¬ PFoot B vs bN
  ne : bR ≠ bN
  nN : w.heap.size ≤ bN
theorem AloneAt.keep {w wr w' : World} {a : Nat → Addr} {B : PB} {bR bN : Nat} {l : List Cell} {q : List Wt} {now : List Int} {vs : List Value} (h : AloneAt w a B bR bN l q now vs wr) (hM : Mod noF wr w') : AloneAt w a B bR bN l q now vs w' :=
  ⟨h.mem.keep0 hM, h.low.keep hM, hM.heap h.hR (fun e => e), hM.heap h.hN (fun e => e), h.oR, h.oN, h.ne, h.nN⟩
theorem AloneAt.up {w wr w' : World} {a : Nat → Addr} {B : PB} {bR bN : Nat} {l l' : List Cell} {q q' : List Wt} {now : List Int} {vs vs' : List Value} (h : AloneAt w a B bR bN l q now vs wr) (u : PUp wr B vs w' l' [q', []] vs') : AloneAt w a B bR bN l' q' now vs' w' :=
  ⟨u.rep, h.low.up u, u.heap h.oR h.hR, u.heap h.oN h.hN, u.out h.oR (lt_of_block h.hR), u.out h.oN (lt_of_block h.hN), h.ne, h.nN⟩
theorem AloneAt.ref {w wr : World} {a : Nat → Addr} {B : PB} {bR bN : Nat} {l : List Cell} {q : List Wt} {now : List Int} {vs : List Value} (h : AloneAt w a B bR bN l q now vs wr) {k : Nat} (hk : k < 2) : wr.cell? ⟨bR, k * 2, none⟩ = some (.int .i64 (k : Int)) ∧ wr.cell? ⟨bR, k * 2 + 1, none⟩ = some (.int .i64 0) := by
  have : k = 0 ∨ k = 1 := by omega
  rcases this with rfl | rfl <;> exact ⟨(cell_of_heap h.hR _).trans rfl, (cell_of_heap h.hR _).trans rfl⟩
theorem AloneAt.num {w wr : World} {a : Nat → Addr} {B : PB} {bR bN : Nat} {l : List Cell} {q : List Wt} {now : List Int} {vs : List Value} (h : AloneAt w a B bR bN l q now vs wr) (st : AloneSt l q now) {k j : Nat} (hk : k < 2) (hj : j < 4) : wr.cell? ⟨bN, 4 * k + j, none⟩ = some (.int .i64 (Qs.look q k 0 j (getWord l k j))) := by
  rw [cell_of_heap h.hN]
  have := st.val k j hk hj
  simp only [List.getElem?_toArray, List.getElem?_map, this]
  rfl
theorem AloneAt.set {w wr : World} {a : Nat → Addr} {B : PB} {bR bN : Nat} {l : List Cell} {q : List Wt} {now now' : List Int} {vs : List Value} (h : AloneAt w a B bR bN l q now vs wr) {i : Nat} {V : Int} (e : now' = now.set i V) : AloneAt w a B bR bN l q now' vs (wr.setCell ⟨bN, i, none⟩ (.int .i64 V)) := by
  have hM : Mod (fun x => x = bN) wr (wr.setCell ⟨bN, i, none⟩ (.int .i64 V)) := (Mod.refl (fun x => x = bN) wr).setCell (fun _ => rfl) _
  refine ⟨h.mem.keep hM (fun x hx e => h.oN (e ▸ hx)), ⟨h.low.errs, h.low.mod.trans hM (fun x hx e => by have := h.nN; omega), h.low.low⟩, hM.heap h.hR h.ne, ?_, h.oR, h.oN, h.ne, h.nN⟩
  have := Qh.heap_setCell_same h.hN i (.int .i64 V)
  rw [e, List.map_set]
  simpa [iv] using this
set_option maxRecDepth 100000 in
set_option maxHeartbeats 20000000 in
theorem alone_in (v : Value) (l : List MAct) (w : World) (a : Nat → Addr) (E : Errs4 w a) (R : RowsAt MAct.vals 7 w v l) (hok : ∀ x ∈ l, x.Ok) (hl : l.length ≤ 100) :
    Calls Tryd.prog 5 #[v] w fun e w' => e = .returned (.bool true) ∧ Mod noF w w' := by
  have d2 : decide ((100 : Int) < (l.length : Int)) = false := by simp; omega
  have HR := Lib.hid R
  have HE := Lib.hid E
  have Hok := Lib.hid hok
  obtain ⟨a0, c0, rfl, hl0, hc0, hn0, hx0⟩ := id R
  clear R E hok hx0 hn0
  go_enter Tryd.func5, Tryd.ntmps5
  go_wp2_with fail
  refine (waits_ok w a HE.out).mono ?_
  rintro e w0 ⟨rfl, hm0⟩
  have Hm0 := Lib.hid hm0
  clear hm0
  go_wp2_with fail
  refine (pmNew_ok 2 2 (by decide) (by decide) (by decide) (by decide) w0).mono ?_
  rintro e w1 ⟨B, rfl, P1, hm1, hl1⟩
  have HL1 : PLow w w1 a B (List.replicate 2 (.slice none 0 0)) := ⟨HE.out, Hm0.out.trans0 hm1, fun x hx => Nat.le_trans Hm0.out.size (hl1 x hx)⟩
  have HP1 := Lib.hid P1
  have HL1 := Lib.hid HL1
  clear P1 hm1 hl1
  go_wp2_with fail
  refine (pmAlloc_ok HP1.out HL1.out.E (by decide) (cells_fresh 2 (by decide)).times (t := 0) (by decide)).mono ?_
  rintro e w2 (⟨i, ci, ha, hci, rfl, hu⟩ | ⟨ha, -, -⟩)
  · have e0 : (i, ci.times) = (0, 0) := by rw [show allocAt (List.replicate 2 freshCell) 0 = some (0, 0) from rfl] at ha; exact (Option.some.inj ha).symm
    simp only [Prod.mk.injEq] at e0
    obtain ⟨rfl, hct⟩ := e0
    rw [hct]
    obtain rfl : ci = freshCell := by rw [show (List.replicate 2 freshCell)[0]? = some freshCell from rfl] at hci; exact (Option.some.inj hci).symm
    rw [show (List.replicate 2 freshCell).set 0 (givenCell freshCell) = [givenCell freshCell, freshCell] from rfl] at hu
    have Hu := Lib.hid hu
    have HL2 := Lib.hid (HL1.out.up hu)
    have hb2 := heap_alloc_new w2 (refBox 0 0)
    have Hb2 := Lib.hid hb2
    have Hnf2 := Lib.hid (show ¬ PFoot B (List.replicate 2 (.slice none 0 0)) w2.heap.size from fun hx => Nat.lt_irrefl _ (hu.rep.lt hx))
    have P2 := hu.rep.keep0 ((Mod.refl noF w2).alloc (refBox 0 0))
    have HP2 := Lib.hid P2
    have C2 : timesOk [givenCell freshCell, freshCell] := by
      intro i c hc
      have : c = givenCell freshCell ∨ c = freshCell := by simpa using List.mem_of_getElem? hc
      rcases this with rfl | rfl <;> exact ⟨by decide, by decide⟩
    have hcall := pmAlloc_ok P2 (HL2.out.E.keep ((Mod.refl noF w2).alloc (refBox 0 0))) (by decide) C2 (t := 0) (by decide)
    have Hcall := Lib.hid hcall
    clear hu ha hci hct hb2 P2 hcall C2
    go_wp2_with fail
    refine Hcall.out.mono ?_
    rintro e w3 (⟨i, ci, ha, hci, rfl, hu⟩ | ⟨ha, -, -⟩)
    · have e0 : (i, ci.times) = (1, 0) := by rw [show allocAt [givenCell freshCell, freshCell] 0 = some (1, 0) from rfl] at ha; exact (Option.some.inj ha).symm
      simp only [Prod.mk.injEq] at e0
      obtain ⟨rfl, hct⟩ := e0
      rw [hct]
      obtain rfl : ci = freshCell := by rw [show [givenCell freshCell, freshCell][1]? = some freshCell from rfl] at hci; exact (Option.some.inj hci).symm
      rw [show [givenCell freshCell, freshCell].set 1 (givenCell freshCell) = [givenCell freshCell, givenCell freshCell] from rfl] at hu
      have hx2 := hu.heap Hnf2.out Hb2.out
      have r0 : w3.cell? ⟨w2.heap.size, 0, none⟩ = some (.int .i64 0) := (cell_of_heap hx2 0).trans rfl
      have r1 : w3.cell? ⟨w2.heap.size, 1, none⟩ = some (.int .i64 0) := (cell_of_heap hx2 1).trans rfl
      have rb := lt_of_block hx2
      have Hu3 := Lib.hid hu
      have HL3 := Lib.hid ((HL2.out.keep ((Mod.refl noF w2).alloc (refBox 0 0))).up hu)
      have hmk : ∀ w : World, (Instr.makeSlice 23 (.int .i64 8) (.int .i64 8)).run Tryd.prog w = .ok (.slice (some ⟨w.heap.size, 0, none⟩) 8 8) (w.alloc (.cells #[.int .i64 0, .int .i64 0, .int .i64 0, .int .i64 0, .int .i64 0, .int .i64 0, .int .i64 0, .int .i64 0] 3)) := fun _ => by kernel_rfl
      clear hu ha hci hct hx2 Hcall
      go_wp2_with fail
      have hstart : AloneAt w a B (w3.heap.size + 1) (w3.heap.size + 1 + 1) [givenCell freshCell, givenCell freshCell] [] (List.replicate 8 0) (List.replicate 2 (.slice none 0 0)) (((w3.alloc (refBox 1 0)).alloc (.cells #[.int .i64 0, .int .i64 0, .int .i64 1, .int .i64 0] 58)).alloc (.cells #[.int .i64 0, .int .i64 0, .int .i64 0, .int .i64 0, .int .i64 0, .int .i64 0, .int .i64 0, .int .i64 0] 3)) := by
        have hM : Mod noF w3 (((w3.alloc (refBox 1 0)).alloc (.cells #[.int .i64 0, .int .i64 0, .int .i64 1, .int .i64 0] 58)).alloc (.cells #[.int .i64 0, .int .i64 0, .int .i64 0, .int .i64 0, .int .i64 0, .int .i64 0, .int .i64 0, .int .i64 0] 3)) := (((Mod.refl noF w3).alloc _).alloc _).alloc _
        have hs3 := HL3.out.mod.size
        exact ⟨Hu3.out.rep.keep0 hM, HL3.out.keep hM, heap3_1 w3 _ _ _, heap3_2 w3 _ _ _, fun hx => by have := Hu3.out.rep.lt hx; omega, fun hx => by have := Hu3.out.rep.lt hx; omega, by omega, by omega⟩
      have Hst := Lib.hid hstart
      clear hstart r0 r1
      go_loopw [12, 13, 14, 15, 16, 17] (fun i _ _ _ _ _ wr => ∃ k : Nat, k ≤ l.length ∧ i = .int .i64 k ∧ ∃ cl q now vs, AloneSt cl q now ∧ AloneAt w a B (w3.heap.size + 1) (w3.heap.size + 1 + 1) cl q now vs wr) (fun i _ _ _ _ _ _ => l.length - (intOf i).toNat)
      case atStart => exact ⟨0, Nat.zero_le _, rfl, _, _, _, _, aloneStart, Hst.out⟩
      case round =>
        rename_i wr
        obtain ⟨k, hk, rfl, cl, q, now, vs, st, T⟩ := hrel
        have HS := Lib.hid st
        clear st
        have HT := Lib.hid T
        by_cases hlt : k < l.length
        · have hd3 : decide ((k : Int) < (l.length : Int)) = true := by simp; omega
          have hki : (k : Int) < (l.length : Int) := by omega
          obtain ⟨x, hx⟩ : ∃ x, l[k]? = some x := ⟨_, List.getElem?_eq_getElem hlt⟩
          obtain ⟨a1, c1, e1, _, _, _, hcell⟩ := HR.out.frame0 T.low.mod
          obtain ⟨b, off, rfl, hb, hj⟩ := hcell k x hx
          simp only [Value.slice.injEq, Option.some.injEq, true_and] at e1
          obtain ⟨rfl, rfl⟩ := e1
          have o0 : wr.cell? ⟨b, off + k * 7, none⟩ = some (.string x.kind) := hj 0 _ rfl
          have o1 : wr.cell? ⟨b, off + k * 7 + 1, none⟩ = some (.int .i64 x.T) := hj 1 _ rfl
          have o2 : wr.cell? ⟨b, off + k * 7 + 2, none⟩ = some (.int .i64 x.cell) := hj 2 _ rfl
          have o3 : wr.cell? ⟨b, off + k * 7 + 3, none⟩ = some (.int .i64 x.gen) := hj 3 _ rfl
          have o4 : wr.cell? ⟨b, off + k * 7 + 4, none⟩ = some (.int .i64 x.W) := hj 4 _ rfl
          have o5 : wr.cell? ⟨b, off + k * 7 + 5, none⟩ = some (.int .i64 x.V) := hj 5 _ rfl
          have o6 : wr.cell? ⟨b, off + k * 7 + 6, none⟩ = some (.int .i64 x.Old) := hj 6 _ rfl
          have hxk := Hok.out x (List.mem_of_getElem? hx)
          have Hxk := Lib.hid hxk
          obtain ⟨kind, tt, cc, gg, W, V, old⟩ := x
          simp only at o0 o1 o2 o3 o4 o5 o6
          clear hcell hj hx hxk T
          by_cases hW : W < 0
          · have dw : decide (W < 0) = true := by simpa using hW
            go_wp2_with fail
            exact ⟨⟨k + 1, by omega, by go_num, _, _, _, _, HS.out, HT.out.keep ((Mod.refl noF wr).alloc _)⟩, by simp [intOf]; omega⟩
          by_cases hW4 : 4 ≤ W
          · have dw : decide (W < 0) = false := by simpa using hW
            have dw4 : decide (4 ≤ W) = true := by simpa using hW4
            go_wp2_with fail
            exact ⟨⟨k + 1, by omega, by go_num, _, _, _, _, HS.out, HT.out.keep ((Mod.refl noF wr).alloc _)⟩, by simp [intOf]; omega⟩
          obtain ⟨j, rfl⟩ := Int.eq_ofNat_of_zero_le (show 0 ≤ W by omega)
          have hj4 : j < 4 := by omega
          have dw : decide ((j : Int) < 0) = false := by simp
          have dw4 : decide ((4 : Int) ≤ (j : Int)) = false := by simp; omega
          obtain ⟨kk, hkk, hbits⟩ := and_one cc
          have ik0 : (0 : Int) ≤ (kk : Int) := by omega
          have ik1 : (kk : Int) < 2 := by omega
          have ij1 : (j : Int) < 4 := by omega
          by_cases k0 : kind = ⟨#[115, 116, 111, 114, 101]⟩
          · subst k0
            go_wp2_with fail
            obtain ⟨wx, hwx⟩ : ∃ wx, wx = wr.alloc (.cells #[.string ⟨#[115, 116, 111, 114, 101]⟩, .int .i64 tt, .int .i64 cc, .int .i64 gg, .int .i64 j, .int .i64 V, .int .i64 old] 63) := ⟨_, rfl⟩
            have hMx : Mod noF wr wx := hwx ▸ (Mod.refl noF wr).alloc _
            have hx : wx.heap[wr.heap.size]? = some (.cells #[.string ⟨#[115, 116, 111, 114, 101]⟩, .int .i64 tt, .int .i64 cc, .int .i64 gg, .int .i64 j, .int .i64 V, .int .i64 old] 63) := hwx ▸ heap_alloc_new wr _
            rw [← hwx]
            have hTx := HT.out.keep hMx
            have HTx := Lib.hid hTx
            obtain ⟨rr0, rr1⟩ := hTx.ref hkk
            have nn := hTx.num HS.out hkk hj4
            have bRl := lt_of_block hTx.hR
            have bNl := lt_of_block hTx.hN
            have x4 : wx.cell? ⟨wr.heap.size, 4, none⟩ = some (.int .i64 j) := (cell_of_heap hx 4).trans rfl
            have x5 : wx.cell? ⟨wr.heap.size, 5, none⟩ = some (.int .i64 V) := (cell_of_heap hx 5).trans rfl
            have xb := lt_of_block hx
            have Hx := Lib.hid hx
            have Hnx := Lib.hid (show ¬ PFoot B vs wr.heap.size from fun h => by have := HT.out.mem.lt h; omega)
            have hNne : wr.heap.size ≠ w3.heap.size + 1 + 1 := by have := lt_of_block HT.out.hN; omega
            clear hTx hMx hx hwx o0 o1 o2 o3 o4 o5 o6
            cases hv : isWord V with
            | false =>
              have hcall := pstore_bound (HTx.out.mem.keep0 (Mod.refl noF wx).drew) (HTx.out.low.E.keep (Mod.refl noF wx).drew) HS.out.ok.len HS.out.ok.times (show 2 ≤ 6 by decide) (t := 0) (q := q) rfl HS.out.q8 (kk : Int) 0 (j : Int) V _ (HS.out.load hkk hj4) hv
              simp only [errOf', errV, show ((2 : Int) = 0) = False by decide, if_false, show (2 : Int).toNat - 1 = 1 from rfl] at hcall
              have Hcall := Lib.hid hcall
              clear hcall
              have Hv := Lib.hid hv
              clear hv
              refine wp_region_still_tail 9 (by kernel_rfl) (by kernel_rfl) ?_
              simp only [List.take_succ_cons, List.take_zero, List.drop_succ_cons, List.drop_zero, World.drew_eq]
              repeat (first | still_step)
              refine wpStill_nil ?_
              go_wp2_with fail
              refine Hcall.out.mono ?_
              rintro e w4 ⟨rfl, hu4⟩
              have Hu4 := Lib.hid hu4
              have hx4 := hu4.heap Hnx.out (show wx.drew.heap[wr.heap.size]? = _ from Hx.out)
              have x4 : w4.cell? ⟨wr.heap.size, 4, none⟩ = some (.int .i64 j) := (cell_of_heap hx4 4).trans rfl
              have x5 : w4.cell? ⟨wr.heap.size, 5, none⟩ = some (.int .i64 V) := (cell_of_heap hx4 5).trans rfl
              have xb := lt_of_block hx4
              clear hu4 hx4 Hcall
              go_wp2_with fail
              refine (isWord_any V w4).mono ?_
              rintro e w' ⟨rfl, rfl⟩
              rw [Hv.out]
              go_wp2_with fail
              exact ⟨⟨k + 1, by omega, by go_num, _, _, _, _, HS.out, (HTx.out.keep (Mod.refl noF wx).drew).up Hu4.out⟩, by simp [intOf]; omega⟩
            | true =>
              by_cases h8 : 8 ≤ q.length
              · have hcall := pstore_full (HTx.out.mem.keep0 (Mod.refl noF wx).drew) (HTx.out.low.E.keep (Mod.refl noF wx).drew) HS.out.ok.len HS.out.ok.times (show 2 ≤ 6 by decide) (t := 0) (q := q) rfl HS.out.q8 (kk : Int) 0 (j : Int) V _ (HS.out.load hkk hj4) hv h8
                simp only [errOf', errV, show ((6 : Int) = 0) = False by decide, if_false, show (6 : Int).toNat - 1 = 5 from rfl] at hcall
                have Hcall := Lib.hid hcall
                clear hcall
                have Hv := Lib.hid hv
                clear hv
                refine wp_region_still_tail 9 (by kernel_rfl) (by kernel_rfl) ?_
                simp only [List.take_succ_cons, List.take_zero, List.drop_succ_cons, List.drop_zero, World.drew_eq]
                repeat (first | still_step)
                refine wpStill_nil ?_
                go_wp2_with fail
                refine Hcall.out.mono ?_
                rintro e w4 ⟨rfl, hu4⟩
                have Hu4 := Lib.hid hu4
                have hx4 := hu4.heap Hnx.out (show wx.drew.heap[wr.heap.size]? = _ from Hx.out)
                have x4 : w4.cell? ⟨wr.heap.size, 4, none⟩ = some (.int .i64 j) := (cell_of_heap hx4 4).trans rfl
                have x5 : w4.cell? ⟨wr.heap.size, 5, none⟩ = some (.int .i64 V) := (cell_of_heap hx4 5).trans rfl
                have xb := lt_of_block hx4
                clear hu4 hx4 Hcall
                go_wp2_with fail
                refine (isWord_any V w4).mono ?_
                rintro e w' ⟨rfl, rfl⟩
                rw [Hv.out]
                go_wp2_with fail
                refine (pwaiting_ok Hu4.out.rep (t := 0) (q := q) rfl (show 2 ≤ 6 by decide)).mono ?_
                rintro e w' ⟨rfl, rfl⟩
                have d8 : decide ((q.length : Int) < 8) = false := by rw [decide_eq_false_iff_not]; omega
                go_wp2_with fail
                exact ⟨⟨k + 1, by omega, by go_num, _, _, _, _, HS.out, (HTx.out.keep (Mod.refl noF wx).drew).up Hu4.out⟩, by simp [intOf]; omega⟩
              · have hcall := pstore_ok (HTx.out.mem.keep0 (Mod.refl noF wx).drew) (HTx.out.low.E.keep (Mod.refl noF wx).drew) HS.out.ok.len HS.out.ok.times (show 2 ≤ 6 by decide) (t := 0) (q := q) rfl HS.out.q8 (kk : Int) 0 (j : Int) V _ (HS.out.load hkk hj4) hv (by omega)
                simp only [errOf', if_true] at hcall
                have Hcall := Lib.hid hcall
                clear hcall
                have Hv := Lib.hid hv
                clear hv
                refine wp_region_still_tail 9 (by kernel_rfl) (by kernel_rfl) ?_
                simp only [List.take_succ_cons, List.take_zero, List.drop_succ_cons, List.drop_zero, World.drew_eq]
                repeat (first | still_step)
                refine wpStill_nil ?_
                go_wp2_with fail
                refine Hcall.out.mono ?_
                rintro e w4 ⟨rfl, vs4, hu4⟩
                have hT4 := (HTx.out.keep (Mod.refl noF wx).drew).up hu4
                have hx4 := hu4.heap Hnx.out (show wx.drew.heap[wr.heap.size]? = _ from Hx.out)
                have x4 : w4.cell? ⟨wr.heap.size, 4, none⟩ = some (.int .i64 j) := (cell_of_heap hx4 4).trans rfl
                have x5 : w4.cell? ⟨wr.heap.size, 5, none⟩ = some (.int .i64 V) := (cell_of_heap hx4 5).trans rfl
                have xb := lt_of_block hx4
                have nl : now.length = 8 := HS.out.nlen
                have n4 : w4.cell? ⟨w3.heap.size + 1 + 1, 4 * kk + j, none⟩ = some (.int .i64 (now.getD (4 * kk + j) 0)) := by
                  rw [cell_of_heap hT4.hN]
                  have : 4 * kk + j < now.length := by omega
                  simp [iv, this]
                have nf := free_of_heap hT4.hN (4 * kk + j)
                have nb := lt_of_block hT4.hN
                have HT4 := Lib.hid hT4
                clear hu4 hx4 hT4 Hcall rr0 rr1 nn
                go_wp2_with fail
                exact ⟨⟨k + 1, by omega, by go_num, _, _, _, _, HS.out.store hkk hj4 Hv.out (by omega), HT4.out.set rfl⟩, by simp [intOf]; omega⟩
          by_cases k1 : kind = ⟨#[100, 114, 97, 105, 110]⟩
          · subst k1
            go_wp2_with fail
            obtain ⟨wx, hwx⟩ : ∃ wx, wx = wr.alloc (.cells #[.string ⟨#[100, 114, 97, 105, 110]⟩, .int .i64 tt, .int .i64 cc, .int .i64 gg, .int .i64 j, .int .i64 V, .int .i64 old] 63) := ⟨_, rfl⟩
            have hMx : Mod noF wr wx := hwx ▸ (Mod.refl noF wr).alloc _
            have hx : wx.heap[wr.heap.size]? = some (.cells #[.string ⟨#[100, 114, 97, 105, 110]⟩, .int .i64 tt, .int .i64 cc, .int .i64 gg, .int .i64 j, .int .i64 V, .int .i64 old] 63) := hwx ▸ heap_alloc_new wr _
            rw [← hwx]
            have hTx := HT.out.keep hMx
            have HTx := Lib.hid hTx
            obtain ⟨rr0, rr1⟩ := hTx.ref hkk
            have nn := hTx.num HS.out hkk hj4
            have bRl := lt_of_block hTx.hR
            have bNl := lt_of_block hTx.hN
            have x4 : wx.cell? ⟨wr.heap.size, 4, none⟩ = some (.int .i64 j) := (cell_of_heap hx 4).trans rfl
            have x5 : wx.cell? ⟨wr.heap.size, 5, none⟩ = some (.int .i64 V) := (cell_of_heap hx 5).trans rfl
            have xb := lt_of_block hx
            have Hx := Lib.hid hx
            have Hnx := Lib.hid (show ¬ PFoot B vs wr.heap.size from fun h => by have := HT.out.mem.lt h; omega)
            have hNne : wr.heap.size ≠ w3.heap.size + 1 + 1 := by have := lt_of_block HT.out.hN; omega
            clear hTx hMx hx hwx o0 o1 o2 o3 o4 o5 o6
            cases q with
            | nil =>
              have hcall := pdrain_none HTx.out.mem HTx.out.low.E (t := 0) rfl (show 2 ≤ 6 by decide)
              unfold errV at hcall
              refine hcall.mono ?_
              clear hcall
              rintro e w4 ⟨rfl, hm4⟩
              have Hm4 := Lib.hid hm4
              clear hm4
              go_wp2_with fail
              exact ⟨⟨k + 1, by omega, by go_num, _, _, _, _, HS.out, HTx.out.keep Hm4.out⟩, by simp [intOf]; omega⟩
            | cons y q =>
              have hq8 := HS.out.q8
              simp only [List.length_cons] at hq8
              have hcall := pdrain_some HTx.out.mem HTx.out.low HS.out.ok.len HS.out.ok.times HS.out.ok.words (t := 0) rfl (show 2 ≤ 6 by decide) (by omega)
              unfold pdrainE at hcall
              rw [storeE_ok (HS.out.okW y (by simp)), HS.out.first.1] at hcall
              simp only [errOf', if_true] at hcall
              refine hcall.mono ?_
              clear hcall
              rintro e w4 ⟨rfl, vs4, hu4⟩
              have Hu4 := Lib.hid hu4
              clear hu4
              go_wp2_with fail
              exact ⟨⟨k + 1, by omega, by go_num, _, _, _, _, HS.out.first.2, HTx.out.up Hu4.out⟩, by simp [intOf]; omega⟩
          have e0 := notStr2 kind [115, 116, 111, 114, 101] k0
          have e1 := notStr2 kind [100, 114, 97, 105, 110] k1
          go_wp2_with fail
          obtain ⟨wx, hwx⟩ : ∃ wx, wx = wr.alloc (.cells #[.string kind, .int .i64 tt, .int .i64 cc, .int .i64 gg, .int .i64 j, .int .i64 V, .int .i64 old] 63) := ⟨_, rfl⟩
          have hMx : Mod noF wr wx := hwx ▸ (Mod.refl noF wr).alloc _
          have hx : wx.heap[wr.heap.size]? = some (.cells #[.string kind, .int .i64 tt, .int .i64 cc, .int .i64 gg, .int .i64 j, .int .i64 V, .int .i64 old] 63) := hwx ▸ heap_alloc_new wr _
          rw [← hwx]
          have hTx := HT.out.keep hMx
          have HTx := Lib.hid hTx
          obtain ⟨rr0, rr1⟩ := hTx.ref hkk
          have nn := hTx.num HS.out hkk hj4
          have bRl := lt_of_block hTx.hR
          have bNl := lt_of_block hTx.hN
          have x4 : wx.cell? ⟨wr.heap.size, 4, none⟩ = some (.int .i64 j) := (cell_of_heap hx 4).trans rfl
          have x5 : wx.cell? ⟨wr.heap.size, 5, none⟩ = some (.int .i64 V) := (cell_of_heap hx 5).trans rfl
          have xb := lt_of_block hx
          have Hx := Lib.hid hx
          have Hnx := Lib.hid (show ¬ PFoot B vs wr.heap.size from fun h => by have := HT.out.mem.lt h; omega)
          have hNne : wr.heap.size ≠ w3.heap.size + 1 + 1 := by have := lt_of_block HT.out.hN; omega
          clear hTx hMx hx hwx o0 o1 o2 o3 o4 o5 o6
          have hS : ∀ W, Mod noF wx.drew W → (Mod noF wx.drew W ∧ W.cell? ⟨w3.heap.size + 1, kk * 2, none⟩ = some (.int .i64 (kk : Int)) ∧ W.cell? ⟨w3.heap.size + 1, kk * 2 + 1, none⟩ = some (.int .i64 0) ∧ W.cell? ⟨wr.heap.size, 4, none⟩ = some (.int .i64 j)) := by
            intro W hW
            have hz := (Mod.refl noF wx).drew.trans0 hW
            obtain ⟨r0, r1⟩ := (HTx.out.keep hz).ref hkk
            exact ⟨hW, r0, r1, (cell_of_heap (hz.heap Hx.out (fun e => e)) 4).trans rfl⟩
          have hcall : ∀ W, Mod noF wx.drew W → Calls Tryd.prog 34 #[.pointer (some ⟨B.bM, 0, none⟩), .int .i64 0, .agg #[.int .i64 (kk : Int), .int .i64 0], .int .i64 (j : Int)] W fun e w' => e = .returned (.tuple #[.int .i64 (Qs.look q kk 0 j (getWord cl kk j)), .nilIface]) ∧ Mod noF wx.drew W ∧ Mod noF wx.drew w' := by
            intro W hW
            have hz := (Mod.refl noF wx).drew.trans0 hW
            exact (pload_ok (HTx.out.mem.keep0 hz) (HTx.out.low.E.keep hz) HS.out.ok.len HS.out.ok.times (show 2 ≤ 6 by decide) (t := 0) (q := q) rfl HS.out.q8 (kk : Int) 0 (j : Int) _ (HS.out.load hkk hj4)).mono fun e w' h => ⟨h.1, hW, hW.trans0 h.2⟩
          obtain ⟨-, z0, z1, z2⟩ := hS wx.drew (Mod.refl _ _)
          have HSS := Lib.hid hS
          have Hcall := Lib.hid hcall
          clear hS hcall
          go_region_held3 (fun W => Mod noF wx.drew W ∧ W.cell? ⟨w3.heap.size + 1, kk * 2, none⟩ = some (.int .i64 (kk : Int)) ∧ W.cell? ⟨w3.heap.size + 1, kk * 2 + 1, none⟩ = some (.int .i64 0) ∧ W.cell? ⟨wr.heap.size, 4, none⟩ = some (.int .i64 j)) ((refine HSS.out _ ?_; first | assumption | exact Mod.refl _ _)) (first | (go_at_call 34; go_split_ands; refine (Hcall.out _ ?_).mono ?_; assumption; rintro e w4 ⟨rfl, hm3, hm4⟩))
          have hm4 := (Mod.refl noF wx).drew.trans0 hm4
          have hT4 := HTx.out.keep hm4
          have n4 := hT4.num HS.out hkk hj4
          have nb := lt_of_block hT4.hN
          have hx4 := hm4.heap Hx.out (fun e => e)
          have x4 : w4.cell? ⟨wr.heap.size, 4, none⟩ = some (.int .i64 j) := (cell_of_heap hx4 4).trans rfl
          have x5 : w4.cell? ⟨wr.heap.size, 5, none⟩ = some (.int .i64 V) := (cell_of_heap hx4 5).trans rfl
          have xb := lt_of_block hx4
          have HT4 := Lib.hid hT4
          clear hT4 hx4 hm4
          go_wp2_with fail
          exact ⟨⟨k + 1, by omega, by go_num, _, _, _, _, HS.out, HT4.out⟩, by simp [intOf]; omega⟩
        · have hd3 : decide ((k : Int) < (l.length : Int)) = false := by simp; omega
          clear T
          go_wp2_with fail
          have hf := pfence_any HT.out.mem HT.out.low HS.out.ok (t := 0) (q := q) rfl (show 2 ≤ 6 by decide) HS.out.q8 HS.out.okW
          rw [(HS.out.fenced q).1] at hf
          simp only [errOf', if_true] at hf
          refine hf.mono ?_
          clear hf
          rintro e w4 ⟨rfl, vs4, hu4⟩
          have hT4 := HT.out.up hu4
          have st4 := (HS.out.fenced q).2
          have HT4 := Lib.hid hT4
          have HS4 := Lib.hid st4
          clear hu4 hT4 st4
          go_wp2_with fail
          go_loopw [18, 19, 20, 21] (fun i _ _ _ wo => ∃ kk : Nat, kk ≤ 2 ∧ i = .int .i64 kk ∧ AloneAt w a B (w3.heap.size + 1) (w3.heap.size + 1 + 1) (drainAll cl q).1 [] now vs4 wo) (fun i _ _ _ _ => 2 - (intOf i).toNat)
          case atStart => exact ⟨0, by omega, rfl, HT4.out⟩
          case round =>
            obtain ⟨kk, hkk, rfl, TO⟩ := hrel
            have HTO := Lib.hid TO
            clear TO
            by_cases hk2 : kk < 2
            · have hd5 : decide ((kk : Int) < 2) = true := by rw [decide_eq_true_eq]; omega
              have ik1 : (kk : Int) < 2 := by omega
              have ik0 : (0 : Int) ≤ (kk : Int) := by omega
              go_wp2_with fail
              go_loopw [19, 20, 21] (fun i _ _ wi => ∃ jj : Nat, jj ≤ 4 ∧ i = .int .i64 jj ∧ AloneAt w a B (w3.heap.size + 1) (w3.heap.size + 1 + 1) (drainAll cl q).1 [] now vs4 wi) (fun i _ _ _ => 4 - (intOf i).toNat)
              case atStart => exact ⟨0, by omega, rfl, HTO.out⟩
              case round =>
                obtain ⟨jj, hjj, rfl, TI⟩ := hrel
                have HTI := Lib.hid TI
                by_cases hj2 : jj < 4
                · have hd6 : decide ((jj : Int) < 4) = true := by rw [decide_eq_true_eq]; omega
                  have ij1 : (jj : Int) < 4 := by omega
                  have ij0 : (0 : Int) ≤ (jj : Int) := by omega
                  obtain ⟨rr0, rr1⟩ := TI.ref hk2
                  have bRl := lt_of_block TI.hR
                  have hcall := pload_ok TI.mem TI.low.E HS4.out.ok.len HS4.out.ok.times (show 2 ≤ 6 by decide) (t := 1) (q := []) rfl (by decide) (kk : Int) 0 (jj : Int) _ (HS4.out.load hk2 hj2)
                  have Hcall := Lib.hid hcall
                  clear hcall TI
                  go_wp2_with fail
                  refine Hcall.out.mono ?_
                  rintro e w5 ⟨rfl, hm5⟩
                  have hT5 := HTI.out.keep hm5
                  have n5 := hT5.num HS4.out hk2 hj2
                  have nb := lt_of_block hT5.hN
                  have HT5 := Lib.hid hT5
                  clear hT5 hm5
                  go_wp2_with fail
                  exact ⟨⟨jj + 1, by omega, by go_num, HT5.out⟩, by simp [intOf]; omega⟩
                · have hd6 : decide ((jj : Int) < 4) = false := by rw [decide_eq_false_iff_not]; omega
                  clear TI
                  go_wp2_with fail
                  exact ⟨⟨kk + 1, by omega, by go_num, HTI.out⟩, by simp [intOf]; omega⟩
            · have hd5 : decide ((kk : Int) < 2) = false := by rw [decide_eq_false_iff_not]; omega
              go_wp2
              go_ret
              exact ⟨rfl, HTO.out.low.mod⟩
    · cases ha
  · cases ha
set_option maxRecDepth 100000 in
set_option maxHeartbeats 4000000 in
theorem alone_long (v : Value) (l : List MAct) (w : World) (a : Nat → Addr) (E : Errs4 w a) (R : RowsAt MAct.vals 7 w v l) (hl : 100 < l.length) :
    Calls Tryd.prog 5 #[v] w fun e w' => e = .returned (.bool true) ∧ Mod noF w w' := by
  have d2 : decide ((100 : Int) < (l.length : Int)) = true := by simp; omega
  have HE := Lib.hid E
  obtain ⟨a0, c0, rfl, hl0, hc0, hn0, hx0⟩ := R
  clear E hx0 hn0
  go_enter Tryd.func5, Tryd.ntmps5
  go_wp2_with fail
  refine (waits_ok w a HE.out).mono ?_
  rintro e w0 ⟨rfl, hm0⟩
  have Hm0 := Lib.hid hm0
  clear hm0
  go_wp2
  go_ret
  exact ⟨rfl, Hm0.out⟩
theorem memoryAlone_any (a : Option Addr) (len cap : Nat) (z : List MAct) (w : World) (hz : IsMAct w a len cap z) (h : ∃ a, Errs4 w a) :
    Calls Tryd.prog 5 #[.slice a len cap] w fun e w' => e = .returned (.bool true) ∧ Below w.heap.size w w' := by
  obtain ⟨e, he⟩ := h
  by_cases hl : z.length ≤ 100
  · exact (alone_in _ z w e he hz.1 hz.2 hl).mono fun e w' h => ⟨h.1, h.2.toBelow⟩
  · exact (alone_long _ z w e he hz.1 (by omega)).mono fun e w' h => ⟨h.1, h.2.toBelow⟩
end Go.Proofs.YtamfbfajlfbooaaDoor
