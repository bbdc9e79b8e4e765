/- Texts that belong together, joined. -/
import Derived.Test.YtppihkneeolomaaGreatDoorCBm10
import Derived.Test.YtppihkneeolomaaGreatDoorCBm8
import Derived.Test.YtppihkneeolomaaGreatDoorCBm7
import Derived.Test.YtppihkneeolomaaGreatDoorCBm9
import Derived.Test.YtppihkneeolomaaGreatDoorCBStop
import Derived.Test.YtppihkneeolomaaGreatDoorCBNewWalk
import Derived.Test.YtppihkneeolomaaGreatDoorCBm6
import Derived.Deep.RegionHeld3
set_option linter.unusedVariables false
set_option linter.unusedSimpArgs false
set_option linter.unusedSectionVars false
/- client.Build: its walk on lists that are right. -/
section
namespace Go.Proofs.YtppihkneeolomaaGreatDoor
open Go.RowKit Qs Qh Qc
variable {N f : Nat} {w w' : World} {v u : Value} {q : List (List COp)} {a : Nat → Addr}
theorem codeInfoC : (Tryz.prog.info? 71).map (fun i => (i.zero, i.size, i.bytes)) = some (some (.slice none 0 0), 1, 24) := by kernel_rfl
theorem gReg2_len (n t : Nat) : (gReg2 n t).length = 8 := rfl
/-- Build's state while its cells are laid. -/
structure CelS (w0 : World) (T2 B S : Nat) (rv iv : Value) (rb : Nat → Nat) (regs rows : List (List Int)) (w : World) : Prop where
  mod : Mod noF w0 w
  base : BaseAt w B iv rv
  init : ∃ ib, Rws S w.heap.size w iv rows ib
  regs : Rws (B + 1) S w rv regs rb
  res : w.heap[T2]? = some (.cells #[.int .i64 0, .slice none 0 0, .slice none 0 0] 32 (0, 0))
  o1 : w0.heap.size ≤ T2
  o2 : T2 < B
  o3 : B + 1 ≤ S
  o4 : S ≤ w.heap.size
theorem CelS.cell {w0 W : World} {T2 B S : Nat} {rv iv : Value} {rb : Nat → Nat} {regs rows : List (List Int)} (C : CelS w0 T2 B S rv iv rb regs rows w) (hM : Mod noF w W) (h64 : rows.length < 64) (l : List Int) (r : Nat) (hr : l.length ≠ 0 → w.heap.size ≤ r ∧ W.heap[r]? = some (.cells (l.map (Value.int .i64)).toArray 3 (0, 0))) :
    Calls Tryz.prog 45 #[.pointer (some ⟨B, 0, none⟩), rwU l r] W fun e w' => e = .returned (.int .i64 ((rows.length : Int) + 1)) ∧ ∃ iv', CelS w0 T2 B S rv iv' rb regs (rows ++ [l]) w' := by
  obtain ⟨ib, R⟩ := C.init
  have hsz := hM.size
  have ho := C.o1
  have ho2 := C.o2
  have ho3 := C.o3
  have ho4 := C.o4
  refine (cell_ok0 (lo0 := S) (Nat.le_refl _) (hM.heap C.base (fun e => e)) (R.keep hM (fun _ _ _ e => e)) hM.size (by omega) (by omega) h64 (fun h => ⟨by have := (hr h).1; omega, by have := (hr h).1; omega, .inl (hr h).1⟩) (fun h => (hr h).2)).mono ?_
  rintro e w3 ⟨rfl, iv', hB, hR, hm⟩
  have hiv : ∀ x, iv.ownBlock = some x → S ≤ x := fun x hx => (R.vin x hx).1
  have hs3 := hm.size
  refine ⟨rfl, iv', (C.mod.trans0 hM).trans hm fun x hx e => ?_, hB, hR, (C.regs.keep hM (fun _ _ _ e => e)).keep hm fun x h1 h2 e => ?_, hm.heap (hM.heap C.res (fun e => e)) fun e => ?_, ho, ho2, ho3, by omega⟩
  · have := C.mod.size
    rcases e with e | e
    · omega
    · have := hiv x e; omega
  · rcases e with e | e
    · omega
    · have := hiv x e; omega
  · rcases e with e | e
    · omega
    · have := hiv _ e; omega
set_option maxRecDepth 4000 in
set_option maxHeartbeats 16000000 in
theorem cbuild_ok (E : ErrsAt w a) (HK : KindsW w) (H : RIn N w v (rawC q)) (hN : N ≤ w.heap.size) (hc0 : (cfG (rawC q)).1 = 0) (h1 : 1 ≤ q.length) (h6 : q.length ≤ 6) (h20 : ∀ l ∈ q, l.length ≤ 20) (hf1 : 1 ≤ f) (hf4 : f ≤ 4) :
    Calls Tryz.prog 26 #[.int .i64 f, v] w fun e w' => ∃ iv rv cv vk, e = .returned (.tuple #[.agg #[.int .i64 64, iv, rv], cv, .nilIface]) ∧ Mod noF w w' ∧ Qh.RowsAt w' iv (cInit f q.length) ∧ Qh.RowsAt w' rv (cRegs q.length) ∧ CodesAt w' cv (cCodes f q) vk := by
  have hrl : (rawC q).length = q.length := by simp [rawC]
  have hrow : ∀ l ∈ rawC q, l.length ≤ 30 := fun l hl => by
    obtain ⟨l', hl', rfl⟩ := List.mem_map.1 hl
    have := h20 l' hl'
    rw [List.length_map]; omega
  have hck := fun w1 (hm : Mod noF w w1) => cCheck (E.keep hm) (HK.keep hm) (H.keep hm (fun _ _ e => e)) (by omega) hrow
  have Hck := Lib.hid hck
  obtain ⟨i0, hti, hz0, hz1, hz2⟩ := info_parts codeInfoC
  obtain ⟨oa, oc, rfl, hx⟩ := H
  rw [hrl] at *
  have hx' : ∀ (k : Nat) l, q[k]? = some l → ∃ (b : Nat) (off : Nat) (u : Value), oa.map (·.add k) = oa.map (·.add k) ∧ (rawC q)[k]? = some (l.map cR) := fun k l hl => ⟨0, 0, .nilIface, rfl, by unfold rawC; rw [List.getElem?_map, hl]; rfl⟩
  have hget : ∀ (k : Nat) l, q[k]? = some l → (rawC q)[k]? = some (l.map cR) := fun k l hl => by unfold rawC; rw [List.getElem?_map, hl]; rfl
  have Hx := Lib.hid hx
  have H20 := Lib.hid h20
  have Hget := Lib.hid hget
  have Hc0 := Lib.hid hc0
  clear hx h20 hx' hget hck E HK hrow hc0 hrl
  go_enter Tryz.func26, Tryz.ntmps26
  go_wp2_with fail
  have hq := ((Mod.refl noF w).alloc (.cells #[.int .i64 0, .slice none 0 0, .slice none 0 0] 32))
  refine (Hck.out _ hq).mono ?_
  rintro e wc ⟨ev, rfl, hEv, hmc⟩
  rw [Hc0.out] at hEv
  obtain rfl := hEv.nil
  have hres : wc.heap[w.heap.size]? = some (.cells #[.int .i64 0, .slice none 0 0, .slice none 0 0] 32 (0, 0)) := hmc.heap (heap_alloc_new w _) (fun e => e)
  have hmw := hq.trans0 hmc
  have hszc : w.heap.size + 1 ≤ wc.heap.size := by have := lt_of_block hres; omega
  have Hmw := Lib.hid hmw
  have Hres := Lib.hid hres
  clear hmc hmw hres hEv hq
  go_wp2_with fail
  refine (newBase_ok q.length h6 wc).mono ?_
  rintro e wb ⟨rv, rb, rfl, hmb, hB, R⟩
  have hbs := hmb.size
  have hb1 := lt_of_block hB
  have Hmb := Lib.hid hmb
  have HB := Lib.hid hB
  have HR := Lib.hid R
  clear hmb hB R
  go_wp2_with fail
  refine (grace_ok hf1 hf4 h1 h6 HB.out HR.out (by omega) (by omega) (by omega)).mono ?_
  rintro e w2 ⟨rfl, iv2, ib2, hB2, R2r, R2, hm2⟩
  have hs2 := hm2.size
  have hm2w := (Hmw.out.trans0 Hmb.out).trans hm2 (fun x hx e => by omega)
  have hres2 := hm2.heap (Hmb.out.heap Hres.out (fun e => e)) (fun e => by omega)
  have hC2 : CelS w w.heap.size wc.heap.size wb.heap.size rv iv2 rb (rowsF (gReg2 q.length) q.length) (rowsF (gOwnC f) q.length ++ [gHubC f q.length]) w2 := ⟨hm2w, hB2, ⟨_, R2⟩, R2r, hres2, Nat.le_refl _, by omega, by omega, hs2⟩
  have hl2 : (rowsF (gOwnC f) q.length ++ [gHubC f q.length]).length = q.length + 1 := by simp [rowsF_len]
  have HC2 := Lib.hid hC2
  clear hm2w hm2 hB2 R2 R2r hres2 HR HB Hmb Hres Hmw hC2
  generalize hrw : rowsF (gOwnC f) q.length ++ [gHubC f q.length] = rows0 at *
  go_wp2_with fail
  refine (HC2.out.cell ((Mod.refl noF w2).alloc _) (by omega) [1] w2.heap.size (fun _ => ⟨Nat.le_refl _, heap_alloc_new w2 _⟩)).mono ?_
  rintro e w3 ⟨he3, iv3, hC3⟩
  have e3 : (rows0.length : Int) + 1 = (q.length : Int) + 2 := by omega
  rw [e3] at he3
  subst he3
  have HC3 := Lib.hid hC3
  clear hC3 HC2
  go_wp2_with fail
  refine (HC3.out.cell (Mod.refl noF w3) (by simp; omega) [] 0 (fun h => absurd rfl h)).mono ?_
  rintro e w4 ⟨he4, iv4, hC4⟩
  have e4 : ((rows0 ++ [[1]]).length : Int) + 1 = (q.length : Int) + 3 := by simp; omega
  rw [e4] at he4
  subst he4
  have HC4 := Lib.hid hC4
  clear hC4 HC3
  go_wp2_with fail
  refine (HC4.out.cell (Mod.refl noF w4) (by simp; omega) [] 0 (fun h => absurd rfl h)).mono ?_
  rintro e w5 ⟨he5, iv5, hC5⟩
  have e5 : ((rows0 ++ [[1]] ++ [[]]).length : Int) + 1 = (q.length : Int) + 4 := by simp; omega
  rw [e5] at he5
  subst he5
  have HC5 := Lib.hid hC5
  clear hC5 HC4
  go_wp2_with fail
  refine (HC5.out.cell ((Mod.refl noF w5).alloc _) (by simp; omega) [(q.length : Int) + 2, (q.length : Int) + 3, (q.length : Int) + 4] w5.heap.size (fun _ => ⟨Nat.le_refl _, heap_alloc_new w5 _⟩)).mono ?_
  rintro e w6 ⟨he6, iv, hC6⟩
  have e6 : ((rows0 ++ [[1]] ++ [[]] ++ [[]]).length : Int) + 1 = (q.length : Int) + 5 := by simp; omega
  rw [e6] at he6
  subst he6
  rw [← hrw] at hC6
  have HC6 := Lib.hid hC6
  clear hC6 HC5 e3 e4 e5 e6 hl2
  obtain ⟨ib, R6⟩ := HC6.out.init
  have ho := HC6.out.o1
  have ho2 := HC6.out.o2
  have ho3 := HC6.out.o3
  have ho4 := HC6.out.o4
  have hrel : BldRel w ⟨w.heap.size, wc.heap.size, wc.heap.size + 1, wb.heap.size, wb.heap.size, w6.heap.size, w6.heap.size⟩ iv rv rb ib (cCs f q) (cInit f q.length) (rowsF (mixF (gReg3 q.length) (gReg2 q.length) 0) q.length) 0 (.slice none 0 0) (fun _ => .nilIface) w6 :=
    ⟨HC6.out.mod, Nat.le_refl _, HC6.out.res, HC6.out.base, by rw [mix_zero]; exact HC6.out.regs, R6, Cds.nil _ _ _ _⟩
  obtain ⟨ra, rc, hrv, -⟩ := HC6.out.regs.cell
  rw [rowsF_len] at hrv
  subst hrv
  obtain ⟨p, hp⟩ : ∃ p : Plc, p = ⟨w.heap.size, wc.heap.size, wc.heap.size + 1, wb.heap.size, wb.heap.size, w6.heap.size, w6.heap.size⟩ := ⟨_, rfl⟩
  have hP : p.Ok w := by subst hp; exact ⟨Nat.le_refl _, by simp only; omega, by simp only; omega, by simp only; omega, Nat.le_refl _, by simp only; omega, Nat.le_refl _⟩
  rw [← hp] at hrel
  have hpB : wc.heap.size = p.B := by rw [hp]
  have hpT : w.heap.size = p.T2 := by rw [hp]
  have HP := Lib.hid hP
  have Hrel := Lib.hid hrel
  clear hrel hP hp R6 HC6 Hck
  go_wp2
  go_loopw [11, 45] (fun c i wr => ∃ (k : Nat) (vk : Nat → Value), k ≤ q.length ∧ i = .int .i64 k ∧ BldRel w p iv (.slice ra q.length rc) rb ib (cCs f q) (cInit f q.length) (rowsF (mixF (gReg3 q.length) (gReg2 q.length) k) q.length) k c vk wr) (fun _ i _ => q.length - (intOf i).toNat)
  case atStart => exact ⟨0, _, Nat.zero_le _, rfl, Hrel.out⟩
  case round =>
    generalize wr = wo at *
    obtain ⟨k, vk, hk, rfl, hR⟩ := hrel
    obtain ⟨ra', rc', hrv, hrx⟩ := hR.regs.cell
    rw [rowsF_len] at hrv
    cases hrv
    obtain ⟨ca, cb, cc, rfl⟩ := slice_of_own hR.cds.own
    by_cases hlt : k < q.length
    · have hd : decide ((k : Int) < (q.length : Int)) = true := by simp; omega
      have hki : (k : Int) < (q.length : Int) := by omega
      obtain ⟨l, hl⟩ : ∃ l, q[k]? = some l := ⟨_, List.getElem?_eq_getElem hlt⟩
      obtain ⟨b, off, u, rfl, hb, hc, hrow⟩ := Hx.out k _ (Hget.out k l hl)
      have hc2 := hR.mod.cell hc (fun e => e)
      have hlm : (l.map cR).length = l.length := List.length_map _
      obtain ⟨ua, uc, rfl, hxx⟩ := hrow.keep hR.mod (fun _ _ e => e)
      have hxw : ∀ wx, Mod noF w wx → RRow N wx (.slice ua (l.map cR).length uc) (l.map cR) := fun wx h => hrow.keep h (fun _ _ e => e)
      obtain ⟨gb, rfl, hgb, hrk⟩ := hrx k _ (mix_get hlt)
      obtain ⟨hR1, hrow8, hlo⟩ := hR.store (x := (q.length : Int) + 5) (j := 5) HP.out (mix_get hlt) (by rw [gReg2_len]; omega)
      rw [gReg_step, mix_set hlt] at hR1
      have b2 : wo.cell? ⟨p.B, 2, none⟩ = some (.slice (some ⟨gb, 0, none⟩) q.length rc) := by rw [cell_of_heap hR.base]; rfl
      have b3 : wo.cell? ⟨gb, k, none⟩ = some (.slice (some ⟨rb k, 0, none⟩) 8 8) := hrk
      have b4 : wo.cell? ⟨rb k, 5, none⟩ = some (.int .i64 0) := by rw [cell_of_heap hrow8]; rfl
      have b5 := free_of_heap hrow8 5
      have h20l := H20.out l (List.mem_of_getElem? hl)
      have hsz1 : (wo.setCell ⟨rb k, 5, none⟩ (.int .i64 ((q.length : Int) + 5))).heap.size = wo.heap.size := by simp [World.setCell]
      rw [hlm] at hc2
      have HR := Lib.hid hR
      have HR1 := Lib.hid hR1
      have Hxw := Lib.hid hxw
      have Hl := Lib.hid hl
      have Hsz1 := Lib.hid hsz1
      clear hR hR1 hxw hl hxx hrow hc hrk hrow8 hrx hsz1
      go_wp2
      go_name_world wm hwm
      have hM0 : MkA wo.heap.size False (f : Nat) (k : Nat) 1 wm wo.heap.size (.slice none 0 0) [] 0 := by
        have hh : wm.heap[wo.heap.size]? = some (.cells #[.slice none 0 0, .int .i64 f, .int .i64 k, .int .i64 1, .int .i64 0] 101 (0, 0)) := by
          rw [← hwm, ← Hsz1.out]; exact heap_alloc_new _ _
        exact ⟨⟨⟨by rw [cell_of_heap hh]; rfl, free_of_heap hh 0, InsRow.nil _ _, (fun g h => by cases h), lt_of_block hh⟩, by rw [cell_of_heap hh]; rfl, free_of_heap hh 4⟩, by rw [cell_of_heap hh]; rfl, by rw [cell_of_heap hh]; rfl, by rw [cell_of_heap hh]; rfl, Nat.le_refl _, (fun g h => by cases h), Nat.le_of_lt (lt_of_block hh), fun h => h.elim⟩
      have hq0 : Mod noF (wo.setCell ⟨rb k, 5, none⟩ (.int .i64 ((q.length : Int) + 5))) wm := by rw [← hwm]; exact (Mod.refl noF _).alloc _
      have hFR : FreshH wo.heap.size False (f : Nat) (k : Nat) 1 98 := freshS (fun h => h.elim)
      have HFR := Lib.hid hFR
      have HM0 := Lib.hid hM0
      have Hq0 := Lib.hid hq0
      clear hM0 hq0 hwm hFR
      go_loopw [66] (fun i wr => ∃ (j : Nat) (v : Value), j ≤ l.length ∧ i = .int .i64 j ∧ MkA wo.heap.size False (f : Nat) (k : Nat) 1 wr wo.heap.size v (copsCode f k 0 (l.take j)) (clabs (l.take j)) ∧ Mod noF (wo.setCell ⟨rb k, 5, none⟩ (.int .i64 ((q.length : Int) + 5))) wr) (fun i _ => l.length - (intOf i).toNat)
      case atStart => exact ⟨0, .slice none 0 0, Nat.zero_le _, rfl, HM0.out, Hq0.out⟩
      case round =>
        obtain ⟨j, v, hj, rfl, hMk, hmq⟩ := hrel
        by_cases hlj : j < l.length
        · have hd2 : decide ((j : Int) < (l.length : Int)) = true := by simp; omega
          have hji : (j : Int) < (l.length : Int) := by omega
          obtain ⟨x, hxl⟩ : ∃ x, l[j]? = some x := ⟨_, List.getElem?_eq_getElem hlj⟩
          obtain ⟨ua', uc', e', hxx⟩ := Hxw.out wr (HR1.out.mod.trans0 hmq)
          cases e'
          obtain ⟨ub, uoff, rfl, hub, h0, h1⟩ := hxx j (cR x) (by rw [List.getElem?_map, hxl]; rfl)
          have hlen := copsCode_len hf4 k (l.take j) 0
          have hlab := clabs_le (l.take j)
          rw [List.length_take] at hlen hlab
          have htk : l.take (j + 1) = l.take j ++ [x] := by rw [List.take_add_one, hxl]; rfl
          have hsn := copsCode_snoc f k x (l.take j) 0
          have hsl := clabs_snoc x (l.take j)
          rw [← htk, Nat.zero_add] at hsn
          rw [← htk] at hsl
          have hcal := cop_any x HFR.out (fun h => h.elim) hf1 hf4 (by omega) (hMk.quiet ((Mod.refl noF wr).alloc (.cells #[.string (cK x), .int .i64 (cN x)] 88))) (by omega) (by omega) (by omega)
          have Hcal := Lib.hid hcal
          have HMk := Lib.hid hMk
          have Hmq := Lib.hid hmq
          have Hsn := Lib.hid hsn
          have Hsl := Lib.hid hsl
          have h0' : wr.cell? ⟨ub, uoff + j * 2, none⟩ = some (.string (cK x)) := h0
          have h1' : wr.cell? ⟨ub, uoff + j * 2 + 1, none⟩ = some (.int .i64 (cN x)) := h1
          clear hMk hmq hxl hxx htk hsn hsl hlen hlab hcal h0 h1
          generalize hxk : cK x = xk at *
          generalize hxn : cN x = xn at *
          go_wp2_with fail
          refine Hcal.out.mono ?_
          rintro e wz ⟨rfl, v', hMz, hSz⟩
          have HMz := Lib.hid hMz
          have HSz := Lib.hid hSz
          clear hMz hSz Hcal
          go_wp2
          go_roundw
          case rel =>
            refine ⟨j + 1, v', by omega, by go_num, by rw [Hsn.out, Hsl.out]; exact HMz.out, ((Hmq.out.alloc _).trans HSz.out.mod fun x hx e => ?_)⟩
            have h9 := Hsz1.out
            rcases e with e | e
            · omega
            · have := HMk.out.lv x e; omega
          case measure => simp [intOf]; omega
        · have hd2 : decide ((j : Int) < (l.length : Int)) = false := by simp; omega
          obtain rfl : j = l.length := by omega
          rw [List.take_length] at hMk
          have hlen := copsCode_len hf4 k l 0
          have hlab := clabs_le l
          have hcal := part3_ok HFR.out (fun h => h.elim) hf1 hf4 hMk (by omega) (by omega) (by omega)
          have Hcal := Lib.hid hcal
          have HMk := Lib.hid hMk
          have Hmq := Lib.hid hmq
          clear hMk hmq hcal
          go_wp2_with fail
          refine Hcal.out.mono ?_
          rintro e w9 ⟨rfl, v9, hM9, hS9⟩
          have hlen9 : (copsCode f k 0 l ++ preC (Qu.labN (clabs l + 1)) (gcode f 3)).length ≤ 2000 := by
            have : (preC (Qu.labN (clabs l + 1)) (gcode f 3)).length ≤ 70 := part_len2 hf4 (show 3 < 5 by decide) (clabs l)
            rw [List.length_append]; omega
          have hm9 : Mod noF (wo.setCell ⟨rb k, 5, none⟩ (.int .i64 ((q.length : Int) + 5))) w9 := Hmq.out.trans hS9.mod fun x hx e => by
            have h9 := Hsz1.out
            rcases e with e | e
            · omega
            · have := HMk.out.lv x e; omega
          have HM9 := Lib.hid hM9
          have Hm9 := Lib.hid hm9
          clear hM9 hS9 hm9 Hcal
          go_wp2_with fail
          refine (op0_chain (Chain.start HM9.out.m.emit) (by omega) 20 _ rfl).mono ?_
          rintro e wz ⟨rfl, hbz, v', E, G⟩
          have hS := HR.out.size
          have h9 := Hsz1.out
          have hqz : Mod noF (wo.setCell ⟨rb k, 5, none⟩ (.int .i64 ((q.length : Int) + 5))) wz := Hm9.out.trans G.mod fun x hx e => by
            rcases e with e | e
            · omega
            · have := HM9.out.lv x e; omega
          have hcode := E.row.code
          have hown : ∀ g, v'.ownBlock = some g → p.S ≤ g ∧ g < wz.heap.size ∧ (Value.slice ca cb cc).ownBlock ≠ some g := fun g hg => by
            have h10 := HM9.out.hi
            have h11 : wo.heap.size ≤ g := by
              rcases G.new g hg with e | e
              · exact HM9.out.lv g e
              · omega
            refine ⟨by omega, E.row.lt hg, fun e => ?_⟩
            have := (World.ownsRow.lt HR.out.cds.own _ e).2
            omega
          obtain ⟨xa, xc, rfl, -, -⟩ := E.row.slice
          have e0 := E.cell
          simp only [List.length_append, List.length_singleton] at hcode hown e0
          have hcs : cCs f q k = (copsCode f k 0 l ++ preC (Qu.labN (clabs l + 1)) (gcode f 3)) ++ [⟨20, 0, 0, 0, []⟩] := by rw [cCs_get Hl.out]; rfl
          rw [← hcs] at hcode
          have HRz := Lib.hid (HR1.out.quiet hqz)
          have Hcode := Lib.hid hcode
          have Hown := Lib.hid hown
          have hszz : p.S ≤ wz.heap.size := by have := HRz.out.size; omega
          have hbnd : k + 1 ≤ maxLen := by unfold maxLen; omega
          clear E G hcode hown hqz hcs hbz
          go_wp2_with (at_builtin; refine wpList_append_mine _ rfl (.tmp 76) (.tmp 84) 33 rfl 71 i0 (.slice none 0 0) 1 24 Tryz.underlying33 hti hz0 hz1 hz2 rfl (by decide) _ k ((List.range k).map vk) rfl (by exact World.ownsRow.alloc HRz.out.cds.own _) ⟨wz.heap.size, 0, none⟩ 1 1 [.slice xa _ xc] rfl rfl (by exact new_cells_at _ _ _ (by simp)) (one_row _ rfl) hbnd (by omega) ?_; intro v4 w7 hown hgr hfr _; obtain ⟨ya, yb, yc, rfl⟩ := slice_of_own hown; have Hown4 := Lib.hid hown; have Hgr := Lib.hid hgr; have Hfr := Lib.hid hfr; clear hown hgr hfr)
          go_wp2
          go_roundw
          case rel =>
            exact ⟨k + 1, _, by omega, by go_num, (HRz.out.quiet ((Mod.refl noF wz).alloc _)).push HP.out (Hcode.out.frame ((Mod.refl noF wz).alloc _) (fun _ _ e => e)) (fun g hg => ⟨(Hown.out g hg).1, by have := (Hown.out g hg).2.1; simp; omega, (Hown.out g hg).2.2⟩) Hown4.out Hgr.out Hfr.out⟩
          case measure => simp [intOf]; omega
    · have hd : decide ((k : Int) < (q.length : Int)) = false := by simp; omega
      obtain rfl : k = q.length := by omega
      rw [mix_all] at hR
      obtain ⟨ia, ic, hiv, -⟩ := hR.init.cell
      have x0 : wo.cell? ⟨p.B, 0, none⟩ = some (.int .i64 64) := by rw [cell_of_heap hR.base]; rfl
      have x1 : wo.cell? ⟨p.B, 1, none⟩ = some iv := by rw [cell_of_heap hR.base]; rfl
      have x2 : wo.cell? ⟨p.B, 2, none⟩ = some (.slice ra q.length rc) := by rw [cell_of_heap hR.base]; rfl
      have y0 : wo.cell? ⟨p.T2, 0, none⟩ = some (.int .i64 0) := by rw [cell_of_heap hR.res]; rfl
      have y1 : wo.cell? ⟨p.T2, 1, none⟩ = some (.slice none 0 0) := by rw [cell_of_heap hR.res]; rfl
      have y2 : wo.cell? ⟨p.T2, 2, none⟩ = some (.slice none 0 0) := by rw [cell_of_heap hR.res]; rfl
      have yf := free_of_heap hR.res
      have yf0 := yf 0
      have yf1 := yf 1
      have yf2 := yf 2
      rw [hiv, cInit_len] at x1
      have HR := Lib.hid hR
      clear hR hrx yf
      go_wp2
      obtain ⟨wf, hwf⟩ : ∃ wf, wf = (((wo.setCell ⟨p.T2, 0, none⟩ (.int .i64 64)).setCell ⟨p.T2, 1, none⟩ (.slice ia (q.length + 5) ic)).setCell ⟨p.T2, 2, none⟩ (.slice ra q.length rc)) := ⟨_, rfl⟩
      have hMf : Mod (fun x => x = p.T2) wo wf := by rw [hwf]; exact (((Mod.refl (fun x => x = p.T2) wo).setCell (fun _ => rfl) _).setCell (fun _ => rfl) _).setCell (fun _ => rfl) _
      have hh : wf.heap[p.T2]? = some (.cells #[.int .i64 64, .slice ia (q.length + 5) ic, .slice ra q.length rc] 32 (0, 0)) := by
        rw [hwf, Qh.heap_setCell_same (Qh.heap_setCell_same (Qh.heap_setCell_same HR.out.res 0 _) 1 _) 2 _]; rfl
      have z0 : wf.cell? ⟨p.T2, 0, none⟩ = some (.int .i64 64) := by rw [cell_of_heap hh]; rfl
      have z1 : wf.cell? ⟨p.T2, 1, none⟩ = some (.slice ia (q.length + 5) ic) := by rw [cell_of_heap hh]; rfl
      have z2 : wf.cell? ⟨p.T2, 2, none⟩ = some (.slice ra q.length rc) := by rw [cell_of_heap hh]; rfl
      rw [← hwf]
      obtain ⟨p1, p2, p3, p4, p5, p6, p7⟩ := HP.out
      refine bodyPost_ret (v := .tuple #[.agg #[.int .i64 64, .slice ia (q.length + 5) ic, .slice ra q.length rc], .slice ca cb cc, .nilIface]) (by simp [results, Tryz.results26, go_sem, z0, z1, z2]) rfl ⟨_, _, _, vk, rfl, ?_, ?_, ?_, ?_⟩
      · exact HR.out.mod.trans hMf fun x hx e => by omega
      · have := HR.out.init.keep hMf (fun x h1 h2 e => by omega)
        rw [hiv, cInit_len] at this
        exact this.rows (cInit_rows _ _)
      · have := HR.out.regs.keep hMf (fun x h1 h2 e => by omega)
        exact this.rows (fun l hl => by
          obtain ⟨i, -, rfl⟩ := List.mem_map.1 hl
          simp [gReg3])
      · exact (HR.out.cds.keep hMf (fun x h1 h2 e => by omega)).codes
end Go.Proofs.YtppihkneeolomaaGreatDoor
end
/- client.Build: lists that are wrong; no flavour. -/
section
namespace Go.Proofs.YtppihkneeolomaaGreatDoor
open Go.RowKit Qs Qh Qc
variable {N : Nat} {w w' : World} {v u : Value} {ll : List (List ROp)} {a : Nat → Addr}
set_option maxHeartbeats 8000000 in
theorem cbuild_bad (f : Int) (E : ErrsAt w a) (HK : KindsW w) (H : RIn N w v ll) (hN : N ≤ w.heap.size) (hlen : ll.length ≤ 10) (hrow : ∀ l ∈ ll, l.length ≤ 30) (hk : (cfG ll).1 ≠ 0) :
    Calls Tryz.prog 26 #[.int .i64 f, v] w fun e w' => ∃ ev, e = .returned (.tuple #[.agg #[.int .i64 0, .slice none 0 0, .slice none 0 0], .slice none 0 0, ev]) ∧ ErrIs a w' ev (cfG ll).1 (cfG ll).2 ∧ Mod noF w w' := by
  have hck := fun w1 (hm : Mod noF w w1) => cCheck (E.keep hm) (HK.keep hm) (H.keep hm (fun _ _ e => e)) hlen hrow
  have Hck := Lib.hid hck
  obtain ⟨oa, oc, rfl, -⟩ := H
  clear hrow E HK hck
  go_enter Tryz.func26, Tryz.ntmps26
  go_wp2_with fail
  have hq := ((Mod.refl noF w).alloc (.cells #[.int .i64 0, .slice none 0 0, .slice none 0 0] 32))
  refine (Hck.out _ hq).mono ?_
  rintro e wc ⟨ev, rfl, hEv, hmc⟩
  obtain ⟨T, x, rfl⟩ := hEv.some hk
  have hres : wc.heap[w.heap.size]? = some (.cells #[.int .i64 0, .slice none 0 0, .slice none 0 0] 32 (0, 0)) := hmc.heap (heap_alloc_new w _) (fun e => e)
  have y0 : wc.cell? ⟨w.heap.size, 0, none⟩ = some (.int .i64 0) := by rw [cell_of_heap hres]; rfl
  have y1 : wc.cell? ⟨w.heap.size, 1, none⟩ = some (.slice none 0 0) := by rw [cell_of_heap hres]; rfl
  have y2 : wc.cell? ⟨w.heap.size, 2, none⟩ = some (.slice none 0 0) := by rw [cell_of_heap hres]; rfl
  have yf0 := free_of_heap hres 0
  have yf1 := free_of_heap hres 1
  have yf2 := free_of_heap hres 2
  have Hres := Lib.hid hres
  have HEv := Lib.hid hEv
  have Hmc := Lib.hid (hq.trans0 hmc)
  clear hres hEv hmc hq
  go_wp2
  obtain ⟨wf, hwf⟩ : ∃ wf, wf = (((wc.setCell ⟨w.heap.size, 0, none⟩ (.int .i64 0)).setCell ⟨w.heap.size, 1, none⟩ (.slice none 0 0)).setCell ⟨w.heap.size, 2, none⟩ (.slice none 0 0)) := ⟨_, rfl⟩
  have hMf : Mod (fun x => x = w.heap.size) wc wf := by rw [hwf]; exact (((Mod.refl (fun x => x = w.heap.size) wc).setCell (fun _ => rfl) _).setCell (fun _ => rfl) _).setCell (fun _ => rfl) _
  have hh : wf.heap[w.heap.size]? = some (.cells #[.int .i64 0, .slice none 0 0, .slice none 0 0] 32 (0, 0)) := by
    rw [hwf, Qh.heap_setCell_same (Qh.heap_setCell_same (Qh.heap_setCell_same Hres.out 0 _) 1 _) 2 _]; rfl
  have z0 : wf.cell? ⟨w.heap.size, 0, none⟩ = some (.int .i64 0) := by rw [cell_of_heap hh]; rfl
  have z1 : wf.cell? ⟨w.heap.size, 1, none⟩ = some (.slice none 0 0) := by rw [cell_of_heap hh]; rfl
  have z2 : wf.cell? ⟨w.heap.size, 2, none⟩ = some (.slice none 0 0) := by rw [cell_of_heap hh]; rfl
  rw [← hwf]
  refine bodyPost_ret (v := .tuple #[.agg #[.int .i64 0, .slice none 0 0, .slice none 0 0], .slice none 0 0, .iface T (.pointer (some x))]) (by simp [results, Tryz.results26, go_sem, z0, z1, z2]) rfl ⟨_, rfl, HEv.out.keepNe hMf (fun b hb => by rw [hb]; exact y1), Hmc.out.trans hMf fun x hx e => by omega⟩
set_option maxHeartbeats 8000000 in
theorem grace_err (f : Int) (hf : ¬ (1 ≤ f ∧ f ≤ 4)) (w : World) (B : Nat) (E : ErrsAt w a) :
    Calls Tryz.prog 44 #[.pointer (some ⟨B, 0, none⟩), .int .i64 f] w fun e w' => e = .returned (errV a 1) ∧ Mod noF w w' := by
  have Hub := Lib.hid (hub_err f hf w a E)
  unfold errV at Hub ⊢
  clear E hf
  go_enter Tryz.func44, Tryz.ntmps44
  go_wp2_with fail
  refine Hub.out.mono ?_
  rintro e w1 ⟨rfl, hm1⟩
  have Hm1 := Lib.hid hm1
  clear hm1 Hub
  go_wp2
  go_ret
  exact ⟨rfl, Hm1.out⟩
set_option maxHeartbeats 8000000 in
theorem cbuild_flav (f : Int) (hf : ¬ (1 ≤ f ∧ f ≤ 4)) (E : ErrsAt w a) (HK : KindsW w) (H : RIn N w v ll) (hN : N ≤ w.heap.size) (hlen : ll.length ≤ 6) (hrow : ∀ l ∈ ll, l.length ≤ 30) (hk : (cfG ll).1 = 0) :
    Calls Tryz.prog 26 #[.int .i64 f, v] w fun e w' => e = .returned (.tuple #[.agg #[.int .i64 0, .slice none 0 0, .slice none 0 0], .slice none 0 0, errV a 1]) ∧ Mod noF w w' := by
  have hck := fun w1 (hm : Mod noF w w1) => cCheck (E.keep hm) (HK.keep hm) (H.keep hm (fun _ _ e => e)) (by omega) hrow
  have hgr := fun w1 B (hm : Mod noF w w1) => grace_err f hf w1 B (E.keep hm)
  have Hck := Lib.hid hck
  have Hgr := Lib.hid hgr
  unfold errV at Hgr ⊢
  have Hk := Lib.hid hk
  obtain ⟨oa, oc, rfl, -⟩ := H
  clear hrow E HK hck hf hk hgr
  go_enter Tryz.func26, Tryz.ntmps26
  go_wp2_with fail
  have hq := ((Mod.refl noF w).alloc (.cells #[.int .i64 0, .slice none 0 0, .slice none 0 0] 32))
  refine (Hck.out _ hq).mono ?_
  rintro e wc ⟨ev, rfl, hEv, hmc⟩
  rw [Hk.out] at hEv
  obtain rfl := hEv.nil
  have hres : wc.heap[w.heap.size]? = some (.cells #[.int .i64 0, .slice none 0 0, .slice none 0 0] 32 (0, 0)) := hmc.heap (heap_alloc_new w _) (fun e => e)
  have Hres := Lib.hid hres
  have Hmc := Lib.hid (hq.trans0 hmc)
  clear hres hEv hmc hq Hck Hk
  go_wp2_with fail
  refine (newBase_ok ll.length hlen wc).mono ?_
  rintro e wb ⟨rv, rb, rfl, hmb, hB, R⟩
  have hmb2 := Hmc.out.trans0 hmb
  have Hmb2 := Lib.hid hmb2
  have Hres2 := Lib.hid (hmb.heap Hres.out (fun e => e))
  clear hmb hmb2 hB R Hmc Hres
  go_wp2_with fail
  refine (Hgr.out wb _ Hmb2.out).mono ?_
  rintro e w2 ⟨rfl, hm2⟩
  have hres := hm2.heap Hres2.out (fun e => e)
  have y0 : w2.cell? ⟨w.heap.size, 0, none⟩ = some (.int .i64 0) := by rw [cell_of_heap hres]; rfl
  have y1 : w2.cell? ⟨w.heap.size, 1, none⟩ = some (.slice none 0 0) := by rw [cell_of_heap hres]; rfl
  have y2 : w2.cell? ⟨w.heap.size, 2, none⟩ = some (.slice none 0 0) := by rw [cell_of_heap hres]; rfl
  have yf0 := free_of_heap hres 0
  have yf1 := free_of_heap hres 1
  have yf2 := free_of_heap hres 2
  have Hres := Lib.hid hres
  have Hmc := Lib.hid (Hmb2.out.trans0 hm2)
  clear hres hm2 Hmb2 Hres2
  go_wp2
  obtain ⟨wf, hwf⟩ : ∃ wf, wf = (((w2.setCell ⟨w.heap.size, 0, none⟩ (.int .i64 0)).setCell ⟨w.heap.size, 1, none⟩ (.slice none 0 0)).setCell ⟨w.heap.size, 2, none⟩ (.slice none 0 0)) := ⟨_, rfl⟩
  have hMf : Mod (fun x => x = w.heap.size) w2 wf := by rw [hwf]; exact (((Mod.refl (fun x => x = w.heap.size) w2).setCell (fun _ => rfl) _).setCell (fun _ => rfl) _).setCell (fun _ => rfl) _
  have hh : wf.heap[w.heap.size]? = some (.cells #[.int .i64 0, .slice none 0 0, .slice none 0 0] 32 (0, 0)) := by
    rw [hwf, Qh.heap_setCell_same (Qh.heap_setCell_same (Qh.heap_setCell_same Hres.out 0 _) 1 _) 2 _]; rfl
  have z0 : wf.cell? ⟨w.heap.size, 0, none⟩ = some (.int .i64 0) := by rw [cell_of_heap hh]; rfl
  have z1 : wf.cell? ⟨w.heap.size, 1, none⟩ = some (.slice none 0 0) := by rw [cell_of_heap hh]; rfl
  have z2 : wf.cell? ⟨w.heap.size, 2, none⟩ = some (.slice none 0 0) := by rw [cell_of_heap hh]; rfl
  rw [← hwf]
  refine bodyPost_ret (v := .tuple #[.agg #[.int .i64 0, .slice none 0 0, .slice none 0 0], .slice none 0 0, errV a 1]) (by unfold errV; simp [results, Tryz.results26, go_sem, z0, z1, z2]) rfl ⟨rfl, Hmc.out.trans hMf fun x hx e => by omega⟩
end Go.Proofs.YtppihkneeolomaaGreatDoor
end
/- quiescentref2.IsFlavour. -/
section
namespace Go.Proofs.YtppihkneeolomaaGreatDoor
open Go.RowKit Qs Qh
theorem isFlavour2_any (f : Int) (w : World) : Calls Tryz.prog 30 #[.int .i64 f] w fun e w' => e = .returned (.bool (decide (1 ≤ f) && decide (f ≤ 4))) ∧ w = w' := by
  by_cases h : 1 ≤ f
  · have d : decide (1 ≤ f) = true := by simpa using h
    go_enter Tryz.func30, Tryz.ntmps30
    go_wp2
    go_ret
    exact ⟨by simp [h], rfl⟩
  · have d : decide (1 ≤ f) = false := by simpa using h
    go_enter Tryz.func30, Tryz.ntmps30
    go_wp2
    go_ret
    exact ⟨by simp [h], rfl⟩
end Go.Proofs.YtppihkneeolomaaGreatDoor
end
/- quiescentref2.threadError: over any ops of a thread. -/
section
namespace Go.Proofs.YtppihkneeolomaaGreatDoor
open Go.RowKit Qs Qh
/-- What threadError tells. -/
def thrF (l : List ROp) : Int × Bool := match cRowF l with
  | some c => (c, false)
  | none => (0, cSafe l)
def isWF (x : ROp) : Bool := decide (x.1 = kWait) || decide (x.1 = kFlush)
def anyWF (l : List ROp) (p k : Nat) : Bool := ((l.take k).drop p).any isWF
theorem anyWF_same (l : List ROp) (p : Nat) : anyWF l p p = false := by
  unfold anyWF
  rw [List.drop_eq_nil_of_le (by simp; omega)]; rfl
theorem anyWF_succ {l : List ROp} {p k : Nat} {x : ROp} (h : l[k]? = some x) (hp : p ≤ k) : anyWF l p (k + 1) = (anyWF l p k || isWF x) := by
  unfold anyWF
  have hk := (List.getElem?_eq_some_iff.1 h).1
  rw [List.take_add_one, h, List.drop_append_of_le_length (by simp; omega), List.any_append]
  simp
/-- Where what is retired was put, and whether a wait is behind it. -/
def WInv (l : List ROp) (q : Nat) (s : CSt) (pw : Int) : Prop := (s.r = false ∧ pw = -1) ∨ (s.r = true ∧ ∃ p : Nat, p < q ∧ pw = (p : Int) ∧ s.w = anyWF l p q)
theorem WInv.next {l : List ROp} {q : Nat} {s s' : CSt} {pw : Int} {x : ROp} (h : WInv l q s pw) (hx : l[q]? = some x) (hr : s'.r = s.r) (hw : s'.w = (s.w || isWF x)) : WInv l (q + 1) s' pw := by
  rcases h with ⟨h1, h2⟩ | ⟨h1, p, h2, h3, h4⟩
  · exact .inl ⟨by rw [hr, h1], h2⟩
  · exact .inr ⟨by rw [hr, h1], p, by omega, h3, by rw [hw, h4, anyWF_succ hx (by omega)]⟩
theorem WInv.put {l : List ROp} {q : Nat} {s' : CSt} {x : ROp} (hx : l[q]? = some x) (hf : isWF x = false) (hr : s'.r = true) (hw : s'.w = false) : WInv l (q + 1) s' (q : Int) :=
  .inr ⟨hr, q, by omega, rfl, by rw [hw, anyWF_succ hx (Nat.le_refl _), anyWF_same, hf]; rfl⟩
theorem WInv.none {l : List ROp} {q : Nat} {s' : CSt} (hr : s'.r = false) : WInv l q s' (-1) := .inl ⟨hr, rfl⟩
theorem str_neL {a b : ByteArray} (h : ¬ a = b) : (a.toList == b.toList) = false ∧ ¬ a.toList = b.toList := by
  have h1 := str_ne h
  exact ⟨h1, fun e => by rw [e] at h1; simp at h1⟩
variable {N : Nat} {w w' : World} {v u : Value} {l : List ROp}
set_option maxRecDepth 4000 in
set_option maxHeartbeats 64000000 in
theorem thr_ok (H : RRow N w u l) (hlen : l.length ≤ 20) :
    Calls Tryz.prog 57 #[u] w fun e w' => e = .returned (.tuple #[.int .i64 (thrF l).1, .bool (thrF l).2]) ∧ Mod noF w w' := by
  obtain ⟨ra, rb, hres⟩ : ∃ ra rb, thrF l = (ra, rb) := ⟨_, _, rfl⟩
  rw [hres]
  have Hres := Lib.hid hres
  simp only
  clear hres
  obtain ⟨ua, uc, rfl, hxx⟩ := H
  have Hxx := Lib.hid hxx
  clear hxx
  go_enter Tryz.func57, Tryz.ntmps57
  go_wp2
  go_loopw [4, 5, 6, 7] (fun dv pv sv i wr => ∃ (q : Nat) (s : CSt) (di pw : Int), q ≤ l.length ∧ dv = .int .i64 di ∧ pv = .int .i64 pw ∧ sv = .bool (!s.u) ∧ i = .int .i64 q ∧ cRun c0 (l.take q) = (0, s) ∧ di = (s.d : Int) ∧ s.d ≤ q ∧ WInv l q s pw ∧ Mod noF w wr) (fun _ _ _ i _ => l.length - (intOf i).toNat)
  case atStart => exact ⟨0, c0, 0, -1, Nat.zero_le _, rfl, rfl, rfl, rfl, rfl, rfl, Nat.le_refl _, .inl ⟨rfl, rfl⟩, Mod.refl _ _⟩
  case round =>
    generalize wr = w2 at *
    obtain ⟨q, s, di, pw, hq, rfl, rfl, rfl, rfl, hrun, hdi, hdq, hW, hm⟩ := hrel
    have Hrun := Lib.hid hrun
    have HW := Lib.hid hW
    have Hm := Lib.hid hm
    clear hrun hW hm
    by_cases hlt : q < l.length
    · have hd : decide ((q : Int) < (l.length : Int)) = true := by simp; omega
      have hqi : (q : Int) < (l.length : Int) := by omega
      obtain ⟨x, hxl⟩ : ∃ x, l[q]? = some x := ⟨_, List.getElem?_eq_getElem hlt⟩
      obtain ⟨ub, uoff, rfl, hub, h0, h1⟩ := Hxx.out q x hxl
      have h0 := Hm.out.cell h0 (fun e => e)
      have h1 := Hm.out.cell h1 (fun e => e)
      have Hxl := Lib.hid hxl
      clear hxl
      obtain ⟨xs, xn⟩ := x
      simp only at h0 h1
      cases hk : memK kindsC xs with
      | false =>
        have hcf : cfOp s (xs, xn) = (3, s) := by unfold cfOp; simp [hk]
        have en0 : ¬ xs = ⟨#[101, 110, 116, 101, 114]⟩ := fun e => by
          rw [e, show memK kindsC ⟨#[101, 110, 116, 101, 114]⟩ = true by decide +kernel] at hk; cases hk
        obtain ⟨e0, f0⟩ := str_neL en0
        rw [show ((⟨#[101, 110, 116, 101, 114]⟩ : ByteArray).toList) = [101, 110, 116, 101, 114] from by rw [ByteArray.toList_eq]] at e0 f0
        clear en0
        have en1 : ¬ xs = ⟨#[108, 101, 97, 118, 101]⟩ := fun e => by
          rw [e, show memK kindsC ⟨#[108, 101, 97, 118, 101]⟩ = true by decide +kernel] at hk; cases hk
        obtain ⟨e1, f1⟩ := str_neL en1
        rw [show ((⟨#[108, 101, 97, 118, 101]⟩ : ByteArray).toList) = [108, 101, 97, 118, 101] from by rw [ByteArray.toList_eq]] at e1 f1
        clear en1
        have en2 : ¬ xs = ⟨#[114, 101, 115, 116]⟩ := fun e => by
          rw [e, show memK kindsC ⟨#[114, 101, 115, 116]⟩ = true by decide +kernel] at hk; cases hk
        obtain ⟨e2, f2⟩ := str_neL en2
        rw [show ((⟨#[114, 101, 115, 116]⟩ : ByteArray).toList) = [114, 101, 115, 116] from by rw [ByteArray.toList_eq]] at e2 f2
        clear en2
        have en3 : ¬ xs = ⟨#[119, 97, 105, 116]⟩ := fun e => by
          rw [e, show memK kindsC ⟨#[119, 97, 105, 116]⟩ = true by decide +kernel] at hk; cases hk
        obtain ⟨e3, f3⟩ := str_neL en3
        rw [show ((⟨#[119, 97, 105, 116]⟩ : ByteArray).toList) = [119, 97, 105, 116] from by rw [ByteArray.toList_eq]] at e3 f3
        clear en3
        have en4 : ¬ xs = ⟨#[114, 101, 97, 100]⟩ := fun e => by
          rw [e, show memK kindsC ⟨#[114, 101, 97, 100]⟩ = true by decide +kernel] at hk; cases hk
        obtain ⟨e4, f4⟩ := str_neL en4
        rw [show ((⟨#[114, 101, 97, 100]⟩ : ByteArray).toList) = [114, 101, 97, 100] from by rw [ByteArray.toList_eq]] at e4 f4
        clear en4
        have en5 : ¬ xs = ⟨#[112, 117, 116]⟩ := fun e => by
          rw [e, show memK kindsC ⟨#[112, 117, 116]⟩ = true by decide +kernel] at hk; cases hk
        obtain ⟨e5, f5⟩ := str_neL en5
        rw [show ((⟨#[112, 117, 116]⟩ : ByteArray).toList) = [112, 117, 116] from by rw [ByteArray.toList_eq]] at e5 f5
        clear en5
        have en6 : ¬ xs = ⟨#[100, 114, 111, 112]⟩ := fun e => by
          rw [e, show memK kindsC ⟨#[100, 114, 111, 112]⟩ = true by decide +kernel] at hk; cases hk
        obtain ⟨e6, f6⟩ := str_neL en6
        rw [show ((⟨#[100, 114, 111, 112]⟩ : ByteArray).toList) = [100, 114, 111, 112] from by rw [ByteArray.toList_eq]] at e6 f6
        clear en6
        have en7 : ¬ xs = ⟨#[108, 97, 116, 101, 114]⟩ := fun e => by
          rw [e, show memK kindsC ⟨#[108, 97, 116, 101, 114]⟩ = true by decide +kernel] at hk; cases hk
        obtain ⟨e7, f7⟩ := str_neL en7
        rw [show ((⟨#[108, 97, 116, 101, 114]⟩ : ByteArray).toList) = [108, 97, 116, 101, 114] from by rw [ByteArray.toList_eq]] at e7 f7
        clear en7
        have en8 : ¬ xs = ⟨#[102, 108, 117, 115, 104]⟩ := fun e => by
          rw [e, show memK kindsC ⟨#[102, 108, 117, 115, 104]⟩ = true by decide +kernel] at hk; cases hk
        obtain ⟨e8, f8⟩ := str_neL en8
        rw [show ((⟨#[102, 108, 117, 115, 104]⟩ : ByteArray).toList) = [102, 108, 117, 115, 104] from by rw [ByteArray.toList_eq]] at e8 f8
        clear en8
        have hrF := cRowF_fault Hxl.out Hrun.out (by rw [hcf]; simp)
        rw [hcf] at hrF
        have ht : thrF l = (3, false) := by unfold thrF; rw [hrF]
        rw [Hres.out] at ht
        obtain ⟨rfl, rfl⟩ := Prod.mk.inj ht
        clear hrF hcf ht hk
        go_wp2
        go_ret2
        exact ⟨rfl, Hm.out.alloc _⟩
      | true =>
        obtain ⟨sd, sr, sw, su⟩ := s
        simp only at hdi hdq
        rcases kinds_cases hk with rfl | rfl | rfl | rfl | rfl | rfl | rfl | rfl | rfl
        · replace h0 : w2.cell? ⟨ub, uoff + q * 2, none⟩ = some (.string ⟨#[101, 110, 116, 101, 114]⟩) := h0
          replace Hxl : Hid (l[q]? = some (⟨#[101, 110, 116, 101, 114]⟩, xn)) := Hxl
          have e0 : ((⟨#[101, 110, 116, 101, 114]⟩ : ByteArray).toList == (⟨#[101, 110, 116, 101, 114]⟩ : ByteArray).toList) = true := by simp
          have e1 : ((⟨#[101, 110, 116, 101, 114]⟩ : ByteArray).toList == (⟨#[108, 101, 97, 118, 101]⟩ : ByteArray).toList) = false := by
            rw [ByteArray.toList_eq, ByteArray.toList_eq]; rfl
          have e2 : ((⟨#[101, 110, 116, 101, 114]⟩ : ByteArray).toList == (⟨#[114, 101, 115, 116]⟩ : ByteArray).toList) = false := by
            rw [ByteArray.toList_eq, ByteArray.toList_eq]; rfl
          have e3 : ((⟨#[101, 110, 116, 101, 114]⟩ : ByteArray).toList == (⟨#[119, 97, 105, 116]⟩ : ByteArray).toList) = false := by
            rw [ByteArray.toList_eq, ByteArray.toList_eq]; rfl
          have e4 : ((⟨#[101, 110, 116, 101, 114]⟩ : ByteArray).toList == (⟨#[114, 101, 97, 100]⟩ : ByteArray).toList) = false := by
            rw [ByteArray.toList_eq, ByteArray.toList_eq]; rfl
          have e5 : ((⟨#[101, 110, 116, 101, 114]⟩ : ByteArray).toList == (⟨#[112, 117, 116]⟩ : ByteArray).toList) = false := by
            rw [ByteArray.toList_eq, ByteArray.toList_eq]; rfl
          have e6 : ((⟨#[101, 110, 116, 101, 114]⟩ : ByteArray).toList == (⟨#[100, 114, 111, 112]⟩ : ByteArray).toList) = false := by
            rw [ByteArray.toList_eq, ByteArray.toList_eq]; rfl
          have e7 : ((⟨#[101, 110, 116, 101, 114]⟩ : ByteArray).toList == (⟨#[108, 97, 116, 101, 114]⟩ : ByteArray).toList) = false := by
            rw [ByteArray.toList_eq, ByteArray.toList_eq]; rfl
          have e8 : ((⟨#[101, 110, 116, 101, 114]⟩ : ByteArray).toList == (⟨#[102, 108, 117, 115, 104]⟩ : ByteArray).toList) = false := by
            rw [ByteArray.toList_eq, ByteArray.toList_eq]; rfl
          by_cases hn : xn = 0
          · subst hn
            have hcf : cfOp ⟨sd, sr, sw, su⟩ (⟨#[101, 110, 116, 101, 114]⟩, 0) = (0, ⟨sd + 1, sr, sw, su⟩) := by
              unfold cfOp
              have hm : memK kindsC ⟨#[101, 110, 116, 101, 114]⟩ = true := by decide +kernel
              simp [hm, kEnter, kLeave, kRest, kWait, kRead, kPut, kDrop, kLater, kFlush]
            have hnx : WInv l (q + 1) ⟨sd + 1, sr, sw, su⟩ pw := HW.out.next Hxl.out rfl (by simp [isWF, kWait, kFlush])
            have Hnx := Lib.hid hnx
            clear hnx
            have hts := cRun_take_succ l q c0 Hxl.out Hrun.out
            rw [hcf, if_neg (by simp)] at hts
            have Hts := Lib.hid hts
            clear hts hcf hk
            go_wp2
            go_roundw
            case rel => exact ⟨q + 1, ⟨sd + 1, sr, sw, su⟩, _, _, by omega, rfl, rfl, rfl, by go_num, Hts.out, (by first | omega | (simp only; omega) | (simp only; done)), (by first | omega | (simp only; omega) | (simp only; done)), Hnx.out, Hm.out.alloc _⟩
            case measure => simp [intOf]; omega
          · have n1 : (xn == 0) = false := by simpa using hn
            have n2 : decide (xn = 0) = false := by simpa using hn
            have hcf : cfOp ⟨sd, sr, sw, su⟩ (⟨#[101, 110, 116, 101, 114]⟩, xn) = (3, ⟨sd, sr, sw, su⟩) := by
              unfold cfOp
              have hm : memK kindsC ⟨#[101, 110, 116, 101, 114]⟩ = true := by decide +kernel
              simp [hm, kEnter, kLeave, kRest, kWait, kRead, kPut, kDrop, kLater, kFlush, hn]
            have hrF := cRowF_fault Hxl.out Hrun.out (by rw [hcf]; simp)
            rw [hcf] at hrF
            have ht : thrF l = (3, false) := by unfold thrF; rw [hrF]
            rw [Hres.out] at ht
            obtain ⟨rfl, rfl⟩ := Prod.mk.inj ht
            clear hrF hcf ht hk hdi hn
            go_wp2
            go_ret2
            exact ⟨rfl, Hm.out.alloc _⟩
        · replace h0 : w2.cell? ⟨ub, uoff + q * 2, none⟩ = some (.string ⟨#[108, 101, 97, 118, 101]⟩) := h0
          replace Hxl : Hid (l[q]? = some (⟨#[108, 101, 97, 118, 101]⟩, xn)) := Hxl
          have e0 : ((⟨#[108, 101, 97, 118, 101]⟩ : ByteArray).toList == (⟨#[101, 110, 116, 101, 114]⟩ : ByteArray).toList) = false := by
            rw [ByteArray.toList_eq, ByteArray.toList_eq]; rfl
          have e1 : ((⟨#[108, 101, 97, 118, 101]⟩ : ByteArray).toList == (⟨#[108, 101, 97, 118, 101]⟩ : ByteArray).toList) = true := by simp
          have e2 : ((⟨#[108, 101, 97, 118, 101]⟩ : ByteArray).toList == (⟨#[114, 101, 115, 116]⟩ : ByteArray).toList) = false := by
            rw [ByteArray.toList_eq, ByteArray.toList_eq]; rfl
          have e3 : ((⟨#[108, 101, 97, 118, 101]⟩ : ByteArray).toList == (⟨#[119, 97, 105, 116]⟩ : ByteArray).toList) = false := by
            rw [ByteArray.toList_eq, ByteArray.toList_eq]; rfl
          have e4 : ((⟨#[108, 101, 97, 118, 101]⟩ : ByteArray).toList == (⟨#[114, 101, 97, 100]⟩ : ByteArray).toList) = false := by
            rw [ByteArray.toList_eq, ByteArray.toList_eq]; rfl
          have e5 : ((⟨#[108, 101, 97, 118, 101]⟩ : ByteArray).toList == (⟨#[112, 117, 116]⟩ : ByteArray).toList) = false := by
            rw [ByteArray.toList_eq, ByteArray.toList_eq]; rfl
          have e6 : ((⟨#[108, 101, 97, 118, 101]⟩ : ByteArray).toList == (⟨#[100, 114, 111, 112]⟩ : ByteArray).toList) = false := by
            rw [ByteArray.toList_eq, ByteArray.toList_eq]; rfl
          have e7 : ((⟨#[108, 101, 97, 118, 101]⟩ : ByteArray).toList == (⟨#[108, 97, 116, 101, 114]⟩ : ByteArray).toList) = false := by
            rw [ByteArray.toList_eq, ByteArray.toList_eq]; rfl
          have e8 : ((⟨#[108, 101, 97, 118, 101]⟩ : ByteArray).toList == (⟨#[102, 108, 117, 115, 104]⟩ : ByteArray).toList) = false := by
            rw [ByteArray.toList_eq, ByteArray.toList_eq]; rfl
          by_cases hn : xn = 0
          · subst hn
            rcases (by omega : sd = 0 ∨ 1 ≤ sd) with rfl | hs1
            · obtain rfl : di = 0 := by omega
              have hcf : cfOp ⟨0, sr, sw, su⟩ (⟨#[108, 101, 97, 118, 101]⟩, 0) = (8, ⟨0, sr, sw, su⟩) := by
                unfold cfOp
                have hm : memK kindsC ⟨#[108, 101, 97, 118, 101]⟩ = true := by decide +kernel
                simp [hm, kEnter, kLeave, kRest, kWait, kRead, kPut, kDrop, kLater, kFlush]
              have hrF := cRowF_fault Hxl.out Hrun.out (by rw [hcf]; simp)
              rw [hcf] at hrF
              have ht : thrF l = (8, false) := by unfold thrF; rw [hrF]
              rw [Hres.out] at ht
              obtain ⟨rfl, rfl⟩ := Prod.mk.inj ht
              clear hrF hcf ht hk hdi
              go_wp2
              go_ret2
              exact ⟨rfl, Hm.out.alloc _⟩
            · have dd : decide (di - 1 < 0) = false := by simp; omega
              have h20 : 0 ≤ di ∧ di ≤ 20 := by omega
              have hs0 : ¬ sd = 0 := by omega
              have hcf : cfOp ⟨sd, sr, sw, su⟩ (⟨#[108, 101, 97, 118, 101]⟩, 0) = (0, ⟨sd - 1, sr, sw, su⟩) := by
                unfold cfOp
                have hm : memK kindsC ⟨#[108, 101, 97, 118, 101]⟩ = true := by decide +kernel
                simp [hm, kEnter, kLeave, kRest, kWait, kRead, kPut, kDrop, kLater, kFlush, hs0]
              have hnx : WInv l (q + 1) ⟨sd - 1, sr, sw, su⟩ pw := HW.out.next Hxl.out rfl (by simp [isWF, kWait, kFlush])
              have Hnx := Lib.hid hnx
              clear hnx hs0
              have hts := cRun_take_succ l q c0 Hxl.out Hrun.out
              rw [hcf, if_neg (by simp)] at hts
              have Hts := Lib.hid hts
              clear hts hcf hk
              go_wp2
              go_roundw
              case rel => exact ⟨q + 1, ⟨sd - 1, sr, sw, su⟩, _, _, by omega, rfl, rfl, rfl, by go_num, Hts.out, (by first | omega | (simp only; omega) | (simp only; done)), (by first | omega | (simp only; omega) | (simp only; done)), Hnx.out, Hm.out.alloc _⟩
              case measure => simp [intOf]; omega
          · have n1 : (xn == 0) = false := by simpa using hn
            have n2 : decide (xn = 0) = false := by simpa using hn
            have hcf : cfOp ⟨sd, sr, sw, su⟩ (⟨#[108, 101, 97, 118, 101]⟩, xn) = (3, ⟨sd, sr, sw, su⟩) := by
              unfold cfOp
              have hm : memK kindsC ⟨#[108, 101, 97, 118, 101]⟩ = true := by decide +kernel
              simp [hm, kEnter, kLeave, kRest, kWait, kRead, kPut, kDrop, kLater, kFlush, hn]
            have hrF := cRowF_fault Hxl.out Hrun.out (by rw [hcf]; simp)
            rw [hcf] at hrF
            have ht : thrF l = (3, false) := by unfold thrF; rw [hrF]
            rw [Hres.out] at ht
            obtain ⟨rfl, rfl⟩ := Prod.mk.inj ht
            clear hrF hcf ht hk hdi hn
            go_wp2
            go_ret2
            exact ⟨rfl, Hm.out.alloc _⟩
        · replace h0 : w2.cell? ⟨ub, uoff + q * 2, none⟩ = some (.string ⟨#[114, 101, 115, 116]⟩) := h0
          replace Hxl : Hid (l[q]? = some (⟨#[114, 101, 115, 116]⟩, xn)) := Hxl
          have e0 : ((⟨#[114, 101, 115, 116]⟩ : ByteArray).toList == (⟨#[101, 110, 116, 101, 114]⟩ : ByteArray).toList) = false := by
            rw [ByteArray.toList_eq, ByteArray.toList_eq]; rfl
          have e1 : ((⟨#[114, 101, 115, 116]⟩ : ByteArray).toList == (⟨#[108, 101, 97, 118, 101]⟩ : ByteArray).toList) = false := by
            rw [ByteArray.toList_eq, ByteArray.toList_eq]; rfl
          have e2 : ((⟨#[114, 101, 115, 116]⟩ : ByteArray).toList == (⟨#[114, 101, 115, 116]⟩ : ByteArray).toList) = true := by simp
          have e3 : ((⟨#[114, 101, 115, 116]⟩ : ByteArray).toList == (⟨#[119, 97, 105, 116]⟩ : ByteArray).toList) = false := by
            rw [ByteArray.toList_eq, ByteArray.toList_eq]; rfl
          have e4 : ((⟨#[114, 101, 115, 116]⟩ : ByteArray).toList == (⟨#[114, 101, 97, 100]⟩ : ByteArray).toList) = false := by
            rw [ByteArray.toList_eq, ByteArray.toList_eq]; rfl
          have e5 : ((⟨#[114, 101, 115, 116]⟩ : ByteArray).toList == (⟨#[112, 117, 116]⟩ : ByteArray).toList) = false := by
            rw [ByteArray.toList_eq, ByteArray.toList_eq]; rfl
          have e6 : ((⟨#[114, 101, 115, 116]⟩ : ByteArray).toList == (⟨#[100, 114, 111, 112]⟩ : ByteArray).toList) = false := by
            rw [ByteArray.toList_eq, ByteArray.toList_eq]; rfl
          have e7 : ((⟨#[114, 101, 115, 116]⟩ : ByteArray).toList == (⟨#[108, 97, 116, 101, 114]⟩ : ByteArray).toList) = false := by
            rw [ByteArray.toList_eq, ByteArray.toList_eq]; rfl
          have e8 : ((⟨#[114, 101, 115, 116]⟩ : ByteArray).toList == (⟨#[102, 108, 117, 115, 104]⟩ : ByteArray).toList) = false := by
            rw [ByteArray.toList_eq, ByteArray.toList_eq]; rfl
          by_cases hn : xn = 0
          · subst hn
            rcases (by omega : sd = 0 ∨ 1 ≤ sd) with rfl | hs1
            · obtain rfl : di = 0 := by omega
              have hcf : cfOp ⟨0, sr, sw, su⟩ (⟨#[114, 101, 115, 116]⟩, 0) = (0, ⟨0, sr, sw, su⟩) := by
                unfold cfOp
                have hm : memK kindsC ⟨#[114, 101, 115, 116]⟩ = true := by decide +kernel
                simp [hm, kEnter, kLeave, kRest, kWait, kRead, kPut, kDrop, kLater, kFlush]
              have hnx : WInv l (q + 1) ⟨0, sr, sw, su⟩ pw := HW.out.next Hxl.out rfl (by simp [isWF, kWait, kFlush])
              have Hnx := Lib.hid hnx
              clear hnx
              have hts := cRun_take_succ l q c0 Hxl.out Hrun.out
              rw [hcf, if_neg (by simp)] at hts
              have Hts := Lib.hid hts
              clear hts hcf hk hdi
              go_wp2
              go_roundw
              case rel => exact ⟨q + 1, ⟨0, sr, sw, su⟩, _, _, by omega, rfl, rfl, rfl, by go_num, Hts.out, (by first | omega | (simp only; omega) | (simp only; done)), (by first | omega | (simp only; omega) | (simp only; done)), Hnx.out, Hm.out.alloc _⟩
              case measure => simp [intOf]; omega
            · have dd : decide (0 < di) = true := by simp; omega
              have hs0 : ¬ sd = 0 := by omega
              have hcf : cfOp ⟨sd, sr, sw, su⟩ (⟨#[114, 101, 115, 116]⟩, 0) = (8, ⟨sd, sr, sw, su⟩) := by
                unfold cfOp
                have hm : memK kindsC ⟨#[114, 101, 115, 116]⟩ = true := by decide +kernel
                simp [hm, kEnter, kLeave, kRest, kWait, kRead, kPut, kDrop, kLater, kFlush, hs0]
              have hrF := cRowF_fault Hxl.out Hrun.out (by rw [hcf]; simp)
              rw [hcf] at hrF
              have ht : thrF l = (8, false) := by unfold thrF; rw [hrF]
              rw [Hres.out] at ht
              obtain ⟨rfl, rfl⟩ := Prod.mk.inj ht
              clear hrF hcf ht hk hdi hs0
              go_wp2
              go_ret2
              exact ⟨rfl, Hm.out.alloc _⟩
          · have n1 : (xn == 0) = false := by simpa using hn
            have n2 : decide (xn = 0) = false := by simpa using hn
            have hcf : cfOp ⟨sd, sr, sw, su⟩ (⟨#[114, 101, 115, 116]⟩, xn) = (3, ⟨sd, sr, sw, su⟩) := by
              unfold cfOp
              have hm : memK kindsC ⟨#[114, 101, 115, 116]⟩ = true := by decide +kernel
              simp [hm, kEnter, kLeave, kRest, kWait, kRead, kPut, kDrop, kLater, kFlush, hn]
            have hrF := cRowF_fault Hxl.out Hrun.out (by rw [hcf]; simp)
            rw [hcf] at hrF
            have ht : thrF l = (3, false) := by unfold thrF; rw [hrF]
            rw [Hres.out] at ht
            obtain ⟨rfl, rfl⟩ := Prod.mk.inj ht
            clear hrF hcf ht hk hdi hn
            go_wp2
            go_ret2
            exact ⟨rfl, Hm.out.alloc _⟩
        · replace h0 : w2.cell? ⟨ub, uoff + q * 2, none⟩ = some (.string ⟨#[119, 97, 105, 116]⟩) := h0
          replace Hxl : Hid (l[q]? = some (⟨#[119, 97, 105, 116]⟩, xn)) := Hxl
          have e0 : ((⟨#[119, 97, 105, 116]⟩ : ByteArray).toList == (⟨#[101, 110, 116, 101, 114]⟩ : ByteArray).toList) = false := by
            rw [ByteArray.toList_eq, ByteArray.toList_eq]; rfl
          have e1 : ((⟨#[119, 97, 105, 116]⟩ : ByteArray).toList == (⟨#[108, 101, 97, 118, 101]⟩ : ByteArray).toList) = false := by
            rw [ByteArray.toList_eq, ByteArray.toList_eq]; rfl
          have e2 : ((⟨#[119, 97, 105, 116]⟩ : ByteArray).toList == (⟨#[114, 101, 115, 116]⟩ : ByteArray).toList) = false := by
            rw [ByteArray.toList_eq, ByteArray.toList_eq]; rfl
          have e3 : ((⟨#[119, 97, 105, 116]⟩ : ByteArray).toList == (⟨#[119, 97, 105, 116]⟩ : ByteArray).toList) = true := by simp
          have e4 : ((⟨#[119, 97, 105, 116]⟩ : ByteArray).toList == (⟨#[114, 101, 97, 100]⟩ : ByteArray).toList) = false := by
            rw [ByteArray.toList_eq, ByteArray.toList_eq]; rfl
          have e5 : ((⟨#[119, 97, 105, 116]⟩ : ByteArray).toList == (⟨#[112, 117, 116]⟩ : ByteArray).toList) = false := by
            rw [ByteArray.toList_eq, ByteArray.toList_eq]; rfl
          have e6 : ((⟨#[119, 97, 105, 116]⟩ : ByteArray).toList == (⟨#[100, 114, 111, 112]⟩ : ByteArray).toList) = false := by
            rw [ByteArray.toList_eq, ByteArray.toList_eq]; rfl
          have e7 : ((⟨#[119, 97, 105, 116]⟩ : ByteArray).toList == (⟨#[108, 97, 116, 101, 114]⟩ : ByteArray).toList) = false := by
            rw [ByteArray.toList_eq, ByteArray.toList_eq]; rfl
          have e8 : ((⟨#[119, 97, 105, 116]⟩ : ByteArray).toList == (⟨#[102, 108, 117, 115, 104]⟩ : ByteArray).toList) = false := by
            rw [ByteArray.toList_eq, ByteArray.toList_eq]; rfl
          by_cases hn : xn = 0
          · subst hn
            rcases (by omega : sd = 0 ∨ 1 ≤ sd) with rfl | hs1
            · obtain rfl : di = 0 := by omega
              have hcf : cfOp ⟨0, sr, sw, su⟩ (⟨#[119, 97, 105, 116]⟩, 0) = (0, ⟨0, sr, true, su⟩) := by
                unfold cfOp
                have hm : memK kindsC ⟨#[119, 97, 105, 116]⟩ = true := by decide +kernel
                simp [hm, kEnter, kLeave, kRest, kWait, kRead, kPut, kDrop, kLater, kFlush]
              have hnx : WInv l (q + 1) ⟨0, sr, true, su⟩ pw := HW.out.next Hxl.out rfl (by simp [isWF, kWait, kFlush])
              have Hnx := Lib.hid hnx
              clear hnx
              have hts := cRun_take_succ l q c0 Hxl.out Hrun.out
              rw [hcf, if_neg (by simp)] at hts
              have Hts := Lib.hid hts
              clear hts hcf hk hdi
              go_wp2
              go_roundw
              case rel => exact ⟨q + 1, ⟨0, sr, true, su⟩, _, _, by omega, rfl, rfl, rfl, by go_num, Hts.out, (by first | omega | (simp only; omega) | (simp only; done)), (by first | omega | (simp only; omega) | (simp only; done)), Hnx.out, Hm.out.alloc _⟩
              case measure => simp [intOf]; omega
            · have dd : decide (0 < di) = true := by simp; omega
              have hs0 : ¬ sd = 0 := by omega
              have hcf : cfOp ⟨sd, sr, sw, su⟩ (⟨#[119, 97, 105, 116]⟩, 0) = (8, ⟨sd, sr, sw, su⟩) := by
                unfold cfOp
                have hm : memK kindsC ⟨#[119, 97, 105, 116]⟩ = true := by decide +kernel
                simp [hm, kEnter, kLeave, kRest, kWait, kRead, kPut, kDrop, kLater, kFlush, hs0]
              have hrF := cRowF_fault Hxl.out Hrun.out (by rw [hcf]; simp)
              rw [hcf] at hrF
              have ht : thrF l = (8, false) := by unfold thrF; rw [hrF]
              rw [Hres.out] at ht
              obtain ⟨rfl, rfl⟩ := Prod.mk.inj ht
              clear hrF hcf ht hk hdi hs0
              go_wp2
              go_ret2
              exact ⟨rfl, Hm.out.alloc _⟩
          · have n1 : (xn == 0) = false := by simpa using hn
            have n2 : decide (xn = 0) = false := by simpa using hn
            have hcf : cfOp ⟨sd, sr, sw, su⟩ (⟨#[119, 97, 105, 116]⟩, xn) = (3, ⟨sd, sr, sw, su⟩) := by
              unfold cfOp
              have hm : memK kindsC ⟨#[119, 97, 105, 116]⟩ = true := by decide +kernel
              simp [hm, kEnter, kLeave, kRest, kWait, kRead, kPut, kDrop, kLater, kFlush, hn]
            have hrF := cRowF_fault Hxl.out Hrun.out (by rw [hcf]; simp)
            rw [hcf] at hrF
            have ht : thrF l = (3, false) := by unfold thrF; rw [hrF]
            rw [Hres.out] at ht
            obtain ⟨rfl, rfl⟩ := Prod.mk.inj ht
            clear hrF hcf ht hk hdi hn
            go_wp2
            go_ret2
            exact ⟨rfl, Hm.out.alloc _⟩
        · replace h0 : w2.cell? ⟨ub, uoff + q * 2, none⟩ = some (.string ⟨#[114, 101, 97, 100]⟩) := h0
          replace Hxl : Hid (l[q]? = some (⟨#[114, 101, 97, 100]⟩, xn)) := Hxl
          have e0 : ((⟨#[114, 101, 97, 100]⟩ : ByteArray).toList == (⟨#[101, 110, 116, 101, 114]⟩ : ByteArray).toList) = false := by
            rw [ByteArray.toList_eq, ByteArray.toList_eq]; rfl
          have e1 : ((⟨#[114, 101, 97, 100]⟩ : ByteArray).toList == (⟨#[108, 101, 97, 118, 101]⟩ : ByteArray).toList) = false := by
            rw [ByteArray.toList_eq, ByteArray.toList_eq]; rfl
          have e2 : ((⟨#[114, 101, 97, 100]⟩ : ByteArray).toList == (⟨#[114, 101, 115, 116]⟩ : ByteArray).toList) = false := by
            rw [ByteArray.toList_eq, ByteArray.toList_eq]; rfl
          have e3 : ((⟨#[114, 101, 97, 100]⟩ : ByteArray).toList == (⟨#[119, 97, 105, 116]⟩ : ByteArray).toList) = false := by
            rw [ByteArray.toList_eq, ByteArray.toList_eq]; rfl
          have e4 : ((⟨#[114, 101, 97, 100]⟩ : ByteArray).toList == (⟨#[114, 101, 97, 100]⟩ : ByteArray).toList) = true := by simp
          have e5 : ((⟨#[114, 101, 97, 100]⟩ : ByteArray).toList == (⟨#[112, 117, 116]⟩ : ByteArray).toList) = false := by
            rw [ByteArray.toList_eq, ByteArray.toList_eq]; rfl
          have e6 : ((⟨#[114, 101, 97, 100]⟩ : ByteArray).toList == (⟨#[100, 114, 111, 112]⟩ : ByteArray).toList) = false := by
            rw [ByteArray.toList_eq, ByteArray.toList_eq]; rfl
          have e7 : ((⟨#[114, 101, 97, 100]⟩ : ByteArray).toList == (⟨#[108, 97, 116, 101, 114]⟩ : ByteArray).toList) = false := by
            rw [ByteArray.toList_eq, ByteArray.toList_eq]; rfl
          have e8 : ((⟨#[114, 101, 97, 100]⟩ : ByteArray).toList == (⟨#[102, 108, 117, 115, 104]⟩ : ByteArray).toList) = false := by
            rw [ByteArray.toList_eq, ByteArray.toList_eq]; rfl
          by_cases hn : xn = 0
          · subst hn
            rcases (by omega : sd = 0 ∨ 1 ≤ sd) with rfl | hs1
            · obtain rfl : di = 0 := by omega
              have hcf : cfOp ⟨0, sr, sw, su⟩ (⟨#[114, 101, 97, 100]⟩, 0) = (8, ⟨0, sr, sw, su⟩) := by
                unfold cfOp
                have hm : memK kindsC ⟨#[114, 101, 97, 100]⟩ = true := by decide +kernel
                simp [hm, kEnter, kLeave, kRest, kWait, kRead, kPut, kDrop, kLater, kFlush]
              have hrF := cRowF_fault Hxl.out Hrun.out (by rw [hcf]; simp)
              rw [hcf] at hrF
              have ht : thrF l = (8, false) := by unfold thrF; rw [hrF]
              rw [Hres.out] at ht
              obtain ⟨rfl, rfl⟩ := Prod.mk.inj ht
              clear hrF hcf ht hk hdi
              go_wp2
              go_ret2
              exact ⟨rfl, Hm.out.alloc _⟩
            · have dd : (di == 0) = false := by simp; omega
              have dd2 : decide (di = 0) = false := by simp; omega
              have hs0 : ¬ sd = 0 := by omega
              have hcf : cfOp ⟨sd, sr, sw, su⟩ (⟨#[114, 101, 97, 100]⟩, 0) = (0, ⟨sd, sr, sw, su⟩) := by
                unfold cfOp
                have hm : memK kindsC ⟨#[114, 101, 97, 100]⟩ = true := by decide +kernel
                simp [hm, kEnter, kLeave, kRest, kWait, kRead, kPut, kDrop, kLater, kFlush, hs0]
              have hnx : WInv l (q + 1) ⟨sd, sr, sw, su⟩ pw := HW.out.next Hxl.out rfl (by simp [isWF, kWait, kFlush])
              have Hnx := Lib.hid hnx
              clear hnx hs0
              have hts := cRun_take_succ l q c0 Hxl.out Hrun.out
              rw [hcf, if_neg (by simp)] at hts
              have Hts := Lib.hid hts
              clear hts hcf hk
              go_wp2
              go_roundw
              case rel => exact ⟨q + 1, ⟨sd, sr, sw, su⟩, _, _, by omega, rfl, rfl, rfl, by go_num, Hts.out, (by first | omega | (simp only; omega) | (simp only; done)), (by first | omega | (simp only; omega) | (simp only; done)), Hnx.out, Hm.out.alloc _⟩
              case measure => simp [intOf]; omega
          · have n1 : (xn == 0) = false := by simpa using hn
            have n2 : decide (xn = 0) = false := by simpa using hn
            have hcf : cfOp ⟨sd, sr, sw, su⟩ (⟨#[114, 101, 97, 100]⟩, xn) = (3, ⟨sd, sr, sw, su⟩) := by
              unfold cfOp
              have hm : memK kindsC ⟨#[114, 101, 97, 100]⟩ = true := by decide +kernel
              simp [hm, kEnter, kLeave, kRest, kWait, kRead, kPut, kDrop, kLater, kFlush, hn]
            have hrF := cRowF_fault Hxl.out Hrun.out (by rw [hcf]; simp)
            rw [hcf] at hrF
            have ht : thrF l = (3, false) := by unfold thrF; rw [hrF]
            rw [Hres.out] at ht
            obtain ⟨rfl, rfl⟩ := Prod.mk.inj ht
            clear hrF hcf ht hk hdi hn
            go_wp2
            go_ret2
            exact ⟨rfl, Hm.out.alloc _⟩
        · replace h0 : w2.cell? ⟨ub, uoff + q * 2, none⟩ = some (.string ⟨#[112, 117, 116]⟩) := h0
          replace Hxl : Hid (l[q]? = some (⟨#[112, 117, 116]⟩, xn)) := Hxl
          have e0 : ((⟨#[112, 117, 116]⟩ : ByteArray).toList == (⟨#[101, 110, 116, 101, 114]⟩ : ByteArray).toList) = false := by
            rw [ByteArray.toList_eq, ByteArray.toList_eq]; rfl
          have e1 : ((⟨#[112, 117, 116]⟩ : ByteArray).toList == (⟨#[108, 101, 97, 118, 101]⟩ : ByteArray).toList) = false := by
            rw [ByteArray.toList_eq, ByteArray.toList_eq]; rfl
          have e2 : ((⟨#[112, 117, 116]⟩ : ByteArray).toList == (⟨#[114, 101, 115, 116]⟩ : ByteArray).toList) = false := by
            rw [ByteArray.toList_eq, ByteArray.toList_eq]; rfl
          have e3 : ((⟨#[112, 117, 116]⟩ : ByteArray).toList == (⟨#[119, 97, 105, 116]⟩ : ByteArray).toList) = false := by
            rw [ByteArray.toList_eq, ByteArray.toList_eq]; rfl
          have e4 : ((⟨#[112, 117, 116]⟩ : ByteArray).toList == (⟨#[114, 101, 97, 100]⟩ : ByteArray).toList) = false := by
            rw [ByteArray.toList_eq, ByteArray.toList_eq]; rfl
          have e5 : ((⟨#[112, 117, 116]⟩ : ByteArray).toList == (⟨#[112, 117, 116]⟩ : ByteArray).toList) = true := by simp
          have e6 : ((⟨#[112, 117, 116]⟩ : ByteArray).toList == (⟨#[100, 114, 111, 112]⟩ : ByteArray).toList) = false := by
            rw [ByteArray.toList_eq, ByteArray.toList_eq]; rfl
          have e7 : ((⟨#[112, 117, 116]⟩ : ByteArray).toList == (⟨#[108, 97, 116, 101, 114]⟩ : ByteArray).toList) = false := by
            rw [ByteArray.toList_eq, ByteArray.toList_eq]; rfl
          have e8 : ((⟨#[112, 117, 116]⟩ : ByteArray).toList == (⟨#[102, 108, 117, 115, 104]⟩ : ByteArray).toList) = false := by
            rw [ByteArray.toList_eq, ByteArray.toList_eq]; rfl
          by_cases hn1 : xn < 1
          · have n1 : decide (xn < 1) = true := by simpa using hn1
            have hcf : cfOp ⟨sd, sr, sw, su⟩ (⟨#[112, 117, 116]⟩, xn) = (2, ⟨sd, sr, sw, su⟩) := by
              unfold cfOp
              have hm : memK kindsC ⟨#[112, 117, 116]⟩ = true := by decide +kernel
              simp [hm, kEnter, kLeave, kRest, kWait, kRead, kPut, kDrop, kLater, kFlush, hn1]
            have hrF := cRowF_fault Hxl.out Hrun.out (by rw [hcf]; simp)
            rw [hcf] at hrF
            have ht : thrF l = (2, false) := by unfold thrF; rw [hrF]
            rw [Hres.out] at ht
            obtain ⟨rfl, rfl⟩ := Prod.mk.inj ht
            clear hrF hcf ht hk hdi
            go_wp2
            go_ret2
            exact ⟨rfl, Hm.out.alloc _⟩
          by_cases hn2 : 1000 < xn
          · have n1 : decide (xn < 1) = false := by simpa using hn1
            have n2 : decide (1000 < xn) = true := by simpa using hn2
            have hcf : cfOp ⟨sd, sr, sw, su⟩ (⟨#[112, 117, 116]⟩, xn) = (2, ⟨sd, sr, sw, su⟩) := by
              unfold cfOp
              have hm : memK kindsC ⟨#[112, 117, 116]⟩ = true := by decide +kernel
              simp [hm, kEnter, kLeave, kRest, kWait, kRead, kPut, kDrop, kLater, kFlush, hn2]
            have hrF := cRowF_fault Hxl.out Hrun.out (by rw [hcf]; simp)
            rw [hcf] at hrF
            have ht : thrF l = (2, false) := by unfold thrF; rw [hrF]
            rw [Hres.out] at ht
            obtain ⟨rfl, rfl⟩ := Prod.mk.inj ht
            clear hrF hcf ht hk hdi
            go_wp2
            go_ret2
            exact ⟨rfl, Hm.out.alloc _⟩
          have n1 : decide (xn < 1) = false := by simpa using hn1
          have n2 : decide (1000 < xn) = false := by simpa using hn2
          rcases (by omega : sd = 0 ∨ 1 ≤ sd) with rfl | hs1
          · obtain rfl : di = 0 := by omega
            cases sr with
            | true =>
              have hcf : cfOp ⟨0, true, sw, su⟩ (⟨#[112, 117, 116]⟩, xn) = (8, ⟨0, true, sw, su⟩) := by
                unfold cfOp
                have hm : memK kindsC ⟨#[112, 117, 116]⟩ = true := by decide +kernel
                simp [hm, kEnter, kLeave, kRest, kWait, kRead, kPut, kDrop, kLater, kFlush, hn1, hn2]
              have dp : decide (0 ≤ pw) = true := by
                rcases HW.out with ⟨h, _⟩ | ⟨_, p, _, h, _⟩
                · cases h
                · simp; omega
              have hrF := cRowF_fault Hxl.out Hrun.out (by rw [hcf]; simp)
              rw [hcf] at hrF
              have ht : thrF l = (8, false) := by unfold thrF; rw [hrF]
              rw [Hres.out] at ht
              obtain ⟨rfl, rfl⟩ := Prod.mk.inj ht
              clear hrF hcf ht hk hdi hn1 hn2
              go_wp2
              go_ret2
              exact ⟨rfl, Hm.out.alloc _⟩
            | false =>
              have hcf : cfOp ⟨0, false, sw, su⟩ (⟨#[112, 117, 116]⟩, xn) = (0, ⟨0, true, false, su⟩) := by
                unfold cfOp
                have hm : memK kindsC ⟨#[112, 117, 116]⟩ = true := by decide +kernel
                simp [hm, kEnter, kLeave, kRest, kWait, kRead, kPut, kDrop, kLater, kFlush, hn1, hn2]
              have dp : decide (0 ≤ pw) = false := by
                rcases HW.out with ⟨_, h⟩ | ⟨h, _⟩
                · simp; omega
                · cases h
              have hnx : WInv l (q + 1) ⟨0, true, false, su⟩ (q : Int) := WInv.put Hxl.out (by simp [isWF, kWait, kFlush]) rfl rfl
              have Hnx := Lib.hid hnx
              clear hnx hn1 hn2
              have hts := cRun_take_succ l q c0 Hxl.out Hrun.out
              rw [hcf, if_neg (by simp)] at hts
              have Hts := Lib.hid hts
              clear hts hcf hk hdi
              go_wp2
              go_roundw
              case rel => exact ⟨q + 1, ⟨0, true, false, su⟩, _, _, by omega, rfl, rfl, rfl, by go_num, Hts.out, (by first | omega | (simp only; omega) | (simp only; done)), (by first | omega | (simp only; omega) | (simp only; done)), Hnx.out, Hm.out.alloc _⟩
              case measure => simp [intOf]; omega
          · have dd : decide (0 < di) = true := by simp; omega
            have hs0 : ¬ sd = 0 := by omega
            have hcf : cfOp ⟨sd, sr, sw, su⟩ (⟨#[112, 117, 116]⟩, xn) = (8, ⟨sd, sr, sw, su⟩) := by
              unfold cfOp
              have hm : memK kindsC ⟨#[112, 117, 116]⟩ = true := by decide +kernel
              simp [hm, kEnter, kLeave, kRest, kWait, kRead, kPut, kDrop, kLater, kFlush, hs0, hn1, hn2]
            have hrF := cRowF_fault Hxl.out Hrun.out (by rw [hcf]; simp)
            rw [hcf] at hrF
            have ht : thrF l = (8, false) := by unfold thrF; rw [hrF]
            rw [Hres.out] at ht
            obtain ⟨rfl, rfl⟩ := Prod.mk.inj ht
            clear hrF hcf ht hk hdi hs0 hn1 hn2
            go_wp2
            go_ret2
            exact ⟨rfl, Hm.out.alloc _⟩
        · replace h0 : w2.cell? ⟨ub, uoff + q * 2, none⟩ = some (.string ⟨#[100, 114, 111, 112]⟩) := h0
          replace Hxl : Hid (l[q]? = some (⟨#[100, 114, 111, 112]⟩, xn)) := Hxl
          have e0 : ((⟨#[100, 114, 111, 112]⟩ : ByteArray).toList == (⟨#[101, 110, 116, 101, 114]⟩ : ByteArray).toList) = false := by
            rw [ByteArray.toList_eq, ByteArray.toList_eq]; rfl
          have e1 : ((⟨#[100, 114, 111, 112]⟩ : ByteArray).toList == (⟨#[108, 101, 97, 118, 101]⟩ : ByteArray).toList) = false := by
            rw [ByteArray.toList_eq, ByteArray.toList_eq]; rfl
          have e2 : ((⟨#[100, 114, 111, 112]⟩ : ByteArray).toList == (⟨#[114, 101, 115, 116]⟩ : ByteArray).toList) = false := by
            rw [ByteArray.toList_eq, ByteArray.toList_eq]; rfl
          have e3 : ((⟨#[100, 114, 111, 112]⟩ : ByteArray).toList == (⟨#[119, 97, 105, 116]⟩ : ByteArray).toList) = false := by
            rw [ByteArray.toList_eq, ByteArray.toList_eq]; rfl
          have e4 : ((⟨#[100, 114, 111, 112]⟩ : ByteArray).toList == (⟨#[114, 101, 97, 100]⟩ : ByteArray).toList) = false := by
            rw [ByteArray.toList_eq, ByteArray.toList_eq]; rfl
          have e5 : ((⟨#[100, 114, 111, 112]⟩ : ByteArray).toList == (⟨#[112, 117, 116]⟩ : ByteArray).toList) = false := by
            rw [ByteArray.toList_eq, ByteArray.toList_eq]; rfl
          have e6 : ((⟨#[100, 114, 111, 112]⟩ : ByteArray).toList == (⟨#[100, 114, 111, 112]⟩ : ByteArray).toList) = true := by simp
          have e7 : ((⟨#[100, 114, 111, 112]⟩ : ByteArray).toList == (⟨#[108, 97, 116, 101, 114]⟩ : ByteArray).toList) = false := by
            rw [ByteArray.toList_eq, ByteArray.toList_eq]; rfl
          have e8 : ((⟨#[100, 114, 111, 112]⟩ : ByteArray).toList == (⟨#[102, 108, 117, 115, 104]⟩ : ByteArray).toList) = false := by
            rw [ByteArray.toList_eq, ByteArray.toList_eq]; rfl
          by_cases hn : xn = 0
          · subst hn
            cases sr with
            | false =>
              have hcf : cfOp ⟨sd, false, sw, su⟩ (⟨#[100, 114, 111, 112]⟩, 0) = (5, ⟨sd, false, sw, su⟩) := by
                unfold cfOp
                have hm : memK kindsC ⟨#[100, 114, 111, 112]⟩ = true := by decide +kernel
                simp [hm, kEnter, kLeave, kRest, kWait, kRead, kPut, kDrop, kLater, kFlush]
              obtain rfl : pw = -1 := by
                rcases HW.out with ⟨_, h⟩ | ⟨h, _⟩
                · exact h
                · cases h
              have hrF := cRowF_fault Hxl.out Hrun.out (by rw [hcf]; simp)
              rw [hcf] at hrF
              have ht : thrF l = (5, false) := by unfold thrF; rw [hrF]
              rw [Hres.out] at ht
              obtain ⟨rfl, rfl⟩ := Prod.mk.inj ht
              clear hrF hcf ht hk hdi
              go_wp2
              go_ret2
              exact ⟨rfl, Hm.out.alloc _⟩
            | true =>
              obtain ⟨p, hpq, rfl, hsw⟩ : ∃ p : Nat, p < q ∧ pw = (p : Int) ∧ sw = anyWF l p q := by
                rcases HW.out with ⟨h, _⟩ | ⟨_, h⟩
                · cases h
                · exact h
              have dp : decide ((p : Int) < 0) = false := by simp
              have Hsw := Lib.hid hsw
              clear hsw hk
              go_wp2
              go_loop [9, 10] (fun bv i => ∃ j : Nat, p ≤ j ∧ j ≤ q ∧ bv = .bool (anyWF l p j) ∧ i = .int .i64 j) (fun _ i => q - (intOf i).toNat)
              case atStart => exact ⟨p, Nat.le_refl _, by omega, by rw [anyWF_same], rfl⟩
              case round =>
                obtain ⟨j, hpj, hjq, rfl, rfl⟩ := hrel
                by_cases hltj : j < q
                · have hdj : decide ((j : Int) < (q : Int)) = true := by simp; omega
                  have hjl : (j : Int) < (l.length : Int) := by omega
                  obtain ⟨y, hyl⟩ : ∃ y, l[j]? = some y := ⟨_, List.getElem?_eq_getElem (by omega)⟩
                  obtain ⟨ub', uoff', e', hub', g0, g1⟩ := Hxx.out j y hyl
                  cases e'
                  have g0 := (Hm.out.alloc (.cells #[.string ⟨#[100, 114, 111, 112]⟩, .int .i64 0] 88)).cell g0 (fun e => e)
                  have hsu := anyWF_succ hyl hpj
                  have Hsu := Lib.hid hsu
                  obtain ⟨ys, yn⟩ := y
                  simp only at g0
                  generalize anyWF l p j = aw at *
                  by_cases hyw : ys = kWait
                  · subst hyw
                    replace g0 : (w2.alloc (.cells #[.string ⟨#[100, 114, 111, 112]⟩, .int .i64 0] 88)).cell? ⟨ub, uoff + j * 2, none⟩ = some (.string ⟨#[119, 97, 105, 116]⟩) := g0
                    have y0 : ((⟨#[119, 97, 105, 116]⟩ : ByteArray).toList == (⟨#[119, 97, 105, 116]⟩ : ByteArray).toList) = true := by simp
                    have hT : anyWF l p (j + 1) = true := by rw [Hsu.out]; simp [isWF]
                    have HT := Lib.hid hT
                    clear hyl hsu hT
                    go_wp2
                    go_round
                    case rel => exact ⟨j + 1, by omega, by omega, by rw [HT.out], by go_num⟩
                    case measure => simp [intOf]; omega
                  · by_cases hyf : ys = kFlush
                    · subst hyf
                      replace g0 : (w2.alloc (.cells #[.string ⟨#[100, 114, 111, 112]⟩, .int .i64 0] 88)).cell? ⟨ub, uoff + j * 2, none⟩ = some (.string ⟨#[102, 108, 117, 115, 104]⟩) := g0
                      have y0 : ((⟨#[102, 108, 117, 115, 104]⟩ : ByteArray).toList == (⟨#[119, 97, 105, 116]⟩ : ByteArray).toList) = false := by
                        rw [ByteArray.toList_eq, ByteArray.toList_eq]; rfl
                      have y1 : ((⟨#[102, 108, 117, 115, 104]⟩ : ByteArray).toList == (⟨#[102, 108, 117, 115, 104]⟩ : ByteArray).toList) = true := by simp
                      have hT : anyWF l p (j + 1) = true := by rw [Hsu.out]; simp [isWF]
                      have HT := Lib.hid hT
                      clear hyl hsu hyw hT
                      go_wp2
                      go_round
                      case rel => exact ⟨j + 1, by omega, by omega, by rw [HT.out], by go_num⟩
                      case measure => simp [intOf]; omega
                    · obtain ⟨y0, z0⟩ := str_neL hyw
                      obtain ⟨y1, z1⟩ := str_neL hyf
                      unfold kWait at y0 z0
                      unfold kFlush at y1 z1
                      rw [show ((⟨#[119, 97, 105, 116]⟩ : ByteArray).toList) = [119, 97, 105, 116] from by rw [ByteArray.toList_eq]] at y0 z0
                      rw [show ((⟨#[102, 108, 117, 115, 104]⟩ : ByteArray).toList) = [102, 108, 117, 115, 104] from by rw [ByteArray.toList_eq]] at y1 z1
                      have hT : anyWF l p (j + 1) = aw := by rw [Hsu.out]; simp [isWF, hyw, hyf]
                      have HT := Lib.hid hT
                      clear hyl hsu hyw hyf hT
                      go_wp2
                      go_round
                      case rel => exact ⟨j + 1, by omega, by omega, by rw [HT.out], by go_num⟩
                      case measure => simp [intOf]; omega
                · have hdj : decide ((j : Int) < (q : Int)) = false := by simp; omega
                  obtain rfl : j = q := by omega
                  rw [← Hsw.out]
                  clear hjq hpj hltj Hsw
                  cases sw with
                  | true =>
                    have hcf : cfOp ⟨sd, true, true, su⟩ (⟨#[100, 114, 111, 112]⟩, 0) = (0, ⟨sd, false, true, su⟩) := by
                      unfold cfOp
                      have hm : memK kindsC ⟨#[100, 114, 111, 112]⟩ = true := by decide +kernel
                      simp [hm, kEnter, kLeave, kRest, kWait, kRead, kPut, kDrop, kLater, kFlush]
                    have hts := cRun_take_succ l j c0 Hxl.out Hrun.out
                    rw [hcf, if_neg (by simp)] at hts
                    have Hts := Lib.hid hts
                    clear hts hcf
                    go_wp2
                    go_roundw
                    case rel => exact ⟨j + 1, ⟨sd, false, true, su⟩, _, _, by omega, rfl, rfl, rfl, by go_num, Hts.out, (by first | omega | (simp only; omega) | (simp only; done)), (by first | omega | (simp only; omega) | (simp only; done)), WInv.none rfl, Hm.out.alloc _⟩
                    case measure => simp [intOf]; omega
                  | false =>
                    have hcf : cfOp ⟨sd, true, false, su⟩ (⟨#[100, 114, 111, 112]⟩, 0) = (0, ⟨sd, false, false, true⟩) := by
                      unfold cfOp
                      have hm : memK kindsC ⟨#[100, 114, 111, 112]⟩ = true := by decide +kernel
                      simp [hm, kEnter, kLeave, kRest, kWait, kRead, kPut, kDrop, kLater, kFlush]
                    have hts := cRun_take_succ l j c0 Hxl.out Hrun.out
                    rw [hcf, if_neg (by simp)] at hts
                    have Hts := Lib.hid hts
                    clear hts hcf
                    go_wp2
                    go_roundw
                    case rel => exact ⟨j + 1, ⟨sd, false, false, true⟩, _, _, by omega, rfl, rfl, rfl, by go_num, Hts.out, (by first | omega | (simp only; omega) | (simp only; done)), (by first | omega | (simp only; omega) | (simp only; done)), WInv.none rfl, Hm.out.alloc _⟩
                    case measure => simp [intOf]; omega
          · have n1 : (xn == 0) = false := by simpa using hn
            have n2 : decide (xn = 0) = false := by simpa using hn
            have hcf : cfOp ⟨sd, sr, sw, su⟩ (⟨#[100, 114, 111, 112]⟩, xn) = (3, ⟨sd, sr, sw, su⟩) := by
              unfold cfOp
              have hm : memK kindsC ⟨#[100, 114, 111, 112]⟩ = true := by decide +kernel
              simp [hm, kEnter, kLeave, kRest, kWait, kRead, kPut, kDrop, kLater, kFlush, hn]
            have hrF := cRowF_fault Hxl.out Hrun.out (by rw [hcf]; simp)
            rw [hcf] at hrF
            have ht : thrF l = (3, false) := by unfold thrF; rw [hrF]
            rw [Hres.out] at ht
            obtain ⟨rfl, rfl⟩ := Prod.mk.inj ht
            clear hrF hcf ht hk hdi hn
            go_wp2
            go_ret2
            exact ⟨rfl, Hm.out.alloc _⟩
        · replace h0 : w2.cell? ⟨ub, uoff + q * 2, none⟩ = some (.string ⟨#[108, 97, 116, 101, 114]⟩) := h0
          replace Hxl : Hid (l[q]? = some (⟨#[108, 97, 116, 101, 114]⟩, xn)) := Hxl
          have e0 : ((⟨#[108, 97, 116, 101, 114]⟩ : ByteArray).toList == (⟨#[101, 110, 116, 101, 114]⟩ : ByteArray).toList) = false := by
            rw [ByteArray.toList_eq, ByteArray.toList_eq]; rfl
          have e1 : ((⟨#[108, 97, 116, 101, 114]⟩ : ByteArray).toList == (⟨#[108, 101, 97, 118, 101]⟩ : ByteArray).toList) = false := by
            rw [ByteArray.toList_eq, ByteArray.toList_eq]; rfl
          have e2 : ((⟨#[108, 97, 116, 101, 114]⟩ : ByteArray).toList == (⟨#[114, 101, 115, 116]⟩ : ByteArray).toList) = false := by
            rw [ByteArray.toList_eq, ByteArray.toList_eq]; rfl
          have e3 : ((⟨#[108, 97, 116, 101, 114]⟩ : ByteArray).toList == (⟨#[119, 97, 105, 116]⟩ : ByteArray).toList) = false := by
            rw [ByteArray.toList_eq, ByteArray.toList_eq]; rfl
          have e4 : ((⟨#[108, 97, 116, 101, 114]⟩ : ByteArray).toList == (⟨#[114, 101, 97, 100]⟩ : ByteArray).toList) = false := by
            rw [ByteArray.toList_eq, ByteArray.toList_eq]; rfl
          have e5 : ((⟨#[108, 97, 116, 101, 114]⟩ : ByteArray).toList == (⟨#[112, 117, 116]⟩ : ByteArray).toList) = false := by
            rw [ByteArray.toList_eq, ByteArray.toList_eq]; rfl
          have e6 : ((⟨#[108, 97, 116, 101, 114]⟩ : ByteArray).toList == (⟨#[100, 114, 111, 112]⟩ : ByteArray).toList) = false := by
            rw [ByteArray.toList_eq, ByteArray.toList_eq]; rfl
          have e7 : ((⟨#[108, 97, 116, 101, 114]⟩ : ByteArray).toList == (⟨#[108, 97, 116, 101, 114]⟩ : ByteArray).toList) = true := by simp
          have e8 : ((⟨#[108, 97, 116, 101, 114]⟩ : ByteArray).toList == (⟨#[102, 108, 117, 115, 104]⟩ : ByteArray).toList) = false := by
            rw [ByteArray.toList_eq, ByteArray.toList_eq]; rfl
          by_cases hn : xn = 0
          · subst hn
            cases sr with
            | false =>
              have hcf : cfOp ⟨sd, false, sw, su⟩ (⟨#[108, 97, 116, 101, 114]⟩, 0) = (5, ⟨sd, false, sw, su⟩) := by
                unfold cfOp
                have hm : memK kindsC ⟨#[108, 97, 116, 101, 114]⟩ = true := by decide +kernel
                simp [hm, kEnter, kLeave, kRest, kWait, kRead, kPut, kDrop, kLater, kFlush]
              obtain rfl : pw = -1 := by
                rcases HW.out with ⟨_, h⟩ | ⟨h, _⟩
                · exact h
                · cases h
              have hrF := cRowF_fault Hxl.out Hrun.out (by rw [hcf]; simp)
              rw [hcf] at hrF
              have ht : thrF l = (5, false) := by unfold thrF; rw [hrF]
              rw [Hres.out] at ht
              obtain ⟨rfl, rfl⟩ := Prod.mk.inj ht
              clear hrF hcf ht hk hdi
              go_wp2
              go_ret2
              exact ⟨rfl, Hm.out.alloc _⟩
            | true =>
              obtain ⟨p, hpq, rfl, hsw⟩ : ∃ p : Nat, p < q ∧ pw = (p : Int) ∧ sw = anyWF l p q := by
                rcases HW.out with ⟨h, _⟩ | ⟨_, h⟩
                · cases h
                · exact h
              have dp : decide ((p : Int) < 0) = false := by simp
              have Hsw := Lib.hid hsw
              clear hsw hk
              go_wp2
              go_loop [9, 10] (fun bv i => ∃ j : Nat, p ≤ j ∧ j ≤ q ∧ bv = .bool (anyWF l p j) ∧ i = .int .i64 j) (fun _ i => q - (intOf i).toNat)
              case atStart => exact ⟨p, Nat.le_refl _, by omega, by rw [anyWF_same], rfl⟩
              case round =>
                obtain ⟨j, hpj, hjq, rfl, rfl⟩ := hrel
                by_cases hltj : j < q
                · have hdj : decide ((j : Int) < (q : Int)) = true := by simp; omega
                  have hjl : (j : Int) < (l.length : Int) := by omega
                  obtain ⟨y, hyl⟩ : ∃ y, l[j]? = some y := ⟨_, List.getElem?_eq_getElem (by omega)⟩
                  obtain ⟨ub', uoff', e', hub', g0, g1⟩ := Hxx.out j y hyl
                  cases e'
                  have g0 := (Hm.out.alloc (.cells #[.string ⟨#[108, 97, 116, 101, 114]⟩, .int .i64 0] 88)).cell g0 (fun e => e)
                  have hsu := anyWF_succ hyl hpj
                  have Hsu := Lib.hid hsu
                  obtain ⟨ys, yn⟩ := y
                  simp only at g0
                  generalize anyWF l p j = aw at *
                  by_cases hyw : ys = kWait
                  · subst hyw
                    replace g0 : (w2.alloc (.cells #[.string ⟨#[108, 97, 116, 101, 114]⟩, .int .i64 0] 88)).cell? ⟨ub, uoff + j * 2, none⟩ = some (.string ⟨#[119, 97, 105, 116]⟩) := g0
                    have y0 : ((⟨#[119, 97, 105, 116]⟩ : ByteArray).toList == (⟨#[119, 97, 105, 116]⟩ : ByteArray).toList) = true := by simp
                    have hT : anyWF l p (j + 1) = true := by rw [Hsu.out]; simp [isWF]
                    have HT := Lib.hid hT
                    clear hyl hsu hT
                    go_wp2
                    go_round
                    case rel => exact ⟨j + 1, by omega, by omega, by rw [HT.out], by go_num⟩
                    case measure => simp [intOf]; omega
                  · by_cases hyf : ys = kFlush
                    · subst hyf
                      replace g0 : (w2.alloc (.cells #[.string ⟨#[108, 97, 116, 101, 114]⟩, .int .i64 0] 88)).cell? ⟨ub, uoff + j * 2, none⟩ = some (.string ⟨#[102, 108, 117, 115, 104]⟩) := g0
                      have y0 : ((⟨#[102, 108, 117, 115, 104]⟩ : ByteArray).toList == (⟨#[119, 97, 105, 116]⟩ : ByteArray).toList) = false := by
                        rw [ByteArray.toList_eq, ByteArray.toList_eq]; rfl
                      have y1 : ((⟨#[102, 108, 117, 115, 104]⟩ : ByteArray).toList == (⟨#[102, 108, 117, 115, 104]⟩ : ByteArray).toList) = true := by simp
                      have hT : anyWF l p (j + 1) = true := by rw [Hsu.out]; simp [isWF]
                      have HT := Lib.hid hT
                      clear hyl hsu hyw hT
                      go_wp2
                      go_round
                      case rel => exact ⟨j + 1, by omega, by omega, by rw [HT.out], by go_num⟩
                      case measure => simp [intOf]; omega
                    · obtain ⟨y0, z0⟩ := str_neL hyw
                      obtain ⟨y1, z1⟩ := str_neL hyf
                      unfold kWait at y0 z0
                      unfold kFlush at y1 z1
                      rw [show ((⟨#[119, 97, 105, 116]⟩ : ByteArray).toList) = [119, 97, 105, 116] from by rw [ByteArray.toList_eq]] at y0 z0
                      rw [show ((⟨#[102, 108, 117, 115, 104]⟩ : ByteArray).toList) = [102, 108, 117, 115, 104] from by rw [ByteArray.toList_eq]] at y1 z1
                      have hT : anyWF l p (j + 1) = aw := by rw [Hsu.out]; simp [isWF, hyw, hyf]
                      have HT := Lib.hid hT
                      clear hyl hsu hyw hyf hT
                      go_wp2
                      go_round
                      case rel => exact ⟨j + 1, by omega, by omega, by rw [HT.out], by go_num⟩
                      case measure => simp [intOf]; omega
                · have hdj : decide ((j : Int) < (q : Int)) = false := by simp; omega
                  obtain rfl : j = q := by omega
                  rw [← Hsw.out]
                  clear hjq hpj hltj Hsw
                  have hcf : cfOp ⟨sd, true, sw, su⟩ (⟨#[108, 97, 116, 101, 114]⟩, 0) = (0, ⟨sd, false, sw, su⟩) := by
                    unfold cfOp
                    have hm : memK kindsC ⟨#[108, 97, 116, 101, 114]⟩ = true := by decide +kernel
                    simp [hm, kEnter, kLeave, kRest, kWait, kRead, kPut, kDrop, kLater, kFlush]
                  have hts := cRun_take_succ l j c0 Hxl.out Hrun.out
                  rw [hcf, if_neg (by simp)] at hts
                  have Hts := Lib.hid hts
                  clear hts hcf
                  go_wp2
                  go_roundw
                  case rel => exact ⟨j + 1, ⟨sd, false, sw, su⟩, _, _, by omega, rfl, rfl, rfl, by go_num, Hts.out, (by first | omega | (simp only; omega) | (simp only; done)), (by first | omega | (simp only; omega) | (simp only; done)), WInv.none rfl, Hm.out.alloc _⟩
                  case measure => simp [intOf]; omega
          · have n1 : (xn == 0) = false := by simpa using hn
            have n2 : decide (xn = 0) = false := by simpa using hn
            have hcf : cfOp ⟨sd, sr, sw, su⟩ (⟨#[108, 97, 116, 101, 114]⟩, xn) = (3, ⟨sd, sr, sw, su⟩) := by
              unfold cfOp
              have hm : memK kindsC ⟨#[108, 97, 116, 101, 114]⟩ = true := by decide +kernel
              simp [hm, kEnter, kLeave, kRest, kWait, kRead, kPut, kDrop, kLater, kFlush, hn]
            have hrF := cRowF_fault Hxl.out Hrun.out (by rw [hcf]; simp)
            rw [hcf] at hrF
            have ht : thrF l = (3, false) := by unfold thrF; rw [hrF]
            rw [Hres.out] at ht
            obtain ⟨rfl, rfl⟩ := Prod.mk.inj ht
            clear hrF hcf ht hk hdi hn
            go_wp2
            go_ret2
            exact ⟨rfl, Hm.out.alloc _⟩
        · replace h0 : w2.cell? ⟨ub, uoff + q * 2, none⟩ = some (.string ⟨#[102, 108, 117, 115, 104]⟩) := h0
          replace Hxl : Hid (l[q]? = some (⟨#[102, 108, 117, 115, 104]⟩, xn)) := Hxl
          have e0 : ((⟨#[102, 108, 117, 115, 104]⟩ : ByteArray).toList == (⟨#[101, 110, 116, 101, 114]⟩ : ByteArray).toList) = false := by
            rw [ByteArray.toList_eq, ByteArray.toList_eq]; rfl
          have e1 : ((⟨#[102, 108, 117, 115, 104]⟩ : ByteArray).toList == (⟨#[108, 101, 97, 118, 101]⟩ : ByteArray).toList) = false := by
            rw [ByteArray.toList_eq, ByteArray.toList_eq]; rfl
          have e2 : ((⟨#[102, 108, 117, 115, 104]⟩ : ByteArray).toList == (⟨#[114, 101, 115, 116]⟩ : ByteArray).toList) = false := by
            rw [ByteArray.toList_eq, ByteArray.toList_eq]; rfl
          have e3 : ((⟨#[102, 108, 117, 115, 104]⟩ : ByteArray).toList == (⟨#[119, 97, 105, 116]⟩ : ByteArray).toList) = false := by
            rw [ByteArray.toList_eq, ByteArray.toList_eq]; rfl
          have e4 : ((⟨#[102, 108, 117, 115, 104]⟩ : ByteArray).toList == (⟨#[114, 101, 97, 100]⟩ : ByteArray).toList) = false := by
            rw [ByteArray.toList_eq, ByteArray.toList_eq]; rfl
          have e5 : ((⟨#[102, 108, 117, 115, 104]⟩ : ByteArray).toList == (⟨#[112, 117, 116]⟩ : ByteArray).toList) = false := by
            rw [ByteArray.toList_eq, ByteArray.toList_eq]; rfl
          have e6 : ((⟨#[102, 108, 117, 115, 104]⟩ : ByteArray).toList == (⟨#[100, 114, 111, 112]⟩ : ByteArray).toList) = false := by
            rw [ByteArray.toList_eq, ByteArray.toList_eq]; rfl
          have e7 : ((⟨#[102, 108, 117, 115, 104]⟩ : ByteArray).toList == (⟨#[108, 97, 116, 101, 114]⟩ : ByteArray).toList) = false := by
            rw [ByteArray.toList_eq, ByteArray.toList_eq]; rfl
          have e8 : ((⟨#[102, 108, 117, 115, 104]⟩ : ByteArray).toList == (⟨#[102, 108, 117, 115, 104]⟩ : ByteArray).toList) = true := by simp
          by_cases hn : xn = 0
          · subst hn
            rcases (by omega : sd = 0 ∨ 1 ≤ sd) with rfl | hs1
            · obtain rfl : di = 0 := by omega
              have hcf : cfOp ⟨0, sr, sw, su⟩ (⟨#[102, 108, 117, 115, 104]⟩, 0) = (0, ⟨0, sr, true, su⟩) := by
                unfold cfOp
                have hm : memK kindsC ⟨#[102, 108, 117, 115, 104]⟩ = true := by decide +kernel
                simp [hm, kEnter, kLeave, kRest, kWait, kRead, kPut, kDrop, kLater, kFlush]
              have hnx : WInv l (q + 1) ⟨0, sr, true, su⟩ pw := HW.out.next Hxl.out rfl (by simp [isWF, kWait, kFlush])
              have Hnx := Lib.hid hnx
              clear hnx
              have hts := cRun_take_succ l q c0 Hxl.out Hrun.out
              rw [hcf, if_neg (by simp)] at hts
              have Hts := Lib.hid hts
              clear hts hcf hk hdi
              go_wp2
              go_roundw
              case rel => exact ⟨q + 1, ⟨0, sr, true, su⟩, _, _, by omega, rfl, rfl, rfl, by go_num, Hts.out, (by first | omega | (simp only; omega) | (simp only; done)), (by first | omega | (simp only; omega) | (simp only; done)), Hnx.out, Hm.out.alloc _⟩
              case measure => simp [intOf]; omega
            · have dd : decide (0 < di) = true := by simp; omega
              have hs0 : ¬ sd = 0 := by omega
              have hcf : cfOp ⟨sd, sr, sw, su⟩ (⟨#[102, 108, 117, 115, 104]⟩, 0) = (8, ⟨sd, sr, sw, su⟩) := by
                unfold cfOp
                have hm : memK kindsC ⟨#[102, 108, 117, 115, 104]⟩ = true := by decide +kernel
                simp [hm, kEnter, kLeave, kRest, kWait, kRead, kPut, kDrop, kLater, kFlush, hs0]
              have hrF := cRowF_fault Hxl.out Hrun.out (by rw [hcf]; simp)
              rw [hcf] at hrF
              have ht : thrF l = (8, false) := by unfold thrF; rw [hrF]
              rw [Hres.out] at ht
              obtain ⟨rfl, rfl⟩ := Prod.mk.inj ht
              clear hrF hcf ht hk hdi hs0
              go_wp2
              go_ret2
              exact ⟨rfl, Hm.out.alloc _⟩
          · have n1 : (xn == 0) = false := by simpa using hn
            have n2 : decide (xn = 0) = false := by simpa using hn
            have hcf : cfOp ⟨sd, sr, sw, su⟩ (⟨#[102, 108, 117, 115, 104]⟩, xn) = (3, ⟨sd, sr, sw, su⟩) := by
              unfold cfOp
              have hm : memK kindsC ⟨#[102, 108, 117, 115, 104]⟩ = true := by decide +kernel
              simp [hm, kEnter, kLeave, kRest, kWait, kRead, kPut, kDrop, kLater, kFlush, hn]
            have hrF := cRowF_fault Hxl.out Hrun.out (by rw [hcf]; simp)
            rw [hcf] at hrF
            have ht : thrF l = (3, false) := by unfold thrF; rw [hrF]
            rw [Hres.out] at ht
            obtain ⟨rfl, rfl⟩ := Prod.mk.inj ht
            clear hrF hcf ht hk hdi hn
            go_wp2
            go_ret2
            exact ⟨rfl, Hm.out.alloc _⟩
    · have hd : decide ((q : Int) < (l.length : Int)) = false := by simp; omega
      obtain rfl : q = l.length := by omega
      have hrun := Hrun.out
      rw [List.take_length] at hrun
      by_cases hs0 : s.d = 0
      · obtain rfl : di = 0 := by omega
        have hrF := cRowF_fine hrun hs0
        have ht : thrF l = (0, !s.u) := by unfold thrF; rw [hrF, cSafe_row hrun]
        rw [Hres.out] at ht
        obtain ⟨rfl, rfl⟩ := Prod.mk.inj ht
        clear hrF hrun ht hs0 hdi
        go_wp2
        go_ret2
        exact ⟨rfl, Hm.out⟩
      · have dd : decide (0 < di) = true := by simp; omega
        have hrF := cRowF_deep hrun hs0
        have ht : thrF l = (8, false) := by unfold thrF; rw [hrF]
        rw [Hres.out] at ht
        obtain ⟨rfl, rfl⟩ := Prod.mk.inj ht
        clear hrF hrun ht hs0 hdi
        go_wp2
        go_ret2
        exact ⟨rfl, Hm.out⟩
end Go.Proofs.YtppihkneeolomaaGreatDoor
end
/- quiescentref2.ClientFault: over any lists of ops. -/
section
namespace Go.Proofs.YtppihkneeolomaaGreatDoor
open Go.RowKit Qs Qh
variable {N : Nat} {w w' : World} {v u : Value} {ll : List (List ROp)} {l : List ROp}
theorem thrF_none {l : List ROp} (h : (thrF l).1 = 0) : cRowF l = none ∧ (thrF l).2 = cSafe l := by
  unfold thrF at h ⊢
  cases hr : cRowF l with
  | none => rw [hr] at h; exact ⟨rfl, rfl⟩
  | some c =>
    rw [hr] at h
    have := cRowF_num hr
    simp only at h
    omega
theorem thrF_some {l : List ROp} (h : (thrF l).1 ≠ 0) : cRowF l = some (thrF l).1 ∧ 1 ≤ (thrF l).1 := by
  unfold thrF at h ⊢
  cases hr : cRowF l with
  | none => rw [hr] at h; exact absurd rfl h
  | some c =>
    have := cRowF_num hr
    exact ⟨rfl, by simp only; omega⟩
set_option maxHeartbeats 16000000 in
theorem cfault_ok (H : RIn N w v ll) (hlen : ll.length ≤ 10) (hrow : ∀ l ∈ ll, l.length ≤ 30) :
    Calls Tryz.prog 25 #[v] w fun e w' => e = .returned (.tuple #[.agg #[.int .i64 (cfG ll).1, .int .i64 (cfG ll).2], .bool (csG ll)]) ∧ Mod noF w w' := by
  have hm := many_any (H.keep ((Mod.refl noF w).alloc (.cells #[.int .i64 0, .int .i64 0] 27)) (fun _ _ e => e)) hlen hrow
  have HM := Lib.hid hm
  have HH := Lib.hid H
  obtain ⟨a, c, rfl, -⟩ := H
  clear hrow hm
  cases hmany : manyB ll with
  | false =>
    have hk : cfG ll = (2, -1) := by unfold cfG; rw [hmany]; rfl
    have hs : csG ll = false := by unfold csG; rw [hk]; rfl
    rw [hk, hs]
    rw [hmany] at HM
    clear hk hs
    go_enter Tryz.func25, Tryz.ntmps25
    go_wp2_with fail
    refine HM.out.mono ?_
    rintro e w1 ⟨rfl, rfl⟩
    go_wp2_with fail
    refine (bare_ok 2 _).mono ?_
    rintro e w2 ⟨rfl, hm2⟩
    have Hm2 := Lib.hid hm2
    have hT := hm2.heap (heap_alloc_new w (.cells #[.int .i64 0, .int .i64 0] 27)) (fun e => e)
    have t0 := cell_of_heap hT 0
    have t1 := cell_of_heap hT 1
    have tf0 := free_of_heap hT 0
    have tf1 := free_of_heap hT 1
    have HT := Lib.hid hT
    clear hT
    replace t0 : w2.cell? ⟨w.heap.size, 0, none⟩ = some (.int .i64 0) := t0
    replace t1 : w2.cell? ⟨w.heap.size, 1, none⟩ = some (.int .i64 0) := t1
    go_wp2
    obtain ⟨wf, hwf⟩ : ∃ wf, wf = (w2.setCell ⟨w.heap.size, 0, none⟩ (.int .i64 2)).setCell ⟨w.heap.size, 1, none⟩ (.int .i64 (-1)) := ⟨_, rfl⟩
    have hh : wf.heap[w.heap.size]? = some (.cells #[.int .i64 2, .int .i64 (-1)] 27 (0, 0)) := by rw [hwf, Qh.heap_setCell_same (Qh.heap_setCell_same HT.out 0 _) 1 _]; rfl
    have z0 : wf.cell? ⟨w.heap.size, 0, none⟩ = some (.int .i64 2) := by rw [cell_of_heap hh]; rfl
    have z1 : wf.cell? ⟨w.heap.size, 1, none⟩ = some (.int .i64 (-1)) := by rw [cell_of_heap hh]; rfl
    have hMf : Mod noF w wf := by rw [hwf]; exact (((Mod.refl noF w).alloc _).trans0 Hm2.out).trans (((Mod.refl (fun x => x = w.heap.size) _).setCell (fun _ => rfl) _).setCell (fun _ => rfl) _) fun x hx e => by omega
    rw [← hwf]
    exact bodyPost_ret (v := .tuple #[.agg #[.int .i64 2, .int .i64 (-1)], .bool false]) (by simp [results, Tryz.results25, go_sem, z0, z1]) rfl ⟨rfl, hMf⟩
  | true =>
    obtain ⟨hl1, hl6, h20⟩ := manyB_iff.1 hmany
    have hk : cfG ll = allR cRowF 0 ll := by unfold cfG; rw [hmany]; rfl
    obtain ⟨sf, hsf⟩ : ∃ sf, csG ll = sf := ⟨_, rfl⟩
    rw [hsf]
    have Hsf := Lib.hid hsf
    rw [hk]
    rw [hmany] at HM
    obtain ⟨rc, ra, hres0⟩ : ∃ rc ra, allR cRowF 0 ll = (rc, ra) := ⟨_, _, rfl⟩
    rw [hres0]
    have Hres0 := Lib.hid hres0
    have hk2 : cfG ll = (rc, ra) := hk.trans hres0
    have Hk2 := Lib.hid hk2
    have H20 := Lib.hid h20
    simp only
    clear hres0 hk hk2 hmany h20 hsf
    go_enter Tryz.func25, Tryz.ntmps25
    go_wp2_with fail
    refine HM.out.mono ?_
    rintro e w1 ⟨rfl, rfl⟩
    go_wp2
    go_loopw [5, 6] (fun sv i wr => ∃ k : Nat, k ≤ ll.length ∧ i = .int .i64 k ∧ sv = .bool ((ll.take k).all cSafe) ∧ Mod noF w wr ∧ wr.heap[w.heap.size]? = some (.cells #[.int .i64 0, .int .i64 0] 27 (0, 0)) ∧ ∀ (j : Nat) y, j < k → ll[j]? = some y → cRowF y = none) (fun _ i _ => ll.length - (intOf i).toNat)
    case atStart => exact ⟨0, Nat.zero_le _, rfl, rfl, (Mod.refl _ _).alloc _, heap_alloc_new w _, fun j y h => by omega⟩
    case round =>
      generalize wr = w2 at *
      obtain ⟨k, hk, rfl, rfl, hm, hT0, hall⟩ := hrel
      have Hm := Lib.hid hm
      have HT0 := Lib.hid hT0
      have Hall := Lib.hid hall
      clear hT0 hall
      generalize hst : (ll.take k).all cSafe = st at *
      have Hst := Lib.hid hst
      clear hst
      by_cases hlt : k < ll.length
      · have hd : decide ((k : Int) < (ll.length : Int)) = true := by simp; omega
        have hki : (k : Int) < (ll.length : Int) := by omega
        obtain ⟨l, hl⟩ : ∃ l, ll[k]? = some l := ⟨_, List.getElem?_eq_getElem hlt⟩
        obtain ⟨a', c', e', hx⟩ := HH.out
        cases e'
        obtain ⟨b, off, u, rfl, hb, hc, hrw⟩ := hx k l hl
        have hc2 := hm.cell hc (fun e => e)
        have hcal := thr_ok (hrw.keep hm (fun _ _ e => e)) (H20.out l (List.mem_of_getElem? hl))
        obtain ⟨ua, uc, rfl, -⟩ := hrw
        have Hcal := Lib.hid hcal
        have Hl := Lib.hid hl
        clear hx hl hc hm hcal
        go_wp2_with fail
        refine Hcal.out.mono ?_
        rintro e w3 ⟨rfl, hm3⟩
        have Hm3 := Lib.hid hm3
        have hT3 := hm3.heap HT0.out (fun e => e)
        have HT3 := Lib.hid hT3
        clear hm3 Hcal
        by_cases hz : (thrF l).1 = 0
        · obtain ⟨g1, g2⟩ := thrF_none hz
          rw [hz, g2]
          have Hg1 := Lib.hid g1
          have htk : (ll.take (k + 1)).all cSafe = (st && cSafe l) := by
            rw [List.take_add_one, Hl.out, List.all_append, Hst.out]
            simp
          have Htk := Lib.hid htk
          generalize cSafe l = cl at *
          clear hz g1 g2 htk hT3
          cases st with
          | false =>
            go_wp2
            go_roundw
            case rel =>
              refine ⟨k + 1, by omega, by go_num, by rw [Htk.out]; rfl, Hm.out.trans0 Hm3.out, HT3.out, fun j y hj hy => ?_⟩
              by_cases e : j = k
              · subst e; rw [Hl.out] at hy; cases hy; exact Hg1.out
              · exact Hall.out j y (by omega) hy
            case measure => simp [intOf]; omega
          | true =>
            go_wp2
            go_roundw
            case rel =>
              refine ⟨k + 1, by omega, by go_num, by rw [Htk.out]; rfl, Hm.out.trans0 Hm3.out, HT3.out, fun j y hj hy => ?_⟩
              by_cases e : j = k
              · subst e; rw [Hl.out] at hy; cases hy; exact Hg1.out
              · exact Hall.out j y (by omega) hy
            case measure => simp [intOf]; omega
        · obtain ⟨g1, g2⟩ := thrF_some hz
          have hres := allR_at ll 0 k l _ Hl.out Hall.out g1
          rw [Nat.zero_add] at hres
          obtain ⟨hrc, hra⟩ := Prod.mk.inj (Hres0.out.symm.trans hres)
          have hsf : sf = false := by
            rw [← Hsf.out]
            unfold csG
            rw [Hk2.out]
            simp only
            rw [show decide (rc = 0) = false by simp; omega]
            rfl
          subst hsf
          generalize (thrF l).1 = tc at *
          generalize (thrF l).2 = ts at *
          subst hrc
          subst hra
          have dg : decide (0 < rc) = true := by simp; omega
          have t0 := cell_of_heap hT3 0
          have t1 := cell_of_heap hT3 1
          have tf0 := free_of_heap hT3 0
          have tf1 := free_of_heap hT3 1
          clear hT3
          replace t0 : w3.cell? ⟨w.heap.size, 0, none⟩ = some (.int .i64 0) := t0
          replace t1 : w3.cell? ⟨w.heap.size, 1, none⟩ = some (.int .i64 0) := t1
          clear hz g1 g2 hres
          go_wp2
          obtain ⟨wf, hwf⟩ : ∃ wf, wf = (w3.setCell ⟨w.heap.size, 0, none⟩ (.int .i64 rc)).setCell ⟨w.heap.size, 1, none⟩ (.int .i64 k) := ⟨_, rfl⟩
          have hh : wf.heap[w.heap.size]? = some (.cells #[.int .i64 rc, .int .i64 k] 27 (0, 0)) := by rw [hwf, Qh.heap_setCell_same (Qh.heap_setCell_same HT3.out 0 _) 1 _]; rfl
          have z0 : wf.cell? ⟨w.heap.size, 0, none⟩ = some (.int .i64 rc) := by rw [cell_of_heap hh]; rfl
          have z1 : wf.cell? ⟨w.heap.size, 1, none⟩ = some (.int .i64 k) := by rw [cell_of_heap hh]; rfl
          have hMf : Mod noF w wf := by rw [hwf]; exact (Hm.out.trans0 Hm3.out).trans (((Mod.refl (fun x => x = w.heap.size) _).setCell (fun _ => rfl) _).setCell (fun _ => rfl) _) fun x hx e => by omega
          rw [← hwf]
          exact bodyPost_ret (v := .tuple #[.agg #[.int .i64 rc, .int .i64 k], .bool false]) (by simp [results, Tryz.results25, go_sem, z0, z1]) rfl ⟨rfl, hMf⟩
      · have hd : decide ((k : Int) < (ll.length : Int)) = false := by simp; omega
        obtain rfl : k = ll.length := by omega
        have hst2 := Hst.out
        rw [List.take_length] at hst2
        have hno := allR_none (rf := cRowF) ll 0 (fun j y hy => Hall.out j y (List.getElem?_eq_some_iff.1 hy).1 hy)
        obtain ⟨rfl, rfl⟩ := Prod.mk.inj (Hres0.out.symm.trans hno)
        have hsf : sf = st := by
          rw [← Hsf.out]
          unfold csG
          rw [Hk2.out, hst2]
          rfl
        subst hsf
        clear hst2 hno
        go_wp2_with fail
        refine (fine_ok _).mono ?_
        rintro e w3 ⟨rfl, hm3⟩
        have Hm3 := Lib.hid hm3
        have hT3 := hm3.heap HT0.out (fun e => e)
        have HT3 := Lib.hid hT3
        have t0 := cell_of_heap hT3 0
        have t1 := cell_of_heap hT3 1
        have tf0 := free_of_heap hT3 0
        have tf1 := free_of_heap hT3 1
        clear hT3 hm3
        replace t0 : w3.cell? ⟨w.heap.size, 0, none⟩ = some (.int .i64 0) := t0
        replace t1 : w3.cell? ⟨w.heap.size, 1, none⟩ = some (.int .i64 0) := t1
        go_wp2
        obtain ⟨wf, hwf⟩ : ∃ wf, wf = (w3.setCell ⟨w.heap.size, 0, none⟩ (.int .i64 0)).setCell ⟨w.heap.size, 1, none⟩ (.int .i64 (-1)) := ⟨_, rfl⟩
        have hh : wf.heap[w.heap.size]? = some (.cells #[.int .i64 0, .int .i64 (-1)] 27 (0, 0)) := by rw [hwf, Qh.heap_setCell_same (Qh.heap_setCell_same HT3.out 0 _) 1 _]; rfl
        have z0 : wf.cell? ⟨w.heap.size, 0, none⟩ = some (.int .i64 0) := by rw [cell_of_heap hh]; rfl
        have z1 : wf.cell? ⟨w.heap.size, 1, none⟩ = some (.int .i64 (-1)) := by rw [cell_of_heap hh]; rfl
        have hMf : Mod noF w wf := by rw [hwf]; exact (Hm.out.trans0 Hm3.out).trans (((Mod.refl (fun x => x = w.heap.size) _).setCell (fun _ => rfl) _).setCell (fun _ => rfl) _) fun x hx e => by omega
        rw [← hwf]
        exact bodyPost_ret (v := .tuple #[.agg #[.int .i64 0, .int .i64 (-1)], .bool sf]) (by simp [results, Tryz.results25, go_sem, z0, z1]) rfl ⟨rfl, hMf⟩
end Go.Proofs.YtppihkneeolomaaGreatDoor
end
/- quiescentlaw2.built: a client is built. -/
section
namespace Go.Proofs.YtppihkneeolomaaGreatDoor
open Go.RowKit Qs Qh Qc
variable {w w' : World} {a : Nat → Addr}
def bq : List (List COp) := [[.enter, .read, .leave]]
theorem bq_fine : (cfG (rawC bq)).1 = 0 := by decide +kernel
theorem bq_nil : cfG [[]] = (0, -1) := by decide +kernel
set_option maxRecDepth 4000 in
set_option maxHeartbeats 8000000 in
theorem built_ok (E : ErrsAt w a) (HK : KindsW w) : Calls Tryz.prog 23 #[] w fun e w' => e = .returned (.bool true) ∧ Mod noF w w' := by
  have HE := Lib.hid E
  have HKW := Lib.hid HK
  clear E HK
  go_enter Tryz.func23, Tryz.ntmps23
  go_wp2_with fail
  have hq2 : Mod noF w _ := ((Mod.refl noF w).alloc (.cells #[.string kEnter, .int .i64 0, .string kRead, .int .i64 0, .string kLeave, .int .i64 0] 88)).alloc (.cells #[.slice (some ⟨w.heap.size, 0, none⟩) 3 3] 86)
  have hin : RIn (w.heap.size + 2) ((w.alloc (.cells #[.string kEnter, .int .i64 0, .string kRead, .int .i64 0, .string kLeave, .int .i64 0] 88)).alloc (.cells #[.slice (some ⟨w.heap.size, 0, none⟩) 3 3] 86)) (.slice (some ⟨w.heap.size + 1, 0, none⟩) 1 1) (rawC bq) := by
    have g1 := heap_alloc_new (w.alloc (.cells #[.string kEnter, .int .i64 0, .string kRead, .int .i64 0, .string kLeave, .int .i64 0] 88)) (.cells #[.slice (some ⟨w.heap.size, 0, none⟩) 3 3] 86)
    have g0 := ((Mod.refl noF (w.alloc (.cells #[.string kEnter, .int .i64 0, .string kRead, .int .i64 0, .string kLeave, .int .i64 0] 88))).alloc (.cells #[.slice (some ⟨w.heap.size, 0, none⟩) 3 3] 86)).heap (heap_alloc_new w (.cells #[.string kEnter, .int .i64 0, .string kRead, .int .i64 0, .string kLeave, .int .i64 0] 88)) (fun e => e)
    have hs : (w.alloc (.cells #[.string kEnter, .int .i64 0, .string kRead, .int .i64 0, .string kLeave, .int .i64 0] 88)).heap.size = w.heap.size + 1 := by simp
    rw [hs] at g1
    refine ⟨_, 1, rfl, fun i l hi => ?_⟩
    match i, hi with
    | 0, hi =>
      cases hi
      refine ⟨w.heap.size + 1, 0, .slice (some ⟨w.heap.size, 0, none⟩) 3 3, rfl, by omega, by rw [cell_of_heap g1]; rfl, _, 3, rfl, fun i x hi => ?_⟩
      match i, hi with
      | 0, hi => cases hi; exact ⟨w.heap.size, 0, rfl, by omega, by rw [cell_of_heap g0]; rfl, by rw [cell_of_heap g0]; rfl⟩
      | 1, hi => cases hi; exact ⟨w.heap.size, 0, rfl, by omega, by rw [cell_of_heap g0]; rfl, by rw [cell_of_heap g0]; rfl⟩
      | 2, hi => cases hi; exact ⟨w.heap.size, 0, rfl, by omega, by rw [cell_of_heap g0]; rfl, by rw [cell_of_heap g0]; rfl⟩
      | i + 3, hi => simp at hi
    | i + 1, hi => simp [rawC, bq] at hi
  refine (cbuild_ok (f := 1) (q := bq) (HE.out.keep hq2) (HKW.out.keep hq2) hin (by simp) bq_fine (by decide) (by decide) (by decide) (by decide) (by decide)).mono ?_
  rintro e w3 ⟨iv, rv, cv, vk, rfl, hm3, hI, hR, hC⟩
  obtain ⟨ia, ic, rfl, -⟩ := hI
  obtain ⟨ra, rc, rfl, -⟩ := hR
  obtain ⟨ca, cc, rfl, -⟩ := hC
  have Hm3 := Lib.hid (hq2.trans0 hm3)
  rw [cInit_len, cRegs_len, cCodes_len]
  rw [show bq.length = 1 from rfl]
  clear hin hm3 hq2
  go_wp2_with fail
  have hq5 : Mod noF w3 _ := (((Mod.refl noF w3).alloc (.cells #[.int .i64 64, .slice ia (1 + 5) ic, .slice ra 1 rc] 32)).alloc (.cells #[] 88)).alloc (.cells #[.slice (some ⟨w3.heap.size + 1, 0, none⟩) 0 0] 86)
  have hin : RIn (w3.heap.size + 3) (((w3.alloc (.cells #[.int .i64 64, .slice ia (1 + 5) ic, .slice ra 1 rc] 32)).alloc (.cells #[] 88)).alloc (.cells #[.slice (some ⟨w3.heap.size + 1, 0, none⟩) 0 0] 86)) (.slice (some ⟨w3.heap.size + 2, 0, none⟩) 1 1) [[]] := by
    have g1 := heap_alloc_new ((w3.alloc (.cells #[.int .i64 64, .slice ia (1 + 5) ic, .slice ra 1 rc] 32)).alloc (.cells #[] 88)) (.cells #[.slice (some ⟨w3.heap.size + 1, 0, none⟩) 0 0] 86)
    have hs : ((w3.alloc (.cells #[.int .i64 64, .slice ia (1 + 5) ic, .slice ra 1 rc] 32)).alloc (.cells #[] 88)).heap.size = w3.heap.size + 2 := by simp
    rw [hs] at g1
    refine ⟨_, 1, rfl, fun i l hi => ?_⟩
    match i, hi with
    | 0, hi =>
      cases hi
      exact ⟨w3.heap.size + 2, 0, .slice (some ⟨w3.heap.size + 1, 0, none⟩) 0 0, rfl, by omega, by rw [cell_of_heap g1]; rfl, _, 0, rfl, fun i x hi => by simp at hi⟩
    | i + 1, hi => simp at hi
  refine (cCheck ((HE.out.keep Hm3.out).keep hq5) ((HKW.out.keep Hm3.out).keep hq5) hin (by decide) (by decide)).mono ?_
  rintro e w6 ⟨ev, rfl, hEv, hm6⟩
  rw [bq_nil] at hEv
  obtain rfl := hEv.nil
  have Hm6 := Lib.hid (Hm3.out.trans0 (hq5.trans0 hm6))
  clear hm6 hq5 hEv hin
  go_wp2
  go_ret
  exact ⟨rfl, Hm6.out⟩
end Go.Proofs.YtppihkneeolomaaGreatDoor
end
/- ClientChecks: its walk. -/
section
namespace Go.Proofs.YtppihkneeolomaaGreatDoor
open Go.RowKit Qs Qh
variable {N : Nat} {w w' : World} {v u : Value} {ll : List (List ROp)} {a : Nat → Addr}
theorem longB_false2 {ll : List (List ROp)} (h : longB ll = false) : ll.length ≤ 10 ∧ ∀ l ∈ ll, l.length ≤ 30 := by
  unfold longB at h
  simp only [Bool.or_eq_false_iff, decide_eq_false_iff_not] at h
  refine ⟨by omega, fun l hl => rowLong_false ?_⟩
  have := List.any_eq_false.1 h.2 l hl
  simpa using this
theorem nilOk_keep {oa : Option Addr} {n oc : Nat} (HH : RIn N w (.slice oa n oc) ll) (hn : ll.length = n) (hnil : NilOk w (.slice oa n oc)) {w1 : World} (hm : Mod noF w w1) : NilOk w1 (.slice oa n oc) := fun b off n' m i k c e hi hc => by
  obtain ⟨a2, c2, e2, hx⟩ := HH
  rw [hn] at e2
  cases e2
  cases e
  obtain ⟨l, hl⟩ : ∃ l, ll[i]? = some l := ⟨_, List.getElem?_eq_getElem (by omega)⟩
  obtain ⟨b2, off2, u2, e3, hb2, hc2, -⟩ := hx i l hl
  cases e3
  have := hm.cell hc2 (fun e => e)
  rw [this] at hc
  cases hc
  exact hnil b off _ _ i k c rfl hi hc2
end Go.Proofs.YtppihkneeolomaaGreatDoor
end
/- ClientBuilds: its walk where lists are long, or wrong, or there is no flavour. -/
section
namespace Go.Proofs.YtppihkneeolomaaGreatDoor
open Go.RowKit Qs Qh
variable {N : Nat} {w w' : World} {v u : Value} {ll : List (List ROp)} {a : Nat → Addr} {f : Int}
set_option maxRecDepth 4000 in
set_option maxHeartbeats 4000000 in
theorem cb_long (E : ErrsAt w a) (HK : KindsW w) (H : RIn N w v ll) (hll : ll.length ≤ maxLen) (hrl : ∀ l ∈ ll, l.length ≤ maxLen) (hL : longB ll = true) :
    Calls Tryz.prog 6 #[.int .i64 f, v] w fun e w' => e = .returned (.bool true) ∧ Mod noF w w' := by
  have hlg := fun w' (hm : Mod noF w w') => long2_any (H.keep hm (fun _ _ e => e)) hll hrl
  rw [hL] at hlg
  have Hlg := Lib.hid hlg
  have Hb := Lib.hid (built_ok E HK)
  obtain ⟨oa, oc, rfl, -⟩ := H
  clear hlg hrl E HK
  go_enter Tryz.func6, Tryz.ntmps6
  go_wp2_with fail
  refine Hb.out.mono ?_
  rintro e w1 ⟨rfl, hm1⟩
  have Hm1 := Lib.hid hm1
  clear hm1
  go_wp2_with fail
  refine (Hlg.out _ Hm1.out).mono ?_
  rintro e w1 ⟨rfl, rfl⟩
  go_wp2
  go_ret
  exact ⟨rfl, Hm1.out⟩
set_option maxRecDepth 4000 in
set_option maxHeartbeats 16000000 in
theorem cb_bad (E : ErrsAt w a) (HK : KindsW w) (H : RIn N w v ll) (hnil : NilOk w v) (hN : N ≤ w.heap.size) (hL : longB ll = false) (hk : (cfG ll).1 ≠ 0) :
    Calls Tryz.prog 6 #[.int .i64 f, v] w fun e w' => e = .returned (.bool true) ∧ Mod noF w w' := by
  obtain ⟨h10, h30⟩ := longB_false2 hL
  have hlg := fun w' (hm : Mod noF w w') => long2_any (H.keep hm (fun _ _ e => e)) (by unfold maxLen; omega) (fun l hl => by have := h30 l hl; unfold maxLen; omega)
  rw [hL] at hlg
  have Hlg := Lib.hid hlg
  have Hb := Lib.hid (built_ok E HK)
  have HH := Lib.hid H
  obtain ⟨oa, oc, rfl, -⟩ := H
  have Hnil := Lib.hid (fun w1 (hm : Mod noF w w1) => nilOk_keep HH.out rfl hnil hm)
  have HE := Lib.hid E
  have HKW := Lib.hid HK
  have H30 := Lib.hid h30
  have hff := faultB_self (cfG ll).1 (cfG ll).2
  have hkp : 0 < (cfG ll).1 := by
    rcases cfG_num ll with h | h | h | h | h
    · rw [h] at hk; exact absurd rfl hk
    all_goals omega
  have dk : decide ((0 : Int) < (cfG ll).1) = true := by simp; omega
  have dz : ((cfG ll).1 == 0) = false := by simpa using hk
  have dz2 : decide ((cfG ll).1 = 0) = false := by simpa using hk
  clear hlg hnil E HK h30 hL hkp
  go_enter Tryz.func6, Tryz.ntmps6
  go_wp2_with fail
  refine Hb.out.mono ?_
  rintro e w1 ⟨rfl, hm1⟩
  have Hm1 := Lib.hid hm1
  clear hm1 Hb
  go_wp2_with fail
  refine (Hlg.out _ Hm1.out).mono ?_
  rintro e w1 ⟨rfl, rfl⟩
  clear Hlg
  go_wp2_with fail
  refine (opsOf2_ok (HH.out.keep Hm1.out (fun _ _ e => e)) (Hnil.out _ Hm1.out) h10 H30.out).mono ?_
  rintro e w3 ⟨x, rfl, hm3, hR3⟩
  have Hm3 := Lib.hid (Hm1.out.trans0 hm3)
  have HR3 := Lib.hid hR3
  obtain ⟨xa, xc, rfl, -⟩ := hR3
  clear hm3
  go_wp2_with fail
  refine (cbuild_bad f (HE.out.keep Hm3.out) (HKW.out.keep Hm3.out) HR3.out (Nat.le_refl _) h10 H30.out hk).mono ?_
  rintro e w4 ⟨ev, rfl, hE4, hm4⟩
  have Hm4 := Lib.hid (Hm3.out.trans0 hm4)
  have HE4 := Lib.hid hE4
  obtain ⟨T, x, rfl⟩ := hE4.some hk
  clear hm4 hE4 HR3
  go_wp2_with fail
  have hq5 := ((Mod.refl noF w4).alloc (.cells #[.int .i64 0, .slice none 0 0, .slice none 0 0] 32))
  refine (cfault_ok (HH.out.keep (Hm4.out.trans0 hq5) (fun _ _ e => e)) h10 H30.out).mono ?_
  rintro e w5 ⟨rfl, hm5⟩
  have Hm5 := Lib.hid (Hm4.out.trans0 (hq5.trans0 hm5))
  have HE5 := Lib.hid (HE4.out.keep (hq5.trans0 hm5) (fun _ _ e => e))
  have hT5 := hm5.heap (heap_alloc_new w4 (.cells #[.int .i64 0, .slice none 0 0, .slice none 0 0] 32)) (fun e => e)
  have hq6 := (Mod.refl noF w5).alloc (.cells #[.int .i64 (cfG ll).1, .int .i64 (cfG ll).2] 27)
  have hT6 := hq6.heap hT5 (fun e => e)
  have HT6 := Lib.hid hT6
  generalize csG ll = sb at *
  clear hm5 hq5 hT5 hT6
  have hcal := faulted2_any ((HE.out.keep Hm5.out).keep hq6) (HE5.out.keep hq6 (fun _ _ e => e)) (cfG ll).1 (cfG ll).2
  rw [hff] at hcal
  have Hcal := Lib.hid hcal
  have Hq6 := Lib.hid hq6
  clear hcal hq6 hff
  generalize (cfG ll).1 = fc at *
  generalize (cfG ll).2 = fp at *
  go_wp2_with fail
  refine Hcal.out.mono ?_
  rintro e w6 ⟨rfl, hm6⟩
  have hT7 := hm6.heap HT6.out (fun e => e)
  have c0 := cell_of_heap hT7 0
  have c1 := cell_of_heap hT7 1
  have c2 := cell_of_heap hT7 2
  replace c0 : w6.cell? ⟨w4.heap.size, 0, none⟩ = some (.int .i64 0) := c0
  replace c1 : w6.cell? ⟨w4.heap.size, 1, none⟩ = some (.slice none 0 0) := c1
  replace c2 : w6.cell? ⟨w4.heap.size, 2, none⟩ = some (.slice none 0 0) := c2
  have Hm6 := Lib.hid ((Hm5.out.trans0 Hq6.out).trans0 hm6)
  clear hm6 hT7 HT6 Hcal
  go_wp2
  go_ret
  exact ⟨rfl, Hm6.out⟩
set_option maxRecDepth 4000 in
set_option maxHeartbeats 16000000 in
theorem cb_flav (E : ErrsAt w a) (HK : KindsW w) (H : RIn N w v ll) (hnil : NilOk w v) (hN : N ≤ w.heap.size) (hL : longB ll = false) (hk : (cfG ll).1 = 0) (h6 : ll.length ≤ 6) (hf : ¬ (1 ≤ f ∧ f ≤ 4)) :
    Calls Tryz.prog 6 #[.int .i64 f, v] w fun e w' => e = .returned (.bool true) ∧ Mod noF w w' := by
  obtain ⟨h10, h30⟩ := longB_false2 hL
  have hlg := fun w' (hm : Mod noF w w') => long2_any (H.keep hm (fun _ _ e => e)) (by unfold maxLen; omega) (fun l hl => by have := h30 l hl; unfold maxLen; omega)
  rw [hL] at hlg
  have Hlg := Lib.hid hlg
  have Hb := Lib.hid (built_ok E HK)
  have HH := Lib.hid H
  obtain ⟨oa, oc, rfl, -⟩ := H
  have Hnil := Lib.hid (fun w1 (hm : Mod noF w w1) => nilOk_keep HH.out rfl hnil hm)
  have HE := Lib.hid E
  have HKW := Lib.hid HK
  have H30 := Lib.hid h30
  have Hk := Lib.hid hk
  have Hf := Lib.hid hf
  have hfb : (decide (1 ≤ f) && decide (f ≤ 4)) = false := by
    by_cases h : 1 ≤ f
    · have : ¬ f ≤ 4 := fun h2 => hf ⟨h, h2⟩
      simp [this]
    · simp [h]
  have Hfb := Lib.hid hfb
  clear hlg hnil E HK h30 hL hk hf hfb
  go_enter Tryz.func6, Tryz.ntmps6
  go_wp2_with fail
  refine Hb.out.mono ?_
  rintro e w1 ⟨rfl, hm1⟩
  have Hm1 := Lib.hid hm1
  clear hm1 Hb
  go_wp2_with fail
  refine (Hlg.out _ Hm1.out).mono ?_
  rintro e w1 ⟨rfl, rfl⟩
  clear Hlg
  go_wp2_with fail
  refine (opsOf2_ok (HH.out.keep Hm1.out (fun _ _ e => e)) (Hnil.out _ Hm1.out) h10 H30.out).mono ?_
  rintro e w3 ⟨x, rfl, hm3, hR3⟩
  have Hm3 := Lib.hid (Hm1.out.trans0 hm3)
  have HR3 := Lib.hid hR3
  obtain ⟨xa, xc, rfl, -⟩ := hR3
  clear hm3
  go_wp2_with fail
  refine (cbuild_flav f Hf.out (HE.out.keep Hm3.out) (HKW.out.keep Hm3.out) HR3.out (Nat.le_refl _) h6 H30.out Hk.out).mono ?_
  rintro e w4 ⟨rfl, hm4⟩
  have Hm4 := Lib.hid (Hm3.out.trans0 hm4)
  have HEv : Hid (∀ W, ErrIs a W (errV a 1) 2 (-1)) := Lib.hid fun W => .inr (.inl ⟨1, by omega, rfl, rfl, rfl⟩)
  unfold errV at HEv ⊢
  clear hm4 HR3
  go_wp2_with fail
  have hq5 := ((Mod.refl noF w4).alloc (.cells #[.int .i64 0, .slice none 0 0, .slice none 0 0] 32))
  refine (cfault_ok (HH.out.keep (Hm4.out.trans0 hq5) (fun _ _ e => e)) h10 H30.out).mono ?_
  rintro e w5 ⟨rfl, hm5⟩
  rw [Hk.out]
  generalize (cfG ll).2 = fp at *
  have Hm5 := Lib.hid (Hm4.out.trans0 (hq5.trans0 hm5))
  have hT5 := hm5.heap (heap_alloc_new w4 (.cells #[.int .i64 0, .slice none 0 0, .slice none 0 0] 32)) (fun e => e)
  have HT5 := Lib.hid hT5
  generalize csG ll = sb at *
  clear hm5 hq5 hT5
  go_wp2_with fail
  refine (isFlavour2_any f _).mono ?_
  rintro e w6 ⟨rfl, rfl⟩
  rw [Hfb.out]
  go_wp2_with fail
  refine (bare_ok 2 _).mono ?_
  rintro e w7 ⟨rfl, hm7⟩
  have hq6 := (Mod.refl noF w5).alloc (.cells #[.int .i64 0, .int .i64 fp] 27)
  have hT7 := hm7.heap (heap_alloc_new w5 (.cells #[.int .i64 0, .int .i64 fp] 27)) (fun e => e)
  have hS7 := hm7.heap (hq6.heap HT5.out (fun e => e)) (fun e => e)
  have Hm7 := Lib.hid (hq6.trans0 hm7)
  have t0 := cell_of_heap hT7 0
  have t1 := cell_of_heap hT7 1
  have tf0 := free_of_heap hT7 0
  have tf1 := free_of_heap hT7 1
  replace t0 : w7.cell? ⟨w5.heap.size, 0, none⟩ = some (.int .i64 0) := t0
  replace t1 : w7.cell? ⟨w5.heap.size, 1, none⟩ = some (.int .i64 fp) := t1
  have HS7 := Lib.hid hS7
  have HT7 := Lib.hid hT7
  clear hm7 hT7 hS7 hq6
  go_wp2_with fail
  obtain ⟨wf, hwf⟩ : ∃ wf, wf = (w7.setCell ⟨w5.heap.size, 0, none⟩ (.int .i64 2)).setCell ⟨w5.heap.size, 1, none⟩ (.int .i64 (-1)) := ⟨_, rfl⟩
  have hMf : Mod (fun x => x = w5.heap.size) w7 wf := by rw [hwf]; exact ((Mod.refl (fun x => x = w5.heap.size) _).setCell (fun _ => rfl) _).setCell (fun _ => rfl) _
  have hm5f : Mod noF w wf := (Hm5.out.trans0 Hm7.out).trans hMf fun x hx e => by have := Hm5.out.size; omega
  rw [← hwf]
  refine (faulted2_any (HE.out.keep hm5f) (HEv.out wf) 2 (-1)).mono ?_
  rintro e w8 ⟨rfl, hm8⟩
  rw [faultB_self]
  have hl5 := lt_of_block HT5.out
  have hS8 := hm8.heap (hMf.heap HS7.out (fun e => by omega)) (fun e => e)
  have c0 := cell_of_heap hS8 0
  have c1 := cell_of_heap hS8 1
  have c2 := cell_of_heap hS8 2
  replace c0 : w8.cell? ⟨w4.heap.size, 0, none⟩ = some (.int .i64 0) := c0
  replace c1 : w8.cell? ⟨w4.heap.size, 1, none⟩ = some (.slice none 0 0) := c1
  replace c2 : w8.cell? ⟨w4.heap.size, 2, none⟩ = some (.slice none 0 0) := c2
  have Hm8 := Lib.hid (hm5f.trans0 hm8)
  clear hm8 hS8 hm5f hMf hwf HS7 HT7 HT5
  go_wp2
  go_ret
  exact ⟨rfl, Hm8.out⟩
end Go.Proofs.YtppihkneeolomaaGreatDoor
end
/- ClientBuilds: its walk where all is right. -/
section
namespace Go.Proofs.YtppihkneeolomaaGreatDoor
open Go.RowKit Qs Qh Qc Qg
variable {N : Nat} {w w' : World} {v u : Value} {ll : List (List ROp)} {a : Nat → Addr} {f : Nat} {q : List (List COp)}
theorem noFault2 (c : Int) (w : World) : (Go.Instr.field 27 (.agg #[.int .i64 0, .int .i64 c]) 0).run Tryz.prog w = .ok (.int .i64 0) w := by kernel_rfl
theorem CodesAt.keepM2 {cs : List (List Instr)} {cv : Nat → Value} (h : CodesAt w v cs cv) (hM : Mod noF w w') : CodesAt w' v cs cv := CodesAt.keepM h hM
theorem mod_set2 {w W : World} {b : Nat} (h : Mod noF w W) (hb : w.heap.size ≤ b) (i j : Nat) (x y : Value) : Mod noF w ((W.setCell ⟨b, i, none⟩ x).setCell ⟨b, j, none⟩ y) :=
  h.trans (((Mod.refl (fun x => x = b) W).setCell (fun _ => rfl) x).setCell (fun _ => rfl) y) (fun k hk e => by omega)
set_option maxRecDepth 100000 in
set_option maxHeartbeats 64000000 in
theorem cb_good (E : ErrsAt w a) (HK : KindsW w) (H : RIn N w v (rawC q)) (hnil : NilOk w v) (hN : N ≤ w.heap.size) (hL : longB (rawC q) = false) (hk : (cfG (rawC q)).1 = 0) (h1 : 1 ≤ q.length) (h6 : q.length ≤ 6) (h20 : ∀ l ∈ q, l.length ≤ 20) (hp : ∀ l ∈ q, ∀ n, COp.put n ∈ l → 1 ≤ n ∧ n ≤ 1000) (hf1 : 1 ≤ f) (hf4 : f ≤ 4) :
    Calls Tryz.prog 6 #[.int .i64 f, v] w fun e w' => e = .returned (.bool true) ∧ Mod noF w w' := by
  obtain ⟨h10, h30⟩ := longB_false2 hL
  have hrl : (rawC q).length = q.length := by simp [rawC]
  have hlg := fun w' (hm : Mod noF w w') => long2_any (H.keep hm (fun _ _ e => e)) (by unfold maxLen; omega) (fun l hl => by have := h30 l hl; unfold maxLen; omega)
  rw [hL] at hlg
  have Hlg := Lib.hid hlg
  have Hb := Lib.hid (built_ok E HK)
  have HH := Lib.hid H
  obtain ⟨oa, oc, rfl, -⟩ := H
  rw [hrl] at HH hnil ⊢
  have Hrl := Lib.hid hrl
  have Hnil := Lib.hid (fun w1 (hm : Mod noF w w1) => nilOk_keep HH.out hrl hnil hm)
  rw [hrl] at Hlg
  have HE := Lib.hid E
  have HKW := Lib.hid HK
  have H30 := Lib.hid h30
  have Hk := Lib.hid hk
  have H20 := Lib.hid h20
  have hfn := c_fine (f := f) hf1 hf4 h6 h20 hp
  have Hfn := Lib.hid hfn
  have hfb : (decide ((1 : Int) ≤ (f : Int)) && decide ((f : Int) ≤ 4)) = true := by simp; omega
  have Hfb := Lib.hid hfb
  have hnf := noFault2
  clear hlg hnil E HK h30 hL hk h20 hp hfn hfb hrl
  go_enter Tryz.func6, Tryz.ntmps6
  go_wp2_with fail
  refine Hb.out.mono ?_
  rintro e w1 ⟨rfl, hm1⟩
  have Hm1 := Lib.hid hm1
  clear hm1 Hb
  go_wp2_with fail
  refine (Hlg.out _ Hm1.out).mono ?_
  rintro e w1 ⟨rfl, rfl⟩
  clear Hlg
  go_wp2_with fail
  refine (opsOf2_ok (HH.out.keep Hm1.out (fun _ _ e => e)) (Hnil.out _ Hm1.out) h10 H30.out).mono ?_
  rintro e w3 ⟨x, rfl, hm3, hR3⟩
  have Hm3 := Lib.hid (Hm1.out.trans0 hm3)
  have HR3 := Lib.hid hR3
  obtain ⟨xa, xc, rfl, -⟩ := hR3
  clear hm3
  go_wp2_with fail
  refine (cbuild_ok (HE.out.keep Hm3.out) (HKW.out.keep Hm3.out) HR3.out (Nat.le_refl _) Hk.out h1 h6 H20.out hf1 hf4).mono ?_
  rintro e w4 ⟨iv, rv, cv, vk4, rfl, hm4, hI, hR, hC⟩
  have HI := Lib.hid hI
  have HR := Lib.hid hR
  obtain ⟨ca, cc, rfl, hcx⟩ := hC
  have HC := Lib.hid (show CodesAt w4 (.slice ca (cCodes f q).length cc) (cCodes f q) vk4 from ⟨ca, cc, rfl, hcx⟩)
  rw [cCodes_len] at HC ⊢
  have Hm4 := Lib.hid (Hm3.out.trans0 hm4)
  obtain ⟨ia, ic, rfl, -⟩ := hI
  obtain ⟨ra, rc, rfl, -⟩ := hR
  rw [cInit_len] at HI ⊢
  rw [cRegs_len] at HR ⊢
  clear hm4 hcx HR3
  go_wp2_with fail
  have hq5 := ((Mod.refl noF w4).alloc (.cells #[.int .i64 64, .slice ia (q.length + 5) ic, .slice ra q.length rc] 32))
  refine (cfault_ok (HH.out.keep (Hm4.out.trans0 hq5) (fun _ _ e => e)) h10 H30.out).mono ?_
  rintro e w5 ⟨rfl, hm5⟩
  rw [Hk.out]
  generalize (cfG (rawC q)).2 = fp at *
  generalize csG (rawC q) = sb at *
  have hm5' := hq5.trans0 hm5
  have HI5 := Lib.hid (HI.out.keepM hm5')
  have HR5 := Lib.hid (HR.out.keepM hm5')
  have HC5 := Lib.hid (CodesAt.keepM2 HC.out hm5')
  have Hm5 := Lib.hid (Hm4.out.trans0 hm5')
  have hT5 := hm5.heap (heap_alloc_new w4 (.cells #[.int .i64 64, .slice ia (q.length + 5) ic, .slice ra q.length rc] 32)) (fun e => e)
  have HT5 := Lib.hid hT5
  clear hm5 hm5' hq5 hT5 HI HR HC
  go_wp2_with fail
  refine (isFlavour2_any f _).mono ?_
  rintro e w6 ⟨rfl, rfl⟩
  rw [Hfb.out]
  have hq6 := (Mod.refl noF w5).alloc (.cells #[.int .i64 0, .int .i64 fp] 27)
  have hT6 := hq6.heap HT5.out (fun e => e)
  have HT6 := Lib.hid hT6
  have c0 := cell_of_heap hT6 0
  have c1 := cell_of_heap hT6 1
  have c2 := cell_of_heap hT6 2
  replace c0 : (w5.alloc (.cells #[.int .i64 0, .int .i64 fp] 27)).cell? ⟨w4.heap.size, 0, none⟩ = some (.int .i64 64) := c0
  replace c1 : (w5.alloc (.cells #[.int .i64 0, .int .i64 fp] 27)).cell? ⟨w4.heap.size, 1, none⟩ = some (.slice ia (q.length + 5) ic) := c1
  replace c2 : (w5.alloc (.cells #[.int .i64 0, .int .i64 fp] 27)).cell? ⟨w4.heap.size, 2, none⟩ = some (.slice ra q.length rc) := c2
  have Hq6 := Lib.hid hq6
  have d20 : decide ((20 : Int) < (q.length : Int) + 5) = false := by simp; omega
  clear hq6 hT6 HT5
  go_wp2_with fail
  refine (backStart_ok 64 ia ra _ ic _ rc _).mono ?_
  rintro e w7 ⟨rfl, hm7⟩
  have Hm7 := Lib.hid (Hq6.out.trans0 hm7)
  have HT7 := Lib.hid (hm7.heap HT6.out (fun e => e))
  clear hm7 c0 c1 c2
  go_wp2_with fail
  have hI7 := HI5.out.keepM Hm7.out
  have hR7 := HR5.out.keepM Hm7.out
  have hC7 := CodesAt.keepM2 HC5.out Hm7.out
  refine (startFault_ok 64 _ _ _ (cInit f q.length) (cRegs q.length) _ _ _ hI7 hR7 hC7 (by omega) (by omega) (by rw [cCodes_len]; exact h1) (by rw [cCodes_len]; exact h6) (by rw [cInit_len]; omega) (by rw [cCodes_len, cRegs_len]; omega) (cInit_fine f _ h6) (cRegs_fine _ h6) Hfn.out).mono ?_
  rintro e w8 ⟨rfl, hm8⟩
  have Hm8 := Lib.hid (Hm7.out.trans0 hm8)
  have HT8 := Lib.hid (hm8.heap HT7.out (fun e => e))
  have c0 := cell_of_heap HT8.out 0
  have c1 := cell_of_heap HT8.out 1
  have c2 := cell_of_heap HT8.out 2
  replace c0 : w8.cell? ⟨w4.heap.size, 0, none⟩ = some (.int .i64 64) := c0
  replace c1 : w8.cell? ⟨w4.heap.size, 1, none⟩ = some (.slice ia (q.length + 5) ic) := c1
  replace c2 : w8.cell? ⟨w4.heap.size, 2, none⟩ = some (.slice ra q.length rc) := c2
  clear hm8 hI7 hR7 hC7 HT7 HT6
  go_wp2_with fail
  refine (backStart_ok 64 ia ra _ ic _ rc _).mono ?_
  rintro e w9 ⟨rfl, hm9⟩
  have Hm9 := Lib.hid (Hm8.out.trans0 hm9)
  clear hm9 c0 c1 c2 HT8
  go_wp2_with fail
  have hI9 := HI5.out.keepM Hm9.out
  have hR9 := HR5.out.keepM Hm9.out
  have hC9 := CodesAt.keepM2 HC5.out Hm9.out
  refine (newMachine_ok 64 _ _ _ (cInit f q.length) (cRegs q.length) _ _ _ hI9 hR9 hC9 (by omega) (by omega) (by rw [cCodes_len]; exact h1) (by rw [cCodes_len]; exact h6) (by rw [cInit_len]; omega) (by rw [cCodes_len, cRegs_len]) (cInit_fine f _ h6) (cRegs_fine _ h6) Hfn.out).mono ?_
  rintro e w10 ⟨L, rfl, hX, hb10, -⟩
  have HX := Lib.hid (show Mach ty w10 L (cM f q) 1 from hX)
  have Hm10 := Lib.hid ((Hm5.out.trans0 Hm9.out).trans0 (Mod.below hb10))
  clear hX hb10 hI9 hR9 hC9 HI5 HR5 HC5 Hm9 Hm8 Hm7 Hm5
  go_wp2
  go_loopw [12] (fun i wr => ∃ k : Nat, k ≤ q.length ∧ i = .int .i64 k ∧ Mod noF w10 wr) (fun i _ => q.length - (intOf i).toNat)
  case atStart => exact ⟨0, Nat.zero_le _, rfl, Mod.refl _ _⟩
  case round =>
    generalize wr = w2 at *
    obtain ⟨k, hk, rfl, hm⟩ := hrel
    by_cases hlt : k < q.length
    · have hd : decide ((k : Int) < (q.length : Int)) = true := by simp; omega
      have hki : (k : Int) < (q.length : Int) := by omega
      have hX := HX.out.frame0 hm
      have hTl : (cM f q).T.length = q.length := c_Tlen
      obtain ⟨a0, a1, -⟩ := hX.top
      rw [hTl] at a1
      obtain ⟨-, k1, -⟩ := hX.thr_at (c_T k hlt)
      obtain ⟨k5, -⟩ := hX.reg_at (c_T k hlt) (show 5 < 8 by omega)
      replace k5 : w2.cell? ⟨L.blk 8 k, 5, none⟩ = some (.int .i64 ((q.length : Int) + 5)) := k5
      have hh5 : (absM (cM f q)).here ((q.length : Int) + 5) = true := (c_here h6 _).2 (by omega)
      have hh2 : (absM (cM f q)).here ((q.length : Int) + 2) = true := (c_here h6 _).2 (by omega)
      have hn5 := node_at hX hh5
      have hn2 := node_at hX hh2
      have hc5 : celOf ((q.length : Int) + 5) = q.length + 4 := by unfold celOf; omega
      have hc2 : celOf ((q.length : Int) + 2) = q.length + 1 := by unfold celOf; omega
      have hv5 := c_val5 (f := f) h6
      have hv2 := c_val2 (f := f) h6
      obtain ⟨r5, t5, -, -, l5, ⟨s5, p5⟩, p50, -⟩ := hn5
      obtain ⟨r2, t2, -, -, l2, ⟨s2, p2⟩, p20, -⟩ := hn2
      rw [hc5] at r5 t5 l5 p5 p50
      rw [hc2] at r2 t2 l2 p2 p20
      rw [hv5] at p50
      rw [hv2] at p20
      have c1 := hX.rep.cells_at rfl hX.ol
      rw [c_len] at c1 l5 l2
      have g5 : ((q.length : Int) + 5 - 1) / 64 = 0 := by omega
      have g2 : ((q.length : Int) + 2 - 1) / 64 = 0 := by omega
      rw [g5] at r5 t5
      rw [g2] at r2 t2
      have hl5 : ((q.length + 4 : Nat) : Int) < 64 := by omega
      have hl2 : ((q.length + 1 : Nat) : Int) < 64 := by omega
      have Hm := Lib.hid hm
      have Hr5 := Lib.hid r5
      have Ht5 := Lib.hid t5
      have Hr2 := Lib.hid r2
      have Ht2 := Lib.hid t2
      generalize hce5 : q.length + 4 = e5 at *
      generalize hce2 : q.length + 1 = e2 at *
      clear hm r5 t5 r2 t2 hce5 hce2 hh5 hh2 hv5 hv2 hc5 hc2 hX hTl
      go_wp2_with fail
      refine (refOf_any ((q.length : Int) + 5) _ (by omega) (by omega)).mono ?_
      rintro e w3 ⟨rfl, hm3⟩
      rw [Hr5.out]
      have Hm3 := Lib.hid hm3
      go_wp2
      go_name_world wn hwn
      have hmn : Mod noF w2 wn := by rw [← hwn]; exact hm3.alloc _
      have z0 : wn.cell? ⟨w3.heap.size, 0, none⟩ = some (.int .i64 (e5 : Int)) := by rw [← hwn]; simp
      have z1 : wn.cell? ⟨w3.heap.size, 1, none⟩ = some (.int .i64 0) := by rw [← hwn]; simp
      have g0 := hmn.cell a0 (fun e => e)
      have Hmn := Lib.hid hmn
      clear hwn hmn hm3
      have hS : ∀ W, Mod noF wn.drew W → Mod noF wn.drew W ∧ W.cell? ⟨L.blk 0 0, 0, none⟩ = some (.pointer (some ⟨L.blk 1 0, 0, none⟩)) ∧ W.cell? ⟨w3.heap.size, 0, none⟩ = some (.int .i64 (e5 : Int)) ∧ W.cell? ⟨w3.heap.size, 1, none⟩ = some (.int .i64 0) := fun W hW => ⟨hW, hW.cell g0 (fun e => e), hW.cell z0 (fun e => e), hW.cell z1 (fun e => e)⟩
      have HS := Lib.hid hS
      have hcall : ∀ W, Mod noF wn.drew W → Calls Tryz.prog 35 #[.pointer (some ⟨L.blk 1 0, 0, none⟩), .agg #[.int .i64 (e5 : Int), .int .i64 0], .int .i64 0] W fun e w' => e = .returned (.int .i64 0) ∧ Mod noF wn.drew w' := fun W hW => by
        have := at_any (HX.out.rep.frame0 (((Hm.out.trans0 Hmn.out).trans0 (Mod.refl _ _).drew).trans0 hW)) rfl rfl HX.out.om HX.out.ol (by omega) (e5 : Int) 0 0
        rw [Ht5.out] at this
        exact this.mono fun e w' h => ⟨h.1, hW.trans0 h.2⟩
      have Hcall := Lib.hid hcall
      clear hS hcall
      go_region_held3 (fun W => Mod noF wn.drew W ∧ W.cell? ⟨L.blk 0 0, 0, none⟩ = some (.pointer (some ⟨L.blk 1 0, 0, none⟩)) ∧ W.cell? ⟨w3.heap.size, 0, none⟩ = some (.int .i64 (e5 : Int)) ∧ W.cell? ⟨w3.heap.size, 1, none⟩ = some (.int .i64 0)) ((refine HS.out _ ?_; first | assumption | exact Mod.refl _ _)) (first | (go_at_call 35; go_split_ands; refine (Hcall.out _ ?_).mono ?_; assumption; rintro e w6 ⟨rfl, hm6⟩))
      all_goals
        have hm26 := Hmn.out.trans0 (((Mod.refl noF wn).drew).trans0 hm6)
        have b0 := hm26.cell a0 (fun e => e)
        have b1 := hm26.cell c1 (fun e => e)
        have b2 := hm26.cell p5 (fun e => e)
        have b3 := hm26.cell p50 (fun e => e)
        have b4 := hm6.cell z0 (fun e => e)
        have b5 := hm26.cell p2 (fun e => e)
        have b6 := hm26.cell p20 (fun e => e)
        have Hm26 := Lib.hid hm26
        clear hm26 hm6 HS Hcall
        go_wp2
        obtain ⟨sc, b1⟩ : ∃ sc, w6.cell? ⟨L.blk 1 0, 0, none⟩ = some (.slice (some ⟨L.blk 2 0, 0, none⟩) 64 sc) := ⟨_, b1⟩
        have hS : ∀ W, Mod noF w6.drew W → Mod noF w6.drew W ∧ W.cell? ⟨L.blk 0 0, 0, none⟩ = some (.pointer (some ⟨L.blk 1 0, 0, none⟩)) ∧ W.cell? ⟨L.blk 1 0, 0, none⟩ = some (.slice (some ⟨L.blk 2 0, 0, none⟩) 64 sc) ∧ W.cell? ⟨w3.heap.size, 0, none⟩ = some (.int .i64 (e5 : Int)) ∧ W.cell? ⟨L.blk 2 0, e5 * 3, none⟩ = some (.slice (some ⟨L.blk 6 e5, 0, none⟩) 4 s5) ∧ W.cell? ⟨L.blk 6 e5, 0, none⟩ = some (.int .i64 ((q.length : Int) + 2)) := fun W hW => ⟨hW, hW.cell b0 (fun e => e), hW.cell b1 (fun e => e), hW.cell b4 (fun e => e), hW.cell b2 (fun e => e), hW.cell b3 (fun e => e)⟩
        have HS := Lib.hid hS
        have hcall : ∀ W, Mod noF w6.drew W → Calls Tryz.prog 34 #[.int .i64 ((q.length : Int) + 2)] W fun e w' => e = .returned (.tuple #[.agg #[.int .i64 (e2 : Int), .int .i64 0], .int .i64 0]) ∧ Mod noF w6.drew w' ∧ Mod noF W w' := fun W hW => by
          have := refOf_any ((q.length : Int) + 2) W (by omega) (by omega)
          rw [Hr2.out] at this
          exact this.mono fun e w' h => ⟨h.1, hW.trans0 h.2, h.2⟩
        have Hcall := Lib.hid hcall
        clear hS hcall
        go_region_held3 (fun W => Mod noF w6.drew W ∧ W.cell? ⟨L.blk 0 0, 0, none⟩ = some (.pointer (some ⟨L.blk 1 0, 0, none⟩)) ∧ W.cell? ⟨L.blk 1 0, 0, none⟩ = some (.slice (some ⟨L.blk 2 0, 0, none⟩) 64 sc) ∧ W.cell? ⟨w3.heap.size, 0, none⟩ = some (.int .i64 (e5 : Int)) ∧ W.cell? ⟨L.blk 2 0, e5 * 3, none⟩ = some (.slice (some ⟨L.blk 6 e5, 0, none⟩) 4 s5) ∧ W.cell? ⟨L.blk 6 e5, 0, none⟩ = some (.int .i64 ((q.length : Int) + 2))) ((refine HS.out _ ?_; first | assumption | exact Mod.refl _ _ | exact Mod.alloc (by assumption) _ | exact Mod.alloc (Mod.refl _ _) _ | exact mod_set2 (by assumption) (by simp) _ _ _ _)) (first | (go_at_call 34; go_split_ands; refine (Hcall.out _ ?_).mono ?_; assumption; rintro e w7 ⟨rfl, hm7, hm7b⟩; (try (have hb7 := hm7b.heap (heap_alloc_new _ _) (fun e => e); have hc70 := cell_of_heap hb7 0; have hc71 := cell_of_heap hb7 1; have hf70 := free_of_heap hb7 0; have hf71 := free_of_heap hb7 1; have hl7 := lt_of_block hb7; simp at hc70 hc71 hf70 hf71 hl7))))
        · rename_i hH
          have hmz := hH.1
          have y0 : (w7.alloc (.cells #[.int .i64 (e2 : Int), .int .i64 0] 68)).cell? ⟨w7.heap.size, 0, none⟩ = some (.int .i64 (e2 : Int)) := (by simp)
          have y1 : (w7.alloc (.cells #[.int .i64 (e2 : Int), .int .i64 0] 68)).cell? ⟨w7.heap.size, 1, none⟩ = some (.int .i64 0) := (by simp)
          clear hH HS Hcall
          obtain ⟨wZ, hwZ⟩ : ∃ wZ, wZ = (w7.alloc (.cells #[.int .i64 (e2 : Int), .int .i64 0] 68)) := ⟨_, rfl⟩
          rw [← hwZ] at hmz y0 y1 ⊢
          have hm2z : Mod noF w2 wZ := (Hm26.out.trans0 (Mod.refl noF w6).drew).trans0 hmz
          have v0 := hm2z.cell a0 (fun e => e)
          have v1 := hmz.cell b1 (fun e => e)
          have v2 := hm2z.cell p2 (fun e => e)
          have v3 := hm2z.cell p20 (fun e => e)
          have Hm2z := Lib.hid hm2z
          clear hwZ hmz hm2z
          go_wp2
          have hS : ∀ W, Mod noF wZ.drew W → Mod noF wZ.drew W ∧ W.cell? ⟨L.blk 0 0, 0, none⟩ = some (.pointer (some ⟨L.blk 1 0, 0, none⟩)) ∧ W.cell? ⟨L.blk 1 0, 0, none⟩ = some (.slice (some ⟨L.blk 2 0, 0, none⟩) 64 sc) ∧ W.cell? ⟨w7.heap.size, 0, none⟩ = some (.int .i64 (e2 : Int)) ∧ W.cell? ⟨w7.heap.size, 1, none⟩ = some (.int .i64 0) ∧ W.cell? ⟨L.blk 2 0, e2 * 3, none⟩ = some (.slice (some ⟨L.blk 6 e2, 0, none⟩) 4 s2) ∧ W.cell? ⟨L.blk 6 e2, 0, none⟩ = some (.int .i64 1) := fun W hW => ⟨hW, hW.cell v0 (fun e => e), hW.cell v1 (fun e => e), hW.cell y0 (fun e => e), hW.cell y1 (fun e => e), hW.cell v2 (fun e => e), hW.cell v3 (fun e => e)⟩
          have HS := Lib.hid hS
          have hcall : ∀ W, Mod noF wZ.drew W → Calls Tryz.prog 35 #[.pointer (some ⟨L.blk 1 0, 0, none⟩), .agg #[.int .i64 (e2 : Int), .int .i64 0], .int .i64 0] W fun e w' => e = .returned (.int .i64 0) ∧ Mod noF wZ.drew w' := fun W hW => by
            have := at_any (HX.out.rep.frame0 (((Hm.out.trans0 Hm2z.out).trans0 (Mod.refl _ _).drew).trans0 hW)) rfl rfl HX.out.om HX.out.ol (by omega) (e2 : Int) 0 0
            rw [Ht2.out] at this
            exact this.mono fun e w' h => ⟨h.1, hW.trans0 h.2⟩
          have Hcall := Lib.hid hcall
          clear hS hcall
          go_region_held3 (fun W => Mod noF wZ.drew W ∧ W.cell? ⟨L.blk 0 0, 0, none⟩ = some (.pointer (some ⟨L.blk 1 0, 0, none⟩)) ∧ W.cell? ⟨L.blk 1 0, 0, none⟩ = some (.slice (some ⟨L.blk 2 0, 0, none⟩) 64 sc) ∧ W.cell? ⟨w7.heap.size, 0, none⟩ = some (.int .i64 (e2 : Int)) ∧ W.cell? ⟨w7.heap.size, 1, none⟩ = some (.int .i64 0) ∧ W.cell? ⟨L.blk 2 0, e2 * 3, none⟩ = some (.slice (some ⟨L.blk 6 e2, 0, none⟩) 4 s2) ∧ W.cell? ⟨L.blk 6 e2, 0, none⟩ = some (.int .i64 1)) ((refine HS.out _ ?_; first | assumption | exact Mod.refl _ _)) (first | (go_at_call 35; go_split_ands; refine (Hcall.out _ ?_).mono ?_; assumption; rintro e w8 ⟨rfl, hm8⟩))
          all_goals
            clear HS Hcall
            go_wp2
            go_roundw
            case rel => exact ⟨k + 1, by omega, by go_num, (Hm.out.trans0 Hm2z.out).trans0 ((Mod.refl noF wZ).drew.trans0 (by assumption))⟩
            case measure => simp [intOf]; omega
        · rename_i hH
          have hmz := hH.1
          have y0 : ((w7.setCell ⟨w6.heap.size, 0, none⟩ (.int .i64 (e2 : Int))).setCell ⟨w6.heap.size, 1, none⟩ (.int .i64 0)).cell? ⟨w6.heap.size, 0, none⟩ = some (.int .i64 (e2 : Int)) := (by rw [cell_of_heap (show ((w7.setCell ⟨w6.heap.size, 0, none⟩ (.int .i64 (e2 : Int))).setCell ⟨w6.heap.size, 1, none⟩ (.int .i64 0)).heap[w6.heap.size]? = some (.cells #[.int .i64 (e2 : Int), .int .i64 0] 68 (0, 0)) by rw [Qh.heap_setCell_same (Qh.heap_setCell_same hb7 0 _) 1 _]; rfl)]; rfl)
          have y1 : ((w7.setCell ⟨w6.heap.size, 0, none⟩ (.int .i64 (e2 : Int))).setCell ⟨w6.heap.size, 1, none⟩ (.int .i64 0)).cell? ⟨w6.heap.size, 1, none⟩ = some (.int .i64 0) := (by rw [cell_of_heap (show ((w7.setCell ⟨w6.heap.size, 0, none⟩ (.int .i64 (e2 : Int))).setCell ⟨w6.heap.size, 1, none⟩ (.int .i64 0)).heap[w6.heap.size]? = some (.cells #[.int .i64 (e2 : Int), .int .i64 0] 68 (0, 0)) by rw [Qh.heap_setCell_same (Qh.heap_setCell_same hb7 0 _) 1 _]; rfl)]; rfl)
          clear hH HS Hcall
          obtain ⟨wZ, hwZ⟩ : ∃ wZ, wZ = ((w7.setCell ⟨w6.heap.size, 0, none⟩ (.int .i64 (e2 : Int))).setCell ⟨w6.heap.size, 1, none⟩ (.int .i64 0)) := ⟨_, rfl⟩
          rw [← hwZ] at hmz y0 y1 ⊢
          have hm2z : Mod noF w2 wZ := (Hm26.out.trans0 (Mod.refl noF w6).drew).trans0 hmz
          have v0 := hm2z.cell a0 (fun e => e)
          have v1 := hmz.cell b1 (fun e => e)
          have v2 := hm2z.cell p2 (fun e => e)
          have v3 := hm2z.cell p20 (fun e => e)
          have Hm2z := Lib.hid hm2z
          clear hwZ hmz hm2z
          go_wp2
          have hS : ∀ W, Mod noF wZ.drew W → Mod noF wZ.drew W ∧ W.cell? ⟨L.blk 0 0, 0, none⟩ = some (.pointer (some ⟨L.blk 1 0, 0, none⟩)) ∧ W.cell? ⟨L.blk 1 0, 0, none⟩ = some (.slice (some ⟨L.blk 2 0, 0, none⟩) 64 sc) ∧ W.cell? ⟨w6.heap.size, 0, none⟩ = some (.int .i64 (e2 : Int)) ∧ W.cell? ⟨w6.heap.size, 1, none⟩ = some (.int .i64 0) ∧ W.cell? ⟨L.blk 2 0, e2 * 3, none⟩ = some (.slice (some ⟨L.blk 6 e2, 0, none⟩) 4 s2) ∧ W.cell? ⟨L.blk 6 e2, 0, none⟩ = some (.int .i64 1) := fun W hW => ⟨hW, hW.cell v0 (fun e => e), hW.cell v1 (fun e => e), hW.cell y0 (fun e => e), hW.cell y1 (fun e => e), hW.cell v2 (fun e => e), hW.cell v3 (fun e => e)⟩
          have HS := Lib.hid hS
          have hcall : ∀ W, Mod noF wZ.drew W → Calls Tryz.prog 35 #[.pointer (some ⟨L.blk 1 0, 0, none⟩), .agg #[.int .i64 (e2 : Int), .int .i64 0], .int .i64 0] W fun e w' => e = .returned (.int .i64 0) ∧ Mod noF wZ.drew w' := fun W hW => by
            have := at_any (HX.out.rep.frame0 (((Hm.out.trans0 Hm2z.out).trans0 (Mod.refl _ _).drew).trans0 hW)) rfl rfl HX.out.om HX.out.ol (by omega) (e2 : Int) 0 0
            rw [Ht2.out] at this
            exact this.mono fun e w' h => ⟨h.1, hW.trans0 h.2⟩
          have Hcall := Lib.hid hcall
          clear hS hcall
          go_region_held3 (fun W => Mod noF wZ.drew W ∧ W.cell? ⟨L.blk 0 0, 0, none⟩ = some (.pointer (some ⟨L.blk 1 0, 0, none⟩)) ∧ W.cell? ⟨L.blk 1 0, 0, none⟩ = some (.slice (some ⟨L.blk 2 0, 0, none⟩) 64 sc) ∧ W.cell? ⟨w6.heap.size, 0, none⟩ = some (.int .i64 (e2 : Int)) ∧ W.cell? ⟨w6.heap.size, 1, none⟩ = some (.int .i64 0) ∧ W.cell? ⟨L.blk 2 0, e2 * 3, none⟩ = some (.slice (some ⟨L.blk 6 e2, 0, none⟩) 4 s2) ∧ W.cell? ⟨L.blk 6 e2, 0, none⟩ = some (.int .i64 1)) ((refine HS.out _ ?_; first | assumption | exact Mod.refl _ _)) (first | (go_at_call 35; go_split_ands; refine (Hcall.out _ ?_).mono ?_; assumption; rintro e w8 ⟨rfl, hm8⟩))
          all_goals
            clear HS Hcall
            go_wp2
            go_roundw
            case rel => exact ⟨k + 1, by omega, by go_num, (Hm.out.trans0 Hm2z.out).trans0 ((Mod.refl noF wZ).drew.trans0 (by assumption))⟩
            case measure => simp [intOf]; omega
    · have hd : decide ((k : Int) < (q.length : Int)) = false := by simp; omega
      have Hm := Lib.hid hm
      clear hm
      go_wp2
      go_ret
      exact ⟨rfl, Hm10.out.trans0 Hm.out⟩
end Go.Proofs.YtppihkneeolomaaGreatDoor
end
/- ClientBuilds: its walk. -/
section
namespace Go.Proofs.YtppihkneeolomaaGreatDoor
open Go.RowKit Qs Qh Qc
theorem clientBuilds_any (a0 : Int) (a1 : Option Addr) (len1 cap1 : Nat) (z1 : List (List ROp)) (w : World) (hw : (Lit.int .i64 a0).wf = true) (h0 : IsOps w a1 len1 cap1 z1) (hE : ∃ a, ErrsAt w a) (HK : KindsW w) :
    Calls Tryz.prog 6 #[.int .i64 a0, .slice a1 len1 cap1] w fun e w' => e = .returned (.bool true) ∧ Below w.heap.size w w' := by
  obtain ⟨H, hnil, h1, h2⟩ := h0
  obtain ⟨a, E⟩ := hE
  have key : Calls Tryz.prog 6 #[.int .i64 a0, .slice a1 len1 cap1] w fun e w' => e = .returned (.bool true) ∧ Mod noF w w' := by
    cases hL : longB z1 with
    | true => exact cb_long E HK H h1 h2 hL
    | false =>
      by_cases hk : (cfG z1).1 = 0
      · obtain ⟨q, rfl, g1, g6, g20, gp, -⟩ := good_rawC hk
        by_cases hf : 1 ≤ a0 ∧ a0 ≤ 4
        · obtain ⟨f, rfl⟩ : ∃ f : Nat, a0 = (f : Int) := ⟨a0.toNat, by omega⟩
          exact cb_good E HK H hnil (Nat.le_refl _) hL hk g1 g6 g20 gp (by omega) (by omega)
        · exact cb_flav E HK H hnil (Nat.le_refl _) hL hk (by simpa [rawC] using g6) hf
      · exact cb_bad E HK H hnil (Nat.le_refl _) hL hk
  exact key.mono fun e w' ⟨he, hm⟩ => ⟨he, hm.under (Nat.le_refl _) fun k hk => hk.elim⟩
end Go.Proofs.YtppihkneeolomaaGreatDoor
end
