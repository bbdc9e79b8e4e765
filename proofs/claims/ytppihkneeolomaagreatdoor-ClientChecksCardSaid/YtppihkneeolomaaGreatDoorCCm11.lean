/- Texts that belong together, joined. -/
import Derived.Test.YtppihkneeolomaaGreatDoorCCm10
import Derived.Test.YtppihkneeolomaaGreatDoorCCm8
import Derived.Test.YtppihkneeolomaaGreatDoorCCm7
import Derived.Test.YtppihkneeolomaaGreatDoorCCm9
set_option linter.unusedVariables false
set_option linter.unusedSimpArgs false
set_option linter.unusedSectionVars false
/- client.Build: its walk on lists that are right. -/
section
namespace Go.Proofs.YtppihkneeolomaaGreatDoor
open Go.RowKit Qs Qh Qc
variable {N f : Nat} {w w' : World} {v u : Value} {q : List (List COp)} {a : Nat → Addr}
theorem codeInfoC : (Tryz.prog.info? 71).map (fun i => (i.zero, i.size, i.bytes)) = some (some (.slice none 0 0), 1, 24) := by kernel_rfl
theorem gReg2_len (n t : Nat) : (gReg2 n t).length = 8 := rfl
/-- Build's state while its cells are laid. -/
structure CelS (w0 : World) (T2 B S : Nat) (rv iv : Value) (rb : Nat → Nat) (regs rows : List (List Int)) (w : World) : Prop where
  mod : Mod noF w0 w
  base : BaseAt w B iv rv
  init : ∃ ib, Rws S w.heap.size w iv rows ib
  regs : Rws (B + 1) S w rv regs rb
  res : w.heap[T2]? = some (.cells #[.int .i64 0, .slice none 0 0, .slice none 0 0] 32 (0, 0))
  o1 : w0.heap.size ≤ T2
  o2 : T2 < B
  o3 : B + 1 ≤ S
  o4 : S ≤ w.heap.size
theorem CelS.cell {w0 W : World} {T2 B S : Nat} {rv iv : Value} {rb : Nat → Nat} {regs rows : List (List Int)} (C : CelS w0 T2 B S rv iv rb regs rows w) (hM : Mod noF w W) (h64 : rows.length < 64) (l : List Int) (r : Nat) (hr : l.length ≠ 0 → w.heap.size ≤ r ∧ W.heap[r]? = some (.cells (l.map (Value.int .i64)).toArray 3 (0, 0))) :
    Calls Tryz.prog 45 #[.pointer (some ⟨B, 0, none⟩), rwU l r] W fun e w' => e = .returned (.int .i64 ((rows.length : Int) + 1)) ∧ ∃ iv', CelS w0 T2 B S rv iv' rb regs (rows ++ [l]) w' := by
  obtain ⟨ib, R⟩ := C.init
  have hsz := hM.size
  have ho := C.o1
  have ho2 := C.o2
  have ho3 := C.o3
  have ho4 := C.o4
  refine (cell_ok0 (lo0 := S) (Nat.le_refl _) (hM.heap C.base (fun e => e)) (R.keep hM (fun _ _ _ e => e)) hM.size (by omega) (by omega) h64 (fun h => ⟨by have := (hr h).1; omega, by have := (hr h).1; omega, .inl (hr h).1⟩) (fun h => (hr h).2)).mono ?_
  rintro e w3 ⟨rfl, iv', hB, hR, hm⟩
  have hiv : ∀ x, iv.ownBlock = some x → S ≤ x := fun x hx => (R.vin x hx).1
  have hs3 := hm.size
  refine ⟨rfl, iv', (C.mod.trans0 hM).trans hm fun x hx e => ?_, hB, hR, (C.regs.keep hM (fun _ _ _ e => e)).keep hm fun x h1 h2 e => ?_, hm.heap (hM.heap C.res (fun e => e)) fun e => ?_, ho, ho2, ho3, by omega⟩
  · have := C.mod.size
    rcases e with e | e
    · omega
    · have := hiv x e; omega
  · rcases e with e | e
    · omega
    · have := hiv x e; omega
  · rcases e with e | e
    · omega
    · have := hiv _ e; omega
set_option maxRecDepth 4000 in
set_option maxHeartbeats 16000000 in
theorem cbuild_ok (E : ErrsAt w a) (HK : KindsW w) (H : RIn N w v (rawC q)) (hN : N ≤ w.heap.size) (hc0 : (cfG (rawC q)).1 = 0) (h1 : 1 ≤ q.length) (h6 : q.length ≤ 6) (h20 : ∀ l ∈ q, l.length ≤ 20) (hf1 : 1 ≤ f) (hf4 : f ≤ 4) :
    Calls Tryz.prog 26 #[.int .i64 f, v] w fun e w' => ∃ iv rv cv vk, e = .returned (.tuple #[.agg #[.int .i64 64, iv, rv], cv, .nilIface]) ∧ Mod noF w w' ∧ Qh.RowsAt w' iv (cInit f q.length) ∧ Qh.RowsAt w' rv (cRegs q.length) ∧ CodesAt w' cv (cCodes f q) vk := by
  have hrl : (rawC q).length = q.length := by simp [rawC]
  have hrow : ∀ l ∈ rawC q, l.length ≤ 30 := fun l hl => by
    obtain ⟨l', hl', rfl⟩ := List.mem_map.1 hl
    have := h20 l' hl'
    rw [List.length_map]; omega
  have hck := fun w1 (hm : Mod noF w w1) => cCheck (E.keep hm) (HK.keep hm) (H.keep hm (fun _ _ e => e)) (by omega) hrow
  have Hck := Lib.hid hck
  obtain ⟨i0, hti, hz0, hz1, hz2⟩ := info_parts codeInfoC
  obtain ⟨oa, oc, rfl, hx⟩ := H
  rw [hrl] at *
  have hx' : ∀ (k : Nat) l, q[k]? = some l → ∃ (b : Nat) (off : Nat) (u : Value), oa.map (·.add k) = oa.map (·.add k) ∧ (rawC q)[k]? = some (l.map cR) := fun k l hl => ⟨0, 0, .nilIface, rfl, by unfold rawC; rw [List.getElem?_map, hl]; rfl⟩
  have hget : ∀ (k : Nat) l, q[k]? = some l → (rawC q)[k]? = some (l.map cR) := fun k l hl => by unfold rawC; rw [List.getElem?_map, hl]; rfl
  have Hx := Lib.hid hx
  have H20 := Lib.hid h20
  have Hget := Lib.hid hget
  have Hc0 := Lib.hid hc0
  clear hx h20 hx' hget hck E HK hrow hc0 hrl
  go_enter Tryz.func26, Tryz.ntmps26
  go_wp2_with fail
  have hq := ((Mod.refl noF w).alloc (.cells #[.int .i64 0, .slice none 0 0, .slice none 0 0] 32))
  refine (Hck.out _ hq).mono ?_
  rintro e wc ⟨ev, rfl, hEv, hmc⟩
  rw [Hc0.out] at hEv
  obtain rfl := hEv.nil
  have hres : wc.heap[w.heap.size]? = some (.cells #[.int .i64 0, .slice none 0 0, .slice none 0 0] 32 (0, 0)) := hmc.heap (heap_alloc_new w _) (fun e => e)
  have hmw := hq.trans0 hmc
  have hszc : w.heap.size + 1 ≤ wc.heap.size := by have := lt_of_block hres; omega
  have Hmw := Lib.hid hmw
  have Hres := Lib.hid hres
  clear hmc hmw hres hEv hq
  go_wp2_with fail
  refine (newBase_ok q.length h6 wc).mono ?_
  rintro e wb ⟨rv, rb, rfl, hmb, hB, R⟩
  have hbs := hmb.size
  have hb1 := lt_of_block hB
  have Hmb := Lib.hid hmb
  have HB := Lib.hid hB
  have HR := Lib.hid R
  clear hmb hB R
  go_wp2_with fail
  refine (grace_ok hf1 hf4 h1 h6 HB.out HR.out (by omega) (by omega) (by omega)).mono ?_
  rintro e w2 ⟨rfl, iv2, ib2, hB2, R2r, R2, hm2⟩
  have hs2 := hm2.size
  have hm2w := (Hmw.out.trans0 Hmb.out).trans hm2 (fun x hx e => by omega)
  have hres2 := hm2.heap (Hmb.out.heap Hres.out (fun e => e)) (fun e => by omega)
  have hC2 : CelS w w.heap.size wc.heap.size wb.heap.size rv iv2 rb (rowsF (gReg2 q.length) q.length) (rowsF (gOwnC f) q.length ++ [gHubC f q.length]) w2 := ⟨hm2w, hB2, ⟨_, R2⟩, R2r, hres2, Nat.le_refl _, by omega, by omega, hs2⟩
  have hl2 : (rowsF (gOwnC f) q.length ++ [gHubC f q.length]).length = q.length + 1 := by simp [rowsF_len]
  have HC2 := Lib.hid hC2
  clear hm2w hm2 hB2 R2 R2r hres2 HR HB Hmb Hres Hmw hC2
  generalize hrw : rowsF (gOwnC f) q.length ++ [gHubC f q.length] = rows0 at *
  go_wp2_with fail
  refine (HC2.out.cell ((Mod.refl noF w2).alloc _) (by omega) [1] w2.heap.size (fun _ => ⟨Nat.le_refl _, heap_alloc_new w2 _⟩)).mono ?_
  rintro e w3 ⟨he3, iv3, hC3⟩
  have e3 : (rows0.length : Int) + 1 = (q.length : Int) + 2 := by omega
  rw [e3] at he3
  subst he3
  have HC3 := Lib.hid hC3
  clear hC3 HC2
  go_wp2_with fail
  refine (HC3.out.cell (Mod.refl noF w3) (by simp; omega) [] 0 (fun h => absurd rfl h)).mono ?_
  rintro e w4 ⟨he4, iv4, hC4⟩
  have e4 : ((rows0 ++ [[1]]).length : Int) + 1 = (q.length : Int) + 3 := by simp; omega
  rw [e4] at he4
  subst he4
  have HC4 := Lib.hid hC4
  clear hC4 HC3
  go_wp2_with fail
  refine (HC4.out.cell (Mod.refl noF w4) (by simp; omega) [] 0 (fun h => absurd rfl h)).mono ?_
  rintro e w5 ⟨he5, iv5, hC5⟩
  have e5 : ((rows0 ++ [[1]] ++ [[]]).length : Int) + 1 = (q.length : Int) + 4 := by simp; omega
  rw [e5] at he5
  subst he5
  have HC5 := Lib.hid hC5
  clear hC5 HC4
  go_wp2_with fail
  refine (HC5.out.cell ((Mod.refl noF w5).alloc _) (by simp; omega) [(q.length : Int) + 2, (q.length : Int) + 3, (q.length : Int) + 4] w5.heap.size (fun _ => ⟨Nat.le_refl _, heap_alloc_new w5 _⟩)).mono ?_
  rintro e w6 ⟨he6, iv, hC6⟩
  have e6 : ((rows0 ++ [[1]] ++ [[]] ++ [[]]).length : Int) + 1 = (q.length : Int) + 5 := by simp; omega
  rw [e6] at he6
  subst he6
  rw [← hrw] at hC6
  have HC6 := Lib.hid hC6
  clear hC6 HC5 e3 e4 e5 e6 hl2
  obtain ⟨ib, R6⟩ := HC6.out.init
  have ho := HC6.out.o1
  have ho2 := HC6.out.o2
  have ho3 := HC6.out.o3
  have ho4 := HC6.out.o4
  have hrel : BldRel w ⟨w.heap.size, wc.heap.size, wc.heap.size + 1, wb.heap.size, wb.heap.size, w6.heap.size, w6.heap.size⟩ iv rv rb ib (cCs f q) (cInit f q.length) (rowsF (mixF (gReg3 q.length) (gReg2 q.length) 0) q.length) 0 (.slice none 0 0) (fun _ => .nilIface) w6 :=
    ⟨HC6.out.mod, Nat.le_refl _, HC6.out.res, HC6.out.base, by rw [mix_zero]; exact HC6.out.regs, R6, Cds.nil _ _ _ _⟩
  obtain ⟨ra, rc, hrv, -⟩ := HC6.out.regs.cell
  rw [rowsF_len] at hrv
  subst hrv
  obtain ⟨p, hp⟩ : ∃ p : Plc, p = ⟨w.heap.size, wc.heap.size, wc.heap.size + 1, wb.heap.size, wb.heap.size, w6.heap.size, w6.heap.size⟩ := ⟨_, rfl⟩
  have hP : p.Ok w := by subst hp; exact ⟨Nat.le_refl _, by simp only; omega, by simp only; omega, by simp only; omega, Nat.le_refl _, by simp only; omega, Nat.le_refl _⟩
  rw [← hp] at hrel
  have hpB : wc.heap.size = p.B := by rw [hp]
  have hpT : w.heap.size = p.T2 := by rw [hp]
  have HP := Lib.hid hP
  have Hrel := Lib.hid hrel
  clear hrel hP hp R6 HC6 Hck
  go_wp2
  go_loopw [11, 45] (fun c i wr => ∃ (k : Nat) (vk : Nat → Value), k ≤ q.length ∧ i = .int .i64 k ∧ BldRel w p iv (.slice ra q.length rc) rb ib (cCs f q) (cInit f q.length) (rowsF (mixF (gReg3 q.length) (gReg2 q.length) k) q.length) k c vk wr) (fun _ i _ => q.length - (intOf i).toNat)
  case atStart => exact ⟨0, _, Nat.zero_le _, rfl, Hrel.out⟩
  case round =>
    generalize wr = wo at *
    obtain ⟨k, vk, hk, rfl, hR⟩ := hrel
    obtain ⟨ra', rc', hrv, hrx⟩ := hR.regs.cell
    rw [rowsF_len] at hrv
    cases hrv
    obtain ⟨ca, cb, cc, rfl⟩ := slice_of_own hR.cds.own
    by_cases hlt : k < q.length
    · have hd : decide ((k : Int) < (q.length : Int)) = true := by simp; omega
      have hki : (k : Int) < (q.length : Int) := by omega
      obtain ⟨l, hl⟩ : ∃ l, q[k]? = some l := ⟨_, List.getElem?_eq_getElem hlt⟩
      obtain ⟨b, off, u, rfl, hb, hc, hrow⟩ := Hx.out k _ (Hget.out k l hl)
      have hc2 := hR.mod.cell hc (fun e => e)
      have hlm : (l.map cR).length = l.length := List.length_map _
      obtain ⟨ua, uc, rfl, hxx⟩ := hrow.keep hR.mod (fun _ _ e => e)
      have hxw : ∀ wx, Mod noF w wx → RRow N wx (.slice ua (l.map cR).length uc) (l.map cR) := fun wx h => hrow.keep h (fun _ _ e => e)
      obtain ⟨gb, rfl, hgb, hrk⟩ := hrx k _ (mix_get hlt)
      obtain ⟨hR1, hrow8, hlo⟩ := hR.store (x := (q.length : Int) + 5) (j := 5) HP.out (mix_get hlt) (by rw [gReg2_len]; omega)
      rw [gReg_step, mix_set hlt] at hR1
      have b2 : wo.cell? ⟨p.B, 2, none⟩ = some (.slice (some ⟨gb, 0, none⟩) q.length rc) := by rw [cell_of_heap hR.base]; rfl
      have b3 : wo.cell? ⟨gb, k, none⟩ = some (.slice (some ⟨rb k, 0, none⟩) 8 8) := hrk
      have b4 : wo.cell? ⟨rb k, 5, none⟩ = some (.int .i64 0) := by rw [cell_of_heap hrow8]; rfl
      have b5 := free_of_heap hrow8 5
      have h20l := H20.out l (List.mem_of_getElem? hl)
      have hsz1 : (wo.setCell ⟨rb k, 5, none⟩ (.int .i64 ((q.length : Int) + 5))).heap.size = wo.heap.size := by simp [World.setCell]
      rw [hlm] at hc2
      have HR := Lib.hid hR
      have HR1 := Lib.hid hR1
      have Hxw := Lib.hid hxw
      have Hl := Lib.hid hl
      have Hsz1 := Lib.hid hsz1
      clear hR hR1 hxw hl hxx hrow hc hrk hrow8 hrx hsz1
      go_wp2
      go_name_world wm hwm
      have hM0 : MkA wo.heap.size False (f : Nat) (k : Nat) 1 wm wo.heap.size (.slice none 0 0) [] 0 := by
        have hh : wm.heap[wo.heap.size]? = some (.cells #[.slice none 0 0, .int .i64 f, .int .i64 k, .int .i64 1, .int .i64 0] 101 (0, 0)) := by
          rw [← hwm, ← Hsz1.out]; exact heap_alloc_new _ _
        exact ⟨⟨⟨by rw [cell_of_heap hh]; rfl, free_of_heap hh 0, InsRow.nil _ _, (fun g h => by cases h), lt_of_block hh⟩, by rw [cell_of_heap hh]; rfl, free_of_heap hh 4⟩, by rw [cell_of_heap hh]; rfl, by rw [cell_of_heap hh]; rfl, by rw [cell_of_heap hh]; rfl, Nat.le_refl _, (fun g h => by cases h), Nat.le_of_lt (lt_of_block hh), fun h => h.elim⟩
      have hq0 : Mod noF (wo.setCell ⟨rb k, 5, none⟩ (.int .i64 ((q.length : Int) + 5))) wm := by rw [← hwm]; exact (Mod.refl noF _).alloc _
      have hFR : FreshH wo.heap.size False (f : Nat) (k : Nat) 1 98 := freshS (fun h => h.elim)
      have HFR := Lib.hid hFR
      have HM0 := Lib.hid hM0
      have Hq0 := Lib.hid hq0
      clear hM0 hq0 hwm hFR
      go_loopw [66] (fun i wr => ∃ (j : Nat) (v : Value), j ≤ l.length ∧ i = .int .i64 j ∧ MkA wo.heap.size False (f : Nat) (k : Nat) 1 wr wo.heap.size v (copsCode f k 0 (l.take j)) (clabs (l.take j)) ∧ Mod noF (wo.setCell ⟨rb k, 5, none⟩ (.int .i64 ((q.length : Int) + 5))) wr) (fun i _ => l.length - (intOf i).toNat)
      case atStart => exact ⟨0, .slice none 0 0, Nat.zero_le _, rfl, HM0.out, Hq0.out⟩
      case round =>
        obtain ⟨j, v, hj, rfl, hMk, hmq⟩ := hrel
        by_cases hlj : j < l.length
        · have hd2 : decide ((j : Int) < (l.length : Int)) = true := by simp; omega
          have hji : (j : Int) < (l.length : Int) := by omega
          obtain ⟨x, hxl⟩ : ∃ x, l[j]? = some x := ⟨_, List.getElem?_eq_getElem hlj⟩
          obtain ⟨ua', uc', e', hxx⟩ := Hxw.out wr (HR1.out.mod.trans0 hmq)
          cases e'
          obtain ⟨ub, uoff, rfl, hub, h0, h1⟩ := hxx j (cR x) (by rw [List.getElem?_map, hxl]; rfl)
          have hlen := copsCode_len hf4 k (l.take j) 0
          have hlab := clabs_le (l.take j)
          rw [List.length_take] at hlen hlab
          have htk : l.take (j + 1) = l.take j ++ [x] := by rw [List.take_add_one, hxl]; rfl
          have hsn := copsCode_snoc f k x (l.take j) 0
          have hsl := clabs_snoc x (l.take j)
          rw [← htk, Nat.zero_add] at hsn
          rw [← htk] at hsl
          have hcal := cop_any x HFR.out (fun h => h.elim) hf1 hf4 (by omega) (hMk.quiet ((Mod.refl noF wr).alloc (.cells #[.string (cK x), .int .i64 (cN x)] 88))) (by omega) (by omega) (by omega)
          have Hcal := Lib.hid hcal
          have HMk := Lib.hid hMk
          have Hmq := Lib.hid hmq
          have Hsn := Lib.hid hsn
          have Hsl := Lib.hid hsl
          have h0' : wr.cell? ⟨ub, uoff + j * 2, none⟩ = some (.string (cK x)) := h0
          have h1' : wr.cell? ⟨ub, uoff + j * 2 + 1, none⟩ = some (.int .i64 (cN x)) := h1
          clear hMk hmq hxl hxx htk hsn hsl hlen hlab hcal h0 h1
          generalize hxk : cK x = xk at *
          generalize hxn : cN x = xn at *
          go_wp2_with fail
          refine Hcal.out.mono ?_
          rintro e wz ⟨rfl, v', hMz, hSz⟩
          have HMz := Lib.hid hMz
          have HSz := Lib.hid hSz
          clear hMz hSz Hcal
          go_wp2
          go_roundw
          case rel =>
            refine ⟨j + 1, v', by omega, by go_num, by rw [Hsn.out, Hsl.out]; exact HMz.out, ((Hmq.out.alloc _).trans HSz.out.mod fun x hx e => ?_)⟩
            have h9 := Hsz1.out
            rcases e with e | e
            · omega
            · have := HMk.out.lv x e; omega
          case measure => simp [intOf]; omega
        · have hd2 : decide ((j : Int) < (l.length : Int)) = false := by simp; omega
          obtain rfl : j = l.length := by omega
          rw [List.take_length] at hMk
          have hlen := copsCode_len hf4 k l 0
          have hlab := clabs_le l
          have hcal := part3_ok HFR.out (fun h => h.elim) hf1 hf4 hMk (by omega) (by omega) (by omega)
          have Hcal := Lib.hid hcal
          have HMk := Lib.hid hMk
          have Hmq := Lib.hid hmq
          clear hMk hmq hcal
          go_wp2_with fail
          refine Hcal.out.mono ?_
          rintro e w9 ⟨rfl, v9, hM9, hS9⟩
          have hlen9 : (copsCode f k 0 l ++ preC (Qu.labN (clabs l + 1)) (gcode f 3)).length ≤ 2000 := by
            have : (preC (Qu.labN (clabs l + 1)) (gcode f 3)).length ≤ 70 := part_len2 hf4 (show 3 < 5 by decide) (clabs l)
            rw [List.length_append]; omega
          have hm9 : Mod noF (wo.setCell ⟨rb k, 5, none⟩ (.int .i64 ((q.length : Int) + 5))) w9 := Hmq.out.trans hS9.mod fun x hx e => by
            have h9 := Hsz1.out
            rcases e with e | e
            · omega
            · have := HMk.out.lv x e; omega
          have HM9 := Lib.hid hM9
          have Hm9 := Lib.hid hm9
          clear hM9 hS9 hm9 Hcal
          go_wp2_with fail
          refine (op0_chain (Chain.start HM9.out.m.emit) (by omega) 20 _ rfl).mono ?_
          rintro e wz ⟨rfl, hbz, v', E, G⟩
          have hS := HR.out.size
          have h9 := Hsz1.out
          have hqz : Mod noF (wo.setCell ⟨rb k, 5, none⟩ (.int .i64 ((q.length : Int) + 5))) wz := Hm9.out.trans G.mod fun x hx e => by
            rcases e with e | e
            · omega
            · have := HM9.out.lv x e; omega
          have hcode := E.row.code
          have hown : ∀ g, v'.ownBlock = some g → p.S ≤ g ∧ g < wz.heap.size ∧ (Value.slice ca cb cc).ownBlock ≠ some g := fun g hg => by
            have h10 := HM9.out.hi
            have h11 : wo.heap.size ≤ g := by
              rcases G.new g hg with e | e
              · exact HM9.out.lv g e
              · omega
            refine ⟨by omega, E.row.lt hg, fun e => ?_⟩
            have := (World.ownsRow.lt HR.out.cds.own _ e).2
            omega
          obtain ⟨xa, xc, rfl, -, -⟩ := E.row.slice
          have e0 := E.cell
          simp only [List.length_append, List.length_singleton] at hcode hown e0
          have hcs : cCs f q k = (copsCode f k 0 l ++ preC (Qu.labN (clabs l + 1)) (gcode f 3)) ++ [⟨20, 0, 0, 0, []⟩] := by rw [cCs_get Hl.out]; rfl
          rw [← hcs] at hcode
          have HRz := Lib.hid (HR1.out.quiet hqz)
          have Hcode := Lib.hid hcode
          have Hown := Lib.hid hown
          have hszz : p.S ≤ wz.heap.size := by have := HRz.out.size; omega
          have hbnd : k + 1 ≤ maxLen := by unfold maxLen; omega
          clear E G hcode hown hqz hcs hbz
          go_wp2_with (at_builtin; refine wpList_append_mine _ rfl (.tmp 76) (.tmp 84) 33 rfl 71 i0 (.slice none 0 0) 1 24 Tryz.underlying33 hti hz0 hz1 hz2 rfl (by decide) _ k ((List.range k).map vk) rfl (by exact World.ownsRow.alloc HRz.out.cds.own _) ⟨wz.heap.size, 0, none⟩ 1 1 [.slice xa _ xc] rfl rfl (by exact new_cells_at _ _ _ (by simp)) (one_row _ rfl) hbnd (by omega) ?_; intro v4 w7 hown hgr hfr _; obtain ⟨ya, yb, yc, rfl⟩ := slice_of_own hown; have Hown4 := Lib.hid hown; have Hgr := Lib.hid hgr; have Hfr := Lib.hid hfr; clear hown hgr hfr)
          go_wp2
          go_roundw
          case rel =>
            exact ⟨k + 1, _, by omega, by go_num, (HRz.out.quiet ((Mod.refl noF wz).alloc _)).push HP.out (Hcode.out.frame ((Mod.refl noF wz).alloc _) (fun _ _ e => e)) (fun g hg => ⟨(Hown.out g hg).1, by have := (Hown.out g hg).2.1; simp; omega, (Hown.out g hg).2.2⟩) Hown4.out Hgr.out Hfr.out⟩
          case measure => simp [intOf]; omega
    · have hd : decide ((k : Int) < (q.length : Int)) = false := by simp; omega
      obtain rfl : k = q.length := by omega
      rw [mix_all] at hR
      obtain ⟨ia, ic, hiv, -⟩ := hR.init.cell
      have x0 : wo.cell? ⟨p.B, 0, none⟩ = some (.int .i64 64) := by rw [cell_of_heap hR.base]; rfl
      have x1 : wo.cell? ⟨p.B, 1, none⟩ = some iv := by rw [cell_of_heap hR.base]; rfl
      have x2 : wo.cell? ⟨p.B, 2, none⟩ = some (.slice ra q.length rc) := by rw [cell_of_heap hR.base]; rfl
      have y0 : wo.cell? ⟨p.T2, 0, none⟩ = some (.int .i64 0) := by rw [cell_of_heap hR.res]; rfl
      have y1 : wo.cell? ⟨p.T2, 1, none⟩ = some (.slice none 0 0) := by rw [cell_of_heap hR.res]; rfl
      have y2 : wo.cell? ⟨p.T2, 2, none⟩ = some (.slice none 0 0) := by rw [cell_of_heap hR.res]; rfl
      have yf := free_of_heap hR.res
      have yf0 := yf 0
      have yf1 := yf 1
      have yf2 := yf 2
      rw [hiv, cInit_len] at x1
      have HR := Lib.hid hR
      clear hR hrx yf
      go_wp2
      obtain ⟨wf, hwf⟩ : ∃ wf, wf = (((wo.setCell ⟨p.T2, 0, none⟩ (.int .i64 64)).setCell ⟨p.T2, 1, none⟩ (.slice ia (q.length + 5) ic)).setCell ⟨p.T2, 2, none⟩ (.slice ra q.length rc)) := ⟨_, rfl⟩
      have hMf : Mod (fun x => x = p.T2) wo wf := by rw [hwf]; exact (((Mod.refl (fun x => x = p.T2) wo).setCell (fun _ => rfl) _).setCell (fun _ => rfl) _).setCell (fun _ => rfl) _
      have hh : wf.heap[p.T2]? = some (.cells #[.int .i64 64, .slice ia (q.length + 5) ic, .slice ra q.length rc] 32 (0, 0)) := by
        rw [hwf, Qh.heap_setCell_same (Qh.heap_setCell_same (Qh.heap_setCell_same HR.out.res 0 _) 1 _) 2 _]; rfl
      have z0 : wf.cell? ⟨p.T2, 0, none⟩ = some (.int .i64 64) := by rw [cell_of_heap hh]; rfl
      have z1 : wf.cell? ⟨p.T2, 1, none⟩ = some (.slice ia (q.length + 5) ic) := by rw [cell_of_heap hh]; rfl
      have z2 : wf.cell? ⟨p.T2, 2, none⟩ = some (.slice ra q.length rc) := by rw [cell_of_heap hh]; rfl
      rw [← hwf]
      obtain ⟨p1, p2, p3, p4, p5, p6, p7⟩ := HP.out
      refine bodyPost_ret (v := .tuple #[.agg #[.int .i64 64, .slice ia (q.length + 5) ic, .slice ra q.length rc], .slice ca cb cc, .nilIface]) (by simp [results, Tryz.results26, go_sem, z0, z1, z2]) rfl ⟨_, _, _, vk, rfl, ?_, ?_, ?_, ?_⟩
      · exact HR.out.mod.trans hMf fun x hx e => by omega
      · have := HR.out.init.keep hMf (fun x h1 h2 e => by omega)
        rw [hiv, cInit_len] at this
        exact this.rows (cInit_rows _ _)
      · have := HR.out.regs.keep hMf (fun x h1 h2 e => by omega)
        exact this.rows (fun l hl => by
          obtain ⟨i, -, rfl⟩ := List.mem_map.1 hl
          simp [gReg3])
      · exact (HR.out.cds.keep hMf (fun x h1 h2 e => by omega)).codes
end Go.Proofs.YtppihkneeolomaaGreatDoor
end
/- quiescentlaw2.built: a client is built. -/
section
namespace Go.Proofs.YtppihkneeolomaaGreatDoor
open Go.RowKit Qs Qh Qc
variable {w w' : World} {a : Nat → Addr}
def bq : List (List COp) := [[.enter, .read, .leave]]
theorem bq_fine : (cfG (rawC bq)).1 = 0 := by decide +kernel
theorem bq_nil : cfG [[]] = (0, -1) := by decide +kernel
set_option maxRecDepth 4000 in
set_option maxHeartbeats 8000000 in
theorem built_ok (E : ErrsAt w a) (HK : KindsW w) : Calls Tryz.prog 23 #[] w fun e w' => e = .returned (.bool true) ∧ Mod noF w w' := by
  have HE := Lib.hid E
  have HKW := Lib.hid HK
  clear E HK
  go_enter Tryz.func23, Tryz.ntmps23
  go_wp2_with fail
  have hq2 : Mod noF w _ := ((Mod.refl noF w).alloc (.cells #[.string kEnter, .int .i64 0, .string kRead, .int .i64 0, .string kLeave, .int .i64 0] 88)).alloc (.cells #[.slice (some ⟨w.heap.size, 0, none⟩) 3 3] 86)
  have hin : RIn (w.heap.size + 2) ((w.alloc (.cells #[.string kEnter, .int .i64 0, .string kRead, .int .i64 0, .string kLeave, .int .i64 0] 88)).alloc (.cells #[.slice (some ⟨w.heap.size, 0, none⟩) 3 3] 86)) (.slice (some ⟨w.heap.size + 1, 0, none⟩) 1 1) (rawC bq) := by
    have g1 := heap_alloc_new (w.alloc (.cells #[.string kEnter, .int .i64 0, .string kRead, .int .i64 0, .string kLeave, .int .i64 0] 88)) (.cells #[.slice (some ⟨w.heap.size, 0, none⟩) 3 3] 86)
    have g0 := ((Mod.refl noF (w.alloc (.cells #[.string kEnter, .int .i64 0, .string kRead, .int .i64 0, .string kLeave, .int .i64 0] 88))).alloc (.cells #[.slice (some ⟨w.heap.size, 0, none⟩) 3 3] 86)).heap (heap_alloc_new w (.cells #[.string kEnter, .int .i64 0, .string kRead, .int .i64 0, .string kLeave, .int .i64 0] 88)) (fun e => e)
    have hs : (w.alloc (.cells #[.string kEnter, .int .i64 0, .string kRead, .int .i64 0, .string kLeave, .int .i64 0] 88)).heap.size = w.heap.size + 1 := by simp
    rw [hs] at g1
    refine ⟨_, 1, rfl, fun i l hi => ?_⟩
    match i, hi with
    | 0, hi =>
      cases hi
      refine ⟨w.heap.size + 1, 0, .slice (some ⟨w.heap.size, 0, none⟩) 3 3, rfl, by omega, by rw [cell_of_heap g1]; rfl, _, 3, rfl, fun i x hi => ?_⟩
      match i, hi with
      | 0, hi => cases hi; exact ⟨w.heap.size, 0, rfl, by omega, by rw [cell_of_heap g0]; rfl, by rw [cell_of_heap g0]; rfl⟩
      | 1, hi => cases hi; exact ⟨w.heap.size, 0, rfl, by omega, by rw [cell_of_heap g0]; rfl, by rw [cell_of_heap g0]; rfl⟩
      | 2, hi => cases hi; exact ⟨w.heap.size, 0, rfl, by omega, by rw [cell_of_heap g0]; rfl, by rw [cell_of_heap g0]; rfl⟩
      | i + 3, hi => simp at hi
    | i + 1, hi => simp [rawC, bq] at hi
  refine (cbuild_ok (f := 1) (q := bq) (HE.out.keep hq2) (HKW.out.keep hq2) hin (by simp) bq_fine (by decide) (by decide) (by decide) (by decide) (by decide)).mono ?_
  rintro e w3 ⟨iv, rv, cv, vk, rfl, hm3, hI, hR, hC⟩
  obtain ⟨ia, ic, rfl, -⟩ := hI
  obtain ⟨ra, rc, rfl, -⟩ := hR
  obtain ⟨ca, cc, rfl, -⟩ := hC
  have Hm3 := Lib.hid (hq2.trans0 hm3)
  rw [cInit_len, cRegs_len, cCodes_len]
  rw [show bq.length = 1 from rfl]
  clear hin hm3 hq2
  go_wp2_with fail
  have hq5 : Mod noF w3 _ := (((Mod.refl noF w3).alloc (.cells #[.int .i64 64, .slice ia (1 + 5) ic, .slice ra 1 rc] 32)).alloc (.cells #[] 88)).alloc (.cells #[.slice (some ⟨w3.heap.size + 1, 0, none⟩) 0 0] 86)
  have hin : RIn (w3.heap.size + 3) (((w3.alloc (.cells #[.int .i64 64, .slice ia (1 + 5) ic, .slice ra 1 rc] 32)).alloc (.cells #[] 88)).alloc (.cells #[.slice (some ⟨w3.heap.size + 1, 0, none⟩) 0 0] 86)) (.slice (some ⟨w3.heap.size + 2, 0, none⟩) 1 1) [[]] := by
    have g1 := heap_alloc_new ((w3.alloc (.cells #[.int .i64 64, .slice ia (1 + 5) ic, .slice ra 1 rc] 32)).alloc (.cells #[] 88)) (.cells #[.slice (some ⟨w3.heap.size + 1, 0, none⟩) 0 0] 86)
    have hs : ((w3.alloc (.cells #[.int .i64 64, .slice ia (1 + 5) ic, .slice ra 1 rc] 32)).alloc (.cells #[] 88)).heap.size = w3.heap.size + 2 := by simp
    rw [hs] at g1
    refine ⟨_, 1, rfl, fun i l hi => ?_⟩
    match i, hi with
    | 0, hi =>
      cases hi
      exact ⟨w3.heap.size + 2, 0, .slice (some ⟨w3.heap.size + 1, 0, none⟩) 0 0, rfl, by omega, by rw [cell_of_heap g1]; rfl, _, 0, rfl, fun i x hi => by simp at hi⟩
    | i + 1, hi => simp at hi
  refine (cCheck ((HE.out.keep Hm3.out).keep hq5) ((HKW.out.keep Hm3.out).keep hq5) hin (by decide) (by decide)).mono ?_
  rintro e w6 ⟨ev, rfl, hEv, hm6⟩
  rw [bq_nil] at hEv
  obtain rfl := hEv.nil
  have Hm6 := Lib.hid (Hm3.out.trans0 (hq5.trans0 hm6))
  clear hm6 hq5 hEv hin
  go_wp2
  go_ret
  exact ⟨rfl, Hm6.out⟩
end Go.Proofs.YtppihkneeolomaaGreatDoor
end
/- ClientChecks: its walk. -/
section
namespace Go.Proofs.YtppihkneeolomaaGreatDoor
open Go.RowKit Qs Qh
variable {N : Nat} {w w' : World} {v u : Value} {ll : List (List ROp)} {a : Nat → Addr}
theorem longB_false2 {ll : List (List ROp)} (h : longB ll = false) : ll.length ≤ 10 ∧ ∀ l ∈ ll, l.length ≤ 30 := by
  unfold longB at h
  simp only [Bool.or_eq_false_iff, decide_eq_false_iff_not] at h
  refine ⟨by omega, fun l hl => rowLong_false ?_⟩
  have := List.any_eq_false.1 h.2 l hl
  simpa using this
theorem cSafe_eq (E : ErrsAt w a) (HK : KindsW w) (H : RIn N w v ll) (hlen : ll.length ≤ 10) (hrow : ∀ l ∈ ll, l.length ≤ 30) :
    Calls Tryz.prog 36 #[v] w fun e w' => ∃ ev, e = .returned (.tuple #[.bool (csG ll), ev]) ∧ ErrIs a w' ev (cfG ll).1 (cfG ll).2 ∧ Mod noF w w' := by
  have Hcall := Lib.hid (ccheck E HK H hlen hrow)
  generalize csG ll = sb at *
  clear E HK H hrow
  go_enter Tryz.func36, Tryz.ntmps36
  go_wp2_with fail
  refine Hcall.out.mono ?_
  rintro e w' ⟨ev, rfl, hEv, hm⟩
  have HEv := Lib.hid hEv
  have Hm := Lib.hid hm
  clear hEv hm
  go_wp2
  go_ret2
  exact ⟨_, rfl, HEv.out, Hm.out⟩
theorem cc_long (E : ErrsAt w a) (HK : KindsW w) (H : RIn N w v ll) (hll : ll.length ≤ maxLen) (hrl : ∀ l ∈ ll, l.length ≤ maxLen) (hL : longB ll = true) :
    Calls Tryz.prog 7 #[v] w fun e w' => e = .returned (.bool true) ∧ Mod noF w w' := by
  have hlg := fun w' (hm : Mod noF w w') => long2_any (H.keep hm (fun _ _ e => e)) hll hrl
  rw [hL] at hlg
  have Hlg := Lib.hid hlg
  have Hb := Lib.hid (built_ok E HK)
  obtain ⟨oa, oc, rfl, -⟩ := H
  clear hlg hrl E HK
  go_enter Tryz.func7, Tryz.ntmps7
  go_wp2_with fail
  refine Hb.out.mono ?_
  rintro e w1 ⟨rfl, hm1⟩
  have Hm1 := Lib.hid hm1
  clear hm1
  go_wp2_with fail
  refine (Hlg.out _ Hm1.out).mono ?_
  rintro e w1 ⟨rfl, rfl⟩
  go_wp2
  go_ret
  exact ⟨rfl, Hm1.out⟩
theorem nilOk_keep {oa : Option Addr} {n oc : Nat} (HH : RIn N w (.slice oa n oc) ll) (hn : ll.length = n) (hnil : NilOk w (.slice oa n oc)) {w1 : World} (hm : Mod noF w w1) : NilOk w1 (.slice oa n oc) := fun b off n' m i k c e hi hc => by
  obtain ⟨a2, c2, e2, hx⟩ := HH
  rw [hn] at e2
  cases e2
  cases e
  obtain ⟨l, hl⟩ : ∃ l, ll[i]? = some l := ⟨_, List.getElem?_eq_getElem (by omega)⟩
  obtain ⟨b2, off2, u2, e3, hb2, hc2, -⟩ := hx i l hl
  cases e3
  have := hm.cell hc2 (fun e => e)
  rw [this] at hc
  cases hc
  exact hnil b off _ _ i k c rfl hi hc2
set_option maxRecDepth 4000 in
set_option maxHeartbeats 16000000 in
theorem cc_main (E : ErrsAt w a) (HK : KindsW w) (H : RIn N w v ll) (hnil : NilOk w v) (hN : N ≤ w.heap.size) (hL : longB ll = false) :
    Calls Tryz.prog 7 #[v] w fun e w' => e = .returned (.bool true) ∧ Mod noF w w' := by
  obtain ⟨h10, h30⟩ := longB_false2 hL
  have hlg := fun w' (hm : Mod noF w w') => long2_any (H.keep hm (fun _ _ e => e)) (by unfold maxLen; omega) (fun l hl => by have := h30 l hl; unfold maxLen; omega)
  rw [hL] at hlg
  have Hlg := Lib.hid hlg
  have Hb := Lib.hid (built_ok E HK)
  have HH := Lib.hid H
  obtain ⟨oa, oc, rfl, -⟩ := H
  have Hnil := Lib.hid (fun w1 (hm : Mod noF w w1) => nilOk_keep HH.out rfl hnil hm)
  have HE := Lib.hid E
  have HKW := Lib.hid HK
  have H30 := Lib.hid h30
  have hff := faultB_self (cfG ll).1 (cfG ll).2
  have Hcs : Hid (csG ll = csG ll) := Lib.hid rfl
  clear hlg hnil E HK h30 hL
  go_enter Tryz.func7, Tryz.ntmps7
  go_wp2_with fail
  refine Hb.out.mono ?_
  rintro e w1 ⟨rfl, hm1⟩
  have Hm1 := Lib.hid hm1
  clear hm1 Hb
  go_wp2_with fail
  refine (Hlg.out _ Hm1.out).mono ?_
  rintro e w1 ⟨rfl, rfl⟩
  clear Hlg
  go_wp2_with fail
  refine (opsOf2_ok (HH.out.keep Hm1.out (fun _ _ e => e)) (Hnil.out _ Hm1.out) h10 H30.out).mono ?_
  rintro e w3 ⟨x, rfl, hm3, hR3⟩
  have Hm3 := Lib.hid (Hm1.out.trans0 hm3)
  have HR3 := Lib.hid hR3
  obtain ⟨xa, xc, rfl, -⟩ := hR3
  clear hm3
  go_wp2_with fail
  refine (cSafe_eq (HE.out.keep Hm3.out) (HKW.out.keep Hm3.out) HR3.out h10 H30.out).mono ?_
  rintro e w4 ⟨ev, rfl, hE4, hm4⟩
  have Hm4 := Lib.hid (Hm3.out.trans0 hm4)
  have HE4 := Lib.hid hE4
  obtain ⟨sb, hsb⟩ : ∃ sb, csG ll = sb := ⟨_, rfl⟩
  rw [hsb]
  have Hsb := Lib.hid hsb
  clear hm4 hE4 HR3 hsb
  go_wp2_with fail
  refine (cfault_ok (HH.out.keep Hm4.out (fun _ _ e => e)) h10 H30.out).mono ?_
  rintro e w5 ⟨rfl, hm5⟩
  rw [Hsb.out]
  have Hm5 := Lib.hid (Hm4.out.trans0 hm5)
  have HE5 := Lib.hid (HE4.out.keep hm5 (fun _ _ e => e))
  clear hm5 HE4
  go_wp2
  go_name_world wn hwn
  have hwn5 : Mod noF w5 wn := by rw [← hwn]; exact (Mod.refl noF w5).alloc _
  have t0 : wn.cell? ⟨w5.heap.size, 0, none⟩ = some (.int .i64 (cfG ll).1) := by rw [← hwn]; simp
  have t1 : wn.cell? ⟨w5.heap.size, 1, none⟩ = some (.int .i64 (cfG ll).2) := by rw [← hwn]; simp
  have hmn : Mod noF w wn.drew := (Hm5.out.trans0 hwn5).drew
  have hm5n : Mod noF w5 wn.drew := hwn5.drew
  have hco : ∀ W, Mod noF wn.drew W → Calls Tryz.prog 27 #[.slice oa ll.length oc] W fun e w' => ∃ x, e = .returned x ∧ RIn w'.heap.size w' x ll ∧ Mod noF wn.drew w' := fun W hW =>
    (opsOf2_ok (HH.out.keep (hmn.trans0 hW) (fun _ _ e => e)) (Hnil.out _ (hmn.trans0 hW)) h10 H30.out).mono fun e w' ⟨x, h1, h2, h3⟩ => ⟨x, h1, h3, hW.trans0 h2⟩
  have hcc : ∀ W x, Mod noF wn.drew W → RIn W.heap.size W x ll → Calls Tryz.prog 37 #[x] W fun e w' => ∃ ev, e = .returned ev ∧ ErrIs a w' ev (cfG ll).1 (cfG ll).2 ∧ Mod noF wn.drew w' := fun W x hW hR =>
    (cCheck (HE.out.keep (hmn.trans0 hW)) (HKW.out.keep (hmn.trans0 hW)) hR h10 H30.out).mono fun e w' ⟨x, h1, h2, h3⟩ => ⟨x, h1, h2, hW.trans0 h3⟩
  have hcf : ∀ W x, Mod noF wn.drew W → ErrIs a W x (cfG ll).1 (cfG ll).2 → Calls Tryz.prog 33 #[x, .agg #[.int .i64 (cfG ll).1, .int .i64 (cfG ll).2]] W fun e w' => e = .returned (.bool true) ∧ Mod noF wn.drew w' := fun W x hW hR =>
    (faulted2_any (HE.out.keep (hmn.trans0 hW)) hR (cfG ll).1 (cfG ll).2).mono fun e w' ⟨h1, h2⟩ => ⟨by rw [h1, hff], hW.trans0 h2⟩
  have hev : ∀ W, Mod noF wn.drew W → ErrIs a W ev (cfG ll).1 (cfG ll).2 := fun W hW => HE5.out.keep (hm5n.trans0 hW) (fun _ _ e => e)
  have hS : ∀ W, Mod noF wn.drew W → Mod noF wn.drew W ∧ W.cell? ⟨w5.heap.size, 0, none⟩ = some (.int .i64 (cfG ll).1) ∧ W.cell? ⟨w5.heap.size, 1, none⟩ = some (.int .i64 (cfG ll).2) := fun W hW => ⟨hW, hW.cell t0 (fun e => e), hW.cell t1 (fun e => e)⟩
  have HS := Lib.hid hS
  have Hco := Lib.hid hco
  have Hcc := Lib.hid hcc
  have Hcf := Lib.hid hcf
  have Hev := Lib.hid hev
  have Hmn := Lib.hid hmn
  clear hwn hwn5 hm5n hco hcc hcf hev hS hmn HE5 Hm5 HE HKW Hnil HH hff
  generalize (cfG ll).1 = fc at *
  generalize (cfG ll).2 = fp at *
  go_region_held3 (fun W => Mod noF wn.drew W ∧ W.cell? ⟨w5.heap.size, 0, none⟩ = some (.int .i64 fc) ∧ W.cell? ⟨w5.heap.size, 1, none⟩ = some (.int .i64 fp)) ((refine HS.out _ ?_; first | assumption | exact Mod.refl _ _)) (first | (go_at_call 27; go_split_ands; refine (Hco.out _ ?_).mono ?_; assumption; rintro e w7 ⟨x, rfl, hR7, hm7⟩) | (go_at_call 37; go_split_ands; refine (Hcc.out _ _ ?_ ?_).mono ?_; assumption; assumption; rintro e w8 ⟨ev8, rfl, hE8, hm8⟩) | (go_at_call 33; go_split_ands; refine (Hcf.out _ _ ?_ ?_).mono ?_; assumption; (first | assumption | (refine Hev.out _ ?_; assumption)); rintro e w9 ⟨rfl, hm9⟩))
  all_goals
    go_wp2
    go_ret
    exact ⟨ret_bool (by simp), Hmn.out.trans0 (by assumption)⟩
theorem clientChecks_any (a0 : Option Addr) (len0 cap0 : Nat) (z0 : List (List ROp)) (w : World) (h0 : IsOps w a0 len0 cap0 z0) (hE : ∃ a, ErrsAt w a) (HK : KindsW w) :
    Calls Tryz.prog 7 #[.slice a0 len0 cap0] w fun e w' => e = .returned (.bool true) ∧ Below w.heap.size w w' := by
  obtain ⟨H, hnil, h1, h2⟩ := h0
  obtain ⟨a, E⟩ := hE
  have key : Calls Tryz.prog 7 #[.slice a0 len0 cap0] w fun e w' => e = .returned (.bool true) ∧ Mod noF w w' := by
    cases hL : longB z0 with
    | true => exact cc_long E HK H h1 h2 hL
    | false => exact cc_main E HK H hnil (Nat.le_refl _) hL
  exact key.mono fun e w' ⟨he, hm⟩ => ⟨he, hm.under (Nat.le_refl _) fun k hk => hk.elim⟩
end Go.Proofs.YtppihkneeolomaaGreatDoor
end
