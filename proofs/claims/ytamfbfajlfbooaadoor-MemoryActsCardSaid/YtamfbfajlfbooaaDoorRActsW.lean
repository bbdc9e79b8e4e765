/- ArenaActs, walked. -/
import Derived.Test.YtamfbfajlfbooaaDoorRm6
import Derived.Test.YtamfbfajlfbooaaDoorRm5
import Derived.Test.YtamfbfajlfbooaaDoorRm3
import Derived.Laws.StructEq
import Derived.Outline
import Derived.StillTailTactics
set_option linter.unusedVariables false
set_option linter.unusedSimpArgs false
set_option linter.unusedSectionVars false
namespace Go.Proofs.YtamfbfajlfbooaaDoor
open Go.RowKit Qs Qh
def actsI (w : World) (b g bm : Nat) (k : Nat) (wr : World) : Prop := ∃ L m, ActsRel w b g bm k L m wr
set_option maxRecDepth 100000 in
set_option maxHeartbeats 40000000 in
theorem acts_in (n : Nat) (h1 : 1 ≤ n) (h64 : n ≤ 64) (v : Value) (l : List CAct) (w : World) (a : Nat → Addr) (E : ErrsAt w a) (R : RowsAt CAct.vals 5 w v l) (hok : ∀ x ∈ l, x.Ok) (hl : l.length ≤ 100) :
    Calls Tryd.prog 15 #[.int .i64 n, v] w fun e w' => e = .returned (.bool true) ∧ Mod noF w w' := by
  have d0 : decide ((n : Int) < 1) = false := by simp; omega
  have d1 : decide ((64 : Int) < (n : Int)) = false := by simp; omega
  have d2 : decide ((100 : Int) < (l.length : Int)) = false := by simp; omega
  have HR := Lib.hid R
  have HE := Lib.hid E
  have Hok := Lib.hid hok
  obtain ⟨a0, c0, rfl, hl0, hc0, hn0, hx0⟩ := id R
  clear R E hok hx0 hn0
  go_enter Tryd.func15, Tryd.ntmps15
  go_wp2_with fail
  refine (first_ok w a HE.out).mono ?_
  rintro e w0 ⟨rfl, hm0⟩
  have Hm0 := Lib.hid hm0
  clear hm0
  go_wp2_with fail
  refine (arenaNew_ok n h1 h64 w0).mono ?_
  rintro e w1 ⟨rfl, A1, hm1⟩
  have HA1 := Lib.hid A1
  have Hm1 := Lib.hid (Hm0.out.trans0 hm1)
  have hs01 := Hm0.out.size
  clear A1 hm1
  go_wp2_with fail
  refine (newMem_any n 1 w1 h64 (by omega)).mono ?_
  rintro e w2 ⟨bm, bc, bw, rfl, N2, h4⟩
  have hst := actsStart h1 h64 HA1.out Hm1.out (by omega) (by omega) N2 h4
  have Hst := Lib.hid hst
  clear N2 h4 hst
  go_wp2
  go_loopw [9, 10, 11, 12, 13, 14, 15, 16, 17, 18, 19, 20, 21] (fun i _ _ _ _ _ _ _ _ _ _ _ _ wr => ∃ k : Nat, k ≤ l.length ∧ i = .int .i64 k ∧ actsI w (w0.heap.size + 1) w0.heap.size bm k wr) (fun i _ _ _ _ _ _ _ _ _ _ _ _ _ => l.length - (intOf i).toNat)
  case atStart => exact ⟨0, Nat.zero_le _, rfl, _, _, Hst.out⟩
  case round =>
    rename_i wr
    obtain ⟨k, hk, rfl, L, m, T⟩ := hrel
    have HT := Lib.hid T
    by_cases hlt : k < l.length
    · have hd3 : decide ((k : Int) < (l.length : Int)) = true := by simp; omega
      have hki : (k : Int) < (l.length : Int) := by omega
      obtain ⟨x, hx⟩ : ∃ x, l[k]? = some x := ⟨_, List.getElem?_eq_getElem hlt⟩
      obtain ⟨a1, c1, e1, _, _, _, hcell⟩ := HR.out.frame0 T.mod
      obtain ⟨b, off, rfl, hb, hj⟩ := hcell k x hx
      simp only [Value.slice.injEq, Option.some.injEq, true_and] at e1
      obtain ⟨rfl, rfl⟩ := e1
      have o0 : wr.cell? ⟨b, off + k * 5, none⟩ = some (.string x.kind) := hj 0 _ rfl
      have o1 : wr.cell? ⟨b, off + k * 5 + 1, none⟩ = some (.int .i64 x.cell) := hj 1 _ rfl
      have o2 : wr.cell? ⟨b, off + k * 5 + 2, none⟩ = some (.int .i64 x.gen) := hj 2 _ rfl
      have o3 : wr.cell? ⟨b, off + k * 5 + 3, none⟩ = some (.int .i64 x.W) := hj 3 _ rfl
      have o4 : wr.cell? ⟨b, off + k * 5 + 4, none⟩ = some (.int .i64 x.V) := hj 4 _ rfl
      have hxk := Hok.out x (List.mem_of_getElem? hx)
      have Hxk := Lib.hid hxk
      obtain ⟨kind, c, r, W, V⟩ := x
      simp only at o0 o1 o2 o3 o4
      clear hcell hj hx hxk T
      by_cases k0 : kind = ⟨#[97, 108, 108, 111, 99]⟩
      · subst k0
        go_wp2_with fail
        refine (arenaAlloc (HT.out.at_.keep0 ((Mod.refl noF wr).alloc _)) (HE.out.keep (HT.out.mod.alloc _)).four HT.out.om.cells HT.out.timesOk).mono ?_
        rintro e w3 (⟨i, ci, ha, hci, rfl, A3, hm3⟩ | ⟨ha, rfl, hm3⟩)
        · have hm13 : Mod (fun x => x = w0.heap.size) wr w3 := ((Mod.refl _ wr).alloc _).trans hm3 (fun _ _ e => e)
          have HA3 := Lib.hid A3
          have Ha := Lib.hid ha
          have Hci := Lib.hid hci
          have Hm3 := Lib.hid hm13
          clear A3 ha hci hm13 hm3
          go_wp2_with fail
          have hcall := alloc_any ((HT.out.repg Hm3.out).frame0 ((Mod.refl noF w3).alloc (refBox i ci.times))) rfl rfl rfl HT.out.om HT.out.ol (by omega)
          rw [HT.out.top] at hcall
          refine hcall.mono ?_
          clear hcall
          rintro e w4 (⟨i', n', ha', rfl, R4, hm4, hs4⟩ | ⟨ha', -, -⟩)
          · rw [Ha.out] at ha'
            simp only [Option.some.injEq, Prod.mk.injEq] at ha'
            obtain ⟨rfl, rfl⟩ := ha'
            have hnew := HT.out.alloc (by omega) Hci.out (Hm3.out.alloc (refBox i ci.times)) (HA3.out.keep0 ((Mod.refl noF w3).alloc (refBox i ci.times))) R4 hm4 (by simp)
            have hlt2 := HT.out.rep.lt2 rfl HT.out.ol
            have hs3 := Hm3.out.size
            have hr4 : w4.heap[w3.heap.size]? = some (refBox i ci.times) := hm4.heap (heap_alloc_new w3 _) (by omega)
            have Hr4 := Lib.hid hr4
            clear R4 hm4 hs4 hr4
            obtain ⟨L', m', hnew⟩ : ∃ L' m', ActsRel w (w0.heap.size + 1) w0.heap.size bm (k + 1) L' m' w4 := ⟨_, _, hnew⟩
            have Hnew := Lib.hid hnew
            clear hnew
            go_wp2_with fail
            have hcd := coded_own (HE.out.keep (Hnew.out.mod.alloc (refBox i ci.times))) 0 (by omega) (by omega)
            simp only [errOf, errV, if_true, show ((0 : Int) = 0) = True by simp, if_false, show (0 : Int).toNat - 1 = 0 from rfl] at hcd
            refine hcd.mono ?_
            clear hcd
            rintro e w5 ⟨rfl, hm⟩
            have hm45 := ((Mod.refl noF w4).alloc (refBox i ci.times)).trans0 hm
            have hr5 := hm45.heap Hr4.out (fun e => e)
            have hq5 := hm.heap (heap_alloc_new w4 (refBox i ci.times)) (fun e => e)
            have r0 : w5.cell? ⟨w3.heap.size, 0, none⟩ = some (.int .i64 i) := (cell_of_heap hr5 0).trans rfl
            have r1 : w5.cell? ⟨w3.heap.size, 1, none⟩ = some (.int .i64 ci.times) := (cell_of_heap hr5 1).trans rfl
            have rb := lt_of_block hr5

            have q0 : w5.cell? ⟨w4.heap.size, 0, none⟩ = some (.int .i64 i) := (cell_of_heap hq5 0).trans rfl
            have q1 : w5.cell? ⟨w4.heap.size, 1, none⟩ = some (.int .i64 ci.times) := (cell_of_heap hq5 1).trans rfl
            have qb := lt_of_block hq5
            have Hnew5 := Lib.hid (Hnew.out.keep hm45)
            clear hr5 hq5 hm hm45
            go_wp2_with fail
            refine (arenaCount Hnew5.out.at_ Hnew5.out.om.cells).mono ?_
            rintro e w8 ⟨rfl, hm8⟩
            have H8 := Lib.hid (Hnew5.out.keep hm8)
            clear hm8
            go_wp2_with fail
            have hcall := count_any H8.out.rep rfl rfl H8.out.om H8.out.ol
            rw [H8.out.top] at hcall
            refine hcall.mono ?_
            clear hcall
            rintro e w9 ⟨rfl, hm9⟩
            have H9 := Lib.hid (H8.out.keep hm9)
            clear hm9
            go_wp2
            go_roundw
            case rel => exact ⟨k + 1, by omega, by go_num, _, _, H9.out⟩
            case measure => simp [intOf]; omega
          · rw [Ha.out] at ha'; cases ha'
        · have hm13 : Mod noF wr w3 := ((Mod.refl _ wr).alloc _).trans0 hm3
          have HT3 := Lib.hid (HT.out.keep hm13)
          have Ha := Lib.hid ha
          clear ha hm3 hm13
          go_wp2_with fail
          have hcall := alloc_any (HT3.out.rep.frame0 ((Mod.refl noF w3).alloc (refBox 0 0))) rfl rfl rfl HT.out.om HT.out.ol (by omega)
          rw [HT.out.top] at hcall
          refine hcall.mono ?_
          clear hcall
          rintro e w4 (⟨i', n', ha', -⟩ | ⟨ha', rfl, hm4⟩)
          · rw [Ha.out] at ha'; cases ha'
          · have hm34 := ((Mod.refl noF w3).alloc (refBox 0 0)).trans0 hm4
            have hr4 := hm4.heap (heap_alloc_new w3 (refBox 0 0)) (fun e => e)
            have HT4 := Lib.hid (HT3.out.keep hm34)
            have Hr4 := Lib.hid hr4
            clear ha' hm4 hm34 hr4
            go_wp2_with fail
            have hcd := coded_own (HE.out.keep (HT4.out.mod.alloc (refBox 0 0))) 6 (by omega) (by omega)
            simp only [errOf, errV, if_true, show ((6 : Int) = 0) = False by simp, if_false, show (6 : Int).toNat - 1 = 5 from rfl] at hcd
            refine hcd.mono ?_
            clear hcd
            rintro e w5 ⟨rfl, hm⟩
            have hm45 := ((Mod.refl noF w4).alloc (refBox 0 0)).trans0 hm
            have hr5 := hm45.heap Hr4.out (fun e => e)
            have hq5 := hm.heap (heap_alloc_new w4 (refBox 0 0)) (fun e => e)
            have r0 : w5.cell? ⟨w3.heap.size, 0, none⟩ = some (.int .i64 0) := (cell_of_heap hr5 0).trans rfl
            have r1 : w5.cell? ⟨w3.heap.size, 1, none⟩ = some (.int .i64 0) := (cell_of_heap hr5 1).trans rfl
            have rb := lt_of_block hr5

            have q0 : w5.cell? ⟨w4.heap.size, 0, none⟩ = some (.int .i64 0) := (cell_of_heap hq5 0).trans rfl
            have q1 : w5.cell? ⟨w4.heap.size, 1, none⟩ = some (.int .i64 0) := (cell_of_heap hq5 1).trans rfl
            have qb := lt_of_block hq5
            have Hnew5 := Lib.hid (HT4.out.keep hm45)
            clear hr5 hq5 hm hm45
            go_wp2_with fail
            refine (arenaCount Hnew5.out.at_ Hnew5.out.om.cells).mono ?_
            rintro e w8 ⟨rfl, hm8⟩
            have H8 := Lib.hid (Hnew5.out.keep hm8)
            clear hm8
            go_wp2_with fail
            have hcall := count_any H8.out.rep rfl rfl H8.out.om H8.out.ol
            rw [H8.out.top] at hcall
            refine hcall.mono ?_
            clear hcall
            rintro e w9 ⟨rfl, hm9⟩
            have H9 := Lib.hid (H8.out.keep hm9)
            clear hm9
            go_wp2
            go_roundw
            case rel => exact ⟨k + 1, by omega, by go_num, _, _, H9.out.up (by omega)⟩
            case measure => simp [intOf]; omega
      by_cases k1 : kind = ⟨#[102, 114, 101, 101]⟩
      · subst k1
        have hcall := here_any (HT.out.rep.frame0 ((Mod.refl noF wr).alloc (.cells #[.string ⟨#[102, 114, 101, 101]⟩, .int .i64 c, .int .i64 r, .int .i64 W, .int .i64 V] 117))) rfl rfl HT.out.om HT.out.ol (by omega) c r
        rw [HT.out.top] at hcall
        go_wp2_with fail
        refine hcall.mono ?_
        clear hcall
        rintro e w3 ⟨rfl, hm3⟩
        have hgl := HT.out.at_.lt
        have hm13 := ((Mod.refl noF wr).alloc (.cells #[.string ⟨#[102, 114, 101, 101]⟩, .int .i64 c, .int .i64 r, .int .i64 W, .int .i64 V] 117)).trans0 hm3
        have hx3 := hm3.heap (heap_alloc_new wr (.cells #[.string ⟨#[102, 114, 101, 101]⟩, .int .i64 c, .int .i64 r, .int .i64 W, .int .i64 V] 117)) (fun e => e)
        have HT3 := Lib.hid (HT.out.keep hm13)
        have Hx3 := Lib.hid hx3
        have Hm13 := Lib.hid hm13
        clear hm3 hm13 hx3
        cases hin : hereIn m.cells c r with
        | true =>
          obtain ⟨i, ci, rfl, hil, hci, hh, rfl⟩ := hereIn_at hin
          have hcall := afree_any HT3.out.at_ (HE.out.keep HT3.out.mod).four HT3.out.om.cells HT3.out.timesOk i (ci.times - 1)
          rw [hin] at hcall
          simp only [errOf', errV, if_true, if_false, Bool.false_eq_true, Int.toNat_natCast, show ((7 : Int) = 0) = False by simp, show (7 : Int).toNat - 1 = 6 from rfl] at hcall
          have Hcall := Lib.hid hcall

          have x0 : w3.cell? ⟨wr.heap.size, 0, none⟩ = some (.string ⟨#[102, 114, 101, 101]⟩) := (cell_of_heap Hx3.out 0).trans rfl
          have x1 : w3.cell? ⟨wr.heap.size, 1, none⟩ = some (.int .i64 i) := (cell_of_heap Hx3.out 1).trans rfl
          have x2 : w3.cell? ⟨wr.heap.size, 2, none⟩ = some (.int .i64 (ci.times - 1)) := (cell_of_heap Hx3.out 2).trans rfl
          have x3 : w3.cell? ⟨wr.heap.size, 3, none⟩ = some (.int .i64 W) := (cell_of_heap Hx3.out 3).trans rfl
          have x4 : w3.cell? ⟨wr.heap.size, 4, none⟩ = some (.int .i64 V) := (cell_of_heap Hx3.out 4).trans rfl
          have xb := lt_of_block Hx3.out

          clear hcall
          go_wp2_with fail
          refine Hcall.out.mono ?_
          rintro e w4 ⟨rfl, hm4, A4⟩
          have hx4 := hm4.heap Hx3.out (by omega)
          have hm04 : Mod noF w w4 := HT3.out.mod.trans hm4 (fun x hx e => by omega)
          have HA4 := Lib.hid A4
          have Hm4 := Lib.hid hm4
          have Hx4 := Lib.hid hx4
          have Hm04 := Lib.hid hm04
          clear Hcall A4 hm4 hm04 hx4 x0 x1 x2 x3 x4 xb
          go_wp2_with fail

          have hcd := coded_own (HE.out.keep Hm04.out) 0 (by omega) (by omega)
          simp only [errOf, errV, if_true, show ((0 : Int) = 0) = True by simp, if_false, show (0 : Int).toNat - 1 = 0 from rfl] at hcd
          refine hcd.mono ?_
          clear hcd
          rintro e w5 ⟨rfl, hm⟩
          have hx5 := hm.heap Hx4.out (fun e => e)
          have R5 := (HT3.out.repg Hm4.out).frame0 hm
          have A5 := HA4.out.keep0 hm
          rw [modify_get _ hci] at A5
          have hup := R5.setHere rfl HT.out.ol hci false
          rw [modify_get _ hci] at hup
          have hm15 : Mod (fun x => x = w0.heap.size) wr w5 := (Hm13.out.any.trans Hm4.out (fun x hx e => e)).trans0 hm
          have x0 : w5.cell? ⟨wr.heap.size, 0, none⟩ = some (.string ⟨#[102, 114, 101, 101]⟩) := (cell_of_heap hx5 0).trans rfl
          have x1 : w5.cell? ⟨wr.heap.size, 1, none⟩ = some (.int .i64 i) := (cell_of_heap hx5 1).trans rfl
          have x2 : w5.cell? ⟨wr.heap.size, 2, none⟩ = some (.int .i64 (ci.times - 1)) := (cell_of_heap hx5 2).trans rfl
          have x3 : w5.cell? ⟨wr.heap.size, 3, none⟩ = some (.int .i64 W) := (cell_of_heap hx5 3).trans rfl
          have x4 : w5.cell? ⟨wr.heap.size, 4, none⟩ = some (.int .i64 V) := (cell_of_heap hx5 4).trans rfl
          have xb := lt_of_block hx5
          have m0 := R5.cells_at rfl HT.out.ol
          obtain ⟨-, -, m2⟩ := R5.cell_at rfl HT.out.ol hci
          have mf := R5.free (K := memK) (a := 2) (i := 0) rfl (obj2 ty m HT.out.ol.n2) (i * 3 + 2)
          have mb := R5.lt1 rfl
          have mb2 := R5.lt2 rfl HT.out.ol
          have mn := HT.out.om.cells
          have mi : (i : Int) < (m.cells.length : Int) := by omega
          rw [HT.out.top] at m0 mb
          have hnew := HT.out.turned hci hm15 A5 hup.rep hup.mod ⟨(HT.out.om.words i ci hci).1, (HT.out.om.words i ci hci).2⟩ rfl
          have Hnew := Lib.hid hnew
          clear hx5 R5 A5 hup hm15 hm hnew hin hci hh
          go_wp2_with fail
          refine wp_region_still_tail 9 (by kernel_rfl) (by kernel_rfl) ?_
          simp only [List.take_succ_cons, List.take_zero, List.drop_succ_cons, List.drop_zero, World.drew_eq]
          repeat (first | still_step)
          refine wpStill_nil ?_
          go_wp2_with fail
          have Hf := Lib.hid (Hnew.out.keep (Mod.drew (Mod.refl noF _)))
          refine (arenaCount Hf.out.at_ Hf.out.om.cells).mono ?_
          rintro e w8 ⟨rfl, hm8⟩
          have H8 := Lib.hid (Hf.out.keep hm8)
          clear hm8
          go_wp2_with fail
          have hcall := count_any H8.out.rep rfl rfl H8.out.om H8.out.ol
          rw [H8.out.top] at hcall
          refine hcall.mono ?_
          clear hcall
          rintro e w9 ⟨rfl, hm9⟩
          have H9 := Lib.hid (H8.out.keep hm9)
          clear hm9
          go_wp2
          go_roundw
          case rel => exact ⟨k + 1, by omega, by go_num, _, _, H9.out.up (by omega)⟩
          case measure => simp [intOf]; omega
        | false =>
          have hcall := afree_any HT3.out.at_ (HE.out.keep HT3.out.mod).four HT3.out.om.cells HT3.out.timesOk c (r)
          rw [hin] at hcall
          simp only [errOf', errV, if_true, if_false, Bool.false_eq_true, Int.toNat_natCast, show ((7 : Int) = 0) = False by simp, show (7 : Int).toNat - 1 = 6 from rfl] at hcall
          have Hcall := Lib.hid hcall

          have x0 : w3.cell? ⟨wr.heap.size, 0, none⟩ = some (.string ⟨#[102, 114, 101, 101]⟩) := (cell_of_heap Hx3.out 0).trans rfl
          have x1 : w3.cell? ⟨wr.heap.size, 1, none⟩ = some (.int .i64 c) := (cell_of_heap Hx3.out 1).trans rfl
          have x2 : w3.cell? ⟨wr.heap.size, 2, none⟩ = some (.int .i64 (r)) := (cell_of_heap Hx3.out 2).trans rfl
          have x3 : w3.cell? ⟨wr.heap.size, 3, none⟩ = some (.int .i64 W) := (cell_of_heap Hx3.out 3).trans rfl
          have x4 : w3.cell? ⟨wr.heap.size, 4, none⟩ = some (.int .i64 V) := (cell_of_heap Hx3.out 4).trans rfl
          have xb := lt_of_block Hx3.out

          clear hcall
          go_wp2_with fail
          refine Hcall.out.mono ?_
          rintro e w4 ⟨rfl, hm4, A4⟩
          have hx4 := hm4.heap Hx3.out (by omega)
          have hm04 : Mod noF w w4 := HT3.out.mod.trans hm4 (fun x hx e => by omega)
          have HA4 := Lib.hid A4
          have Hm4 := Lib.hid hm4
          have Hx4 := Lib.hid hx4
          have Hm04 := Lib.hid hm04
          clear Hcall A4 hm4 hm04 hx4 x0 x1 x2 x3 x4 xb
          go_wp2_with fail

          have hcd := coded_own (HE.out.keep Hm04.out) 7 (by omega) (by omega)
          simp only [errOf, errV, if_true, show ((7 : Int) = 0) = False by simp, if_false, show (7 : Int).toNat - 1 = 6 from rfl] at hcd
          refine hcd.mono ?_
          clear hcd
          rintro e w5 ⟨rfl, hm⟩
          have hx5 := hm.heap Hx4.out (fun e => e)
          have A5 := HA4.out.keep0 hm
          have hm15 : Mod (fun x => x = w0.heap.size) wr w5 := (Hm13.out.any.trans Hm4.out (fun x hx e => e)).trans0 hm
          have hnew : ActsRel w (w0.heap.size + 1) w0.heap.size bm k L m w5 := ⟨A5, HT.out.repg hm15, HT.out.om, HT.out.ol, HT.out.top, HT.out.times, HT.out.waits, HT.out.foot, HT.out.hb, HT.out.hg, HT.out.mod.trans hm15 (fun x hx e => by omega)⟩
          have Hnew5 := Lib.hid hnew
          clear hx5 A5 hm15 hm hnew
          go_wp2_with fail
          refine (arenaCount Hnew5.out.at_ Hnew5.out.om.cells).mono ?_
          rintro e w8 ⟨rfl, hm8⟩
          have H8 := Lib.hid (Hnew5.out.keep hm8)
          clear hm8
          go_wp2_with fail
          have hcall := count_any H8.out.rep rfl rfl H8.out.om H8.out.ol
          rw [H8.out.top] at hcall
          refine hcall.mono ?_
          clear hcall
          rintro e w9 ⟨rfl, hm9⟩
          have H9 := Lib.hid (H8.out.keep hm9)
          clear hm9
          go_wp2
          go_roundw
          case rel => exact ⟨k + 1, by omega, by go_num, _, _, H9.out.up (by omega)⟩
          case measure => simp [intOf]; omega
      by_cases k2 : kind = ⟨#[108, 111, 97, 100]⟩
      · subst k2
        rcases loadE_atE m.cells c r W with ⟨hat, hld⟩ | ⟨hat, hld⟩ | ⟨hat, hld⟩
        · have hlc := aload_any (HT.out.at_.keep0 ((Mod.refl noF wr).alloc (.cells #[.string ⟨#[108, 111, 97, 100]⟩, .int .i64 c, .int .i64 r, .int .i64 W, .int .i64 V] 117))) (HE.out.keep (HT.out.mod.alloc (.cells #[.string ⟨#[108, 111, 97, 100]⟩, .int .i64 c, .int .i64 r, .int .i64 W, .int .i64 V] 117))).four HT.out.om.cells HT.out.timesOk c r W
          rw [hld] at hlc
          simp only [errOf', errV, if_true, if_false, show (0 : Int).toNat - 1 = 0 from rfl, show ((0 : Int) = 0) = True by simp] at hlc
          go_wp2_with fail
          refine hlc.mono ?_
          clear hlc
          rintro e w3 ⟨rfl, hm3⟩
          have hm13 := ((Mod.refl noF wr).alloc (.cells #[.string ⟨#[108, 111, 97, 100]⟩, .int .i64 c, .int .i64 r, .int .i64 W, .int .i64 V] 117)).trans0 hm3
          have hx3 := hm3.heap (heap_alloc_new wr (.cells #[.string ⟨#[108, 111, 97, 100]⟩, .int .i64 c, .int .i64 r, .int .i64 W, .int .i64 V] 117)) (fun e => e)
          have HT3 := Lib.hid (HT.out.keep hm13)
          have x0 : w3.cell? ⟨wr.heap.size, 0, none⟩ = some (.string ⟨#[108, 111, 97, 100]⟩) := (cell_of_heap hx3 0).trans rfl
          have x1 : w3.cell? ⟨wr.heap.size, 1, none⟩ = some (.int .i64 c) := (cell_of_heap hx3 1).trans rfl
          have x2 : w3.cell? ⟨wr.heap.size, 2, none⟩ = some (.int .i64 (r)) := (cell_of_heap hx3 2).trans rfl
          have x3 : w3.cell? ⟨wr.heap.size, 3, none⟩ = some (.int .i64 W) := (cell_of_heap hx3 3).trans rfl
          have x4 : w3.cell? ⟨wr.heap.size, 4, none⟩ = some (.int .i64 V) := (cell_of_heap hx3 4).trans rfl
          have xb := lt_of_block hx3
          clear hm3 hm13 hx3
          go_wp2_with fail
          have hcall := load_ok HT3.out.rep rfl rfl rfl rfl rfl HT.out.om HT.out.ol (by omega) 0 (by rw [HT.out.waits]; decide) c r W hat
          rw [HT.out.top, show Qs.look (m.waitsOf 0) c r W (getWord m.cells c.toNat W.toNat) = getWord m.cells c.toNat W.toNat by unfold M.waitsOf; rw [HT.out.waits]; rfl] at hcall
          refine hcall.mono ?_
          clear hcall
          rintro e w4 ⟨rfl, hm4⟩
          have HT4 := Lib.hid (HT3.out.keep hm4)
          clear hm4
          go_wp2_with fail
          have hcd := coded_own (HE.out.keep HT4.out.mod) 0 (by omega) (by omega)
          simp only [errOf, errV, if_true, show ((0 : Int) = 0) = True by simp, if_false, show (0 : Int).toNat - 1 = 0 from rfl] at hcd
          refine hcd.mono ?_
          clear hcd
          rintro e w5 ⟨rfl, hm⟩
          have HT5 := Lib.hid (HT4.out.keep hm)
          clear hm
          go_wp2_with fail
          refine (arenaCount HT5.out.at_ HT5.out.om.cells).mono ?_
          rintro e w8 ⟨rfl, hm8⟩
          have H8 := Lib.hid (HT5.out.keep hm8)
          clear hm8
          go_wp2_with fail
          have hcall := count_any H8.out.rep rfl rfl H8.out.om H8.out.ol
          rw [H8.out.top] at hcall
          refine hcall.mono ?_
          clear hcall
          rintro e w9 ⟨rfl, hm9⟩
          have H9 := Lib.hid (H8.out.keep hm9)
          clear hm9
          go_wp2
          go_roundw
          case rel => exact ⟨k + 1, by omega, by go_num, _, _, H9.out.up (by omega)⟩
          case measure => simp [intOf]; omega
        · have hlc := aload_any (HT.out.at_.keep0 ((Mod.refl noF wr).alloc (.cells #[.string ⟨#[108, 111, 97, 100]⟩, .int .i64 c, .int .i64 r, .int .i64 W, .int .i64 V] 117))) (HE.out.keep (HT.out.mod.alloc (.cells #[.string ⟨#[108, 111, 97, 100]⟩, .int .i64 c, .int .i64 r, .int .i64 W, .int .i64 V] 117))).four HT.out.om.cells HT.out.timesOk c r W
          rw [hld] at hlc
          simp only [errOf', errV, if_true, if_false, show (2 : Int).toNat - 1 = 1 from rfl, show ((2 : Int) = 0) = False by simp] at hlc
          go_wp2_with fail
          refine hlc.mono ?_
          clear hlc
          rintro e w3 ⟨rfl, hm3⟩
          have hm13 := ((Mod.refl noF wr).alloc (.cells #[.string ⟨#[108, 111, 97, 100]⟩, .int .i64 c, .int .i64 r, .int .i64 W, .int .i64 V] 117)).trans0 hm3
          have hx3 := hm3.heap (heap_alloc_new wr (.cells #[.string ⟨#[108, 111, 97, 100]⟩, .int .i64 c, .int .i64 r, .int .i64 W, .int .i64 V] 117)) (fun e => e)
          have HT3 := Lib.hid (HT.out.keep hm13)
          have x0 : w3.cell? ⟨wr.heap.size, 0, none⟩ = some (.string ⟨#[108, 111, 97, 100]⟩) := (cell_of_heap hx3 0).trans rfl
          have x1 : w3.cell? ⟨wr.heap.size, 1, none⟩ = some (.int .i64 c) := (cell_of_heap hx3 1).trans rfl
          have x2 : w3.cell? ⟨wr.heap.size, 2, none⟩ = some (.int .i64 (r)) := (cell_of_heap hx3 2).trans rfl
          have x3 : w3.cell? ⟨wr.heap.size, 3, none⟩ = some (.int .i64 W) := (cell_of_heap hx3 3).trans rfl
          have x4 : w3.cell? ⟨wr.heap.size, 4, none⟩ = some (.int .i64 V) := (cell_of_heap hx3 4).trans rfl
          have xb := lt_of_block hx3
          clear hm3 hm13 hx3
          go_wp2_with fail
          have hcall := load_bad HT3.out.rep rfl rfl HT.out.om HT.out.ol (by omega) 0 c r W (by rw [hat]; decide)
          rw [HT.out.top, hat] at hcall
          refine hcall.mono ?_
          clear hcall
          rintro e w4 ⟨rfl, hm4⟩
          have HT4 := Lib.hid (HT3.out.keep hm4)
          clear hm4
          go_wp2_with fail
          have hcd := coded_own (HE.out.keep HT4.out.mod) 2 (by omega) (by omega)
          simp only [errOf, errV, if_true, show ((2 : Int) = 0) = False by simp, if_false, show (2 : Int).toNat - 1 = 1 from rfl] at hcd
          refine hcd.mono ?_
          clear hcd
          rintro e w5 ⟨rfl, hm⟩
          have HT5 := Lib.hid (HT4.out.keep hm)
          clear hm
          go_wp2_with fail
          refine (arenaCount HT5.out.at_ HT5.out.om.cells).mono ?_
          rintro e w8 ⟨rfl, hm8⟩
          have H8 := Lib.hid (HT5.out.keep hm8)
          clear hm8
          go_wp2_with fail
          have hcall := count_any H8.out.rep rfl rfl H8.out.om H8.out.ol
          rw [H8.out.top] at hcall
          refine hcall.mono ?_
          clear hcall
          rintro e w9 ⟨rfl, hm9⟩
          have H9 := Lib.hid (H8.out.keep hm9)
          clear hm9
          go_wp2
          go_roundw
          case rel => exact ⟨k + 1, by omega, by go_num, _, _, H9.out.up (by omega)⟩
          case measure => simp [intOf]; omega
        · have hlc := aload_any (HT.out.at_.keep0 ((Mod.refl noF wr).alloc (.cells #[.string ⟨#[108, 111, 97, 100]⟩, .int .i64 c, .int .i64 r, .int .i64 W, .int .i64 V] 117))) (HE.out.keep (HT.out.mod.alloc (.cells #[.string ⟨#[108, 111, 97, 100]⟩, .int .i64 c, .int .i64 r, .int .i64 W, .int .i64 V] 117))).four HT.out.om.cells HT.out.timesOk c r W
          rw [hld] at hlc
          simp only [errOf', errV, if_true, if_false, show (7 : Int).toNat - 1 = 6 from rfl, show ((7 : Int) = 0) = False by simp] at hlc
          go_wp2_with fail
          refine hlc.mono ?_
          clear hlc
          rintro e w3 ⟨rfl, hm3⟩
          have hm13 := ((Mod.refl noF wr).alloc (.cells #[.string ⟨#[108, 111, 97, 100]⟩, .int .i64 c, .int .i64 r, .int .i64 W, .int .i64 V] 117)).trans0 hm3
          have hx3 := hm3.heap (heap_alloc_new wr (.cells #[.string ⟨#[108, 111, 97, 100]⟩, .int .i64 c, .int .i64 r, .int .i64 W, .int .i64 V] 117)) (fun e => e)
          have HT3 := Lib.hid (HT.out.keep hm13)
          have x0 : w3.cell? ⟨wr.heap.size, 0, none⟩ = some (.string ⟨#[108, 111, 97, 100]⟩) := (cell_of_heap hx3 0).trans rfl
          have x1 : w3.cell? ⟨wr.heap.size, 1, none⟩ = some (.int .i64 c) := (cell_of_heap hx3 1).trans rfl
          have x2 : w3.cell? ⟨wr.heap.size, 2, none⟩ = some (.int .i64 (r)) := (cell_of_heap hx3 2).trans rfl
          have x3 : w3.cell? ⟨wr.heap.size, 3, none⟩ = some (.int .i64 W) := (cell_of_heap hx3 3).trans rfl
          have x4 : w3.cell? ⟨wr.heap.size, 4, none⟩ = some (.int .i64 V) := (cell_of_heap hx3 4).trans rfl
          have xb := lt_of_block hx3
          clear hm3 hm13 hx3
          go_wp2_with fail
          have hcall := load_bad HT3.out.rep rfl rfl HT.out.om HT.out.ol (by omega) 0 c r W (by rw [hat]; decide)
          rw [HT.out.top, hat] at hcall
          refine hcall.mono ?_
          clear hcall
          rintro e w4 ⟨rfl, hm4⟩
          have HT4 := Lib.hid (HT3.out.keep hm4)
          clear hm4
          go_wp2_with fail
          have hcd := coded_own (HE.out.keep HT4.out.mod) 7 (by omega) (by omega)
          simp only [errOf, errV, if_true, show ((7 : Int) = 0) = False by simp, if_false, show (7 : Int).toNat - 1 = 6 from rfl] at hcd
          refine hcd.mono ?_
          clear hcd
          rintro e w5 ⟨rfl, hm⟩
          have HT5 := Lib.hid (HT4.out.keep hm)
          clear hm
          go_wp2_with fail
          refine (arenaCount HT5.out.at_ HT5.out.om.cells).mono ?_
          rintro e w8 ⟨rfl, hm8⟩
          have H8 := Lib.hid (HT5.out.keep hm8)
          clear hm8
          go_wp2_with fail
          have hcall := count_any H8.out.rep rfl rfl H8.out.om H8.out.ol
          rw [H8.out.top] at hcall
          refine hcall.mono ?_
          clear hcall
          rintro e w9 ⟨rfl, hm9⟩
          have H9 := Lib.hid (H8.out.keep hm9)
          clear hm9
          go_wp2
          go_roundw
          case rel => exact ⟨k + 1, by omega, by go_num, _, _, H9.out.up (by omega)⟩
          case measure => simp [intOf]; omega
      have e0 := notStr kind [97, 108, 108, 111, 99] k0
      have e1 := notStr kind [102, 114, 101, 101] k1
      have e2 := notStr kind [108, 111, 97, 100] k2
      have hcall := at_any (HT.out.rep.frame0 ((Mod.refl noF wr).alloc (.cells #[.string kind, .int .i64 c, .int .i64 r, .int .i64 W, .int .i64 V] 117))) rfl rfl HT.out.om HT.out.ol (by omega) c r W
      rw [HT.out.top] at hcall
      go_wp2_with fail
      refine hcall.mono ?_
      clear hcall
      rintro e w3 ⟨rfl, hm3⟩
      have hgl := HT.out.at_.lt
      have hm13 := ((Mod.refl noF wr).alloc (.cells #[.string kind, .int .i64 c, .int .i64 r, .int .i64 W, .int .i64 V] 117)).trans0 hm3
      have hx3 := hm3.heap (heap_alloc_new wr (.cells #[.string kind, .int .i64 c, .int .i64 r, .int .i64 W, .int .i64 V] 117)) (fun e => e)
      have HT3 := Lib.hid (HT.out.keep hm13)
      have Hx3 := Lib.hid hx3
      have Hm13 := Lib.hid hm13
      clear hm3 hm13 hx3 e0 e1 e2 k0 k1 k2
      rcases storeE_atE m.cells c r W V with ⟨hat, hse⟩ | ⟨hat, hse⟩ | ⟨hat, hiw, hse⟩ | ⟨hat, hiw, hse, hin, hW0, hW4⟩
      · rw [hat]
        clear hat
        have hlc := astore_any HT3.out.at_ (HE.out.keep HT3.out.mod).four HT3.out.om.cells HT3.out.timesOk HT3.out.wordsOk c (r) W V
        rw [hse] at hlc
        simp only [errOf', errV, if_true, if_false, show (7 : Int).toNat - 1 = 6 from rfl, show ((7 : Int) = 0) = False by simp] at hlc
        have Hlc := Lib.hid hlc
        clear hlc
        have x0 : w3.cell? ⟨wr.heap.size, 0, none⟩ = some (.string kind) := (cell_of_heap Hx3.out 0).trans rfl
        have x1 : w3.cell? ⟨wr.heap.size, 1, none⟩ = some (.int .i64 c) := (cell_of_heap Hx3.out 1).trans rfl
        have x2 : w3.cell? ⟨wr.heap.size, 2, none⟩ = some (.int .i64 (r)) := (cell_of_heap Hx3.out 2).trans rfl
        have x3 : w3.cell? ⟨wr.heap.size, 3, none⟩ = some (.int .i64 W) := (cell_of_heap Hx3.out 3).trans rfl
        have x4 : w3.cell? ⟨wr.heap.size, 4, none⟩ = some (.int .i64 V) := (cell_of_heap Hx3.out 4).trans rfl
        have xb := lt_of_block Hx3.out
        go_wp2_with fail
        refine Hlc.out.mono ?_
        rintro e w4 ⟨rfl, hm4, A4⟩
        have hx4 := hm4.heap Hx3.out (by omega)
        have hm04 : Mod noF w w4 := HT3.out.mod.trans hm4 (fun x hx e => by omega)
        have HA4 := Lib.hid A4
        have Hm4 := Lib.hid hm4
        have Hx4 := Lib.hid hx4
        have Hm04 := Lib.hid hm04
        clear Hlc A4 hm4 hm04 hx4 x0 x1 x2 x3 x4 xb
        go_wp2_with fail
        have hcd := coded_own (HE.out.keep Hm04.out) 7 (by omega) (by omega)
        simp only [errOf, errV, if_true, show ((7 : Int) = 0) = False by simp, if_false, show (7 : Int).toNat - 1 = 6 from rfl] at hcd
        refine hcd.mono ?_
        clear hcd
        rintro e w5 ⟨rfl, hm⟩
        have A5 := HA4.out.keep0 hm
        have hm15 : Mod (fun x => x = w0.heap.size) wr w5 := (Hm13.out.any.trans Hm4.out (fun x hx e => e)).trans0 hm
        have hnew : ActsRel w (w0.heap.size + 1) w0.heap.size bm k L m w5 := ⟨A5, HT.out.repg hm15, HT.out.om, HT.out.ol, HT.out.top, HT.out.times, HT.out.waits, HT.out.foot, HT.out.hb, HT.out.hg, HT.out.mod.trans hm15 (fun x hx e => by omega)⟩
        have Hnew5 := Lib.hid hnew
        clear A5 hm15 hm hnew
        go_wp2_with fail
        refine (arenaCount Hnew5.out.at_ Hnew5.out.om.cells).mono ?_
        rintro e w8 ⟨rfl, hm8⟩
        have H8 := Lib.hid (Hnew5.out.keep hm8)
        clear hm8
        go_wp2_with fail
        have hcall := count_any H8.out.rep rfl rfl H8.out.om H8.out.ol
        rw [H8.out.top] at hcall
        refine hcall.mono ?_
        clear hcall
        rintro e w9 ⟨rfl, hm9⟩
        have H9 := Lib.hid (H8.out.keep hm9)
        clear hm9
        go_wp2
        go_roundw
        case rel => exact ⟨k + 1, by omega, by go_num, _, _, H9.out.up (by omega)⟩
        case measure => simp [intOf]; omega
      · rw [hat]
        clear hat
        have hlc := astore_any HT3.out.at_ (HE.out.keep HT3.out.mod).four HT3.out.om.cells HT3.out.timesOk HT3.out.wordsOk c (r) W V
        rw [hse] at hlc
        simp only [errOf', errV, if_true, if_false, show (2 : Int).toNat - 1 = 1 from rfl, show ((2 : Int) = 0) = False by simp] at hlc
        have Hlc := Lib.hid hlc
        clear hlc
        have x0 : w3.cell? ⟨wr.heap.size, 0, none⟩ = some (.string kind) := (cell_of_heap Hx3.out 0).trans rfl
        have x1 : w3.cell? ⟨wr.heap.size, 1, none⟩ = some (.int .i64 c) := (cell_of_heap Hx3.out 1).trans rfl
        have x2 : w3.cell? ⟨wr.heap.size, 2, none⟩ = some (.int .i64 (r)) := (cell_of_heap Hx3.out 2).trans rfl
        have x3 : w3.cell? ⟨wr.heap.size, 3, none⟩ = some (.int .i64 W) := (cell_of_heap Hx3.out 3).trans rfl
        have x4 : w3.cell? ⟨wr.heap.size, 4, none⟩ = some (.int .i64 V) := (cell_of_heap Hx3.out 4).trans rfl
        have xb := lt_of_block Hx3.out
        go_wp2_with fail
        refine Hlc.out.mono ?_
        rintro e w4 ⟨rfl, hm4, A4⟩
        have hx4 := hm4.heap Hx3.out (by omega)
        have hm04 : Mod noF w w4 := HT3.out.mod.trans hm4 (fun x hx e => by omega)
        have HA4 := Lib.hid A4
        have Hm4 := Lib.hid hm4
        have Hx4 := Lib.hid hx4
        have Hm04 := Lib.hid hm04
        clear Hlc A4 hm4 hm04 hx4 x0 x1 x2 x3 x4 xb
        go_wp2_with fail
        have hcd := coded_own (HE.out.keep Hm04.out) 2 (by omega) (by omega)
        simp only [errOf, errV, if_true, show ((2 : Int) = 0) = False by simp, if_false, show (2 : Int).toNat - 1 = 1 from rfl] at hcd
        refine hcd.mono ?_
        clear hcd
        rintro e w5 ⟨rfl, hm⟩
        have A5 := HA4.out.keep0 hm
        have hm15 : Mod (fun x => x = w0.heap.size) wr w5 := (Hm13.out.any.trans Hm4.out (fun x hx e => e)).trans0 hm
        have hnew : ActsRel w (w0.heap.size + 1) w0.heap.size bm k L m w5 := ⟨A5, HT.out.repg hm15, HT.out.om, HT.out.ol, HT.out.top, HT.out.times, HT.out.waits, HT.out.foot, HT.out.hb, HT.out.hg, HT.out.mod.trans hm15 (fun x hx e => by omega)⟩
        have Hnew5 := Lib.hid hnew
        clear A5 hm15 hm hnew
        go_wp2_with fail
        refine (arenaCount Hnew5.out.at_ Hnew5.out.om.cells).mono ?_
        rintro e w8 ⟨rfl, hm8⟩
        have H8 := Lib.hid (Hnew5.out.keep hm8)
        clear hm8
        go_wp2_with fail
        have hcall := count_any H8.out.rep rfl rfl H8.out.om H8.out.ol
        rw [H8.out.top] at hcall
        refine hcall.mono ?_
        clear hcall
        rintro e w9 ⟨rfl, hm9⟩
        have H9 := Lib.hid (H8.out.keep hm9)
        clear hm9
        go_wp2
        go_roundw
        case rel => exact ⟨k + 1, by omega, by go_num, _, _, H9.out.up (by omega)⟩
        case measure => simp [intOf]; omega
      · rw [hat]
        clear hat
        have hlc := astore_any HT3.out.at_ (HE.out.keep HT3.out.mod).four HT3.out.om.cells HT3.out.timesOk HT3.out.wordsOk c (r) W V
        rw [hse] at hlc
        simp only [errOf', errV, if_true, if_false, show (2 : Int).toNat - 1 = 1 from rfl, show ((2 : Int) = 0) = False by simp] at hlc
        have Hlc := Lib.hid hlc
        clear hlc
        have x0 : w3.cell? ⟨wr.heap.size, 0, none⟩ = some (.string kind) := (cell_of_heap Hx3.out 0).trans rfl
        have x1 : w3.cell? ⟨wr.heap.size, 1, none⟩ = some (.int .i64 c) := (cell_of_heap Hx3.out 1).trans rfl
        have x2 : w3.cell? ⟨wr.heap.size, 2, none⟩ = some (.int .i64 (r)) := (cell_of_heap Hx3.out 2).trans rfl
        have x3 : w3.cell? ⟨wr.heap.size, 3, none⟩ = some (.int .i64 W) := (cell_of_heap Hx3.out 3).trans rfl
        have x4 : w3.cell? ⟨wr.heap.size, 4, none⟩ = some (.int .i64 V) := (cell_of_heap Hx3.out 4).trans rfl
        have xb := lt_of_block Hx3.out
        have Hiw := Lib.hid hiw
        clear hiw
        go_wp2_with (first | (go_at_call 31; refine (isWord_any _ _).mono ?_; rintro e w' ⟨rfl, rfl⟩; rw [Hiw.out]) | fail)
        refine Hlc.out.mono ?_
        rintro e w4 ⟨rfl, hm4, A4⟩
        have hx4 := hm4.heap Hx3.out (by omega)
        have hm04 : Mod noF w w4 := HT3.out.mod.trans hm4 (fun x hx e => by omega)
        have HA4 := Lib.hid A4
        have Hm4 := Lib.hid hm4
        have Hx4 := Lib.hid hx4
        have Hm04 := Lib.hid hm04
        clear Hlc A4 hm4 hm04 hx4 x0 x1 x2 x3 x4 xb
        go_wp2_with fail
        have hcd := coded_own (HE.out.keep Hm04.out) 2 (by omega) (by omega)
        simp only [errOf, errV, if_true, show ((2 : Int) = 0) = False by simp, if_false, show (2 : Int).toNat - 1 = 1 from rfl] at hcd
        refine hcd.mono ?_
        clear hcd
        rintro e w5 ⟨rfl, hm⟩
        have A5 := HA4.out.keep0 hm
        have hm15 : Mod (fun x => x = w0.heap.size) wr w5 := (Hm13.out.any.trans Hm4.out (fun x hx e => e)).trans0 hm
        have hnew : ActsRel w (w0.heap.size + 1) w0.heap.size bm k L m w5 := ⟨A5, HT.out.repg hm15, HT.out.om, HT.out.ol, HT.out.top, HT.out.times, HT.out.waits, HT.out.foot, HT.out.hb, HT.out.hg, HT.out.mod.trans hm15 (fun x hx e => by omega)⟩
        have Hnew5 := Lib.hid hnew
        clear A5 hm15 hm hnew
        go_wp2_with fail
        refine (arenaCount Hnew5.out.at_ Hnew5.out.om.cells).mono ?_
        rintro e w8 ⟨rfl, hm8⟩
        have H8 := Lib.hid (Hnew5.out.keep hm8)
        clear hm8
        go_wp2_with fail
        have hcall := count_any H8.out.rep rfl rfl H8.out.om H8.out.ol
        rw [H8.out.top] at hcall
        refine hcall.mono ?_
        clear hcall
        rintro e w9 ⟨rfl, hm9⟩
        have H9 := Lib.hid (H8.out.keep hm9)
        clear hm9
        go_wp2
        go_roundw
        case rel => exact ⟨k + 1, by omega, by go_num, _, _, H9.out.up (by omega)⟩
        case measure => simp [intOf]; omega
      · rw [hat]
        clear hat
        obtain ⟨i, ci, rfl, hil, hci, hh, rfl⟩ := hereIn_at hin
        obtain ⟨j, rfl⟩ := Int.eq_ofNat_of_zero_le hW0
        have hlc := astore_any HT3.out.at_ (HE.out.keep HT3.out.mod).four HT3.out.om.cells HT3.out.timesOk HT3.out.wordsOk i (ci.times - 1) j V
        rw [hse] at hlc
        simp only [errOf', errV, if_true, if_false, show (0 : Int).toNat - 1 = 0 from rfl, show ((0 : Int) = 0) = True by simp] at hlc
        have Hlc := Lib.hid hlc
        clear hlc
        have x0 : w3.cell? ⟨wr.heap.size, 0, none⟩ = some (.string kind) := (cell_of_heap Hx3.out 0).trans rfl
        have x1 : w3.cell? ⟨wr.heap.size, 1, none⟩ = some (.int .i64 i) := (cell_of_heap Hx3.out 1).trans rfl
        have x2 : w3.cell? ⟨wr.heap.size, 2, none⟩ = some (.int .i64 (ci.times - 1)) := (cell_of_heap Hx3.out 2).trans rfl
        have x3 : w3.cell? ⟨wr.heap.size, 3, none⟩ = some (.int .i64 j) := (cell_of_heap Hx3.out 3).trans rfl
        have x4 : w3.cell? ⟨wr.heap.size, 4, none⟩ = some (.int .i64 V) := (cell_of_heap Hx3.out 4).trans rfl
        have xb := lt_of_block Hx3.out
        have Hiw := Lib.hid hiw
        clear hiw
        go_wp2_with (first | (go_at_call 31; refine (isWord_any _ _).mono ?_; rintro e w' ⟨rfl, rfl⟩; rw [Hiw.out]) | fail)
        refine Hlc.out.mono ?_
        rintro e w4 ⟨rfl, hm4, A4⟩
        have hx4 := hm4.heap Hx3.out (by omega)
        have hm04 : Mod noF w w4 := HT3.out.mod.trans hm4 (fun x hx e => by omega)
        have HA4 := Lib.hid A4
        have Hm4 := Lib.hid hm4
        have Hx4 := Lib.hid hx4
        have Hm04 := Lib.hid hm04
        clear Hlc A4 hm4 hm04 hx4 x0 x1 x2 x3 x4 xb
        go_wp2_with fail
        have hcd := coded_own (HE.out.keep Hm04.out) 0 (by omega) (by omega)
        simp only [errOf, errV, if_true, show ((0 : Int) = 0) = True by simp, if_false, show (0 : Int).toNat - 1 = 0 from rfl] at hcd
        refine hcd.mono ?_
        clear hcd
        rintro e w5 ⟨rfl, hm⟩
        have hx5 := hm.heap Hx4.out (fun e => e)
        have R5 := (HT3.out.repg Hm4.out).frame0 hm
        have A5 := HA4.out.keep0 hm
        simp only [Int.toNat_natCast] at A5
        rw [setWord_at hci] at A5
        have hwl := (HT.out.om.words i ci hci).1
        have hup := R5.setWord rfl HT.out.ol hci (j := j) (by omega) V
        rw [setWord_at hci] at hup
        have hm15 : Mod (fun x => x = w0.heap.size) wr w5 := (Hm13.out.any.trans Hm4.out (fun x hx e => e)).trans0 hm
        have x0 : w5.cell? ⟨wr.heap.size, 0, none⟩ = some (.string kind) := (cell_of_heap hx5 0).trans rfl
        have x1 : w5.cell? ⟨wr.heap.size, 1, none⟩ = some (.int .i64 i) := (cell_of_heap hx5 1).trans rfl
        have x2 : w5.cell? ⟨wr.heap.size, 2, none⟩ = some (.int .i64 (ci.times - 1)) := (cell_of_heap hx5 2).trans rfl
        have x3 : w5.cell? ⟨wr.heap.size, 3, none⟩ = some (.int .i64 j) := (cell_of_heap hx5 3).trans rfl
        have x4 : w5.cell? ⟨wr.heap.size, 4, none⟩ = some (.int .i64 V) := (cell_of_heap hx5 4).trans rfl
        have xb := lt_of_block hx5
        have m0 := R5.cells_at rfl HT.out.ol
        obtain ⟨m2, -, -⟩ := R5.cell_at rfl HT.out.ol hci
        have m6 := word_at R5 rfl HT.out.ol hci (j := j) (by omega)
        have hn6 := HT.out.ol.n6 i hil
        have mf := R5.free (K := memK) (a := 6) (i := i) rfl (obj6 ty hn6 hci) j
        have mb := R5.lt1 rfl
        have mb2 := R5.lt2 rfl HT.out.ol
        have mb6 : L.blk 6 i < w5.heap.size := R5.lt ⟨6, i, rfl, by rw [obj6 ty hn6 hci]; rfl, rfl⟩
        have mn := HT.out.om.cells
        have mi : (i : Int) < (m.cells.length : Int) := by omega
        have mj : (j : Int) < 4 := by omega
        rw [hwl] at m2
        rw [HT.out.top] at m0 mb
        generalize ci.words.getD j 0 = old at m6
        generalize 4 + L.sp 6 i = cap6 at m2
        have hnew := HT.out.turned hci hm15 A5 hup.rep hup.mod ⟨by simpa using hwl, fun v hv => by
          rcases List.mem_or_eq_of_mem_set hv with h | h
          · exact (HT.out.om.words i ci hci).2 v h
          · rw [h]; exact Hiw.out⟩ rfl
        have Hnew := Lib.hid hnew
        clear hx5 R5 A5 hup hm15 hm hnew hin hci hh hn6
        go_wp2_with fail
        refine wp_region_still_tail 15 (by kernel_rfl) (by kernel_rfl) ?_
        simp only [List.take_succ_cons, List.take_zero, List.drop_succ_cons, List.drop_zero, World.drew_eq]
        repeat (first | still_step)
        refine wpStill_nil ?_
        go_wp2_with fail
        have Hf := Lib.hid (Hnew.out.keep (Mod.drew (Mod.refl noF _)))
        refine (arenaCount Hf.out.at_ Hf.out.om.cells).mono ?_
        rintro e w8 ⟨rfl, hm8⟩
        have H8 := Lib.hid (Hf.out.keep hm8)
        clear hm8
        go_wp2_with fail
        have hcall := count_any H8.out.rep rfl rfl H8.out.om H8.out.ol
        rw [H8.out.top] at hcall
        refine hcall.mono ?_
        clear hcall
        rintro e w9 ⟨rfl, hm9⟩
        have H9 := Lib.hid (H8.out.keep hm9)
        clear hm9
        go_wp2
        go_roundw
        case rel => exact ⟨k + 1, by omega, by go_num, _, _, H9.out.up (by omega)⟩
        case measure => simp [intOf]; omega
    · have hd3 : decide ((k : Int) < (l.length : Int)) = false := by simp; omega
      clear T
      go_wp2
      go_ret
      exact ⟨rfl, HT.out.mod⟩
end Go.Proofs.YtamfbfajlfbooaaDoor
