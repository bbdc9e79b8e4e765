/- ArenaStale, walked. -/
import Derived.Test.YtamfbfajlfbooaaDoorRStaleLaw
import Derived.Test.YtamfbfajlfbooaaDoorRArenaWord
import Derived.Test.YtamfbfajlfbooaaDoorREmitLaw
import Derived.Test.YtamfbfajlfbooaaDoorRm2
import Derived.Test.YtamfbfajlfbooaaDoorRSetLaw
import Derived.Deep.RegionHeld3
import Derived.Deep.RegionWith
import Derived.LoopTactic
set_option linter.unusedVariables false
set_option linter.unusedSimpArgs false
set_option linter.unusedSectionVars false
namespace Go.Proofs.YtamfbfajlfbooaaDoor
open Go.RowKit Qs Qh
theorem refInfo : (Tryd.prog.info? 58).map (fun i => (i.zero, i.size, i.bytes)) = some (some (.agg #[.int .i64 0, .int .i64 0]), 2, 16) := by kernel_rfl
theorem errOf_same (a : Nat → Addr) (e : Int) : errOf' a e = errOf a e := rfl
set_option maxHeartbeats 4000000 in
theorem afree_stale {w : World} {b g : Nat} {l : List Cell} {a : Nat → Addr} (R : AAt w b g l) (E : ErrsAt w a) (hn : l.length ≤ 64) (ht : timesOk l) (c r : Int) (h : hereIn l c r = false) :
    Calls Tryd.prog 65 #[.pointer (some ⟨b, 0, none⟩), .agg #[.int .i64 c, .int .i64 r]] w fun e w' => e = .returned (.iface 152 (.pointer (some (a 6)))) ∧ Mod noF w w' := by
  have hq := (Mod.refl noF w).alloc (refBox c r)
  have hcall := arenaAt_miss (R.keep0 hq) (E.keep hq) hn ht c r h
  unfold errV at hcall
  have Hcall := Lib.hid hcall
  clear hcall R E ht h hq
  go_enter Tryd.func65, Tryd.ntmps65
  go_wp2_with fail
  refine Hcall.out.mono ?_
  rintro e w1 ⟨rfl, hm⟩
  have Hm := Lib.hid (((Mod.refl noF w).alloc _).trans0 hm)
  clear hm Hcall
  go_wp2
  go_ret
  exact ⟨rfl, Hm.out⟩
/-- What the outer loop keeps. -/
structure StaleRel (w : World) (b g n i : Nat) (l : List Cell) (v : Value) (wr : World) : Prop where
  st : StaleSt n i l
  at_ : AAt wr b g l
  row : wr.ownsRow 0 58 2 v i (flat staleV 0 (List.range i))
  vb : ¬ v.ownBlock = some b
  vg : ¬ v.ownBlock = some g
  hv : ∀ k, v.ownBlock = some k → w.heap.size ≤ k
  mod : Mod noF w wr
set_option maxRecDepth 100000 in
set_option maxHeartbeats 20000000 in
theorem stale_in (n times : Nat) (h1 : 1 ≤ n) (h64 : n ≤ 64) (ht : times ≤ 60) (w : World) (a : Nat → Addr) (E : ErrsAt w a) :
    Calls Tryd.prog 14 #[.int .i64 n, .int .i64 times] w fun e w' => e = .returned (.bool true) ∧ Mod noF w w' := by
  have d0 : decide ((n : Int) < 1) = false := by simp; omega
  have d1 : decide ((64 : Int) < (n : Int)) = false := by simp; omega
  have d2 : decide ((times : Int) < 0) = false := by simp
  have d3 : decide ((60 : Int) < (times : Int)) = false := by simp; omega
  obtain ⟨ii, hii, hz0, hz1, hz2⟩ := info_parts refInfo
  have HE := Lib.hid E
  clear E
  go_enter Tryd.func14, Tryd.ntmps14
  go_wp2_with fail
  refine (first_ok w a HE.out).mono ?_
  rintro e w0 ⟨rfl, hm0⟩
  have Hm0 := Lib.hid hm0
  clear hm0
  go_wp2_with fail
  refine (arenaNew_ok n h1 h64 w0).mono ?_
  rintro e w1 ⟨rfl, R1, hm1⟩
  have hs01 := Hm0.out.size
  have hs11 := hm1.size
  have hst : StaleRel w (w0.heap.size + 1) w0.heap.size n 0 (List.replicate n freshCell) (.slice none 0 0) w1 :=
    ⟨StaleSt.start h1, R1, World.ownsRow_nil _ 0 _ 2, (fun h => by cases h), (fun h => by cases h), (fun k h => by cases h), Hm0.out.trans0 hm1⟩
  have Hst := Lib.hid hst
  clear hm1 R1 hst
  go_wp2
  go_loopw [8, 9, 10, 11, 12, 13, 14] (fun v i _ _ _ _ _ wr => ∃ k : Nat, k ≤ times ∧ i = .int .i64 k ∧ ∃ l, StaleRel w (w0.heap.size + 1) w0.heap.size n k l v wr) (fun _ i _ _ _ _ _ _ => times - (intOf i).toNat)
  case atStart => exact ⟨0, Nat.zero_le _, rfl, _, Hst.out⟩
  case round =>
    obtain ⟨i, hi, rfl, l, T⟩ := hrel
    obtain ⟨va, vb, vc, rfl⟩ := slice_of_own T.row
    have HT := Lib.hid T
    by_cases hlt : i < times
    · have hd : decide ((i : Int) < (times : Int)) = true := by simp; omega
      have hcall := arenaAlloc T.at_ (HE.out.keep T.mod) (by rw [T.st.len]; exact h64) (T.st.ok (by omega))
      have Hcall := Lib.hid hcall
      clear hcall T
      go_wp2_with fail
      refine Hcall.out.mono ?_
      rintro e w2 h2
      rcases h2 with ⟨i', c, ha, hc, rfl, R2, hm2⟩ | ⟨ha, -, -⟩
      · rw [HT.out.st.alloc] at ha
        simp only [Option.some.injEq, Prod.mk.injEq] at ha
        obtain ⟨rfl, hct⟩ := ha
        obtain ⟨l2, l3, hl2, hl3, hse, hh2, hst3, hn1, hn2, ht1, ht2, hwo1⟩ := stale_round HT.out.st hc (by omega) hct.symm
        rw [← hct]
        have hbg : w.heap.size ≤ w0.heap.size := hs01
        have hq2 := (Mod.refl noF w2).alloc (refBox 0 i)
        have hm2w : Mod noF w w2 := HT.out.mod.trans hm2 (fun x hx e => by omega)
        have hcall := astore_any (R2.keep0 hq2) (HE.out.keep (hm2w.alloc (refBox 0 i))) (by rw [hn1]; exact h64) ht1 hwo1 0 i 0 i
        rw [hse, if_pos rfl] at hcall
        have hrow2 := owns_mod HT.out.row hm2 (fun k hk e => HT.out.vg (e ▸ hk))
        have hs2 := hm2.size
        have hx2 := heap_alloc_new w2 (refBox 0 i)
        have Hrow2 := Lib.hid hrow2
        have Hcall2 := Lib.hid hcall
        have Hm2w := Lib.hid hm2w
        have Hx2 := Lib.hid hx2
        have Hst3 := Lib.hid hst3
        have Hht2 := Lib.hid ht2
        have Hl2 := Lib.hid hl2
        have Hl3 := Lib.hid hl3
        have Hh2 := Lib.hid hh2
        clear hcall hm2 R2 hq2 hm2w hrow2 hx2 hst3 ht2 hl2 hl3 hh2 hse hn1 ht1 hwo1 hc hct Hcall
        go_wp2_with fail
        refine Hcall2.out.mono ?_
        rintro e w3 ⟨rfl, hm3, R3⟩
        rw [show ((0 : Int)).toNat = 0 from rfl, Hl2.out] at R3
        have hm3w : Mod noF w w3 := (Hm2w.out.alloc (refBox 0 i)).trans hm3 (fun x hx e => by omega)
        have hgl := HT.out.at_.lt.2
        have hg2 : w0.heap.size < w2.heap.size := by omega
        have hx3 := hm3.heap Hx2.out (by omega)
        have b0 : w3.cell? ⟨w2.heap.size, 0, none⟩ = some (.int .i64 0) := (cell_of_heap hx3 0).trans rfl
        have b1 : w3.cell? ⟨w2.heap.size, 1, none⟩ = some (.int .i64 i) := (cell_of_heap hx3 1).trans rfl
        have hb3 := lt_of_block hx3
        have hrow3 := owns_mod (World.ownsRow.alloc Hrow2.out (refBox 0 i)) hm3 (fun k hk e => HT.out.vg (e ▸ hk))
        have hcall := afree_any R3 (HE.out.keep hm3w) (by rw [hn2]; exact h64) Hht2.out 0 i
        rw [Hh2.out, if_pos rfl, if_pos rfl, show ((0 : Int)).toNat = 0 from rfl, Hl3.out] at hcall
        have Hcall3 := Lib.hid hcall
        have Hm3w := Lib.hid hm3w
        have Hx3 := Lib.hid hx3
        have Hrow3 := Lib.hid hrow3
        clear hcall hm3 hm3w hx3 hrow3 R3 Hcall2 Hht2
        simp only [errOf', if_true]
        go_wp2_with fail
        refine Hcall3.out.mono ?_
        rintro e w4 ⟨rfl, hm4, R4⟩
        have hm4w : Mod noF w w4 := Hm3w.out.trans hm4 (fun x hx e => by omega)
        have hx4 := hm4.heap Hx3.out (by omega)
        have b0 : w4.cell? ⟨w2.heap.size, 0, none⟩ = some (.int .i64 0) := (cell_of_heap hx4 0).trans rfl
        have b1 : w4.cell? ⟨w2.heap.size, 1, none⟩ = some (.int .i64 i) := (cell_of_heap hx4 1).trans rfl
        have hb4 := lt_of_block hx4
        have hrow4 := owns_mod Hrow3.out hm4 (fun k hk e => HT.out.vg (e ▸ hk))
        have hs4 := hm4w.size
        have HR4 := Lib.hid R4
        have Hm4w := Lib.hid hm4w
        have Hx4 := Lib.hid hx4
        have Hrow4 := Lib.hid hrow4
        clear hm4 hm4w hx4 hrow4 R4 Hcall3
        simp only [errOf', if_true]
        go_wp2_with (at_builtin; refine wpList_append_mine _ rfl (.tmp 71) (.tmp 73) 61 rfl 58 ii (.agg #[.int .i64 0, .int .i64 0]) 2 16 Tryd.underlying61 hii hz0 hz1 hz2 rfl (by decide) _ _ (flat staleV 0 (List.range i)) rfl (World.ownsRow.alloc Hrow4.out _) ⟨w4.heap.size, 0, none⟩ 1 1 [iv 0, iv (i : Nat)] rfl rfl (new_cells w4 [iv 0, iv (i : Nat)] _) (by intro u hu; simp at hu; rcases hu with rfl | rfl <;> rfl) (by unfold maxLen; omega) (by omega) ?_; intro v5 w5 hown5 hgr5 hfr5 hz5; rcases hown5.2 with ⟨_, e0⟩ | ⟨gr, cap, cur, rfl, _⟩; omega; have Hown5 := Lib.hid hown5; have Hgr5 := Lib.hid hgr5; have Hfr5 := Lib.hid hfr5; clear hown5 hgr5 hfr5 hz5)
        have hgrM : Mod (fun k => (Value.slice va vb vc).ownBlock = some k) (w4.alloc (.cells #[iv 0, iv (i : Nat)] 58)) w5 := (Mod.refl _ _).grown Hgr5.out (fun k hk _ => hk)
        have hM5 : Mod (fun k => (Value.slice va vb vc).ownBlock = some k) w4 w5 := ((Mod.refl _ w4).alloc _).trans hgrM (fun x _ h => h)
        have R5 := HR4.out.keep hM5 HT.out.vb HT.out.vg
        have hm5w : Mod noF w w5 := Hm4w.out.trans hM5 (fun x hx e => by have := HT.out.hv x e; omega)
        have hx5 := hM5.heap Hx4.out (fun e => by have := (World.ownsRow.lt HT.out.row _ e).2; omega)
        have hrow5 := Hown5.out
        rw [show flat staleV 0 (List.range i) ++ [iv 0, iv (i : Nat)] = flat staleV 0 (List.range (i + 1)) from (staleV_snoc i).symm] at hrow5
        have hfr : ∀ k, (Value.slice (some ⟨gr, 0, none⟩) (i + 1) cap).ownBlock = some k → (Value.slice va vb vc).ownBlock = some k ∨ w4.heap.size < k + 1 := fun k hk => by
          rcases Hfr5.out k hk with h | h
          · exact .inl h
          · right
            simp at h
            omega
        have hb4' := HR4.out.lt
        have hstr : StaleRel w (w0.heap.size + 1) w0.heap.size n (i + 1) l3 (.slice (some ⟨gr, 0, none⟩) (i + 1) cap) w5 :=
          ⟨Hst3.out, R5, hrow5, (fun h => (hfr _ h).elim HT.out.vb (fun h2 => by omega)), (fun h => (hfr _ h).elim HT.out.vg (fun h2 => by omega)), (fun k h => (hfr _ h).elim (HT.out.hv k) (fun h2 => by omega)), hm5w⟩
        have Hstr := Lib.hid hstr
        have Hx5 := Lib.hid hx5
        have hgrl := (World.ownsRow.lt hrow5 gr rfl).2
        clear hgrM hM5 R5 hm5w hx5 hrow5 hfr hstr b0 b1
        go_loopw [12, 13, 14] (fun x _ _ wr2 => ∃ k : Nat, k ≤ i + 1 ∧ x = .int .i64 k ∧ Mod noF w5 wr2) (fun x _ _ _ => (i + 1) - (intOf x).toNat)
        case atStart => exact ⟨0, Nat.zero_le _, rfl, Mod.refl _ _⟩
        case round =>
          obtain ⟨k, hk, rfl, hm6⟩ := hrel
          have Hm6 := Lib.hid hm6
          clear hm6
          by_cases hlt2 : k < i + 1
          · have hd2 : decide ((k : Int) < ((i + 1 : Nat) : Int)) = true := by simp; omega
            have hd3 : decide ((k : Int) < (i : Int) + 1) = true := by simp; omega
            have hki : (k : Int) < (i : Int) + 1 := by omega
            obtain ⟨q0, q1⟩ := stale_cell (owns_mod Hstr.out.row Hm6.out (fun _ _ e => e)) hlt2
            have hgb := World.block_lt_of_cell? _ _ q0
            have hld := aload_any (Hstr.out.at_.keep0 Hm6.out) (HE.out.keep (Hstr.out.mod.trans0 Hm6.out)) (by rw [Hstr.out.st.len]; exact h64) (Hstr.out.st.ok (by omega)) 0 k 0
            rw [show loadE l3 0 (k : Int) 0 = (0, 7) by unfold loadE; rw [Hstr.out.st.stale]; rfl] at hld
            have Hld := Lib.hid hld
            clear hld
            go_wp2_with fail
            refine Hld.out.mono ?_
            rintro e w7 ⟨rfl, hm7⟩
            have hm57 := Hm6.out.trans0 hm7
            have hS : ∀ W, Mod noF w7.drew W → (Mod noF w7.drew W ∧ W.cell? ⟨gr, k * 2, none⟩ = some (.int .i64 0) ∧ W.cell? ⟨gr, k * 2 + 1, none⟩ = some (.int .i64 k) ∧ W.cell? ⟨w2.heap.size, 0, none⟩ = some (.int .i64 0) ∧ W.cell? ⟨w2.heap.size, 1, none⟩ = some (.int .i64 i)) := by
              intro W hW
              have hW7 : Mod noF w5 W := (hm57.drew).trans0 hW
              obtain ⟨q0, q1⟩ := stale_cell (owns_mod Hstr.out.row hW7 (fun _ _ e => e)) hlt2
              have hx := hW7.heap Hx5.out (fun e => e)
              exact ⟨hW, q0, q1, (cell_of_heap hx 0).trans rfl, (cell_of_heap hx 1).trans rfl⟩
            have hcod : ∀ W, Mod noF w7.drew W → Calls Tryd.prog 38 #[.iface 152 (.pointer (some (a 6))), .int .i64 7] W fun e w' => e = .returned (.bool true) ∧ Mod noF w7.drew W ∧ Mod noF w7.drew w' := by
              intro W hW
              have hW7 : Mod noF w5 W := (hm57.drew).trans0 hW
              exact (coded_at (HE.out.keep (Hstr.out.mod.trans0 hW7)) 6 (by omega) 7).mono fun e w' h => ⟨h.1, hW, hW.trans0 h.2⟩
            have hfree : ∀ W, Mod noF w7.drew W → Calls Tryd.prog 65 #[.pointer (some ⟨w0.heap.size + 1, 0, none⟩), .agg #[.int .i64 0, .int .i64 k]] W fun e w' => e = .returned (.iface 152 (.pointer (some (a 6)))) ∧ Mod noF w7.drew W ∧ Mod noF w7.drew w' := by
              intro W hW
              have hW7 : Mod noF w5 W := (hm57.drew).trans0 hW
              exact (afree_stale (Hstr.out.at_.keep0 hW7) (HE.out.keep (Hstr.out.mod.trans0 hW7)) (by rw [Hstr.out.st.len]; exact h64) (Hstr.out.st.ok (by omega)) 0 k (Hstr.out.st.stale 0 k)).mono fun e w' h => ⟨h.1, hW, hW.trans0 h.2⟩
            have HS := Lib.hid hS
            have Hcod := Lib.hid hcod
            have Hfr := Lib.hid hfree
            have Hm57 := Lib.hid hm57
            obtain ⟨-, z0, z1, z2, z3⟩ := HS.out w7.drew (Mod.refl _ _)
            have hg7 : gr < w7.heap.size := by have := hm57.size; omega
            have hw27 : w2.heap.size < w7.heap.size := by have := hm57.size; have := lt_of_block Hx5.out; omega
            clear hS hcod hfree hm7 hm57 Hld q0 q1
            simp only [errOf', errV, show ((7 : Int) = 0) = False by decide, if_false, show (7 : Int).toNat - 1 = 6 from rfl]
            by_cases hk2 : k < i
            · have hd4 : decide (k < i) = true := by simpa using hk2
              have hd6 : decide ((k : Int) < (i : Int)) = true := by simpa using hk2
              have hd7 : (k : Int) < (i : Int) := by omega
              have hd5 : ((k : Int) == (i : Int)) = false := by rw [beq_eq_false_iff_ne]; omega
              go_wp2
              first | (go_region_held3 (fun W => Mod noF w7.drew W ∧ W.cell? ⟨gr, k * 2, none⟩ = some (.int .i64 0) ∧ W.cell? ⟨gr, k * 2 + 1, none⟩ = some (.int .i64 k) ∧ W.cell? ⟨w2.heap.size, 0, none⟩ = some (.int .i64 0) ∧ W.cell? ⟨w2.heap.size, 1, none⟩ = some (.int .i64 i)) ((refine HS.out _ ?_; first | assumption | exact Mod.refl _ _)) (first | (go_at_call 38; go_split_ands; refine (Hcod.out _ ?_).mono ?_; assumption; rintro e w8 ⟨rfl, hm8, hm9⟩) | (go_at_call 65; go_split_ands; refine (Hfr.out _ ?_).mono ?_; assumption; rintro e w8 ⟨rfl, hm8, hm9⟩))) | (fail "held")
              go_wp2
              go_roundw
              case rel => exact ⟨k + 1, by omega, by go_num, Hm57.out.drew.trans0 hm9⟩
              case measure => simp [intOf]; omega
            · have hd4 : decide (k < i) = false := by simpa using hk2
              have hd6 : decide ((k : Int) < (i : Int)) = false := by simpa using hk2
              go_wp2
              refine wp_region_held_drew (S := fun W => Mod noF w7.drew W ∧ W.cell? ⟨gr, k * 2, none⟩ = some (.int .i64 0) ∧ W.cell? ⟨gr, k * 2 + 1, none⟩ = some (.int .i64 k) ∧ W.cell? ⟨w2.heap.size, 0, none⟩ = some (.int .i64 0) ∧ W.cell? ⟨w2.heap.size, 1, none⟩ = some (.int .i64 i)) (by kernel_rfl) (HS.out _ (Mod.refl _ _)) (fun hHeld => ?_)
              refine wpAnyH_take (i := 0) (oi := ?o0) (v := ?v0) ?q0 (by kernel_rfl) ?f0 ?g0 ?p0 ?u0 (by assumption) ?r0
              case q0 => (rw [List.getElem?_toArray]; rfl)
              case f0 => kernel_rfl
              case g0 => kernel_rfl
              case p0 => exact (fun _ _ _ h => h)
              case u0 => (refine Or.inl ⟨by rfl, ?_⟩; intro w hSw; (try dsimp only at hSw); go_simp; try with_reducible rfl)
              try simp only [Act.put, List.setIfInBounds_toArray, List.set_cons_zero, List.set_cons_succ]
              refine wpAnyH_ready (rs := [1]) (by kernel_rfl) (by simp) ?_
              refine AllReadyH.cons rfl (fun K hK => ?_) AllReadyH.nil
              go_simp
              go_split_ands
              refine (Hcod.out _ ?_).mono ?_; assumption
              rintro e w8 ⟨rfl, hm8, hm9⟩
              go_wp2_with fail
              refine hK.out _ _ (HS.out _ hm9) (fun hHeld => ?_)
              clear hK K
              try simp only [Act.put, List.setIfInBounds_toArray, List.set_cons_zero, List.set_cons_succ]
              refine wpAnyH_take (i := 2) (oi := ?o2) (v := ?v2) ?q2 (by kernel_rfl) ?f2 ?g2 ?p2 ?u2 (by assumption) ?r2
              case q2 => (rw [List.getElem?_toArray]; rfl)
              case f2 => kernel_rfl
              case g2 => kernel_rfl
              case p2 => exact (fun _ _ _ h => h)
              case u2 => (refine Or.inl ⟨by rfl, ?_⟩; intro w hSw; (try dsimp only at hSw); go_simp; try with_reducible rfl)
              try simp only [Act.put, List.setIfInBounds_toArray, List.set_cons_zero, List.set_cons_succ]
              refine wpAnyH_take (i := 3) (oi := ?o3) (v := ?v3) ?q3 (by kernel_rfl) ?f3 ?g3 ?p3 ?u3 (by assumption) ?r3
              case q3 => (rw [List.getElem?_toArray]; rfl)
              case f3 => kernel_rfl
              case g3 => kernel_rfl
              case p3 => exact (fun _ _ _ h => h)
              case u3 => (refine Or.inl ⟨by rfl, ?_⟩; intro w hSw; (try dsimp only at hSw); go_simp; try with_reducible rfl)
              try simp only [Act.put, List.setIfInBounds_toArray, List.set_cons_zero, List.set_cons_succ]
              refine wpAnyH_take (i := 4) (oi := ?o4) (v := ?v4) ?q4 (by kernel_rfl) ?f4 ?g4 ?p4 ?u4 (by assumption) ?r4
              case q4 => (rw [List.getElem?_toArray]; rfl)
              case f4 => kernel_rfl
              case g4 => kernel_rfl
              case p4 => exact (fun _ _ _ h => h)
              case u4 => (refine Or.inl ⟨by rfl, ?_⟩; intro w hSw; (try dsimp only at hSw); go_simp; try with_reducible rfl)
              try simp only [Act.put, List.setIfInBounds_toArray, List.set_cons_zero, List.set_cons_succ]
              refine wpAnyH_take (i := 5) (oi := ?o5) (v := ?v5) ?q5 (by kernel_rfl) ?f5 ?g5 ?p5 ?u5 (by assumption) ?r5
              case q5 => (rw [List.getElem?_toArray]; rfl)
              case f5 => kernel_rfl
              case g5 => kernel_rfl
              case p5 => exact (fun _ _ _ h => h)
              case u5 => (refine Or.inl ⟨by rfl, ?_⟩; intro w hSw; (try dsimp only at hSw); go_simp; try with_reducible rfl)
              try simp only [Act.put, List.setIfInBounds_toArray, List.set_cons_zero, List.set_cons_succ]
              refine wpAnyH_take (i := 6) (oi := ?o6) (v := ?v6) ?q6 (by kernel_rfl) ?f6 ?g6 ?p6 ?u6 (by assumption) ?r6
              case q6 => (rw [List.getElem?_toArray]; rfl)
              case f6 => kernel_rfl
              case g6 => kernel_rfl
              case p6 => exact (fun _ _ _ h => h)
              case u6 => (refine Or.inl ⟨by rfl, ?_⟩; intro w hSw; (try dsimp only at hSw); go_simp; try with_reducible rfl)
              try simp only [Act.put, List.setIfInBounds_toArray, List.set_cons_zero, List.set_cons_succ]
              refine wpAnyH_take (i := 7) (oi := ?o7) (v := ?v7) ?q7 (by kernel_rfl) ?f7 ?g7 ?p7 ?u7 (by assumption) ?r7
              case q7 => (rw [List.getElem?_toArray]; rfl)
              case f7 => kernel_rfl
              case g7 => kernel_rfl
              case p7 => exact (fun _ _ _ h => h)
              case u7 => (refine Or.inl ⟨by rfl, ?_⟩; intro w hSw; (try dsimp only at hSw); go_simp; try with_reducible rfl)
              try simp only [Act.put, List.setIfInBounds_toArray, List.set_cons_zero, List.set_cons_succ]
              refine wpAnyH_take (i := 8) (oi := ?o8) (v := ?v8) ?q8 (by kernel_rfl) ?f8 ?g8 ?p8 ?u8 (by assumption) ?r8
              case q8 => (rw [List.getElem?_toArray]; rfl)
              case f8 => kernel_rfl
              case g8 => kernel_rfl
              case p8 => exact (fun _ _ _ h => h)
              case u8 => (refine Or.inl ⟨by rfl, ?_⟩; intro w hSw; (try dsimp only at hSw); go_simp; try with_reducible rfl)
              try simp only [Act.put, List.setIfInBounds_toArray, List.set_cons_zero, List.set_cons_succ]
              refine wpAnyH_ready (rs := [9]) (by kernel_rfl) (by simp) ?_
              refine AllReadyH.cons rfl (fun K hK => ?_) AllReadyH.nil
              go_simp
              refine (Hfr.out _ (by assumption)).mono ?_
              rintro e w8 ⟨rfl, hm8, hm9⟩
              go_wp2_with fail
              refine hK.out _ _ (HS.out _ hm9) (fun hHeld => ?_)
              clear hK K
              try simp only [Act.put, List.setIfInBounds_toArray, List.set_cons_zero, List.set_cons_succ]
              refine wpAnyH_ready (rs := [10]) (by kernel_rfl) (by simp) ?_
              refine AllReadyH.cons rfl (fun K hK => ?_) AllReadyH.nil
              go_simp
              refine (Hcod.out _ (by assumption)).mono ?_
              rintro e w8 ⟨rfl, hm8, hm9⟩
              go_wp2_with fail
              refine hK.out _ _ (HS.out _ hm9) (fun hHeld => ?_)
              clear hK K
              try simp only [Act.put, List.setIfInBounds_toArray, List.set_cons_zero, List.set_cons_succ]
              refine wpAnyH_take (i := 11) (oi := ?o11) (v := ?v11) ?q11 (by kernel_rfl) ?f11 ?g11 ?p11 ?u11 (by assumption) ?r11
              case q11 => (rw [List.getElem?_toArray]; rfl)
              case f11 => kernel_rfl
              case g11 => kernel_rfl
              case p11 => exact (fun _ _ _ h => h)
              case u11 => (refine Or.inl ⟨by rfl, ?_⟩; intro w hSw; (try dsimp only at hSw); go_simp; try with_reducible rfl)
              try simp only [Act.put, List.setIfInBounds_toArray, List.set_cons_zero, List.set_cons_succ]
              refine wpAnyH_take (i := 12) (oi := ?o12) (v := ?v12) ?q12 (by kernel_rfl) ?f12 ?g12 ?p12 ?u12 (by assumption) ?r12
              case q12 => (rw [List.getElem?_toArray]; rfl)
              case f12 => kernel_rfl
              case g12 => kernel_rfl
              case p12 => exact (fun _ _ _ h => h)
              case u12 => (refine Or.inl ⟨by rfl, ?_⟩; intro w hSw; (try dsimp only at hSw); go_simp; try with_reducible rfl)
              try simp only [Act.put, List.setIfInBounds_toArray, List.set_cons_zero, List.set_cons_succ]
              refine wpAnyH_take (i := 13) (oi := ?o13) (v := ?v13) ?q13 (by kernel_rfl) ?f13 ?g13 ?p13 ?u13 (by assumption) ?r13
              case q13 => (rw [List.getElem?_toArray]; rfl)
              case f13 => kernel_rfl
              case g13 => kernel_rfl
              case p13 => exact (fun _ _ _ h => h)
              case u13 => (refine Or.inl ⟨by rfl, ?_⟩; intro w hSw; (try dsimp only at hSw); go_simp; try with_reducible rfl)
              try simp only [Act.put, List.setIfInBounds_toArray, List.set_cons_zero, List.set_cons_succ]
              refine wpAnyH_take (i := 14) (oi := ?o14) (v := ?v14) ?q14 (by kernel_rfl) ?f14 ?g14 ?p14 ?u14 (by assumption) ?r14
              case q14 => (rw [List.getElem?_toArray]; rfl)
              case f14 => kernel_rfl
              case g14 => kernel_rfl
              case p14 => exact (fun _ _ _ h => h)
              case u14 => (refine Or.inl ⟨by rfl, ?_⟩; intro w hSw; (try dsimp only at hSw); go_simp; try with_reducible rfl)
              try simp only [Act.put, List.setIfInBounds_toArray, List.set_cons_zero, List.set_cons_succ]
              refine wpAnyH_take (i := 15) (oi := ?o15) (v := ?v15) ?q15 (by kernel_rfl) ?f15 ?g15 ?p15 ?u15 (by assumption) ?r15
              case q15 => (rw [List.getElem?_toArray]; rfl)
              case f15 => kernel_rfl
              case g15 => kernel_rfl
              case p15 => exact (fun _ _ _ h => h)
              case u15 => (refine Or.inl ⟨by rfl, ?_⟩; intro w hSw; (try dsimp only at hSw); go_simp; try with_reducible rfl)
              try simp only [Act.put, List.setIfInBounds_toArray, List.set_cons_zero, List.set_cons_succ]
              refine wpAnyH_take (i := 16) (oi := ?o16) (v := ?v16) ?q16 (by kernel_rfl) ?f16 ?g16 ?p16 ?u16 (by assumption) ?r16
              case q16 => (rw [List.getElem?_toArray]; rfl)
              case f16 => kernel_rfl
              case g16 => kernel_rfl
              case p16 => exact (fun _ _ _ h => h)
              case u16 => (refine Or.inl ⟨by rfl, ?_⟩; intro w hSw; (try dsimp only at hSw); go_simp; try with_reducible rfl)
              try simp only [Act.put, List.setIfInBounds_toArray, List.set_cons_zero, List.set_cons_succ]
              refine wpAnyH_take (i := 17) (oi := ?o17) (v := ?v17) ?q17 (by kernel_rfl) ?f17 ?g17 ?p17 ?u17 (by assumption) ?r17
              case q17 => (rw [List.getElem?_toArray]; rfl)
              case f17 => kernel_rfl
              case g17 => kernel_rfl
              case p17 => exact (fun _ _ _ h => h)
              case u17 => (refine Or.inl ⟨by rfl, ?_⟩; intro w hSw; (try dsimp only at hSw); go_simp; try with_reducible rfl)
              try simp only [Act.put, List.setIfInBounds_toArray, List.set_cons_zero, List.set_cons_succ]
              refine wpAnyH_take (i := 18) (oi := ?o18) (v := undef) ?q18 (by kernel_rfl) ?f18 ?g18 ?p18 ?u18 (by assumption) ?r18
              case q18 => (rw [List.getElem?_toArray]; rfl)
              case f18 => kernel_rfl
              case g18 => kernel_rfl
              case p18 => exact (fun _ _ _ h => h)
              case u18 => exact Or.inr ⟨by kernel_rfl, rfl⟩
              try simp only [Act.put, List.setIfInBounds_toArray, List.set_cons_zero, List.set_cons_succ]
              refine wpAnyH_take (i := 19) (oi := ?o19) (v := undef) ?q19 (by kernel_rfl) ?f19 ?g19 ?p19 ?u19 (by assumption) ?r19
              case q19 => (rw [List.getElem?_toArray]; rfl)
              case f19 => kernel_rfl
              case g19 => kernel_rfl
              case p19 => exact (fun _ _ _ h => h)
              case u19 => exact Or.inr ⟨by kernel_rfl, rfl⟩
              try simp only [Act.put, List.setIfInBounds_toArray, List.set_cons_zero, List.set_cons_succ]
              refine wpAnyH_take (i := 20) (oi := ?o20) (v := undef) ?q20 (by kernel_rfl) ?f20 ?g20 ?p20 ?u20 (by assumption) ?r20
              case q20 => (rw [List.getElem?_toArray]; rfl)
              case f20 => kernel_rfl
              case g20 => kernel_rfl
              case p20 => exact (fun _ _ _ h => h)
              case u20 => exact Or.inr ⟨by kernel_rfl, rfl⟩
              try simp only [Act.put, List.setIfInBounds_toArray, List.set_cons_zero, List.set_cons_succ]
              refine wpAnyH_take (i := 21) (oi := ?o21) (v := undef) ?q21 (by kernel_rfl) ?f21 ?g21 ?p21 ?u21 (by assumption) ?r21
              case q21 => (rw [List.getElem?_toArray]; rfl)
              case f21 => kernel_rfl
              case g21 => kernel_rfl
              case p21 => exact (fun _ _ _ h => h)
              case u21 => exact Or.inr ⟨by kernel_rfl, rfl⟩
              try simp only [Act.put, List.setIfInBounds_toArray, List.set_cons_zero, List.set_cons_succ]
              refine wpAnyH_take (i := 22) (oi := ?o22) (v := undef) ?q22 (by kernel_rfl) ?f22 ?g22 ?p22 ?u22 (by assumption) ?r22
              case q22 => (rw [List.getElem?_toArray]; rfl)
              case f22 => kernel_rfl
              case g22 => kernel_rfl
              case p22 => exact (fun _ _ _ h => h)
              case u22 => exact Or.inr ⟨by kernel_rfl, rfl⟩
              try simp only [Act.put, List.setIfInBounds_toArray, List.set_cons_zero, List.set_cons_succ]
              refine wpAnyH_take (i := 23) (oi := ?o23) (v := undef) ?q23 (by kernel_rfl) ?f23 ?g23 ?p23 ?u23 (by assumption) ?r23
              case q23 => (rw [List.getElem?_toArray]; rfl)
              case f23 => kernel_rfl
              case g23 => kernel_rfl
              case p23 => exact (fun _ _ _ h => h)
              case u23 => exact Or.inr ⟨by kernel_rfl, rfl⟩
              try simp only [Act.put, List.setIfInBounds_toArray, List.set_cons_zero, List.set_cons_succ]
              refine wpAnyH_take (i := 24) (oi := ?o24) (v := ?v24) ?q24 (by kernel_rfl) ?f24 ?g24 ?p24 ?u24 (by assumption) ?r24
              case q24 => (rw [List.getElem?_toArray]; rfl)
              case f24 => kernel_rfl
              case g24 => kernel_rfl
              case p24 => exact (fun _ _ _ h => h)
              case u24 => (refine Or.inl ⟨by rfl, ?_⟩; intro w hSw; (try dsimp only at hSw); go_simp; try with_reducible rfl)
              try simp only [Act.put, List.setIfInBounds_toArray, List.set_cons_zero, List.set_cons_succ]
              refine wpAnyH_take (i := 25) (oi := ?o25) (v := ?v25) ?q25 (by kernel_rfl) ?f25 ?g25 ?p25 ?u25 (by assumption) ?r25
              case q25 => (rw [List.getElem?_toArray]; rfl)
              case f25 => kernel_rfl
              case g25 => kernel_rfl
              case p25 => exact (fun _ _ _ h => h)
              case u25 => (refine Or.inl ⟨by rfl, ?_⟩; intro w hSw; (try dsimp only at hSw); go_simp; try with_reducible rfl)
              try simp only [Act.put, List.setIfInBounds_toArray, List.set_cons_zero, List.set_cons_succ]
              refine wpAnyH_done (by kernel_rfl) ?_ _
              go_wp2
              go_roundw
              case rel => exact ⟨k + 1, by omega, by go_num, Hm57.out.drew.trans0 hm9⟩
              case measure => simp [intOf]; omega
          · have hd2 : decide ((k : Int) < ((i + 1 : Nat) : Int)) = false := by simp; omega
            have hd3 : decide ((k : Int) < (i : Int) + 1) = false := by simp; omega
            go_wp2
            go_roundw
            case rel => exact ⟨i + 1, by omega, by go_num, l3, ⟨Hstr.out.st, Hstr.out.at_.keep0 Hm6.out, owns_mod Hstr.out.row Hm6.out (fun _ _ e => e), Hstr.out.vb, Hstr.out.vg, Hstr.out.hv, Hstr.out.mod.trans0 Hm6.out⟩⟩
            case measure => simp [intOf]; omega
      · rw [HT.out.st.alloc] at ha; cases ha
    · have hd : decide ((i : Int) < (times : Int)) = false := by simp; omega
      have hcall := arenaCount T.at_ (by rw [T.st.len]; exact h64)
      rw [show countL l = 0 by unfold countL; rw [T.st.count]; rfl] at hcall
      have Hcall := Lib.hid hcall
      clear hcall T
      go_wp2_with fail
      refine Hcall.out.mono ?_
      rintro e w2 ⟨rfl, hm2⟩
      have Hm2 := Lib.hid hm2
      clear hm2
      go_wp2
      go_ret
      exact ⟨rfl, HT.out.mod.trans0 Hm2.out⟩
end Go.Proofs.YtamfbfajlfbooaaDoor
