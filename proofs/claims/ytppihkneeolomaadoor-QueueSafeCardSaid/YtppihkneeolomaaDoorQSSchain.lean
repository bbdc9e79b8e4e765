/- quiescentlaw3.chain: what stands in the queue at rest, read. -/
import Derived.Test.YtppihkneeolomaaDoorQSStop
import Derived.Test.YtppihkneeolomaaDoorQSm9
set_option linter.unusedVariables false
set_option linter.unusedSimpArgs false
set_option linter.unusedSectionVars false
namespace Go.Proofs.YtppihkneeolomaaDoor
open Go.RowKit Qs Qh Qg
variable {w w' : World} {L : Lay} {m : M} {N : Int}
def lenOf : Value → Nat
  | .slice _ n _ => n
  | _ => 0
theorem IOwn.len {x : Value} {l : List Int} (h : IOwn w x l) : lenOf x = l.length := by
  rcases h.2 with ⟨rfl, h0⟩ | ⟨g, cap, cur, rfl, _⟩
  · exact h0.symm
  · rfl
theorem NodeAt.quiet {x : Int} (h : NodeAt w L m x) {w1 : World} (hM : Mod noF w w1) : NodeAt w1 L m x := by
  obtain ⟨c, hc⟩ := h.cell
  exact ⟨h.rf, h.at_, h.lo, h.hi, h.lt, ⟨c, hM.cell hc (fun e => e)⟩, hM.cell h.w0 (fun e => e), hM.cell h.w1 (fun e => e)⟩
set_option maxRecDepth 40000 in
set_option maxHeartbeats 16000000 in
theorem chain_ok (X : Mach ty w L m N) (hN : N ≤ 1000000) {q : Int} {ch : List Int} (R : Qu.Rests q m ch) :
    Calls Tryd.prog 22 #[.pointer (some ⟨L.blk 0 0, 0, none⟩), .int .i64 ((absM m).val q 0)] w fun e w' => ∃ x, e = .returned (.tuple #[x, .bool true]) ∧ Mod noF w w' ∧ IOwn w' x (ch.map fun a => (absM m).val a 0) ∧ ∀ g, x.ownBlock = some g → w.heap.size ≤ g := by
  have hh := X.head
  have h0 : w.cell? ⟨L.blk 0 0, 0, none⟩ = some (.pointer (some ⟨L.blk 1 0, 0, none⟩)) := by rw [cell_of_heap hh]; rfl
  have c1 := X.rep.cells_at rfl X.ol
  have hlen64 := X.om.cells
  have hl64 := R.len
  have hst : (absM m).val q 0 = ch.getD 0 0 := by
    have := R.head
    cases ch with
    | nil => cases this
    | cons a r => exact (Option.some.inj this).symm
  have hnode : ∀ (i : Nat) a, ch[i]? = some a → NodeAt w L m a ∧ (absM m).val a 1 = ch.getD (i + 1) 0 := fun i a ha => by
    refine ⟨node_at X (R.hc a (List.mem_of_getElem? ha)).2, ?_⟩
    by_cases h : i + 1 < ch.length
    · have hb : ch[i + 1]? = some (ch.getD (i + 1) 0) := by rw [List.getD_eq_getElem?_getD, List.getElem?_eq_getElem h]; rfl
      exact R.next a _ ⟨i, ha, hb⟩
    · have hi : i < ch.length := (List.getElem?_eq_some_iff.1 ha).1
      have hl : ch.getLast? = some a := by rw [List.getLast?_eq_getElem?, ← ha]; congr 1; omega
      rw [R.last a hl, List.getD_eq_getElem?_getD, List.getElem?_eq_none (by omega)]; rfl
  rw [hst]
  have Hnode := Lib.hid hnode
  have HX := Lib.hid X
  obtain ⟨vf, hvf⟩ : ∃ vf : Int → Int, vf = fun a => (absM m).val a 0 := ⟨_, rfl⟩
  have hv0 : ∀ a, (absM m).val a 0 = vf a := fun a => by rw [hvf]
  rw [← hvf]
  have Hv0 := Lib.hid hv0
  clear hh hst hnode X R hv0 hvf
  obtain ⟨i0, hti, hz0, hz1, hz2⟩ := info_parts intInfo'
  go_enter Tryd.func22, Tryd.ntmps22
  go_wp2
  go_loopw [1, 6] (fun wd x wr => ∃ i : Nat, i ≤ ch.length ∧ wd = .int .i64 (ch.getD i 0) ∧ Mod noF w wr ∧ IOwn wr x ((ch.take i).map vf) ∧ ∀ g, x.ownBlock = some g → w.heap.size ≤ g) (fun _ x _ => ch.length - lenOf x)
  case atStart => exact ⟨0, Nat.zero_le _, rfl, Mod.refl _ _, IOwn.nil _, fun g h => by cases h⟩
  case round =>
    obtain ⟨i, hi, rfl, hm, hO, hv⟩ := hrel
    have hlx := hO.len
    obtain ⟨xa, xb, xc, rfl⟩ := slice_of_own hO
    rw [List.length_map, List.length_take, Nat.min_eq_left hi] at hlx
    obtain rfl : xb = i := hlx
    by_cases hlt : xb < ch.length
    · obtain ⟨a, ha⟩ : ∃ a, ch[xb]? = some a := ⟨_, List.getElem?_eq_getElem hlt⟩
      have hga : ch.getD xb 0 = a := by rw [List.getD_eq_getElem?_getD, ha]; rfl
      obtain ⟨F, hnx⟩ := Hnode.out xb a ha
      have htk : (ch.take (xb + 1)).map vf = (ch.take xb).map vf ++ [vf a] := by rw [List.take_add_one, ha]; simp
      obtain ⟨zz, hzz⟩ : ∃ zz, zz = (ch.take xb).map vf := ⟨_, rfl⟩
      have hzl : zz.length = xb := by rw [hzz]; simp; omega
      rw [← hzz] at hO htk
      rw [hga]
      have a0 := F.lo
      have a1 := F.hi
      have n1 : (a == 0) = false := by simp; omega
      have n2 : decide (a = 0) = false := by simp; omega
      have d64 : decide ((64 : Int) < (xb : Int)) = false := by simp; omega
      have d64' : decide (64 < xb) = false := by simp; omega
      have HF := Lib.hid F
      have Hm := Lib.hid hm
      have HO := Lib.hid hO
      have Hv := Lib.hid hv
      have Htk := Lib.hid htk
      have Hnx := Lib.hid hnx
      have Hzl := Lib.hid hzl
      clear F hnx htk hzz hO hv hm ha hga hzl
      go_wp2_with fail
      refine (refOf_any a _ (by omega) (by omega)).mono ?_
      rintro e w1 ⟨rfl, hm1⟩
      rw [HF.out.rf]
      go_wp2
      go_name_world wn hwn
      have hmn : Mod noF w wn := by rw [← hwn]; exact (Hm.out.trans0 hm1).alloc _
      have r0 : wn.cell? ⟨w1.heap.size, 0, none⟩ = some (.int .i64 (celOf a : Int)) := by rw [← hwn]; simp
      have r1 : wn.cell? ⟨w1.heap.size, 1, none⟩ = some (.int .i64 ((a - 1) / 64)) := by rw [← hwn]; simp
      have hq : Mod noF wr wn := by rw [← hwn]; exact hm1.alloc _
      have g0 := hmn.cell h0 (fun e => e)
      have hsw1 := hm1.size
      have hce : (celOf a : Int) < (m.cells.length : Int) := by have := HF.out.lt; omega
      have Hmn := Lib.hid hmn
      have Hq := Lib.hid hq
      clear hwn hmn hm1 hq
      have hS : ∀ W, Mod noF wn.drew W → Mod noF wn.drew W ∧ W.cell? ⟨L.blk 0 0, 0, none⟩ = some (.pointer (some ⟨L.blk 1 0, 0, none⟩)) ∧ W.cell? ⟨w1.heap.size, 0, none⟩ = some (.int .i64 (celOf a : Int)) ∧ W.cell? ⟨w1.heap.size, 1, none⟩ = some (.int .i64 ((a - 1) / 64)) := fun W hW => ⟨hW, hW.cell g0 (fun e => e), hW.cell r0 (fun e => e), hW.cell r1 (fun e => e)⟩
      have HS := Lib.hid hS
      have hcall : ∀ W, Mod noF wn.drew W → Calls Tryd.prog 47 #[.pointer (some ⟨L.blk 1 0, 0, none⟩), .agg #[.int .i64 (celOf a : Int), .int .i64 ((a - 1) / 64)], .int .i64 0] W fun e w' => e = .returned (.int .i64 0) ∧ Mod noF W w' ∧ Mod noF wn.drew w' := fun W hW => by
        have := at_any (HX.out.rep.frame0 ((Hmn.out.trans0 (Mod.refl _ _).drew).trans0 hW)) rfl rfl HX.out.om HX.out.ol (by omega) (celOf a : Int) ((a - 1) / 64) 0
        rw [HF.out.at_] at this
        exact this.mono fun e w' h => ⟨h.1, h.2, hW.trans0 h.2⟩
      have Hcall := Lib.hid hcall
      clear hS hcall
      go_region_held3 (fun W => Mod noF wn.drew W ∧ W.cell? ⟨L.blk 0 0, 0, none⟩ = some (.pointer (some ⟨L.blk 1 0, 0, none⟩)) ∧ W.cell? ⟨w1.heap.size, 0, none⟩ = some (.int .i64 (celOf a : Int)) ∧ W.cell? ⟨w1.heap.size, 1, none⟩ = some (.int .i64 ((a - 1) / 64))) ((refine HS.out _ ?_; first | assumption | exact Mod.refl _ _)) (first | (go_at_call 47; go_split_ands; refine (Hcall.out _ ?_).mono ?_; assumption; rintro e w5 ⟨rfl, hm0, hm1⟩))
      all_goals
        have hm6 := Hmn.out.trans0 (((Mod.refl noF wn).drew).trans0 hm1)
        have hq6 := Hq.out.trans0 (((Mod.refl noF wn).drew).trans0 hm1)
        have hm5 := hm1
        have b0 := hm6.cell h0 (fun e => e)
        have b1 := hm6.cell c1 (fun e => e)
        obtain ⟨cc, hcc⟩ := (HF.out.quiet hm6).cell
        have bw0 := (HF.out.quiet hm6).w0
        have bw1 := (HF.out.quiet hm6).w1
        rw [Hv0.out] at bw0
        rw [Hnx.out] at bw1
        have b3 := hm5.cell r0 (fun e => e)
        have Hm6 := Lib.hid hm6
        have hO6 := HO.out.keep hq6 (fun _ _ e => e)
        have HO6 := Lib.hid hO6
        clear hm6 hm5 hq6 hO6
        go_wp2
        have hbnd : xb + 1 ≤ maxLen := by unfold maxLen; omega
        have ho6 : w5.ownsRow 0 3 1 (.slice xa xb xc) xb (zz.map (Value.int .i64)) := by
          have := HO6.out; unfold IOwn at this; rw [Hzl.out] at this; exact this
        have Ho6 := Lib.hid ho6
        clear ho6
        go_region_law (refine step_append_mine _ rfl (.tmp 32) (.tmp 47) 23 rfl 3 i0 (.int .i64 0) 1 8 Tryd.underlying23 hti hz0 hz1 hz2 rfl (by decide) _ xb (zz.map (Value.int .i64)) rfl (by exact World.ownsRow.alloc Ho6.out _) ⟨w5.heap.size, 0, none⟩ 1 1 [.int .i64 (vf a)] rfl rfl (by exact new_cells_at _ _ _ rfl) (int_one (vf a)) hbnd (by omega) ?_; intro v4 w7 hown hgr hfr _; obtain ⟨va, vb, vc, rfl⟩ := slice_of_own hown; have Hown4 := Lib.hid hown; have Hgr := Lib.hid hgr; have Hfr := Lib.hid hfr; clear hown hgr hfr)
        all_goals
          have hm7 : Mod noF w w7 := (Hm6.out.alloc _).drew.trans ((Mod.refl (fun x => (Value.slice xa xb xc).ownBlock = some x) _).grown Hgr.out fun j hj _ => hj) fun x hx e => by have := Hv.out x e; omega
          have hw5 := Hm6.out.size
          have hq7 : Mod (fun x => (Value.slice xa xb xc).ownBlock = some x) w5 w7 := ((Mod.refl (fun x => (Value.slice xa xb xc).ownBlock = some x) w5).alloc _).drew.grown Hgr.out fun j hj _ => hj
          have d0 := hm7.cell h0 (fun e => e)
          have d1 := hm7.cell c1 (fun e => e)
          obtain ⟨cd, hcd⟩ := (HF.out.quiet hm7).cell
          have dw1 := (HF.out.quiet hm7).w1
          rw [Hnx.out] at dw1
          have hbx : ¬ (Value.slice xa xb xc).ownBlock = some w1.heap.size := fun e => by
            have := HO.out.lt e
            omega
          have d3 := hq7.cell b3 hbx
          have Hm7 := Lib.hid hm7
          clear hm7 hq7 hbx
          go_wp2
          go_quiet (fail)
          go_wp2
          have hio : IOwn w7 (.slice va vb vc) (zz ++ [vf a]) := by
            have h := Hown4.out
            rw [← Hzl.out] at h
            exact IOwn.snoc h
          have hll := hio.len
          rw [List.length_append, Hzl.out] at hll
          refine ⟨⟨xb + 1, by omega, by simp [List.getD_eq_getElem?_getD], Hm7.out.drewN _, ?_, fun g hg => ?_⟩, ?_⟩
          · rw [Htk.out]
            exact hio.keep ((Mod.refl noF w7).drewN _) (fun _ _ e => e)
          · rcases Hfr.out g hg with e | e
            · exact Hv.out g e
            · simp at e; omega
          · rw [hll]
            show ch.length - (xb + 1) < ch.length - xb
            omega
    · obtain rfl : xb = ch.length := by omega
      have hge : ch.getD ch.length 0 = 0 := by rw [List.getD_eq_getElem?_getD, List.getElem?_eq_none (Nat.le_refl _)]; rfl
      rw [hge]
      rw [List.take_length] at hO
      have Hm := Lib.hid hm
      have HO := Lib.hid hO
      have Hv := Lib.hid hv
      clear hm hO hv hge
      go_wp2
      go_ret2
      exact ⟨_, rfl, Hm.out, HO.out, Hv.out⟩
end Go.Proofs.YtppihkneeolomaaDoor
