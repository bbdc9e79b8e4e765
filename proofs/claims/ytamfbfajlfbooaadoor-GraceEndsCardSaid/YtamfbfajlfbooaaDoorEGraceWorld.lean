/- quiescentlaw2.world: the start of a play. -/
import Derived.Test.YtamfbfajlfbooaaDoorEm4
import Derived.Test.YtamfbfajlfbooaaDoorEm6
import Derived.Test.YtamfbfajlfbooaaDoorEm5
import Derived.LoopTactic
set_option linter.unusedVariables false
set_option linter.unusedSimpArgs false
set_option linter.unusedSectionVars false
namespace Go.Proofs.YtamfbfajlfbooaaDoor
open Go.RowKit Qs Qh
theorem intInfo1 : (Tryd.prog.info? 3).map (fun i => (i.zero, i.size, i.bytes)) = some (some (.int .i64 0), 1, 8) := by kernel_rfl
def ownW (f : Nat) : List Int := [if f = 3 then 1 else 0, 0, 0, 0]
def lkW (f : Nat) : Int := if f = 4 then -1 else 2
def grHub (f : Nat) : List Int := if f = 4 then [1, 0, 0, 0] else [1, 0, 2, 0]
def grOwn (f th t : Nat) : List Int := [if f = 3 then 1 else 0, if f ≠ 4 ∧ t + 1 < th then (t : Int) + 3 else 0, 0, 0]
def grReg (th t : Nat) : List Int := [0, 0, 0, 0, 0, (th : Int) + 2, (t : Int) + 2, 1]
def grInit (f th : Nat) : List (List Int) := (grHub f :: (List.range th).map (grOwn f th)) ++ [[(th : Int) + 3], [1]]
def grRegs (th : Nat) : List (List Int) := (List.range th).map (grReg th)
theorem ghub_any {f : Nat} (h1 : 1 ≤ f) (h4 : f ≤ 4) (w : World) : Calls Tryd.prog 81 #[.int .i64 f] w fun e w' => ∃ v, e = .returned (.tuple #[v, .nilIface]) ∧ Four w v [1, 0, 0, 0] w' := by
  match f, h1, h4 with
  | 1, _, _ => exact ghub1 w
  | 2, _, _ => exact ghub2 w
  | 3, _, _ => exact ghub3 w
  | 4, _, _ => exact ghub4 w
theorem gown_any {f : Nat} (h1 : 1 ≤ f) (h4 : f ≤ 4) (w : World) : Calls Tryd.prog 82 #[.int .i64 f] w fun e w' => ∃ v, e = .returned (.tuple #[v, .nilIface]) ∧ Four w v (ownW f) w' := by
  match f, h1, h4 with
  | 1, _, _ => exact gown1 w
  | 2, _, _ => exact gown2 w
  | 3, _, _ => exact gown3 w
  | 4, _, _ => exact gown4 w
theorem glink_any {f : Nat} (h1 : 1 ≤ f) (h4 : f ≤ 4) (w : World) : Calls Tryd.prog 83 #[.int .i64 f] w fun e w' => e = .returned (.tuple #[.int .i64 (lkW f), .nilIface]) ∧ Mod noF w w' := by
  match f, h1, h4 with
  | 1, _, _ => exact glink1 w
  | 2, _, _ => exact glink2 w
  | 3, _, _ => exact glink3 w
  | 4, _, _ => exact glink4 w
theorem ints_one (l : List Int) : ∀ u ∈ l.map (Value.int .i64), u.oneCell' = true := by
  intro u hu
  obtain ⟨n, _, rfl⟩ := List.mem_map.1 hu
  rfl
theorem slices_one (l : List Value) (h : l.all fun v => match v with | .slice _ _ _ => true | _ => false) : ∀ u ∈ l, u.oneCell' = true := by
  intro u hu
  have := List.all_eq_true.1 h u hu
  split at this
  · rfl
  · cases this
theorem world_bnd {n m : Nat} (h : n ≤ 100) (hm : m ≤ 100) : n + m ≤ maxLen := by unfold maxLen; omega
theorem world_bnd2 {n m : Nat} (h : n ≤ 100) (hm : m ≤ 100) : (n + m) * 24 ≤ 140737488355328 := by omega
theorem world_bnd3 {n m : Nat} (h : n ≤ 100) (hm : m ≤ 100) : (n + m) * 8 ≤ 140737488355328 := by omega
theorem map_range_succ {α : Type} (f : Nat → α) (k : Nat) : (List.range k).map f ++ [f k] = (List.range (k + 1)).map f := by
  rw [List.range_succ, List.map_append]; rfl
theorem four_alloc {w : World} {g : Nat} {z : List Int} {T : TypeId} (hg : w.heap.size = g) : FourAt (w.alloc (.cells (z.map (Value.int .i64)).toArray T)) g z := by
  subst hg
  exact ⟨_, _, heap_alloc_new w _, fun j x h => by simp [h]⟩
theorem two_ints {w : World} {y y2 : Value} {z z2 : List Int} (h : IntsAt w y z) (h2 : IntsAt w y2 z2) : ∀ (i : Nat) y' l, [y, y2][i]? = some y' → [z, z2][i]? = some l → IntsAt w y' l := by
  intro i y' l e1 e2
  match i with
  | 0 => simp at e1 e2; subst e1; subst e2; exact h
  | 1 => simp at e1 e2; subst e1; subst e2; exact h2
  | i + 2 => simp at e1
theorem two_own {P : Nat → Prop} {a a2 : Nat} {o n c o2 n2 c2 : Nat} (h : P a) (h2 : P a2) : ∀ y ∈ [Value.slice (some ⟨a, o, none⟩) n c, Value.slice (some ⟨a2, o2, none⟩) n2 c2], ∀ g, y.ownBlock = some g → P g := by
  intro y hy g hg
  simp at hy
  rcases hy with rfl | rfl
  · have : a = g := by simpa [Value.ownBlock] using hg
    subst this; exact h
  · have : a2 = g := by simpa [Value.ownBlock] using hg
    subst this; exact h2
theorem one_ints {w : World} {y : Value} {z : List Int} (h : IntsAt w y z) : ∀ (i : Nat) y' l, [y][i]? = some y' → [z][i]? = some l → IntsAt w y' l := by
  intro i y' l h1 h2
  cases i with
  | zero => simp at h1 h2; subst h1; subst h2; exact h
  | succ i => simp at h1
theorem one_own {P : Nat → Prop} {a : Nat} {o n c : Nat} (h : P a) : ∀ y ∈ [Value.slice (some ⟨a, o, none⟩) n c], ∀ g, y.ownBlock = some g → P g := by
  intro y hy g hg
  simp at hy
  subst hy
  have : a = g := by simpa [Value.ownBlock] using hg
  subst this; exact h
theorem TwoRel.addFree {W wr w2 : World} {B n : Nat} {v u : Value} {init regs : List (List Int)} {iv rv : Nat → Value} {o : Obj} (h : TwoRel W B n v u init regs iv rv wr) (hg : (wr.alloc o).grownBy w2 v.ownBlock) :
    w2.cell? ⟨B, 0, none⟩ = some (.int .i64 n) ∧ w2.cell? ⟨B, 1, none⟩ = some v ∧ w2.cell? ⟨B, 2, none⟩ = some u ∧ (∀ j, w2.frozen? ⟨B, j, none⟩ = false) ∧ B < w2.heap.size := by
  have hM : Mod (fun g => v.ownBlock = some g) wr w2 := (((Mod.refl noF wr).alloc o).any).grown hg fun j hj _ => hj
  have hb := hM.heap h.box h.vB
  exact ⟨by rw [cell_of_heap hb]; rfl, by rw [cell_of_heap hb]; rfl, by rw [cell_of_heap hb]; rfl, fun j => free_of_heap hb j, lt_of_block hb⟩
theorem TwoRel.addFree3 {W wr w2 : World} {B n R : Nat} {v u r0 r1 r2 : Value} {T : TypeId} {init regs : List (List Int)} {iv rv : Nat → Value} {o o' o2 : Obj} (h : TwoRel W B n v u init regs iv rv wr) (hg : (((wr.alloc o).alloc o').alloc o2).grownBy w2 v.ownBlock)
    (hR : wr.heap[R]? = some (.cells #[r0, r1, r2] T (0, 0))) (hRW : R < W.heap.size) :
    w2.cell? ⟨B, 0, none⟩ = some (.int .i64 n) ∧ w2.cell? ⟨B, 1, none⟩ = some v ∧ w2.cell? ⟨B, 2, none⟩ = some u ∧ (∀ j, w2.frozen? ⟨B, j, none⟩ = false) ∧ B < w2.heap.size ∧
    w2.cell? ⟨R, 0, none⟩ = some r0 ∧ w2.cell? ⟨R, 1, none⟩ = some r1 ∧ w2.cell? ⟨R, 2, none⟩ = some r2 ∧ (∀ j, w2.frozen? ⟨R, j, none⟩ = false) ∧ w2.heap[R]? = some (.cells #[r0, r1, r2] T (0, 0)) := by
  have hM : Mod (fun g => v.ownBlock = some g) wr w2 := (((((Mod.refl noF wr).alloc o).alloc o').alloc o2).any).grown hg fun j hj _ => hj
  have hb := hM.heap h.box h.vB
  have hr := hM.heap hR (fun e => by have := h.hv _ e; omega)
  exact ⟨by rw [cell_of_heap hb]; rfl, by rw [cell_of_heap hb]; rfl, by rw [cell_of_heap hb]; rfl, fun j => free_of_heap hb j, lt_of_block hb, by rw [cell_of_heap hr]; rfl, by rw [cell_of_heap hr]; rfl, by rw [cell_of_heap hr]; rfl, fun j => free_of_heap hr j, hr⟩
theorem TwoRel.cells {W wr : World} {B n : Nat} {v u : Value} {init regs : List (List Int)} {iv rv : Nat → Value} (h : TwoRel W B n v u init regs iv rv wr) :
    wr.cell? ⟨B, 0, none⟩ = some (.int .i64 n) ∧ wr.cell? ⟨B, 1, none⟩ = some v ∧ wr.cell? ⟨B, 2, none⟩ = some u ∧ (∀ j, wr.frozen? ⟨B, j, none⟩ = false) ∧ B < wr.heap.size :=
  ⟨by rw [cell_of_heap h.box]; rfl, by rw [cell_of_heap h.box]; rfl, by rw [cell_of_heap h.box]; rfl, fun j => free_of_heap h.box j, lt_of_block h.box⟩
theorem TwoRel.addFree2 {W wr w2 : World} {B n : Nat} {v u : Value} {init regs : List (List Int)} {iv rv : Nat → Value} {o o' : Obj} (h : TwoRel W B n v u init regs iv rv wr) (hg : ((wr.alloc o).alloc o').grownBy w2 u.ownBlock) :
    w2.cell? ⟨B, 0, none⟩ = some (.int .i64 n) ∧ w2.cell? ⟨B, 1, none⟩ = some v ∧ w2.cell? ⟨B, 2, none⟩ = some u ∧ (∀ j, w2.frozen? ⟨B, j, none⟩ = false) ∧ B < w2.heap.size := by
  have hM : Mod (fun g => u.ownBlock = some g) wr w2 := ((((Mod.refl noF wr).alloc o).alloc o').any).grown hg fun j hj _ => hj
  have hb := hM.heap h.box h.uB
  exact ⟨by rw [cell_of_heap hb]; rfl, by rw [cell_of_heap hb]; rfl, by rw [cell_of_heap hb]; rfl, fun j => free_of_heap hb j, lt_of_block hb⟩
set_option maxRecDepth 100000 in
set_option maxHeartbeats 16000000 in
theorem world_b {f th : Nat} (h1 : 1 ≤ f) (h4 : f ≤ 4) (hf : f ≠ 4) (ht1 : 1 ≤ th) (ht4 : th ≤ 4) (w : World) :
    Calls Tryd.prog 98 #[.int .i64 f, .int .i64 th] w fun e w' => ∃ v u, e = .returned (.tuple #[.agg #[.int .i64 30, v, u], .bool true]) ∧ RowsAt w' v (grInit f th) ∧ RowsAt w' u (grRegs th) ∧ Mod noF w w' := by
  obtain ⟨i2, hi2, hx0, hx1, hx2⟩ := info_parts rowsInfo
  obtain ⟨i3, hi3, hy0, hy1, hy2⟩ := info_parts intInfo1
  have hlk : lkW f = 2 := by unfold lkW; simp [hf]
  have hgh : grHub f = [1, 0, 2, 0] := by unfold grHub; simp [hf]
  have Hhub := Lib.hid (fun w => ghub_any h1 h4 w)
  have hown := fun w => gown_any h1 h4 w
  have hlnk := fun w => glink_any h1 h4 w
  have hgo : ∀ t, grOwn f th t = [(ownW f).getD 0 0, if t + 1 < th then (t : Int) + 3 else 0, 0, 0] := fun t => by unfold grOwn ownW; simp [hf]
  obtain ⟨c0, hc0⟩ : ∃ c0 : Int, ownW f = [c0, 0, 0, 0] := ⟨_, rfl⟩
  rw [hlk] at hlnk
  rw [hc0] at hgo
  simp only [hc0] at hown
  have Hown := Lib.hid hown
  have Hlnk := Lib.hid hlnk
  have Hgh := Lib.hid hgh
  have Hgo := Lib.hid hgo
  clear hlk hgh hown hlnk hgo hc0 hf
  go_enter Tryd.func98, Tryd.ntmps98
  go_wp2_with fail
  refine (Hhub.out _).mono ?_
  rintro e w1 ⟨v1, rfl, bh, rfl, hbh1, hbh2, hch, hm1⟩
  have hR1 := hm1.heap (heap_alloc_new w _) (fun e => e)
  have hmA := ((Mod.refl noF w).alloc _).trans0 hm1
  have HR1 := Lib.hid hR1
  have Hch := Lib.hid hch
  have HmA := Lib.hid hmA
  clear hm1 hR1 hch hmA hbh1
  go_wp2_with fail
  refine (Hown.out _).mono ?_
  rintro e w2 ⟨v2, rfl, bo, rfl, hbo1, hbo2, hco, hm2⟩
  have Hm2 := Lib.hid hm2
  have Hco := Lib.hid hco
  clear hm2 hco hbo1
  go_wp2_with fail
  refine (Hlnk.out _).mono ?_
  rintro e w3 ⟨rfl, hm3⟩
  have hs3 := hm3.size
  have hs2 := Hm2.out.size
  have HM := Lib.hid ((HmA.out.trans0 Hm2.out).trans0 hm3)
  have HR := Lib.hid (hm3.heap (Hm2.out.heap HR1.out (fun e => e)) (fun e => e))
  have HH := Lib.hid (fun (i : Nat) x (h : ([1, 0, 0, 0] : List Int)[i]? = some x) => hm3.cell (Hm2.out.cell (Hch.out i x h) (fun e => e)) (fun e => e))
  have HO := Lib.hid (fun (i : Nat) x (h : ([c0, 0, 0, 0] : List Int)[i]? = some x) => hm3.cell (Hco.out i x h) (fun e => e))
  have hwR : w.heap.size < w3.heap.size := lt_of_block HR.out
  have hbo3 : bo < w3.heap.size := by omega
  clear hm3 HR1 Hch HmA Hco hs3 hs2 hbh2 hbo2 Hhub Hlnk
  go_wp2_with (at_builtin; refine wpList_append_mine _ rfl (.tmp 42) (.tmp 43) 23 rfl 3 i3 (.int .i64 0) 1 8 Tryd.underlying23 hi3 hy0 hy1 hy2 rfl (by decide) _ _ [] rfl (World.ownsRow_nil _ _ _ _) ⟨bh, 0, none⟩ 4 4 (([1, 0, 0, 0] : List Int).map (Value.int .i64)) rfl rfl (four_src HH.out) (ints_one _) (world_bnd (by omega) (by omega)) (world_bnd3 (by omega) (by omega)) ?_; intro v4 w4 hown hgr hfr hz; obtain ⟨g, cap, rfl, hgW, F4⟩ := four_of_own (W := w3) (n := 4) (z := [1, 0, 0, 0]) hown (by omega) (fun g hg => (hfr g hg).resolve_left (fun h => by cases h)); have Hm4 := Lib.hid ((Mod.refl noF w3).grown hgr (fun k hk _ => by cases hk)); have g2 := F4.cell (j := 2) rfl; have gf := F4.free 2; have glt := F4.lt; have HF4 := Lib.hid F4; clear hown hgr hfr hz F4)
  go_loop [12] (fun v => v = .slice (some ⟨g, 0, none⟩) 4 cap) (fun _ => 0)
  case atStart => rfl
  case round =>
    obtain rfl := hrel
    have hs4 := Hm4.out.size
    have T0 := TwoRel.start (W := w3) (w := (w4.setCell ⟨g, 2, none⟩ (.int .i64 2))) 30 (fun _ => undef) (fun _ => undef) (Hm4.out.toBelow.trans (((Mod.refl (fun x => x = g) w4).setCell (fun _ => rfl) _).under hs4 (fun k hk => by have hk' : k = g := hk; omega)))
    rw [show (w4.setCell ⟨g, 2, none⟩ (.int .i64 2)).heap.size = w4.heap.size from by simp] at T0
    have FX : FourAt (w4.setCell ⟨g, 2, none⟩ (.int .i64 2)) g [1, 0, 2, 0] := (HF4.out.set 2 2)
    have HT0 := Lib.hid T0
    have HFX := Lib.hid FX
    clear T0 FX
    go_wp2_with (at_builtin; refine wpList_append_mine _ rfl (.tmp 58) (.tmp 60) 24 rfl 23 i2 (.slice none 0 0) 1 24 Tryd.underlying24 hi2 hx0 hx1 hx2 rfl (by decide) _ _ [] rfl (World.ownsRow_nil _ _ _ _) ⟨_, 0, none⟩ 1 1 [.slice (some ⟨g, 0, none⟩) 4 cap] rfl rfl (new_cells_at ((w4.setCell ⟨g, 2, none⟩ (.int .i64 2)).alloc (.cells #[.int .i64 30, .slice none 0 0, .slice none 0 0] 26)) _ _ (by simp)) (slices_one _ rfl) (world_bnd (by omega) (by omega)) (world_bnd2 (by omega) (by omega)) ?_; intro v5 w5 hown hgr hfr hz; obtain ⟨a5, b5, c5, rfl⟩ := slice_of_own hown; have T1 := HT0.out.addInit (xs := [.slice (some ⟨g, 0, none⟩) 4 cap]) (ls := [[1, 0, 2, 0]]) rfl (one_ints ((HFX.out.keep (((Mod.refl noF _).alloc _).alloc _) (fun e => e)).ints (by simp))) (one_own (by first | exact ⟨⟨⟨(by simp; omega), (fun h => by cases h), (fun h => by cases h)⟩, hgW⟩, (by simp; omega)⟩)) ((Mod.refl noF _).alloc _) hown hgr hfr; have T5 := HT0.out.addFree hgr; obtain ⟨x0, x1, x2, x3, x4⟩ := T5; have HT1 := Lib.hid T1; clear T1 hown hgr hfr hz)
    obtain ⟨B, hB⟩ : ∃ B, B = w4.heap.size := ⟨_, rfl⟩
    rw [← hB] at HT1 x0 x1 x2 x3 x4
    rw [← hB]
    have hBw : w3.heap.size ≤ B := by omega
    clear hB
    go_loopw [14, 15] (fun i o wr => ∃ k : Nat, k ≤ th ∧ i = .int .i64 k ∧ ∃ v u iv rv, TwoRel w3 B 30 v u (grHub f :: (List.range k).map (grOwn f th)) ((List.range k).map (grReg th)) iv rv wr) (fun i _ _ => th - (intOf i).toNat)
    case atStart => exact ⟨0, Nat.zero_le _, rfl, _, _, _, _, by rw [Hgh.out]; exact HT1.out⟩
    case round =>
      obtain ⟨k, hk, rfl, v, u, iv, rv, T⟩ := hrel
      obtain ⟨va, vb, vc, rfl⟩ := slice_of_own T.vrow
      obtain ⟨ua, ub, uc, rfl⟩ := slice_of_own T.urow
      have hMr := Mod.below T.below
      have hsr := hMr.size
      have hBr := lt_of_block T.box
      have HOr := Lib.hid (fun (i : Nat) x (h : ([c0, 0, 0, 0] : List Int)[i]? = some x) => hMr.cell (HO.out i x h) (fun e => e))
      have HT := Lib.hid T
      have hvr : ∀ g, (Value.slice va vb vc).ownBlock = some g → g < wr.heap.size := fun g hg => (World.ownsRow.lt T.vrow g hg).2
      have hur : ∀ g, (Value.slice ua ub uc).ownBlock = some g → g < wr.heap.size := fun g hg => (World.ownsRow.lt T.urow g hg).2
      have Hvr := Lib.hid hvr
      have Hur := Lib.hid hur
      by_cases hlt : k < th
      · have hd : decide ((k : Int) < (th : Int)) = true := by simp; omega
        clear T hMr hvr hur
        go_wp2_with (at_builtin; refine wpList_append_mine _ rfl (.tmp 68) (.tmp 69) 23 rfl 3 i3 (.int .i64 0) 1 8 Tryd.underlying23 hi3 hy0 hy1 hy2 rfl (by decide) _ _ [] rfl (World.ownsRow_nil _ _ _ _) ⟨bo, 0, none⟩ 4 4 (([c0, 0, 0, 0] : List Int).map (Value.int .i64)) rfl rfl (four_src HOr.out) (ints_one _) (world_bnd (by omega) (by omega)) (world_bnd3 (by omega) (by omega)) ?_; intro v6 w6 hown hgr hfr hz; obtain ⟨g6, cap6, rfl, hgW6, F6⟩ := four_of_own (W := wr) (n := 4) (z := [c0, 0, 0, 0]) hown (by omega) (fun g hg => (hfr g hg).resolve_left (fun h => by cases h)); have Hm6 := Lib.hid ((Mod.refl noF wr).grown hgr (fun k hk _ => by cases hk)); have g61 := F6.cell (j := 1) rfl; have gf6 := F6.free 1; have glt6 := F6.lt; have HF6 := Lib.hid F6; clear hown hgr hfr hz F6)
        go_loop [15] (fun v => v = .slice (some ⟨g6, 0, none⟩) 4 cap6) (fun _ => 0)
        case atStart => rfl
        case round =>
          obtain rfl := hrel
          have hs6 := Hm6.out.size
          by_cases hlast : k + 1 < th
          · have hl1 : decide ((k : Int) + 1 < (th : Int)) = true := by simp; omega
            have qY : Mod noF wr ((w6.setCell ⟨g6, 1, none⟩ (.int .i64 0)).setCell ⟨g6, 1, none⟩ (.int .i64 ((k : Int) + 3))) := (by repeat (first | exact Hm6.out | refine Mod.setCell ?_ (fun h => absurd h (by have := hgW6; simp at *; omega)) _))
            have TY := HT.out.quiet qY
            have FY : FourAt ((w6.setCell ⟨g6, 1, none⟩ (.int .i64 0)).setCell ⟨g6, 1, none⟩ (.int .i64 ((k : Int) + 3))) g6 [c0, (k : Int) + 3, 0, 0] := ((HF6.out.set 1 0).set 1 ((k : Int) + 3))
            have HTY := Lib.hid TY
            have HFY := Lib.hid FY
            obtain ⟨x0, x1, x2, x3, x4⟩ := TY.cells
            have hsY := qY.size
            clear TY FY qY
            go_wp2_with (first
              | (at_builtin; refine wpList_append_mine _ rfl (.tmp 92) (.tmp 94) 24 rfl 23 i2 (.slice none 0 0) 1 24 Tryd.underlying24 hi2 hx0 hx1 hx2 rfl (by decide) _ _ _ rfl (World.ownsRow.alloc HTY.out.vrow _) ⟨_, 0, none⟩ 1 1 [.slice (some ⟨g6, 0, none⟩) 4 cap6] rfl rfl (new_cells_at ((w6.setCell ⟨g6, 1, none⟩ (.int .i64 0)).setCell ⟨g6, 1, none⟩ (.int .i64 ((k : Int) + 3))) _ _ (by simp)) (slices_one _ rfl) (world_bnd (by simp; omega) (by omega)) (world_bnd2 (by simp; omega) (by omega)) ?_; intro v7 w7 hown hgr hfr hz; obtain ⟨a7, b7, c7, rfl⟩ := slice_of_own hown; have T7 := HTY.out.addInit (xs := [.slice (some ⟨g6, 0, none⟩) 4 cap6]) (ls := [[c0, (k : Int) + 3, 0, 0]]) rfl (one_ints ((HFY.out.keep ((Mod.refl noF _).alloc _) (fun e => e)).ints (by simp))) (one_own (by exact ⟨⟨⟨(by omega), (fun h => by have := Hvr.out _ h; omega), (fun h => by have := Hur.out _ h; omega)⟩, (by omega)⟩, (by simp; omega)⟩)) ((Mod.refl noF _).alloc _) hown hgr hfr; have S7 := HTY.out.addFree hgr; obtain ⟨y0, y1, y2, y3, y4⟩ := S7; have HT7 := Lib.hid T7; clear T7 hown hgr hfr hz x0 x1 x2 x3 x4)
              | (at_builtin; refine wpList_append_mine _ rfl (.tmp 98) (.tmp 104) 24 rfl 23 i2 (.slice none 0 0) 1 24 Tryd.underlying24 hi2 hx0 hx1 hx2 rfl (by decide) _ _ _ rfl (World.ownsRow.alloc (World.ownsRow.alloc HT7.out.urow _) _) ⟨_, 0, none⟩ 1 1 [.slice (some ⟨w7.heap.size, 0, none⟩) 8 8] rfl rfl (new_cells_at ((w7.setCell ⟨B, 1, none⟩ (.slice a7 b7 c7)).alloc (.cells ((grReg th k).map (Value.int .i64)).toArray 3)) _ _ (by simp)) (slices_one _ rfl) (world_bnd (by simp; omega) (by omega)) (world_bnd2 (by simp; omega) (by omega)) ?_; intro v8 w8 hown hgr hfr hz; obtain ⟨a8, b8, c8, rfl⟩ := slice_of_own hown; have T8 := HT7.out.addReg (xs := [.slice (some ⟨w7.heap.size, 0, none⟩) 8 8]) (ls := [grReg th k]) rfl (one_ints (((four_alloc (z := grReg th k) (by simp)).keep ((Mod.refl noF _).alloc _) (fun e => e)).ints (by simp [grReg]))) (one_own (by exact ⟨⟨⟨(by omega), (fun h => by have := (World.ownsRow.lt HT7.out.vrow _ h).2; simp at this), (fun h => by have := (World.ownsRow.lt HT7.out.urow _ h).2; simp at this)⟩, (by have := HT7.out.below.size; simp at this; omega)⟩, (by simp; omega)⟩)) (((Mod.refl noF _).alloc _).alloc _) hown hgr hfr; have S8 := HT7.out.addFree2 hgr; obtain ⟨z0, z1, z2, z3, z4⟩ := S8; have HT8 := Lib.hid T8; clear T8 hown hgr hfr hz y0 y1 y2 y3))
            go_roundw
            case rel =>
              have h := HT8.out
              rw [List.cons_append, show [c0, (k : Int) + 3, 0, 0] = grOwn f th k from by rw [Hgo.out k, if_pos hlast]; rfl, map_range_succ, map_range_succ] at h
              exact ⟨k + 1, by omega, by go_num, _, _, _, _, h⟩
            case measure => simp [intOf]; omega
          · have hl1 : decide ((k : Int) + 1 < (th : Int)) = false := by simp; omega
            have qY : Mod noF wr (w6.setCell ⟨g6, 1, none⟩ (.int .i64 0)) := (by repeat (first | exact Hm6.out | refine Mod.setCell ?_ (fun h => absurd h (by have := hgW6; simp at *; omega)) _))
            have TY := HT.out.quiet qY
            have FY : FourAt (w6.setCell ⟨g6, 1, none⟩ (.int .i64 0)) g6 [c0, 0, 0, 0] := (HF6.out.set 1 0)
            have HTY := Lib.hid TY
            have HFY := Lib.hid FY
            obtain ⟨x0, x1, x2, x3, x4⟩ := TY.cells
            have hsY := qY.size
            clear TY FY qY
            go_wp2_with (first
              | (at_builtin; refine wpList_append_mine _ rfl (.tmp 92) (.tmp 94) 24 rfl 23 i2 (.slice none 0 0) 1 24 Tryd.underlying24 hi2 hx0 hx1 hx2 rfl (by decide) _ _ _ rfl (World.ownsRow.alloc HTY.out.vrow _) ⟨_, 0, none⟩ 1 1 [.slice (some ⟨g6, 0, none⟩) 4 cap6] rfl rfl (new_cells_at (w6.setCell ⟨g6, 1, none⟩ (.int .i64 0)) _ _ (by simp)) (slices_one _ rfl) (world_bnd (by simp; omega) (by omega)) (world_bnd2 (by simp; omega) (by omega)) ?_; intro v7 w7 hown hgr hfr hz; obtain ⟨a7, b7, c7, rfl⟩ := slice_of_own hown; have T7 := HTY.out.addInit (xs := [.slice (some ⟨g6, 0, none⟩) 4 cap6]) (ls := [[c0, 0, 0, 0]]) rfl (one_ints ((HFY.out.keep ((Mod.refl noF _).alloc _) (fun e => e)).ints (by simp))) (one_own (by exact ⟨⟨⟨(by omega), (fun h => by have := Hvr.out _ h; omega), (fun h => by have := Hur.out _ h; omega)⟩, (by omega)⟩, (by simp; omega)⟩)) ((Mod.refl noF _).alloc _) hown hgr hfr; have S7 := HTY.out.addFree hgr; obtain ⟨y0, y1, y2, y3, y4⟩ := S7; have HT7 := Lib.hid T7; clear T7 hown hgr hfr hz x0 x1 x2 x3 x4)
              | (at_builtin; refine wpList_append_mine _ rfl (.tmp 98) (.tmp 104) 24 rfl 23 i2 (.slice none 0 0) 1 24 Tryd.underlying24 hi2 hx0 hx1 hx2 rfl (by decide) _ _ _ rfl (World.ownsRow.alloc (World.ownsRow.alloc HT7.out.urow _) _) ⟨_, 0, none⟩ 1 1 [.slice (some ⟨w7.heap.size, 0, none⟩) 8 8] rfl rfl (new_cells_at ((w7.setCell ⟨B, 1, none⟩ (.slice a7 b7 c7)).alloc (.cells ((grReg th k).map (Value.int .i64)).toArray 3)) _ _ (by simp)) (slices_one _ rfl) (world_bnd (by simp; omega) (by omega)) (world_bnd2 (by simp; omega) (by omega)) ?_; intro v8 w8 hown hgr hfr hz; obtain ⟨a8, b8, c8, rfl⟩ := slice_of_own hown; have T8 := HT7.out.addReg (xs := [.slice (some ⟨w7.heap.size, 0, none⟩) 8 8]) (ls := [grReg th k]) rfl (one_ints (((four_alloc (z := grReg th k) (by simp)).keep ((Mod.refl noF _).alloc _) (fun e => e)).ints (by simp [grReg]))) (one_own (by exact ⟨⟨⟨(by omega), (fun h => by have := (World.ownsRow.lt HT7.out.vrow _ h).2; simp at this), (fun h => by have := (World.ownsRow.lt HT7.out.urow _ h).2; simp at this)⟩, (by have := HT7.out.below.size; simp at this; omega)⟩, (by simp; omega)⟩)) (((Mod.refl noF _).alloc _).alloc _) hown hgr hfr; have S8 := HT7.out.addFree2 hgr; obtain ⟨z0, z1, z2, z3, z4⟩ := S8; have HT8 := Lib.hid T8; clear T8 hown hgr hfr hz y0 y1 y2 y3))
            go_roundw
            case rel =>
              have h := HT8.out
              rw [List.cons_append, show [c0, 0, 0, 0] = grOwn f th k from by rw [Hgo.out k, if_neg hlast]; rfl, map_range_succ, map_range_succ] at h
              exact ⟨k + 1, by omega, by go_num, _, _, _, _, h⟩
            case measure => simp [intOf]; omega
      · have hd : decide ((k : Int) < (th : Int)) = false := by simp; omega
        obtain rfl : th = k := by omega
        have HRr := hMr.heap HR.out (fun e => e)
        obtain ⟨x0, x1, x2, x3, x4⟩ := T.cells
        have HMr := Lib.hid hMr
        have HHR := Lib.hid HRr
        have hRB : ¬ w.heap.size = B := by omega
        have hBR : ¬ B = w.heap.size := by omega
        clear T hvr hur hMr HRr
        go_wp2_with (at_builtin; refine wpList_append_mine _ rfl (.tmp 108) (.tmp 113) 24 rfl 23 i2 (.slice none 0 0) 1 24 Tryd.underlying24 hi2 hx0 hx1 hx2 rfl (by decide) _ _ _ rfl (World.ownsRow.alloc (World.ownsRow.alloc (World.ownsRow.alloc HT.out.vrow _) _) _) ⟨_, 0, none⟩ 2 2 [.slice (some ⟨wr.heap.size, 0, none⟩) 1 1, .slice (some ⟨wr.heap.size + 1, 0, none⟩) 1 1] rfl rfl (new_cells_at ((wr.alloc (.cells (([(th : Int) + 3] : List Int).map (Value.int .i64)).toArray 3)).alloc (.cells (([1] : List Int).map (Value.int .i64)).toArray 3)) _ _ (by simp)) (slices_one _ rfl) (world_bnd (by simp; omega) (by omega)) (world_bnd2 (by simp; omega) (by omega)) ?_; intro v9 w9 hown hgr hfr hz; obtain ⟨a9, b9, c9, rfl⟩ := slice_of_own hown; have S9 := HT.out.addFree3 hgr HHR.out hwR; obtain ⟨y0, y1, y2, y3, y4, r0, r1, r2, r3, r4⟩ := S9; have HR4 := Lib.hid r4; clear r4; have HOWN := Lib.hid hown; have HGR := Lib.hid hgr; have HFR := Lib.hid hfr; clear hown hgr hfr hz x0 x1 x2 x3 x4)
        have T9 := HT.out.addInit (xs := [.slice (some ⟨wr.heap.size, 0, none⟩) 1 1, .slice (some ⟨wr.heap.size + 1, 0, none⟩) 1 1]) (ls := [[(th : Int) + 3], [1]]) rfl (two_ints (((four_alloc (w := wr) (z := [(th : Int) + 3]) rfl).keep (((Mod.refl noF _).alloc _).alloc _) (fun e => e)).ints (by simp)) (((four_alloc (w := wr.alloc _) (z := [1]) (by simp)).keep ((Mod.refl noF _).alloc _) (fun e => e)).ints (by simp))) (two_own (by exact ⟨⟨⟨(by omega), (fun h => by have := Hvr.out _ h; omega), (fun h => by have := Hur.out _ h; omega)⟩, (by omega)⟩, (by simp <;> omega)⟩) (by exact ⟨⟨⟨(by omega), (fun h => by have := Hvr.out _ h; omega), (fun h => by have := Hur.out _ h; omega)⟩, (by omega)⟩, (by simp <;> omega)⟩)) ((((Mod.refl noF _).alloc _).alloc _).alloc _) HOWN.out HGR.out HFR.out
        have HT9 := Lib.hid T9
        clear T9
        have hfin := fun W' (hM : Mod (fun g => g < w3.heap.size) (w9.setCell ⟨B, 1, none⟩ (.slice a9 b9 c9)) W') => HT9.out.old hM
        have Hfin := Lib.hid hfin
        have Hb9 := Lib.hid (HM.out.trans0 (Mod.below HT9.out.below))
        clear hfin
        have q0 := ((Mod.refl (fun x => x = B) w9).setCell (p := ⟨B, 1, none⟩) (fun _ => rfl) (.slice a9 b9 c9)).heap HR4.out hRB
        have q1 := Qh.heap_setCell_same q0 0 (.int .i64 30)
        have q2 := Qh.heap_setCell_same q1 1 (.slice a9 b9 c9)
        have q3 := Qh.heap_setCell_same q2 2 (.slice ua ub uc)
        have e0 := (cell_of_heap q1 0).trans (show _ = some (Value.int .i64 30) from rfl)
        have e1 := (cell_of_heap q2 1).trans (show _ = some (Value.slice a9 b9 c9) from rfl)
        have e2 := (cell_of_heap q3 2).trans (show _ = some (Value.slice ua ub uc) from rfl)
        refine bodyPost_ret (v := .tuple #[.agg #[.int .i64 30, .slice a9 b9 c9, .slice ua ub uc], .bool true]) (by simp [results, Tryd.results98, go_sem, e0, e1, e2]) rfl ⟨_, _, rfl, (Hfin.out _ (by repeat (first | exact Mod.refl _ _ | refine Mod.setCell ?_ (fun _ => hwR) _))).1, (Hfin.out _ (by repeat (first | exact Mod.refl _ _ | refine Mod.setCell ?_ (fun _ => hwR) _))).2, (by repeat (first | exact Hb9.out | refine Mod.setCell ?_ (fun h => absurd h (Nat.lt_irrefl _)) _))⟩
set_option maxRecDepth 100000 in
set_option maxHeartbeats 16000000 in
theorem world_a {f th : Nat} (h1 : 1 ≤ f) (h4 : f ≤ 4) (hf : f = 4) (ht1 : 1 ≤ th) (ht4 : th ≤ 4) (w : World) :
    Calls Tryd.prog 98 #[.int .i64 f, .int .i64 th] w fun e w' => ∃ v u, e = .returned (.tuple #[.agg #[.int .i64 30, v, u], .bool true]) ∧ RowsAt w' v (grInit f th) ∧ RowsAt w' u (grRegs th) ∧ Mod noF w w' := by
  obtain ⟨i2, hi2, hx0, hx1, hx2⟩ := info_parts rowsInfo
  obtain ⟨i3, hi3, hy0, hy1, hy2⟩ := info_parts intInfo1
  have hlk : lkW f = (-1) := by unfold lkW; simp [hf]
  have hgh : grHub f = [1, 0, 0, 0] := by unfold grHub; simp [hf]
  have Hhub := Lib.hid (fun w => ghub_any h1 h4 w)
  have hown := fun w => gown_any h1 h4 w
  have hlnk := fun w => glink_any h1 h4 w
  have hgo : ∀ t, grOwn f th t = [(ownW f).getD 0 0, 0, 0, 0] := fun t => by unfold grOwn ownW; simp [hf]
  obtain ⟨c0, hc0⟩ : ∃ c0 : Int, ownW f = [c0, 0, 0, 0] := ⟨_, rfl⟩
  rw [hlk] at hlnk
  rw [hc0] at hgo
  simp only [hc0] at hown
  have Hown := Lib.hid hown
  have Hlnk := Lib.hid hlnk
  have Hgh := Lib.hid hgh
  have Hgo := Lib.hid hgo
  clear hlk hgh hown hlnk hgo hc0 hf
  go_enter Tryd.func98, Tryd.ntmps98
  go_wp2_with fail
  refine (Hhub.out _).mono ?_
  rintro e w1 ⟨v1, rfl, bh, rfl, hbh1, hbh2, hch, hm1⟩
  have hR1 := hm1.heap (heap_alloc_new w _) (fun e => e)
  have hmA := ((Mod.refl noF w).alloc _).trans0 hm1
  have HR1 := Lib.hid hR1
  have Hch := Lib.hid hch
  have HmA := Lib.hid hmA
  clear hm1 hR1 hch hmA hbh1
  go_wp2_with fail
  refine (Hown.out _).mono ?_
  rintro e w2 ⟨v2, rfl, bo, rfl, hbo1, hbo2, hco, hm2⟩
  have Hm2 := Lib.hid hm2
  have Hco := Lib.hid hco
  clear hm2 hco hbo1
  go_wp2_with fail
  refine (Hlnk.out _).mono ?_
  rintro e w3 ⟨rfl, hm3⟩
  have hs3 := hm3.size
  have hs2 := Hm2.out.size
  have HM := Lib.hid ((HmA.out.trans0 Hm2.out).trans0 hm3)
  have HR := Lib.hid (hm3.heap (Hm2.out.heap HR1.out (fun e => e)) (fun e => e))
  have HH := Lib.hid (fun (i : Nat) x (h : ([1, 0, 0, 0] : List Int)[i]? = some x) => hm3.cell (Hm2.out.cell (Hch.out i x h) (fun e => e)) (fun e => e))
  have HO := Lib.hid (fun (i : Nat) x (h : ([c0, 0, 0, 0] : List Int)[i]? = some x) => hm3.cell (Hco.out i x h) (fun e => e))
  have hwR : w.heap.size < w3.heap.size := lt_of_block HR.out
  have hbo3 : bo < w3.heap.size := by omega
  clear hm3 HR1 Hch HmA Hco hs3 hs2 hbh2 hbo2 Hhub Hlnk
  go_wp2_with (at_builtin; refine wpList_append_mine _ rfl (.tmp 42) (.tmp 43) 23 rfl 3 i3 (.int .i64 0) 1 8 Tryd.underlying23 hi3 hy0 hy1 hy2 rfl (by decide) _ _ [] rfl (World.ownsRow_nil _ _ _ _) ⟨bh, 0, none⟩ 4 4 (([1, 0, 0, 0] : List Int).map (Value.int .i64)) rfl rfl (four_src HH.out) (ints_one _) (world_bnd (by omega) (by omega)) (world_bnd3 (by omega) (by omega)) ?_; intro v4 w4 hown hgr hfr hz; obtain ⟨g, cap, rfl, hgW, F4⟩ := four_of_own (W := w3) (n := 4) (z := [1, 0, 0, 0]) hown (by omega) (fun g hg => (hfr g hg).resolve_left (fun h => by cases h)); have Hm4 := Lib.hid ((Mod.refl noF w3).grown hgr (fun k hk _ => by cases hk)); have g2 := F4.cell (j := 2) rfl; have gf := F4.free 2; have glt := F4.lt; have HF4 := Lib.hid F4; clear hown hgr hfr hz F4)
  go_loop [12] (fun v => v = .slice (some ⟨g, 0, none⟩) 4 cap) (fun _ => 0)
  case atStart => rfl
  case round =>
    obtain rfl := hrel
    have hs4 := Hm4.out.size
    have T0 := TwoRel.start (W := w3) (w := w4) 30 (fun _ => undef) (fun _ => undef) (Hm4.out.toBelow.trans ((Mod.refl (fun x => x = g) w4).under hs4 (fun k hk => by have hk' : k = g := hk; omega)))
    have FX : FourAt w4 g [1, 0, 0, 0] := HF4.out
    have HT0 := Lib.hid T0
    have HFX := Lib.hid FX
    clear T0 FX
    go_wp2_with (at_builtin; refine wpList_append_mine _ rfl (.tmp 58) (.tmp 60) 24 rfl 23 i2 (.slice none 0 0) 1 24 Tryd.underlying24 hi2 hx0 hx1 hx2 rfl (by decide) _ _ [] rfl (World.ownsRow_nil _ _ _ _) ⟨_, 0, none⟩ 1 1 [.slice (some ⟨g, 0, none⟩) 4 cap] rfl rfl (new_cells_at (w4.alloc (.cells #[.int .i64 30, .slice none 0 0, .slice none 0 0] 26)) _ _ (by simp)) (slices_one _ rfl) (world_bnd (by omega) (by omega)) (world_bnd2 (by omega) (by omega)) ?_; intro v5 w5 hown hgr hfr hz; obtain ⟨a5, b5, c5, rfl⟩ := slice_of_own hown; have T1 := HT0.out.addInit (xs := [.slice (some ⟨g, 0, none⟩) 4 cap]) (ls := [[1, 0, 0, 0]]) rfl (one_ints ((HFX.out.keep (((Mod.refl noF _).alloc _).alloc _) (fun e => e)).ints (by simp))) (one_own (by first | exact ⟨⟨⟨(by simp; omega), (fun h => by cases h), (fun h => by cases h)⟩, hgW⟩, (by simp; omega)⟩)) ((Mod.refl noF _).alloc _) hown hgr hfr; have T5 := HT0.out.addFree hgr; obtain ⟨x0, x1, x2, x3, x4⟩ := T5; have HT1 := Lib.hid T1; clear T1 hown hgr hfr hz)
    obtain ⟨B, hB⟩ : ∃ B, B = w4.heap.size := ⟨_, rfl⟩
    rw [← hB] at HT1 x0 x1 x2 x3 x4
    rw [← hB]
    have hBw : w3.heap.size ≤ B := by omega
    clear hB
    go_loopw [14, 15] (fun i o wr => ∃ k : Nat, k ≤ th ∧ i = .int .i64 k ∧ ∃ v u iv rv, TwoRel w3 B 30 v u (grHub f :: (List.range k).map (grOwn f th)) ((List.range k).map (grReg th)) iv rv wr) (fun i _ _ => th - (intOf i).toNat)
    case atStart => exact ⟨0, Nat.zero_le _, rfl, _, _, _, _, by rw [Hgh.out]; exact HT1.out⟩
    case round =>
      obtain ⟨k, hk, rfl, v, u, iv, rv, T⟩ := hrel
      obtain ⟨va, vb, vc, rfl⟩ := slice_of_own T.vrow
      obtain ⟨ua, ub, uc, rfl⟩ := slice_of_own T.urow
      have hMr := Mod.below T.below
      have hsr := hMr.size
      have hBr := lt_of_block T.box
      have HOr := Lib.hid (fun (i : Nat) x (h : ([c0, 0, 0, 0] : List Int)[i]? = some x) => hMr.cell (HO.out i x h) (fun e => e))
      have HT := Lib.hid T
      have hvr : ∀ g, (Value.slice va vb vc).ownBlock = some g → g < wr.heap.size := fun g hg => (World.ownsRow.lt T.vrow g hg).2
      have hur : ∀ g, (Value.slice ua ub uc).ownBlock = some g → g < wr.heap.size := fun g hg => (World.ownsRow.lt T.urow g hg).2
      have Hvr := Lib.hid hvr
      have Hur := Lib.hid hur
      by_cases hlt : k < th
      · have hd : decide ((k : Int) < (th : Int)) = true := by simp; omega
        clear T hMr hvr hur
        go_wp2_with (at_builtin; refine wpList_append_mine _ rfl (.tmp 68) (.tmp 69) 23 rfl 3 i3 (.int .i64 0) 1 8 Tryd.underlying23 hi3 hy0 hy1 hy2 rfl (by decide) _ _ [] rfl (World.ownsRow_nil _ _ _ _) ⟨bo, 0, none⟩ 4 4 (([c0, 0, 0, 0] : List Int).map (Value.int .i64)) rfl rfl (four_src HOr.out) (ints_one _) (world_bnd (by omega) (by omega)) (world_bnd3 (by omega) (by omega)) ?_; intro v6 w6 hown hgr hfr hz; obtain ⟨g6, cap6, rfl, hgW6, F6⟩ := four_of_own (W := wr) (n := 4) (z := [c0, 0, 0, 0]) hown (by omega) (fun g hg => (hfr g hg).resolve_left (fun h => by cases h)); have Hm6 := Lib.hid ((Mod.refl noF wr).grown hgr (fun k hk _ => by cases hk)); have g61 := F6.cell (j := 1) rfl; have gf6 := F6.free 1; have glt6 := F6.lt; have HF6 := Lib.hid F6; clear hown hgr hfr hz F6)
        go_loop [15] (fun v => v = .slice (some ⟨g6, 0, none⟩) 4 cap6) (fun _ => 0)
        case atStart => rfl
        case round =>
          obtain rfl := hrel
          have hs6 := Hm6.out.size
          have qY : Mod noF wr (w6.setCell ⟨g6, 1, none⟩ (.int .i64 0)) := (by repeat (first | exact Hm6.out | refine Mod.setCell ?_ (fun h => absurd h (by have := hgW6; simp at *; omega)) _))
          have TY := HT.out.quiet qY
          have FY : FourAt (w6.setCell ⟨g6, 1, none⟩ (.int .i64 0)) g6 [c0, 0, 0, 0] := (HF6.out.set 1 0)
          have HTY := Lib.hid TY
          have HFY := Lib.hid FY
          obtain ⟨x0, x1, x2, x3, x4⟩ := TY.cells
          have hsY := qY.size
          clear TY FY qY
          go_wp2_with (first
            | (at_builtin; refine wpList_append_mine _ rfl (.tmp 92) (.tmp 94) 24 rfl 23 i2 (.slice none 0 0) 1 24 Tryd.underlying24 hi2 hx0 hx1 hx2 rfl (by decide) _ _ _ rfl (World.ownsRow.alloc HTY.out.vrow _) ⟨_, 0, none⟩ 1 1 [.slice (some ⟨g6, 0, none⟩) 4 cap6] rfl rfl (new_cells_at (w6.setCell ⟨g6, 1, none⟩ (.int .i64 0)) _ _ (by simp)) (slices_one _ rfl) (world_bnd (by simp; omega) (by omega)) (world_bnd2 (by simp; omega) (by omega)) ?_; intro v7 w7 hown hgr hfr hz; obtain ⟨a7, b7, c7, rfl⟩ := slice_of_own hown; have T7 := HTY.out.addInit (xs := [.slice (some ⟨g6, 0, none⟩) 4 cap6]) (ls := [[c0, 0, 0, 0]]) rfl (one_ints ((HFY.out.keep ((Mod.refl noF _).alloc _) (fun e => e)).ints (by simp))) (one_own (by exact ⟨⟨⟨(by omega), (fun h => by have := Hvr.out _ h; omega), (fun h => by have := Hur.out _ h; omega)⟩, (by omega)⟩, (by simp; omega)⟩)) ((Mod.refl noF _).alloc _) hown hgr hfr; have S7 := HTY.out.addFree hgr; obtain ⟨y0, y1, y2, y3, y4⟩ := S7; have HT7 := Lib.hid T7; clear T7 hown hgr hfr hz x0 x1 x2 x3 x4)
            | (at_builtin; refine wpList_append_mine _ rfl (.tmp 98) (.tmp 104) 24 rfl 23 i2 (.slice none 0 0) 1 24 Tryd.underlying24 hi2 hx0 hx1 hx2 rfl (by decide) _ _ _ rfl (World.ownsRow.alloc (World.ownsRow.alloc HT7.out.urow _) _) ⟨_, 0, none⟩ 1 1 [.slice (some ⟨w7.heap.size, 0, none⟩) 8 8] rfl rfl (new_cells_at ((w7.setCell ⟨B, 1, none⟩ (.slice a7 b7 c7)).alloc (.cells ((grReg th k).map (Value.int .i64)).toArray 3)) _ _ (by simp)) (slices_one _ rfl) (world_bnd (by simp; omega) (by omega)) (world_bnd2 (by simp; omega) (by omega)) ?_; intro v8 w8 hown hgr hfr hz; obtain ⟨a8, b8, c8, rfl⟩ := slice_of_own hown; have T8 := HT7.out.addReg (xs := [.slice (some ⟨w7.heap.size, 0, none⟩) 8 8]) (ls := [grReg th k]) rfl (one_ints (((four_alloc (z := grReg th k) (by simp)).keep ((Mod.refl noF _).alloc _) (fun e => e)).ints (by simp [grReg]))) (one_own (by exact ⟨⟨⟨(by omega), (fun h => by have := (World.ownsRow.lt HT7.out.vrow _ h).2; simp at this), (fun h => by have := (World.ownsRow.lt HT7.out.urow _ h).2; simp at this)⟩, (by have := HT7.out.below.size; simp at this; omega)⟩, (by simp; omega)⟩)) (((Mod.refl noF _).alloc _).alloc _) hown hgr hfr; have S8 := HT7.out.addFree2 hgr; obtain ⟨z0, z1, z2, z3, z4⟩ := S8; have HT8 := Lib.hid T8; clear T8 hown hgr hfr hz y0 y1 y2 y3))
          go_roundw
          case rel =>
            have h := HT8.out
            rw [List.cons_append, show [c0, 0, 0, 0] = grOwn f th k from by rw [Hgo.out k]; rfl, map_range_succ, map_range_succ] at h
            exact ⟨k + 1, by omega, by go_num, _, _, _, _, h⟩
          case measure => simp [intOf]; omega
      · have hd : decide ((k : Int) < (th : Int)) = false := by simp; omega
        obtain rfl : th = k := by omega
        have HRr := hMr.heap HR.out (fun e => e)
        obtain ⟨x0, x1, x2, x3, x4⟩ := T.cells
        have HMr := Lib.hid hMr
        have HHR := Lib.hid HRr
        have hRB : ¬ w.heap.size = B := by omega
        have hBR : ¬ B = w.heap.size := by omega
        clear T hvr hur hMr HRr
        go_wp2_with (at_builtin; refine wpList_append_mine _ rfl (.tmp 108) (.tmp 113) 24 rfl 23 i2 (.slice none 0 0) 1 24 Tryd.underlying24 hi2 hx0 hx1 hx2 rfl (by decide) _ _ _ rfl (World.ownsRow.alloc (World.ownsRow.alloc (World.ownsRow.alloc HT.out.vrow _) _) _) ⟨_, 0, none⟩ 2 2 [.slice (some ⟨wr.heap.size, 0, none⟩) 1 1, .slice (some ⟨wr.heap.size + 1, 0, none⟩) 1 1] rfl rfl (new_cells_at ((wr.alloc (.cells (([(th : Int) + 3] : List Int).map (Value.int .i64)).toArray 3)).alloc (.cells (([1] : List Int).map (Value.int .i64)).toArray 3)) _ _ (by simp)) (slices_one _ rfl) (world_bnd (by simp; omega) (by omega)) (world_bnd2 (by simp; omega) (by omega)) ?_; intro v9 w9 hown hgr hfr hz; obtain ⟨a9, b9, c9, rfl⟩ := slice_of_own hown; have S9 := HT.out.addFree3 hgr HHR.out hwR; obtain ⟨y0, y1, y2, y3, y4, r0, r1, r2, r3, r4⟩ := S9; have HR4 := Lib.hid r4; clear r4; have HOWN := Lib.hid hown; have HGR := Lib.hid hgr; have HFR := Lib.hid hfr; clear hown hgr hfr hz x0 x1 x2 x3 x4)
        have T9 := HT.out.addInit (xs := [.slice (some ⟨wr.heap.size, 0, none⟩) 1 1, .slice (some ⟨wr.heap.size + 1, 0, none⟩) 1 1]) (ls := [[(th : Int) + 3], [1]]) rfl (two_ints (((four_alloc (w := wr) (z := [(th : Int) + 3]) rfl).keep (((Mod.refl noF _).alloc _).alloc _) (fun e => e)).ints (by simp)) (((four_alloc (w := wr.alloc _) (z := [1]) (by simp)).keep ((Mod.refl noF _).alloc _) (fun e => e)).ints (by simp))) (two_own (by exact ⟨⟨⟨(by omega), (fun h => by have := Hvr.out _ h; omega), (fun h => by have := Hur.out _ h; omega)⟩, (by omega)⟩, (by simp <;> omega)⟩) (by exact ⟨⟨⟨(by omega), (fun h => by have := Hvr.out _ h; omega), (fun h => by have := Hur.out _ h; omega)⟩, (by omega)⟩, (by simp <;> omega)⟩)) ((((Mod.refl noF _).alloc _).alloc _).alloc _) HOWN.out HGR.out HFR.out
        have HT9 := Lib.hid T9
        clear T9
        have hfin := fun W' (hM : Mod (fun g => g < w3.heap.size) (w9.setCell ⟨B, 1, none⟩ (.slice a9 b9 c9)) W') => HT9.out.old hM
        have Hfin := Lib.hid hfin
        have Hb9 := Lib.hid (HM.out.trans0 (Mod.below HT9.out.below))
        clear hfin
        have q0 := ((Mod.refl (fun x => x = B) w9).setCell (p := ⟨B, 1, none⟩) (fun _ => rfl) (.slice a9 b9 c9)).heap HR4.out hRB
        have q1 := Qh.heap_setCell_same q0 0 (.int .i64 30)
        have q2 := Qh.heap_setCell_same q1 1 (.slice a9 b9 c9)
        have q3 := Qh.heap_setCell_same q2 2 (.slice ua ub uc)
        have e0 := (cell_of_heap q1 0).trans (show _ = some (Value.int .i64 30) from rfl)
        have e1 := (cell_of_heap q2 1).trans (show _ = some (Value.slice a9 b9 c9) from rfl)
        have e2 := (cell_of_heap q3 2).trans (show _ = some (Value.slice ua ub uc) from rfl)
        refine bodyPost_ret (v := .tuple #[.agg #[.int .i64 30, .slice a9 b9 c9, .slice ua ub uc], .bool true]) (by simp [results, Tryd.results98, go_sem, e0, e1, e2]) rfl ⟨_, _, rfl, (Hfin.out _ (by repeat (first | exact Mod.refl _ _ | refine Mod.setCell ?_ (fun _ => hwR) _))).1, (Hfin.out _ (by repeat (first | exact Mod.refl _ _ | refine Mod.setCell ?_ (fun _ => hwR) _))).2, (by repeat (first | exact Hb9.out | refine Mod.setCell ?_ (fun h => absurd h (Nat.lt_irrefl _)) _))⟩
theorem world_ok {f th : Nat} (h1 : 1 ≤ f) (h4 : f ≤ 4) (ht1 : 1 ≤ th) (ht4 : th ≤ 4) (w : World) :
    Calls Tryd.prog 98 #[.int .i64 f, .int .i64 th] w fun e w' => ∃ v u, e = .returned (.tuple #[.agg #[.int .i64 30, v, u], .bool true]) ∧ RowsAt w' v (grInit f th) ∧ RowsAt w' u (grRegs th) ∧ Mod noF w w' := by
  by_cases hf : f = 4
  · exact world_a h1 h4 hf ht1 ht4 w
  · exact world_b h1 h4 hf ht1 ht4 w
end Go.Proofs.YtamfbfajlfbooaaDoor
