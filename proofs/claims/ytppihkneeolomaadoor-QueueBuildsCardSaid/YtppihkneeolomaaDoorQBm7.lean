/- Texts that belong together, joined. -/
import Derived.Test.YtppihkneeolomaaDoorQBm6
import Derived.Test.YtppihkneeolomaaDoorQBNewWalk
import Derived.Test.YtppihkneeolomaaDoorQBm1
import Derived.Test.YtppihkneeolomaaDoorQBQueueB
import Derived.Test.YtppihkneeolomaaDoorQBm5
import Derived.Test.YtppihkneeolomaaDoorQBm3
import Derived.Test.YtppihkneeolomaaDoorQBAs
import Derived.LoopTactic
import Derived.Outline
set_option linter.unusedVariables false
set_option linter.unusedSimpArgs false
set_option linter.unusedSectionVars false
/- package client: the base of a start: rows of numbers, owned. -/
section
namespace Go.Proofs.YtppihkneeolomaaDoor
open Go.RowKit Qs Qh
/-- A row's value: nil where there is none. -/
def rwU (l : List Int) (b : Nat) : Value := if l.length = 0 then .slice none 0 0 else .slice (some ⟨b, 0, none⟩) l.length l.length
def rwV (ll : List (List Int)) (bl : Nat → Nat) : List Value := ll.mapIdx fun i l => rwU l (bl i)
/-- Rows of numbers that their maker owns, in blocks of a range. -/
structure Rws (lo hi : Nat) (w : World) (v : Value) (ll : List (List Int)) (bl : Nat → Nat) : Prop where
  own : w.ownsRow 0 23 1 v ll.length (rwV ll bl)
  row : ∀ (i : Nat) l, ll[i]? = some l → l.length ≠ 0 → w.heap[bl i]? = some (.cells (l.map (Value.int .i64)).toArray 3 (0, 0))
  vin : ∀ g, v.ownBlock = some g → lo ≤ g ∧ g < hi
  bin : ∀ (i : Nat) l, ll[i]? = some l → l.length ≠ 0 → lo ≤ bl i ∧ bl i < hi
  vne : ∀ g (i : Nat) l, v.ownBlock = some g → ll[i]? = some l → l.length ≠ 0 → g ≠ bl i
  inj : ∀ (i j : Nat) l l', ll[i]? = some l → ll[j]? = some l' → l.length ≠ 0 → l'.length ≠ 0 → bl i = bl j → i = j
variable {lo hi : Nat} {w w1 w3 w4 : World} {v v4 : Value} {ll : List (List Int)} {bl : Nat → Nat}
theorem Rws.nil (lo hi : Nat) (w : World) (bl : Nat → Nat) : Rws lo hi w (.slice none 0 0) [] bl :=
  ⟨World.ownsRow_nil w 0 _ 1, fun i l h _ => by simp at h, fun g h => (by cases h), fun i l h _ => by simp at h, fun g i l h _ _ => (by cases h), fun i j l l' h _ _ _ _ => by simp at h⟩
theorem Rws.keep (R : Rws lo hi w v ll bl) {F : Nat → Prop} (hM : Mod F w w1) (hF : ∀ k, lo ≤ k → k < hi → ¬ F k) : Rws lo hi w1 v ll bl := by
  refine ⟨⟨R.own.1, ?_⟩, fun i l h h0 => hM.heap (R.row i l h h0) (hF _ (R.bin i l h h0).1 (R.bin i l h h0).2), R.vin, R.bin, R.vne, R.inj⟩
  rcases R.own.2 with e | ⟨g, cap, cur, rfl, h0, hg, r⟩
  · exact .inl e
  · exact .inr ⟨g, cap, cur, rfl, h0, hM.heap hg (hF _ (R.vin g rfl).1 (R.vin g rfl).2), r⟩
theorem Rws.more (R : Rws lo hi w v ll bl) {hi' : Nat} (h : hi ≤ hi') : Rws lo hi' w v ll bl :=
  ⟨R.own, R.row, fun g hg => ⟨(R.vin g hg).1, Nat.lt_of_lt_of_le (R.vin g hg).2 h⟩, fun i l hi h0 => ⟨(R.bin i l hi h0).1, Nat.lt_of_lt_of_le (R.bin i l hi h0).2 h⟩, R.vne, R.inj⟩
theorem rwV_push (l : List Int) (r : Nat) : rwV (ll ++ [l]) (fun i => if i = ll.length then r else bl i) = rwV ll bl ++ [rwU l r] := by
  unfold rwV
  rw [List.mapIdx_concat]
  simp only [if_true]
  congr 1
  refine List.ext_getElem? fun i => ?_
  rw [List.getElem?_mapIdx, List.getElem?_mapIdx]
  by_cases h : i < ll.length
  · rw [if_neg (by omega)]
  · rw [List.getElem?_eq_none (by omega)]; rfl
/-- A row more. -/
theorem Rws.push (R : Rws lo hi w v ll bl) (hhi : hi ≤ w.heap.size) (hlo : lo ≤ w.heap.size) (hM : Mod noF w w3) {l : List Int} {r : Nat} {B o : Nat} (hr0 : l.length ≠ 0 → hi ≤ r ∧ lo ≤ r ∧ r ≠ B) (hr : l.length ≠ 0 → w3.heap[r]? = some (.cells (l.map (Value.int .i64)).toArray 3 (0, 0)))
    (hown : w4.ownsRow 0 23 1 v4 (ll.length + 1) (rwV ll bl ++ [rwU l r])) (hg : w3.grownBy w4 v.ownBlock) (hfr : ∀ g, v4.ownBlock = some g → v.ownBlock = some g ∨ w3.heap.size ≤ g)
    (hB : ∀ k, lo ≤ k → k < hi → k ≠ B) (hBs : B < w.heap.size) :
    Rws lo w4.heap.size (w4.setCell ⟨B, o, none⟩ v4) v4 (ll ++ [l]) (fun i => if i = ll.length then r else bl i) ∧ Mod (fun k => k = B ∨ v.ownBlock = some k) w (w4.setCell ⟨B, o, none⟩ v4) := by
  have hM4 : Mod (fun x => v.ownBlock = some x) w w4 := hM.any.grown hg fun j hj _ => hj
  have hM4b : Mod (fun x => v.ownBlock = some x) w3 w4 := (Mod.refl (fun x => v.ownBlock = some x) w3).grown hg fun j hj _ => hj
  have hM5 : Mod (fun x => x = B) w4 (w4.setCell ⟨B, o, none⟩ v4) := (Mod.refl (fun x => x = B) w4).setCell (fun _ => rfl) v4
  have hall : Mod (fun x => x = B ∨ v.ownBlock = some x) w (w4.setCell ⟨B, o, none⟩ v4) := (hM4.mono fun x _ hx => .inr hx).trans hM5 fun x _ hx => .inl hx
  have hs1 := hM.size
  have hs2 := hM4b.size
  have hget : ∀ {i : Nat} {x : List Int}, (ll ++ [l])[i]? = some x → (i < ll.length ∧ ll[i]? = some x) ∨ (i = ll.length ∧ x = l) := fun {i x} h => by
    by_cases hi : i < ll.length
    · rw [List.getElem?_append_left hi] at h; exact .inl ⟨hi, h⟩
    · rw [List.getElem?_append_right (by omega)] at h
      have : i - ll.length = 0 := by have := (List.getElem?_eq_some_iff.1 h).1; simp at this; omega
      rw [this] at h; simp at h
      exact .inr ⟨by omega, h.symm⟩
  have hvin : ∀ g, v4.ownBlock = some g → lo ≤ g ∧ g < w4.heap.size ∧ g ≠ B := fun g hg4 => by
    have hlt := (World.ownsRow.lt hown g hg4).2
    rcases hfr g hg4 with e | e
    · have := R.vin g e; exact ⟨this.1, hlt, hB g this.1 this.2⟩
    · exact ⟨by omega, hlt, by omega⟩
  have hrl : l.length ≠ 0 → r < w3.heap.size := fun h0 => lt_of_block (hr h0)
  refine ⟨⟨?_, fun i x h h0 => ?_, fun g hg4 => ⟨(hvin g hg4).1, (hvin g hg4).2.1⟩, fun i x h h0 => ?_, fun g i x hg4 h h0 e => ?_, fun i j x y h1 h2 h3 h4 e => ?_⟩, hall⟩
  · rw [rwV_push, List.length_append]
    exact ownsRow_setCell_other hown (fun hx => (hvin _ hx).2.2 rfl) _
  · rcases hget h with ⟨hi, h⟩ | ⟨rfl, rfl⟩
    · rw [if_neg (show ¬ i = ll.length by omega)]
      have hb := R.bin i x h h0
      refine hall.heap (R.row i x h h0) fun e => ?_
      rcases e with e | e
      · exact hB _ hb.1 hb.2 e
      · exact R.vne _ i x e h h0 rfl
    · simp only [if_true]
      have hr1 := hr0 h0
      refine hM5.heap (hM4b.heap (hr h0) fun e => ?_) fun e => hr1.2.2 e
      have := (R.vin r e).2; omega
  · rcases hget h with ⟨hi', h⟩ | ⟨rfl, rfl⟩
    · rw [if_neg (show ¬ i = ll.length by omega)]
      have hb := R.bin i x h h0
      exact ⟨hb.1, by omega⟩
    · simp only [if_true]
      have := hr0 h0; have := hrl h0
      exact ⟨by omega, by omega⟩
  · rcases hget h with ⟨hi', h⟩ | ⟨rfl, rfl⟩
    · rw [if_neg (show ¬ i = ll.length by omega)] at e
      have hb := R.bin i x h h0
      rcases hfr g hg4 with e' | e'
      · exact R.vne g i x e' h h0 e
      · omega
    · simp only [if_true] at e
      subst e
      have := hr0 h0; have := hrl h0
      rcases hfr g hg4 with e' | e'
      · have := (R.vin g e').2; omega
      · omega
  · rcases hget h1 with ⟨hi1, q1⟩ | ⟨rfl, rfl⟩ <;> rcases hget h2 with ⟨hi2, q2⟩ | ⟨rfl, rfl⟩
    · rw [if_neg (show ¬ i = ll.length by omega), if_neg (show ¬ j = ll.length by omega)] at e
      exact R.inj i j x y q1 q2 h3 h4 e
    · simp only [if_true] at e; rw [if_neg (show ¬ i = ll.length by omega)] at e
      have := (R.bin i x q1 h3).2; have := hr0 h4; omega
    · simp only [if_true] at e; rw [if_neg (show ¬ j = ll.length by omega)] at e
      have := (R.bin j y q2 h4).2; have := hr0 h3; omega
    · rfl
end Go.Proofs.YtppihkneeolomaaDoor
end
/- package client: NewBase, Base.Cell. -/
section
namespace Go.Proofs.YtppihkneeolomaaDoor
open Go.RowKit Qs Qh
def z8 : List Int := [0, 0, 0, 0, 0, 0, 0, 0]
theorem rowInfo : (Tryd.prog.info? 23).map (fun i => (i.zero, i.size, i.bytes)) = some (some (.slice none 0 0), 1, 24) := by kernel_rfl
/-- The base in memory. -/
def BaseAt (w : World) (B : Nat) (iv rv : Value) : Prop := w.heap[B]? = some (.cells #[.int .i64 64, iv, rv] 79 (0, 0))
theorem one_row (u : Value) (h : u.oneCell' = true) : ∀ x ∈ [u], x.oneCell' = true := fun x hx => by rw [List.mem_singleton] at hx; subst hx; exact h
theorem replicate_push (k : Nat) (x : List Int) : List.replicate (k + 1) x = List.replicate k x ++ [x] := by rw [List.replicate_succ']
theorem BaseAt.next2 {wr w3 w4 : World} {B lo hi r : Nat} {iv rv v4 : Value} {ll : List (List Int)} {l : List Int} {bl : Nat → Nat} (hB : BaseAt wr B iv rv) (R : Rws lo hi wr rv ll bl) (hhi : hi ≤ wr.heap.size) (hlo : lo ≤ wr.heap.size) (hBl : B < lo) (hM : Mod noF wr w3)
    (hr0 : l.length ≠ 0 → hi ≤ r ∧ lo ≤ r) (hr : l.length ≠ 0 → w3.heap[r]? = some (.cells (l.map (Value.int .i64)).toArray 3 (0, 0)))
    (hown : w4.ownsRow 0 23 1 v4 (ll.length + 1) (rwV ll bl ++ [rwU l r])) (hg : w3.grownBy w4 rv.ownBlock) (hfr : ∀ g, v4.ownBlock = some g → rv.ownBlock = some g ∨ w3.heap.size ≤ g) :
    BaseAt (w4.setCell ⟨B, 2, none⟩ v4) B iv v4 ∧ (∃ bl', Rws lo (w4.setCell ⟨B, 2, none⟩ v4).heap.size (w4.setCell ⟨B, 2, none⟩ v4) v4 (ll ++ [l]) bl') ∧ Mod (fun k => k = B ∨ rv.ownBlock = some k) wr (w4.setCell ⟨B, 2, none⟩ v4) := by
  have hBs : B < wr.heap.size := lt_of_block hB
  obtain ⟨R', hM'⟩ := R.push hhi hlo hM (fun h => ⟨(hr0 h).1, (hr0 h).2, by have := (hr0 h).2; omega⟩) hr hown hg hfr (B := B) (o := 2) (fun k h _ => by omega) hBs
  have hM4 : Mod (fun x => rv.ownBlock = some x) wr w4 := hM.any.grown hg fun j hj _ => hj
  have hB4 : w4.heap[B]? = _ := hM4.heap hB fun e => by have := (R.vin B e).1; omega
  have hs : (w4.setCell ⟨B, 2, none⟩ v4).heap.size = w4.heap.size := by simp [World.setCell]
  refine ⟨?_, ⟨_, hs ▸ R'⟩, hM'⟩
  unfold BaseAt
  rw [Qh.heap_setCell_same hB4]
  rfl
theorem BaseAt.next1 {wr w3 w4 : World} {B lo hi r : Nat} {iv rv v4 : Value} {ll : List (List Int)} {l : List Int} {bl : Nat → Nat} (hB : BaseAt wr B iv rv) (R : Rws lo hi wr iv ll bl) (hhi : hi ≤ wr.heap.size) (hlo : lo ≤ wr.heap.size) (hBl : B < lo) (hM : Mod noF wr w3)
    (hr0 : l.length ≠ 0 → hi ≤ r ∧ lo ≤ r) (hr : l.length ≠ 0 → w3.heap[r]? = some (.cells (l.map (Value.int .i64)).toArray 3 (0, 0)))
    (hown : w4.ownsRow 0 23 1 v4 (ll.length + 1) (rwV ll bl ++ [rwU l r])) (hg : w3.grownBy w4 iv.ownBlock) (hfr : ∀ g, v4.ownBlock = some g → iv.ownBlock = some g ∨ w3.heap.size ≤ g) :
    BaseAt (w4.setCell ⟨B, 1, none⟩ v4) B v4 rv ∧ (∃ bl', Rws lo (w4.setCell ⟨B, 1, none⟩ v4).heap.size (w4.setCell ⟨B, 1, none⟩ v4) v4 (ll ++ [l]) bl') ∧ Mod (fun k => k = B ∨ iv.ownBlock = some k) wr (w4.setCell ⟨B, 1, none⟩ v4) := by
  have hBs : B < wr.heap.size := lt_of_block hB
  obtain ⟨R', hM'⟩ := R.push hhi hlo hM (fun h => ⟨(hr0 h).1, (hr0 h).2, by have := (hr0 h).2; omega⟩) hr hown hg hfr (B := B) (o := 1) (fun k h _ => by omega) hBs
  have hM4 : Mod (fun x => iv.ownBlock = some x) wr w4 := hM.any.grown hg fun j hj _ => hj
  have hB4 : w4.heap[B]? = _ := hM4.heap hB fun e => by have := (R.vin B e).1; omega
  have hs : (w4.setCell ⟨B, 1, none⟩ v4).heap.size = w4.heap.size := by simp [World.setCell]
  refine ⟨?_, ⟨_, hs ▸ R'⟩, hM'⟩
  unfold BaseAt
  rw [Qh.heap_setCell_same hB4]
  rfl
set_option maxHeartbeats 4000000 in
theorem newBase_ok (n : Nat) (hn : n ≤ 6) (w : World) : Calls Tryd.prog 37 #[.int .i64 n] w fun e w' => ∃ rv rb, e = .returned (.pointer (some ⟨w.heap.size, 0, none⟩)) ∧ Mod noF w w' ∧ BaseAt w' w.heap.size (.slice none 0 0) rv ∧ Rws (w.heap.size + 1) w'.heap.size w' rv (List.replicate n z8) rb := by
  have hmk8 : ∀ w : World, (Instr.makeSlice 23 (.int .i64 8) (.int .i64 8)).run Tryd.prog w = .ok (.slice (some ⟨w.heap.size, 0, none⟩) 8 8) (w.alloc (.cells #[.int .i64 0, .int .i64 0, .int .i64 0, .int .i64 0, .int .i64 0, .int .i64 0, .int .i64 0, .int .i64 0] 3)) := fun _ => by kernel_rfl
  obtain ⟨i0, hti, hz0, hz1, hz2⟩ := info_parts rowInfo
  go_enter Tryd.func37, Tryd.ntmps37
  go_wp2
  go_loopw [8] (fun i wr => ∃ k : Nat, k ≤ n ∧ i = .int .i64 k ∧ Mod noF w wr ∧ w.heap.size + 1 ≤ wr.heap.size ∧ ∃ rv rb, BaseAt wr w.heap.size (.slice none 0 0) rv ∧ Rws (w.heap.size + 1) wr.heap.size wr rv (List.replicate k z8) rb) (fun i _ => n - (intOf i).toNat)
  case atStart => exact ⟨0, Nat.zero_le _, rfl, (Mod.refl _ _).alloc _, by simp, .slice none 0 0, fun _ => 0, by unfold BaseAt; exact heap_alloc_new _ _, Rws.nil _ _ _ _⟩
  case round =>
    rename_i wr
    obtain ⟨k, hk, rfl, hm, hsz, rv, rb, hB, R⟩ := hrel
    have b2 : wr.cell? ⟨w.heap.size, 2, none⟩ = some rv := by rw [cell_of_heap hB]; rfl
    have bf := free_of_heap hB 2
    obtain ⟨va, vb, vc, rfl⟩ := slice_of_own R.own
    have hvb : ¬ (Value.slice va vb vc).ownBlock = some w.heap.size := fun e => by have := (R.vin _ e).1; omega
    have b3 : (wr.alloc (.cells #[.int .i64 0, .int .i64 0, .int .i64 0, .int .i64 0, .int .i64 0, .int .i64 0, .int .i64 0, .int .i64 0] 3)).cell? ⟨w.heap.size, 2, none⟩ = some (.slice va vb vc) := ((Mod.refl noF wr).alloc _).cell b2 (fun e => e)
    have b4 : ((wr.alloc (.cells #[.int .i64 0, .int .i64 0, .int .i64 0, .int .i64 0, .int .i64 0, .int .i64 0, .int .i64 0, .int .i64 0] 3)).alloc (.cells #[.slice (some ⟨wr.heap.size, 0, none⟩) 8 8] 23)).cell? ⟨w.heap.size, 2, none⟩ = some (.slice va vb vc) := (((Mod.refl noF wr).alloc _).alloc _).cell b2 (fun e => e)
    have Hm := Lib.hid hm
    have HB := Lib.hid hB
    have HR := Lib.hid R
    have Hvb := Lib.hid hvb
    clear hm hB R hvb
    by_cases hlt : k < n
    · have hd : decide ((k : Int) < (n : Int)) = true := by simp; omega
      have hbnd : k + 1 ≤ maxLen := by unfold maxLen; omega
      go_wp2
      go_region_law (refine step_append_mine _ rfl (.tmp 15) (.tmp 17) 30 rfl 23 i0 (.slice none 0 0) 1 24 Tryd.underlying30 hti hz0 hz1 hz2 rfl (by decide) _ k (rwV (List.replicate k z8) rb) rfl (by have := HR.out.own; rw [List.length_replicate] at this; exact World.ownsRow.alloc (World.ownsRow.alloc this _) _) ⟨wr.heap.size + 1, 0, none⟩ 1 1 [.slice (some ⟨wr.heap.size, 0, none⟩) 8 8] rfl rfl (by exact new_cells_at _ _ _ (by simp)) (one_row _ rfl) hbnd (by omega) ?_; intro v4 w7 hown hgr hfr _; obtain ⟨xa, xb, xc, rfl⟩ := slice_of_own hown; have Hown := Lib.hid hown; have Hgr := Lib.hid hgr; have Hfr := Lib.hid hfr; have hm7 : Mod (fun x => (Value.slice va vb vc).ownBlock = some x) wr w7 := appended hgr (((Mod.refl noF wr).drew.alloc _).alloc _); have z2 := hm7.cell b2 Hvb.out; have zf := (World.frozen?_of_block (hm7.block w.heap.size (by omega) Hvb.out)).trans bf; clear hown hgr hfr hm7)
      all_goals
        go_wp2
        go_roundw
        case rel =>
          obtain ⟨hB', ⟨rb', R'⟩, hM'⟩ := HB.out.next2 HR.out (Nat.le_refl _) hsz (by omega) (((Mod.refl noF wr).alloc _).alloc _).drew (l := z8) (r := wr.heap.size) (fun _ => ⟨Nat.le_refl _, hsz⟩) (fun _ => (((Mod.refl noF _).alloc _).drew.heap (heap_alloc_new wr _) (fun e => e))) (by rw [List.length_replicate]; exact Hown.out) Hgr.out Hfr.out
          rw [← replicate_push] at R'
          exact ⟨k + 1, by omega, by go_num, Hm.out.trans hM' (fun x hx hf => by
            rcases hf with e | e
            · omega
            · have := (HR.out.vin x e).1; omega), by have := hM'.size; omega, _, rb', hB', R'⟩
        case measure => simp [intOf]; omega
    · have hd : decide ((k : Int) < (n : Int)) = false := by simp; omega
      obtain rfl : k = n := by omega
      go_wp2
      go_ret
      exact ⟨_, _, rfl, Hm.out, HB.out, HR.out⟩
theorem word0_ok (i : Nat) (hi : i < 64) (w : World) : Calls Tryd.prog 68 #[.agg #[.int .i64 i, .int .i64 0]] w fun e w' => e = .returned (.tuple #[.int .i64 ((i : Int) + 1), .nilIface]) ∧ Mod noF w w' := by
  have d0 : decide ((i : Int) < 0) = false := by simp
  have d1 : decide ((64 : Int) ≤ (i : Int)) = false := by simp; omega
  have d2 : decide ((4294967295 : Int) < (i : Int) + 1) = false := by simp; omega
  go_enter Tryd.func68, Tryd.ntmps68
  go_wp2
  go_ret2
  exact ⟨rfl, (Mod.refl _ _).alloc _⟩
end Go.Proofs.YtppihkneeolomaaDoor
end
/- package client: Base.Cell. -/
section
namespace Go.Proofs.YtppihkneeolomaaDoor
open Go.RowKit Qs Qh
variable {w w1 w2 : World} {B lo hi r : Nat} {iv rv : Value} {ll : List (List Int)} {l : List Int} {bl : Nat → Nat}
set_option maxHeartbeats 4000000 in
theorem cell_ok (hB : BaseAt w B iv rv) (R : Rws lo hi w iv ll bl) (hhi : hi ≤ w.heap.size) (hlo : lo ≤ w.heap.size) (hBl : B < lo) (h64 : ll.length < 64)
    (hr0 : l.length ≠ 0 → hi ≤ r ∧ lo ≤ r) (hr : l.length ≠ 0 → w.heap[r]? = some (.cells (l.map (Value.int .i64)).toArray 3 (0, 0))) :
    Calls Tryd.prog 38 #[.pointer (some ⟨B, 0, none⟩), rwU l r] w fun e w' => e = .returned (.int .i64 ((ll.length : Int) + 1)) ∧ ∃ iv', BaseAt w' B iv' rv ∧ (∃ bl', Rws lo w'.heap.size w' iv' (ll ++ [l]) bl') ∧ Mod (fun k => k = B ∨ iv.ownBlock = some k) w w' := by
  obtain ⟨i0, hti, hz0, hz1, hz2⟩ := info_parts rowInfo
  obtain ⟨va, vb, vc, rfl⟩ := slice_of_own R.own
  have hvb : ¬ (Value.slice va vb vc).ownBlock = some B := fun e => by have := (R.vin _ e).1; omega
  have hBs : B < w.heap.size := lt_of_block hB
  have hlen : vb = ll.length := by
    rcases R.own.2 with ⟨e, h0⟩ | ⟨g, cap, cur, e, _⟩
    · cases e; exact h0.symm
    · cases e; rfl
  subst hlen
  have c1 : w.cell? ⟨B, 1, none⟩ = some (.slice va ll.length vc) := by rw [cell_of_heap hB]; rfl
  have hcall := word0_ok ll.length h64 w
  have HB := Lib.hid hB
  have HR := Lib.hid R
  have Hvb := Lib.hid hvb
  have Hr := Lib.hid hr
  have Hr0 := Lib.hid hr0
  have Hcall := Lib.hid hcall
  have hbnd : ll.length + 1 ≤ maxLen := by unfold maxLen; omega
  have hone : (rwU l r).oneCell' = true := by unfold rwU; split <;> rfl
  obtain ⟨ua, ub, uc, hu⟩ : ∃ ua ub uc, Value.slice ua ub uc = rwU l r := by unfold rwU; split <;> exact ⟨_, _, _, rfl⟩
  rw [← hu] at hone ⊢
  have Hu := Lib.hid hu
  clear hB R hvb hr hr0 hcall hu
  go_enter Tryd.func38, Tryd.ntmps38
  go_wp2_with fail
  refine Hcall.out.mono ?_
  rintro e w1 ⟨rfl, hm1⟩
  have d1 := hm1.cell c1 (fun e => e)
  have df := (World.frozen?_of_block (hm1.block B hBs (fun e => e))).trans (free_of_heap HB.out 1)
  have hs1 := hm1.size
  have Hm1 := Lib.hid hm1
  clear hm1 Hcall c1
  go_wp2_with (at_builtin; refine wpList_append_mine _ rfl (.tmp 23) (.tmp 25) 30 rfl 23 i0 (.slice none 0 0) 1 24 Tryd.underlying30 hti hz0 hz1 hz2 rfl (by decide) _ ll.length (rwV ll bl) rfl (by exact World.ownsRow.alloc (owns_keep HR.out.own Hm1.out) _) ⟨w1.heap.size, 0, none⟩ 1 1 [.slice ua ub uc] rfl rfl (by exact new_cells_at _ _ _ (by simp)) (one_row _ hone) hbnd (by omega) ?_; intro v4 w7 hown hgr hfr _; obtain ⟨xa, xb, xc, rfl⟩ := slice_of_own hown; have Hown := Lib.hid hown; have hgr2 : (w1.alloc (.cells #[.slice ua ub uc] 23)).grownBy w7 (Value.slice va ll.length vc).ownBlock := hgr; have hfr2 : ∀ g, (Value.slice xa xb xc).ownBlock = some g → (Value.slice va ll.length vc).ownBlock = some g ∨ (w1.alloc (.cells #[.slice ua ub uc] 23)).heap.size ≤ g := hfr; have Hgr := Lib.hid hgr2; have Hfr := Lib.hid hfr2; have hm7 : Mod (fun x => (Value.slice va ll.length vc).ownBlock = some x) w1 w7 := appended hgr ((Mod.refl noF w1).alloc _); have z2 := hm7.cell d1 Hvb.out; have zf := (World.frozen?_of_block (hm7.block B (by omega) Hvb.out)).trans df; clear hown hgr hgr2 hfr2 hfr hm7)
  have hn := Hown.out
  rw [Hu.out] at hn
  obtain ⟨hB', ⟨bl', R'⟩, hM'⟩ := HB.out.next1 (w3 := w1.alloc (.cells #[.slice ua ub uc] 23)) (w4 := w7) (v4 := .slice xa xb xc) (l := l) (r := r) HR.out hhi hlo hBl (Hm1.out.alloc _) Hr0.out (fun h => (Hm1.out.alloc _).heap (Hr.out h) (fun e => e)) hn Hgr.out Hfr.out
  go_ret
  exact ⟨rfl, _, hB', ⟨_, R'⟩, hM'⟩
end Go.Proofs.YtppihkneeolomaaDoor
end
/- stack.Check: lists of ops that are right. -/
section
namespace Go.Proofs.YtppihkneeolomaaDoor
open Go.RowKit Qs Qh
def putS : ByteArray := ⟨#[112, 117, 116]⟩
def takeS : ByteArray := ⟨#[116, 97, 107, 101]⟩
def opK : Qu.Op → ByteArray
  | .put _ => putS
  | .take => takeS
def opN : Qu.Op → Int
  | .put n => n
  | .take => 0
/-- A thread's ops in memory, read only, in blocks below a bound. -/
def OpRow (N : Nat) (w : World) (u : Value) (l : List Qu.Op) : Prop :=
  ∃ a c, u = .slice a l.length c ∧ ∀ (i : Nat) x, l[i]? = some x → ∃ b off, a = some ⟨b, off, none⟩ ∧ b < N ∧ w.cell? ⟨b, off + i * 2, none⟩ = some (.string (opK x)) ∧ w.cell? ⟨b, off + i * 2 + 1, none⟩ = some (.int .i64 (opN x))
def OpsIn (N : Nat) (w : World) (v : Value) (ll : List (List Qu.Op)) : Prop :=
  ∃ a c, v = .slice a ll.length c ∧ ∀ (i : Nat) l, ll[i]? = some l → ∃ b off u, a = some ⟨b, off, none⟩ ∧ b < N ∧ w.cell? ⟨b, off + i, none⟩ = some u ∧ OpRow N w u l
variable {N : Nat} {w w' : World} {v u : Value} {ll : List (List Qu.Op)} {l : List Qu.Op}
theorem OpRow.keep (h : OpRow N w u l) {F : Nat → Prop} (hM : Mod F w w') (hF : ∀ b, b < N → ¬ F b) : OpRow N w' u l := by
  obtain ⟨a, c, e, hx⟩ := h
  refine ⟨a, c, e, fun i x hi => ?_⟩
  obtain ⟨b, off, e1, hb, h0, h1⟩ := hx i x hi
  exact ⟨b, off, e1, hb, hM.cell h0 (hF b hb), hM.cell h1 (hF b hb)⟩
theorem OpsIn.keep (h : OpsIn N w v ll) {F : Nat → Prop} (hM : Mod F w w') (hF : ∀ b, b < N → ¬ F b) : OpsIn N w' v ll := by
  obtain ⟨a, c, e, hx⟩ := h
  refine ⟨a, c, e, fun i x hi => ?_⟩
  obtain ⟨b, off, u, e1, hb, h0, h1⟩ := hx i x hi
  exact ⟨b, off, u, e1, hb, hM.cell h0 (hF b hb), h1.keep hM hF⟩
theorem take_take : (takeS.toList == takeS.toList) = true := by simp
theorem index_take (w : World) (g : Nat) (hg : w.cell? ⟨g, 0, none⟩ = some (.string takeS)) :
    Calls Tryd.prog 98 #[.slice (some ⟨g, 0, none⟩) 1 1, .string takeS] w fun e w' => e = .returned (.int .i64 0) ∧ w' = w := by
  have he := take_take
  go_enter Tryd.func98, Tryd.ntmps98
  go_wp2
  go_loop [5, 8] (fun j i => i = .int .i64 0) (fun _ _ => 0)
  case atStart => rfl
  case round =>
    subst hrel
    go_wp2
    go_ret
    exact ⟨rfl, rfl⟩
theorem contains_take (w : World) (g : Nat) (hg : w.cell? ⟨g, 0, none⟩ = some (.string takeS)) :
    Calls Tryd.prog 67 #[.slice (some ⟨g, 0, none⟩) 1 1, .string takeS] w fun e w' => e = .returned (.bool true) ∧ w' = w := by
  have Hcall := Lib.hid (index_take w g hg)
  clear hg
  go_enter Tryd.func67, Tryd.ntmps67
  go_wp2_with fail
  refine Hcall.out.mono ?_
  rintro e w' ⟨rfl, rfl⟩
  go_wp2
  go_ret
  exact ⟨rfl, rfl⟩
theorem longOp (w : World) (a : Option Addr) (n c : Nat) (hn : n ≤ 20) : Calls Tryd.prog 66 #[.slice a n c] w fun e w' => e = .returned (.bool false) ∧ w' = w := by
  have d : decide ((20 : Int) < (n : Int)) = false := by simp; omega
  go_enter Tryd.func66, Tryd.ntmps66
  go_wp2
  go_ret
  exact ⟨rfl, rfl⟩
theorem indexLong (H : OpsIn N w v ll) (h20 : ∀ l ∈ ll, l.length ≤ 20) (hl : ll.length ≤ 1000) :
    Calls Tryd.prog 97 #[v, .func (.func 66) #[] #[]] w fun e w' => e = .returned (.int .i64 (-1)) ∧ w' = w := by
  obtain ⟨a, c, rfl, hx⟩ := H
  have Hx := Lib.hid hx
  have H20 := Lib.hid h20
  clear hx h20
  go_enter Tryd.func97, Tryd.ntmps97
  go_wp2
  go_loop [8] (fun i => ∃ k : Nat, k ≤ ll.length ∧ i = .int .i64 k) (fun i => ll.length - (intOf i).toNat)
  case atStart => exact ⟨0, Nat.zero_le _, rfl⟩
  case round =>
    obtain ⟨k, hk, rfl⟩ := hrel
    by_cases hlt : k < ll.length
    · have hd : decide ((k : Int) < (ll.length : Int)) = true := by simp; omega
      have hki : (k : Int) < (ll.length : Int) := by omega
      obtain ⟨l, hl⟩ : ∃ l, ll[k]? = some l := ⟨_, List.getElem?_eq_getElem hlt⟩
      obtain ⟨b, off, u, rfl, hb, hc, ⟨ua, uc, rfl, -⟩⟩ := Hx.out k l hl
      have hcall := longOp w ua l.length uc (H20.out l (List.mem_of_getElem? hl))
      have Hcall := Lib.hid hcall
      clear hcall hl
      go_wp2_with fail
      refine Hcall.out.mono ?_
      rintro e w' ⟨rfl, rfl⟩
      go_wp2
      go_round
      case rel => exact ⟨k + 1, by omega, by go_num⟩
      case measure => simp [intOf]; omega
    · have hd : decide ((k : Int) < (ll.length : Int)) = false := by simp; omega
      go_wp2
      go_ret
      exact ⟨rfl, rfl⟩
theorem containsLong (H : OpsIn N w v ll) (h20 : ∀ l ∈ ll, l.length ≤ 20) (hl : ll.length ≤ 1000) :
    Calls Tryd.prog 65 #[v, .func (.func 66) #[] #[]] w fun e w' => e = .returned (.bool false) ∧ w' = w := by
  have Hcall := Lib.hid (indexLong H h20 hl)
  clear H h20
  go_enter Tryd.func65, Tryd.ntmps65
  go_wp2_with fail
  refine Hcall.out.mono ?_
  rintro e w' ⟨rfl, rfl⟩
  go_wp2
  go_ret
  exact ⟨rfl, rfl⟩
end Go.Proofs.YtppihkneeolomaaDoor
end
/- stack.Check: no fault of lists that are right. -/
section
namespace Go.Proofs.YtppihkneeolomaaDoor
open Go.RowKit Qs Qh
variable {N : Nat} {w w' : World} {v u : Value} {ll : List (List Qu.Op)} {l : List Qu.Op}
theorem put_put : (putS.toList == putS.toList) = true := by simp
theorem take_put : (takeS.toList == putS.toList) = false := by
  rw [ByteArray.toList_eq, ByteArray.toList_eq]; rfl
set_option maxHeartbeats 4000000 in
theorem check_ok (H : OpsIn N w v ll) (g : Nat) (hg : w.cell? ⟨g, 0, none⟩ = some (.string takeS)) (hgs : g < w.heap.size) (hN : N ≤ w.heap.size) (h1 : 1 ≤ ll.length) (h6 : ll.length ≤ 6) (h20 : ∀ l ∈ ll, l.length ≤ 20) (hn : ∀ l ∈ ll, ∀ n, Qu.Op.put n ∈ l → 1 ≤ n ∧ n ≤ 1000) :
    Calls Tryd.prog 36 #[v, .string putS, .slice (some ⟨g, 0, none⟩) 1 1] w fun e w' => e = .returned .nilIface ∧ Mod noF w w' := by
  have hcall := containsLong H h20 (by omega)
  have HH := Lib.hid H
  obtain ⟨a, c, rfl, hx⟩ := H
  have d1 : decide ((ll.length : Int) < 1) = false := by simp; omega
  have d2 : decide ((6 : Int) < (ll.length : Int)) = false := by simp; omega
  have Hx := Lib.hid hx
  have H20 := Lib.hid h20
  have Hn := Lib.hid hn
  have Hg := Lib.hid hg
  have Hcall := Lib.hid hcall
  have e1 := put_put
  have e2 := take_put
  clear hx h20 hn hcall hg
  go_enter Tryd.func36, Tryd.ntmps36
  go_wp2_with fail
  refine Hcall.out.mono ?_
  rintro e w' ⟨rfl, rfl⟩
  go_wp2
  go_loopw [26] (fun i wr => ∃ k : Nat, k ≤ ll.length ∧ i = .int .i64 k ∧ Mod noF w' wr) (fun i _ => ll.length - (intOf i).toNat)
  case atStart => exact ⟨0, Nat.zero_le _, rfl, Mod.refl _ _⟩
  case round =>
    rename_i wr
    obtain ⟨k, hk, rfl, hm⟩ := hrel
    by_cases hlt : k < ll.length
    · have hd : decide ((k : Int) < (ll.length : Int)) = true := by simp; omega
      have hki : (k : Int) < (ll.length : Int) := by omega
      obtain ⟨l, hl⟩ : ∃ l, ll[k]? = some l := ⟨_, List.getElem?_eq_getElem hlt⟩
      obtain ⟨b, off, u, rfl, hb, hc, hrow⟩ := Hx.out k l hl
      have hc2 := hm.cell hc (fun e => e)
      obtain ⟨ua, uc, rfl, hxx⟩ := hrow.keep hm (fun _ _ e => e)
      have Hxx := Lib.hid hxx
      have Hm := Lib.hid hm
      have hmem := List.mem_of_getElem? hl
      have Hmem := Lib.hid hmem
      have h20l := H20.out l hmem
      clear hxx hrow hc hl hm hmem
      go_wp2
      go_loopw [33] (fun i wq => ∃ q : Nat, q ≤ l.length ∧ i = .int .i64 q ∧ Mod noF wr wq) (fun i _ => l.length - (intOf i).toNat)
      case atStart => exact ⟨0, Nat.zero_le _, rfl, Mod.refl _ _⟩
      case round =>
        rename_i wq
        obtain ⟨q, hq, rfl, hm2⟩ := hrel
        by_cases hlq : q < l.length
        · have hd2 : decide ((q : Int) < (l.length : Int)) = true := by simp; omega
          have hqi : (q : Int) < (l.length : Int) := by omega
          obtain ⟨x, hxl⟩ : ∃ x, l[q]? = some x := ⟨_, List.getElem?_eq_getElem hlq⟩
          obtain ⟨ub, uoff, rfl, hub, h0, h1⟩ := Hxx.out q x hxl
          have h0 := hm2.cell h0 (fun e => e)
          have h1 := hm2.cell h1 (fun e => e)
          have Hm2 := Lib.hid hm2
          have hxm := List.mem_of_getElem? hxl
          clear hxl hm2
          cases x with
          | put n =>
            obtain ⟨hn1, hn2⟩ := Hn.out l Hmem.out n hxm
            have d3 : decide (n < 1) = false := by simp; omega
            have d4 : decide (1000 < n) = false := by simp; omega
            simp only [opK, opN] at h0 h1
            clear hxm hn1 hn2
            go_wp2
            go_roundw
            case rel => exact ⟨q + 1, by omega, by go_num, Hm2.out.alloc _⟩
            case measure => simp [intOf]; omega
          | take =>
            simp only [opK, opN] at h0 h1
            clear hxm
            have hgc := ((Hm.out.trans0 Hm2.out).alloc (.cells #[.string takeS, .int .i64 0] 63)).cell Hg.out (fun e => e)
            have hcall := contains_take _ g hgc
            have Hcall := Lib.hid hcall
            clear hcall hgc
            go_wp2_with fail
            refine Hcall.out.mono ?_
            rintro e w9 ⟨rfl, rfl⟩
            go_wp2
            go_roundw
            case rel => exact ⟨q + 1, by omega, by go_num, Hm2.out.alloc _⟩
            case measure => simp [intOf]; omega
        · have hd2 : decide ((q : Int) < (l.length : Int)) = false := by simp; omega
          have Hm2 := Lib.hid hm2
          clear hm2
          go_wp2
          go_roundw
          case rel => exact ⟨k + 1, by omega, by go_num, Hm.out.trans0 Hm2.out⟩
          case measure => simp [intOf]; omega
    · have hd : decide ((k : Int) < (ll.length : Int)) = false := by simp; omega
      have Hm := Lib.hid hm
      clear hm
      go_wp2
      go_ret
      exact ⟨rfl, Hm.out⟩
end Go.Proofs.YtppihkneeolomaaDoor
end
/- package queue: an op's code. -/
section
namespace Go.Proofs.YtppihkneeolomaaDoor
open Go.RowKit Qs Qh
variable {w w1 w2 : World} {b k : Nat} {v v1 v2 : Value} {l : List Instr}
theorem MkStep.old (h : MkStep w b v w1 v1) {p : Addr} (hne : p.block ≠ b) (hv : v.ownBlock ≠ some p.block) {u : Value} (hp : w.cell? p = some u) : w1.cell? p = some u :=
  h.mod.cell hp (fun e => e.elim hne hv)
theorem Chain.mine {w0 : World} {v0 : Value} {o : Nat} (C : Chain w0 b o v0 l w) {p : Addr} (hne : p.block ≠ b) (hv : v0.ownBlock ≠ some p.block) {u : Value} (hp : w0.cell? p = some u) : w.cell? p = some u := by
  obtain ⟨hb, v, E, G⟩ := C
  exact G.mod.cell hp (fun e => e.elim hne hv)
theorem Chain.mineRow {w0 : World} {v0 : Value} {o : Nat} (C : Chain w0 b o v0 l w) {g : Nat} (hne : g ≠ b) (hv : v0.ownBlock ≠ some g) {ys : List Value} (h : ∀ j u, ys[j]? = some u → w0.cell? ((⟨g, 0, none⟩ : Addr).add j) = some u) :
    ∀ j u, ys[j]? = some u → w.cell? ((⟨g, 0, none⟩ : Addr).add j) = some u := fun j u hj => by
  have h1 : ((⟨g, 0, none⟩ : Addr).add j).block = g := by unfold Addr.add; split <;> rfl
  exact C.mine (by rw [h1]; exact hne) (by rw [h1]; exact hv) (h j u hj)
theorem labO_one : ∀ k, k < 100 → nameB (Qu.labO k) = true ∧ (Qu.labO k).length ≤ 3 := by decide +kernel
set_option maxHeartbeats 16000000 in
theorem qop_put (n : Int) (M : Mkr w b v l k) (hk : k + 2 < 99) (hl : l.length ≤ 100000) :
    Calls Tryd.prog 39 #[.pointer (some ⟨b, 0, none⟩), .agg #[.string ⟨#[112, 117, 116]⟩, .int .i64 n]] w fun e w' => e = .returned (.tuple #[]) ∧ ∃ v', Mkr w' b v' (l ++ Qu.putBlk (Qu.labO (k + 1)) n) (k + 2) ∧ MkStep w b v w' v' := by
  have M1 := M.quiet ((Mod.refl noF w).alloc (.cells #[.string ⟨#[112, 117, 116]⟩, .int .i64 n] 63))
  have S1 := (MkStep.refl w b v).quiet ((Mod.refl noF w).alloc (.cells #[.string ⟨#[112, 117, 116]⟩, .int .i64 n] 63))
  have hbx : w.heap.size ≠ b := by have := M.emit.lt; omega
  have hvx : v.ownBlock ≠ some w.heap.size := fun e => by have := M.emit.row.lt e; omega
  have hs2 := labO_one (k + 1 + 1) (by omega)
  have he : ((⟨#[112, 117, 116]⟩ : ByteArray).toList == (⟨#[112, 117, 116]⟩ : ByteArray).toList) = true := by simp
  have c0 : (w.alloc (.cells #[.string ⟨#[112, 117, 116]⟩, .int .i64 n] 63)).cell? ⟨w.heap.size, 0, none⟩ = some (.string ⟨#[112, 117, 116]⟩) := by simp
  have c1 : (w.alloc (.cells #[.string ⟨#[112, 117, 116]⟩, .int .i64 n] 63)).cell? ⟨w.heap.size, 1, none⟩ = some (.int .i64 n) := by simp
  have HM := Lib.hid M
  have HM1 := Lib.hid M1
  have HS1 := Lib.hid S1
  have Hbx := Lib.hid hbx
  have Hvx := Lib.hid hvx
  have H2 := Lib.hid hs2
  have Hc0 := Lib.hid c0
  have Hc1 := Lib.hid c1
  clear M M1 S1 hbx hvx hs2 c0 c1
  go_enter Tryd.func39, Tryd.ntmps39
  go_wp2_with fail
  refine (fresh_mkr HM1.out (by omega)).mono ?_
  rintro e w2 ⟨rfl, M2, S2⟩
  have d0 := S2.old (p := ⟨w.heap.size, 0, none⟩) Hbx.out Hvx.out Hc0.out
  have HM2 := Lib.hid M2
  have HS2 := Lib.hid (HS1.out.trans HM.out.emit.lt S2)
  have Hd1 := Lib.hid (S2.old (p := ⟨w.heap.size, 1, none⟩) Hbx.out Hvx.out Hc1.out)
  clear M2 S2 HS1 HM1 Hc1 Hc0
  go_wp2_with fail
  refine (fresh_mkr HM2.out (by omega)).mono ?_
  rintro e w3 ⟨rfl, M3, S3⟩
  have HM3 := Lib.hid M3
  have HS3 := Lib.hid (HS2.out.trans HM.out.emit.lt S3)
  have Hf1 := Lib.hid (S3.old (p := ⟨w.heap.size, 1, none⟩) Hbx.out Hvx.out Hd1.out)
  clear M3 S3 HS2 HM2 Hd1 d0
  go_wp2_with fail
  refine (qput_ok _ _ (by simpa using H2.out.1) (by have := H2.out.2; simp [ByteArray.size]; omega)).mono ?_
  rintro e w4 ⟨va, rfl, hma⟩
  have hqa := Mod.below hma.2.1
  have M4 := HM3.out.quiet hqa
  have S4 := HS3.out.quiet hqa
  obtain ⟨ga, ca, rfl, hsA⟩ := InsRow.src hma.1 (by simp [qputCode])
  have hga := hma.2.2 ga rfl
  have g1 := hqa.cell Hf1.out (fun e => e)
  have hgb : ga ≠ b := by have := HM3.out.emit.lt; omega
  have hgv : v.ownBlock ≠ some ga := fun e => by have := HM3.out.emit.row.lt e; omega
  have HM4 := Lib.hid M4
  have HS4 := Lib.hid S4
  have HsA := Lib.hid hsA
  have Hgb := Lib.hid hgb
  have Hgv := Lib.hid hgv
  have Hg1 := Lib.hid g1
  clear hma hqa M4 S4 hsA hga hgb hgv g1 Hf1
  have HC := Lib.hid (Chain.start HM4.out.emit)
  go_wp2
  refine wp_region_held_drew (S := fun W => W.cell? ⟨w.heap.size, 1, none⟩ = some (.int .i64 n)) (by kernel_rfl) ((Mod.refl noF _).drew.cell Hg1.out (fun e => e)) (fun hHeld => ?_)
  refine wpAnyH_take (i := 0) (oi := ?oRx0) (v := ?vRx0) ?qRx0 (by kernel_rfl) ?fRx0 ?gRx0 ?pRx0 ?uRx0 (by assumption) ?rRx0
  case qRx0 => (rw [List.getElem?_toArray]; rfl)
  case fRx0 => kernel_rfl
  case gRx0 => kernel_rfl
  case pRx0 => exact (fun _ _ _ h => h)
  case uRx0 => (refine Or.inl ⟨by rfl, ?_⟩; intro w hSw; (try dsimp only at hSw); go_simp; (try rw [if_neg (by omega)]); try with_reducible rfl)
  try simp only [Act.put, List.setIfInBounds_toArray, List.set_cons_zero, List.set_cons_succ]
  refine wpAnyH_take (i := 1) (oi := ?oRx1) (v := ?vRx1) ?qRx1 (by kernel_rfl) ?fRx1 ?gRx1 ?pRx1 ?uRx1 (by assumption) ?rRx1
  case qRx1 => (rw [List.getElem?_toArray]; rfl)
  case fRx1 => kernel_rfl
  case gRx1 => kernel_rfl
  case pRx1 => exact (fun _ _ _ h => h)
  case uRx1 => (refine Or.inl ⟨by rfl, ?_⟩; intro w hSw; (try dsimp only at hSw); go_simp; (try rw [if_neg (by omega)]); try with_reducible rfl)
  try simp only [Act.put, List.setIfInBounds_toArray, List.set_cons_zero, List.set_cons_succ]
  refine wpAnyH_take (i := 2) (oi := ?oRx2) (v := ?vRx2) ?qRx2 (by kernel_rfl) ?fRx2 ?gRx2 ?pRx2 ?uRx2 (by assumption) ?rRx2
  case qRx2 => (rw [List.getElem?_toArray]; rfl)
  case fRx2 => kernel_rfl
  case gRx2 => kernel_rfl
  case pRx2 => exact (fun _ _ _ h => h)
  case uRx2 => (refine Or.inl ⟨by rfl, ?_⟩; intro w hSw; (try dsimp only at hSw); go_simp; (try rw [if_neg (by omega)]); try with_reducible rfl)
  try simp only [Act.put, List.setIfInBounds_toArray, List.set_cons_zero, List.set_cons_succ]
  refine wpAnyH_take (i := 5) (oi := ?oRx5) (v := ?vRx5) ?qRx5 (by kernel_rfl) ?fRx5 ?gRx5 ?pRx5 ?uRx5 (by assumption) ?rRx5
  case qRx5 => (rw [List.getElem?_toArray]; rfl)
  case fRx5 => kernel_rfl
  case gRx5 => kernel_rfl
  case pRx5 => exact (fun _ _ _ h => h)
  case uRx5 => (refine Or.inl ⟨by rfl, ?_⟩; intro w hSw; (try dsimp only at hSw); go_simp; (try rw [if_neg (by omega)]); try with_reducible rfl)
  try simp only [Act.put, List.setIfInBounds_toArray, List.set_cons_zero, List.set_cons_succ]
  refine wpAnyH_take (i := 8) (oi := ?oRx8) (v := ?vRx8) ?qRx8 (by kernel_rfl) ?fRx8 ?gRx8 ?pRx8 ?uRx8 (by assumption) ?rRx8
  case qRx8 => (rw [List.getElem?_toArray]; rfl)
  case fRx8 => kernel_rfl
  case gRx8 => kernel_rfl
  case pRx8 => exact (fun _ _ _ h => h)
  case uRx8 => (refine Or.inl ⟨by rfl, ?_⟩; intro w hSw; (try dsimp only at hSw); go_simp; (try rw [if_neg (by omega)]); try with_reducible rfl)
  try simp only [Act.put, List.setIfInBounds_toArray, List.set_cons_zero, List.set_cons_succ]
  refine wpAnyH_take (i := 9) (oi := ?oRx9) (v := ?vRx9) ?qRx9 (by kernel_rfl) ?fRx9 ?gRx9 ?pRx9 ?uRx9 (by assumption) ?rRx9
  case qRx9 => (rw [List.getElem?_toArray]; rfl)
  case fRx9 => kernel_rfl
  case gRx9 => kernel_rfl
  case pRx9 => exact (fun _ _ _ h => h)
  case uRx9 => (refine Or.inl ⟨by rfl, ?_⟩; intro w hSw; (try dsimp only at hSw); go_simp; (try rw [if_neg (by omega)]); try with_reducible rfl)
  try simp only [Act.put, List.setIfInBounds_toArray, List.set_cons_zero, List.set_cons_succ]
  refine wpAnyH_take (i := 14) (oi := ?oRx14) (v := ?vRx14) ?qRx14 (by kernel_rfl) ?fRx14 ?gRx14 ?pRx14 ?uRx14 (by assumption) ?rRx14
  case qRx14 => (rw [List.getElem?_toArray]; rfl)
  case fRx14 => kernel_rfl
  case gRx14 => kernel_rfl
  case pRx14 => exact (fun _ _ _ h => h)
  case uRx14 => (refine Or.inl ⟨by rfl, ?_⟩; intro w hSw; (try dsimp only at hSw); go_simp; (try rw [if_neg (by omega)]); try with_reducible rfl)
  try simp only [Act.put, List.setIfInBounds_toArray, List.set_cons_zero, List.set_cons_succ]
  refine wpAnyH_take (i := 16) (oi := ?oRx16) (v := ?vRx16) ?qRx16 (by kernel_rfl) ?fRx16 ?gRx16 ?pRx16 ?uRx16 (by assumption) ?rRx16
  case qRx16 => (rw [List.getElem?_toArray]; rfl)
  case fRx16 => kernel_rfl
  case gRx16 => kernel_rfl
  case pRx16 => exact (fun _ _ _ h => h)
  case uRx16 => (refine Or.inl ⟨by rfl, ?_⟩; intro w hSw; (try dsimp only at hSw); go_simp; (try rw [if_neg (by omega)]); try with_reducible rfl)
  try simp only [Act.put, List.setIfInBounds_toArray, List.set_cons_zero, List.set_cons_succ]
  refine Mk.em_spine (fun _ => n) (items := [⟨some (3, 23), 4, 24⟩, ⟨some (6, 26), 7, 27⟩, ⟨some (10, 30), 11, 31⟩, ⟨some (12, 32), 13, 33⟩, ⟨none, 15, 35⟩, ⟨none, 17, 37⟩]) (E := [⟨10, [.c 3], [], 0, 0, []⟩, ⟨14, [.c 3], Qu.labO (k + 1), 1, 25, []⟩, ⟨0, [.c 0, .t 29], [], 0, 0, []⟩, ⟨7, [.c 3, .c 0, .c 0], [], 0, 0, []⟩, ⟨0, [], [], 4, 34, qputCode (Qu.labO (k + 1 + 1))⟩, ⟨17, [], Qu.labO (k + 1), 2, 36, []⟩]) (r0 := 22) (by kernel_rfl) (by kernel_rfl) (by kernel_rfl) (by rfl) ?lbR ?tvR ?moR (by rfl) (by rfl) ?lenR (fun w' l' C => C.mine (p := ⟨w.heap.size, 1, none⟩) Hbx.out Hvx.out Hg1.out) (HC.out.quiet (Mod.refl _ _).drew) (by kernel_rfl) ?_
  case lbR => (intro e he hk; simp only [List.mem_cons, List.not_mem_nil, or_false] at he; rcases he with rfl | rfl | rfl | rfl | rfl | rfl <;> (first | (simp at hk; done) | exact rfl))
  case tvR => (intro e he k hk; simp only [List.mem_cons, List.not_mem_nil, or_false] at he; rcases he with rfl | rfl | rfl | rfl | rfl | rfl <;> (first | (simp at hk; done) | (simp at hk; subst hk; rfl)))
  case moR => (intro e he hk; simp only [List.mem_cons, List.not_mem_nil, or_false] at he; rcases he with rfl | rfl | rfl | rfl | rfl | rfl <;> (first | (simp at hk; done) | exact ⟨ga, ca, rfl, by simp [qputCode], fun l' w' C => C.mineRow Hgb.out Hgv.out HsA.out⟩))
  case lenR => (simp [Mk.EmC.code, Mk.EmC.ins, qputCode, qtakeCode]; omega)
  intro U xR C hU
  have u24 : U 24 = _ := hU 0 _ rfl
  have u27 : U 27 = _ := hU 1 _ rfl
  have u31 : U 31 = _ := hU 2 _ rfl
  have u33 : U 33 = _ := hU 3 _ rfl
  have u35 : U 35 = _ := hU 4 _ rfl
  have u37 : U 37 = _ := hU 5 _ rfl
  simp only [spTmps, SpI.tmps, List.flatMap_cons, List.flatMap_nil, Option.map_some, Option.map_none, Option.toList_some, Option.toList_none, List.cons_append, List.nil_append, List.append_nil, patch, List.foldl_cons, List.foldl_nil, Act.put, List.setIfInBounds_toArray, List.set_cons_zero, List.set_cons_succ, u24, u27, u31, u33, u35, u37]
  generalize U 23 = s23 at *
  generalize U 26 = s26 at *
  generalize U 30 = s30 at *
  generalize U 32 = s32 at *
  clear u24 u27 u31 u33 u35 u37 hU hHeld
  have hfin : ∃ v' : Value, Mkr xR b v' (l ++ Qu.putBlk (Qu.labO (k + 1)) n) (k + 1 + 1) ∧ MkStep w b v xR v' := by
    obtain ⟨v', M', S'⟩ := HM4.out.chain C
    exact ⟨v', M', HS4.out.trans HM.out.emit.lt S'⟩
  have Hfin := Lib.hid hfin
  clear hfin C
  go_wp2
  (try simp only [Exit.inBlock, Exit.then])
  refine bodyPost_ret (results_none rfl _ _ _) rfl ?_
  exact ⟨rfl, Hfin.out⟩
set_option maxHeartbeats 16000000 in
theorem qop_take (n : Int) (M : Mkr w b v l k) (hk : k + 2 < 99) (hl : l.length ≤ 100000) :
    Calls Tryd.prog 39 #[.pointer (some ⟨b, 0, none⟩), .agg #[.string ⟨#[116, 97, 107, 101]⟩, .int .i64 n]] w fun e w' => e = .returned (.tuple #[]) ∧ ∃ v', Mkr w' b v' (l ++ Qu.takeBlk (Qu.labO (k + 1)) (Qu.labO (k + 2))) (k + 2) ∧ MkStep w b v w' v' := by
  have M1 := M.quiet ((Mod.refl noF w).alloc (.cells #[.string ⟨#[116, 97, 107, 101]⟩, .int .i64 n] 63))
  have S1 := (MkStep.refl w b v).quiet ((Mod.refl noF w).alloc (.cells #[.string ⟨#[116, 97, 107, 101]⟩, .int .i64 n] 63))
  have hbx : w.heap.size ≠ b := by have := M.emit.lt; omega
  have hvx : v.ownBlock ≠ some w.heap.size := fun e => by have := M.emit.row.lt e; omega
  have hs2 := labO_one (k + 1 + 1) (by omega)
  have he : ((⟨#[116, 97, 107, 101]⟩ : ByteArray).toList == (⟨#[112, 117, 116]⟩ : ByteArray).toList) = false := by
    rw [ByteArray.toList_eq, ByteArray.toList_eq]; rfl
  have c0 : (w.alloc (.cells #[.string ⟨#[116, 97, 107, 101]⟩, .int .i64 n] 63)).cell? ⟨w.heap.size, 0, none⟩ = some (.string ⟨#[116, 97, 107, 101]⟩) := by simp
  have HM := Lib.hid M
  have HM1 := Lib.hid M1
  have HS1 := Lib.hid S1
  have Hbx := Lib.hid hbx
  have Hvx := Lib.hid hvx
  have H2 := Lib.hid hs2
  have Hc0 := Lib.hid c0
  clear M M1 S1 hbx hvx hs2 c0
  go_enter Tryd.func39, Tryd.ntmps39
  go_wp2_with fail
  refine (fresh_mkr HM1.out (by omega)).mono ?_
  rintro e w2 ⟨rfl, M2, S2⟩
  have d0 := S2.old (p := ⟨w.heap.size, 0, none⟩) Hbx.out Hvx.out Hc0.out
  have HM2 := Lib.hid M2
  have HS2 := Lib.hid (HS1.out.trans HM.out.emit.lt S2)
  clear M2 S2 HS1 HM1 Hc0
  go_wp2_with fail
  refine (fresh_mkr HM2.out (by omega)).mono ?_
  rintro e w3 ⟨rfl, M3, S3⟩
  have HM3 := Lib.hid M3
  have HS3 := Lib.hid (HS2.out.trans HM.out.emit.lt S3)
  clear M3 S3 HS2 HM2 d0
  go_wp2_with fail
  refine (qtake_ok _ _ (by simpa using H2.out.1) (by have := H2.out.2; simp [ByteArray.size]; omega)).mono ?_
  rintro e w4 ⟨va, rfl, hma⟩
  have hqa := Mod.below hma.2.1
  have M4 := HM3.out.quiet hqa
  have S4 := HS3.out.quiet hqa
  obtain ⟨ga, ca, rfl, hsA⟩ := InsRow.src hma.1 (by simp [qtakeCode])
  have hga := hma.2.2 ga rfl
  have HM4 := Lib.hid M4
  have HS4 := Lib.hid S4
  have HsA := Lib.hid hsA
  clear hma hqa M4 S4 hsA hga
  have HC := Lib.hid (Chain.start HM4.out.emit)
  go_wp2_with fail
  refine (more_chain HC.out (by omega) (qtakeCode (Qu.labO (k + 1 + 1))) ga ca HsA.out (by simp [qtakeCode])).mono ?_
  rintro e x1 ⟨rfl, C⟩
  have HC1 := Lib.hid C
  clear C
  go_wp2_with fail
  refine (to1_chain (HC1.out.quiet ((Mod.refl _ _).alloc _)) (by simp [qtakeCode]; omega) 14 _ rfl (Qu.labO (k + 1)) _ rfl x1.heap.size 3 1 (by simp) (by simp)).mono ?_
  rintro e x2 ⟨rfl, C⟩
  have HC2 := Lib.hid C
  clear C
  go_wp2_with fail
  refine (op1_chain (HC2.out.quiet ((Mod.refl _ _).alloc _)) (by simp [qtakeCode]; omega) 18 _ rfl x2.heap.size 4 1 (by simp) (by simp)).mono ?_
  rintro e x3 ⟨rfl, C⟩
  have HC3 := Lib.hid C
  clear C
  go_wp2_with fail
  refine (op1_chain (HC3.out.quiet ((Mod.refl _ _).alloc _)) (by simp [qtakeCode]; omega) 11 _ rfl x3.heap.size 3 1 (by simp) (by simp)).mono ?_
  rintro e x4 ⟨rfl, C⟩
  have HC4 := Lib.hid C
  clear C
  go_wp2_with fail
  refine (label_chain HC4.out (by simp [qtakeCode]; omega) (Qu.labO (k + 1)) _ rfl).mono ?_
  rintro e x5 ⟨rfl, C⟩
  have hfin : ∃ v' : Value, Mkr x5 b v' (l ++ Qu.takeBlk (Qu.labO (k + 1)) (Qu.labO (k + 2))) (k + 1 + 1) ∧ MkStep w b v x5 v' := by
    obtain ⟨v', M', S'⟩ := HM4.out.chain C
    simp only [List.append_assoc] at M'
    exact ⟨v', M', HS4.out.trans HM.out.emit.lt S'⟩
  have Hfin := Lib.hid hfin
  clear hfin C
  go_wp2
  go_end0
  exact ⟨rfl, Hfin.out⟩
end Go.Proofs.YtppihkneeolomaaDoor
end
/- package queue: rows set, codes made. -/
section
namespace Go.Proofs.YtppihkneeolomaaDoor
open Go.RowKit Qs Qh
variable {lo hi k j : Nat} {w w1 w' : World} {v : Value} {ll : List (List Int)} {l : List Int} {bl : Nat → Nat} {x : Int}
theorem rwU_len {l l' : List Int} (h : l'.length = l.length) (b : Nat) : rwU l' b = rwU l b := by unfold rwU; rw [h]
theorem rwV_set (hl : ll[k]? = some l) {l' : List Int} (h : l'.length = l.length) : rwV (ll.set k l') bl = rwV ll bl := by
  unfold rwV
  refine List.ext_getElem? fun i => ?_
  rw [List.getElem?_mapIdx, List.getElem?_mapIdx, List.getElem?_set]
  by_cases e : k = i
  · subst e
    have hlt := (List.getElem?_eq_some_iff.1 hl).1
    rw [if_pos rfl, if_pos hlt, hl]
    simp [rwU_len h]
  · rw [if_neg e]
theorem Rws.set (R : Rws lo hi w v ll bl) (hl : ll[k]? = some l) (hj : j < l.length) : Rws lo hi (w.setCell ⟨bl k, j, none⟩ (.int .i64 x)) v (ll.set k (l.set j x)) bl ∧ Mod (fun b => b = bl k) w (w.setCell ⟨bl k, j, none⟩ (.int .i64 x)) := by
  have hM : Mod (fun b => b = bl k) w (w.setCell ⟨bl k, j, none⟩ (.int .i64 x)) := (Mod.refl (fun b => b = bl k) w).setCell (fun _ => rfl) _
  have hl0 : l.length ≠ 0 := by omega
  have hget : ∀ {i : Nat} {y : List Int}, (ll.set k (l.set j x))[i]? = some y → (i = k ∧ y = l.set j x) ∨ (i ≠ k ∧ ll[i]? = some y) := fun {i y} h => by
    rw [List.getElem?_set] at h
    by_cases e : k = i
    · rw [if_pos e] at h
      split at h
      · exact .inl ⟨e.symm, (Option.some.inj h).symm⟩
      · cases h
    · rw [if_neg e] at h; exact .inr ⟨fun h => e h.symm, h⟩
  have hsame : ∀ {i : Nat} {y : List Int}, (ll.set k (l.set j x))[i]? = some y → y.length ≠ 0 → ∃ z, ll[i]? = some z ∧ z.length ≠ 0 := fun {i y} h h0 => by
    rcases hget h with ⟨rfl, rfl⟩ | ⟨_, h⟩
    · exact ⟨l, hl, hl0⟩
    · exact ⟨y, h, h0⟩
  refine ⟨⟨?_, fun i y h h0 => ?_, R.vin, fun i y h h0 => ?_, fun g i y hg h h0 => ?_, fun i i' y y' h1 h2 h3 h4 => ?_⟩, hM⟩
  · rw [rwV_set hl (by simp), List.length_set]
    exact ownsRow_setCell_other R.own (fun e => R.vne _ k l e hl hl0 rfl) _
  · rcases hget h with ⟨rfl, rfl⟩ | ⟨hne, h⟩
    · rw [Qh.heap_setCell_same (R.row i l hl hl0)]
      congr 2
      simp [List.map_set]
    · exact hM.heap (R.row i y h h0) fun e => hne (R.inj i k y l h hl h0 hl0 e)
  · obtain ⟨z, hz, hz0⟩ := hsame h h0; exact R.bin i z hz hz0
  · obtain ⟨z, hz, hz0⟩ := hsame h h0; exact R.vne g i z hg hz hz0
  · obtain ⟨z, hz, hz0⟩ := hsame h1 h3
    obtain ⟨z', hz', hz0'⟩ := hsame h2 h4
    exact R.inj i i' z z' hz hz' hz0 hz0'
theorem intsAt_row {w : World} {b : Nat} {l : List Int} {T : TypeId} (h : w.heap[b]? = some (.cells (l.map (Value.int .i64)).toArray T (0, 0))) (hl : l.length ≤ maxLen) : IntsAt w (.slice (some ⟨b, 0, none⟩) l.length l.length) l :=
  ⟨_, _, rfl, hl, fun i x hi => ⟨b, 0, rfl, lt_of_block h, by rw [cell_of_heap h]; simp [hi]⟩⟩
theorem intsAt_none (w : World) : IntsAt w (.slice none 0 0) [] := ⟨none, 0, rfl, Nat.zero_le _, fun i x hi => by simp at hi⟩
theorem Rws.cell (R : Rws lo hi w v ll bl) : ∃ a c, v = .slice a ll.length c ∧ ∀ (i : Nat) l, ll[i]? = some l → ∃ b, a = some ⟨b, 0, none⟩ ∧ b < w.heap.size ∧ w.cell? ⟨b, i, none⟩ = some (rwU l (bl i)) := by
  rcases R.own.2 with ⟨rfl, h0⟩ | ⟨g, cap, cur, rfl, _, hg, h1, h2, h3, h4⟩
  · exact ⟨none, 0, by rw [h0], fun i l h => by have := (List.getElem?_eq_some_iff.1 h).1; omega⟩
  · refine ⟨_, cap, rfl, fun i l h => ⟨g, rfl, lt_of_block hg, ?_⟩⟩
    have hlt := (List.getElem?_eq_some_iff.1 h).1
    rw [cell_of_heap hg]
    have e : cur[i]? = (cur.toList.take (ll.length * 1))[i]? := by
      rw [List.getElem?_take, if_pos (by omega)]; simp
    rw [e, h4]
    unfold rwV
    rw [List.getElem?_mapIdx, h]; rfl
theorem Rws.rows (R : Rws lo hi w v ll bl) (hlen : ∀ l ∈ ll, l.length ≤ 100) : Qh.RowsAt w v ll := by
  obtain ⟨a, c, e, hx⟩ := R.cell
  refine ⟨a, c, e, fun i l h => ?_⟩
  obtain ⟨b, rfl, hb, hc⟩ := hx i l h
  refine ⟨b, 0, rwU l (bl i), rfl, hb, by rw [Nat.zero_add]; exact hc, ?_, fun g hg => ?_⟩
  · unfold rwU
    split
    · rename_i h0
      obtain rfl := List.eq_nil_of_length_eq_zero h0
      exact intsAt_none w
    · rename_i h0
      exact intsAt_row (R.row i l h h0) (by have := hlen l (List.mem_of_getElem? h); unfold maxLen; omega)
  · unfold rwU at hg
    split at hg
    · cases hg
    · rename_i h0
      cases hg
      exact lt_of_block (R.row i l h h0)
/-- The codes made so far. -/
structure Cds (S : Nat) (w : World) (cv : Value) (cs : Nat → List Instr) (k : Nat) (vk : Nat → Value) : Prop where
  own : w.ownsRow 0 69 1 cv k ((List.range k).map vk)
  vin : ∀ g, cv.ownBlock = some g → S ≤ g
  at_ : ∀ i, i < k → CodeAt w (vk i) (cs i)
  bin : ∀ i g, i < k → (vk i).ownBlock = some g → S ≤ g ∧ g < w.heap.size
  ne : ∀ i g, i < k → (vk i).ownBlock = some g → cv.ownBlock ≠ some g
variable {S : Nat} {cv cv' u : Value} {cs : Nat → List Instr} {vk : Nat → Value}
theorem Cds.nil (S : Nat) (w : World) (cs : Nat → List Instr) (vk : Nat → Value) : Cds S w (.slice none 0 0) cs 0 vk :=
  ⟨World.ownsRow_nil w 0 _ 1, fun g h => (by cases h), fun i h => by omega, fun i g h => by omega, fun i g h => by omega⟩
theorem Cds.keep (C : Cds S w cv cs k vk) {F : Nat → Prop} (hM : Mod F w w1) (hF : ∀ b, S ≤ b → b < w.heap.size → ¬ F b) : Cds S w1 cv cs k vk := by
  refine ⟨⟨C.own.1, ?_⟩, C.vin, fun i hi => (C.at_ i hi).frame hM fun b hb => hF b (C.bin i b hi hb).1 (C.bin i b hi hb).2, fun i g hi hg => ⟨(C.bin i g hi hg).1, Nat.lt_of_lt_of_le (C.bin i g hi hg).2 hM.size⟩, C.ne⟩
  rcases C.own.2 with e | ⟨g, cap, cur, rfl, h0, hg, r⟩
  · exact .inl e
  · exact .inr ⟨g, cap, cur, rfl, h0, hM.heap hg (hF _ (C.vin g rfl) (lt_of_block hg)), r⟩
theorem Cds.push (C : Cds S w cv cs k vk) (hS : S ≤ w.heap.size) (hc : CodeAt w u (cs k)) (hu : ∀ g, u.ownBlock = some g → S ≤ g ∧ g < w.heap.size ∧ cv.ownBlock ≠ some g)
    (hown : w1.ownsRow 0 69 1 cv' (k + 1) ((List.range k).map vk ++ [u])) (hg : w.grownBy w1 cv.ownBlock) (hfr : ∀ g, cv'.ownBlock = some g → cv.ownBlock = some g ∨ w.heap.size ≤ g) :
    Cds S w1 cv' cs (k + 1) (fun i => if i = k then u else vk i) := by
  have hM : Mod (fun x => cv.ownBlock = some x) w w1 := (Mod.refl (fun x => cv.ownBlock = some x) w).grown hg fun j hj _ => hj
  refine ⟨?_, fun g h => ?_, fun i hi => ?_, fun i g hi h => ?_, fun i g hi h e => ?_⟩
  · have : (List.range (k + 1)).map (fun i => if i = k then u else vk i) = (List.range k).map vk ++ [u] := by
      rw [List.range_succ, List.map_append]
      congr 1
      · refine List.map_congr_left fun i hi => ?_
        have := List.mem_range.1 hi
        rw [if_neg (by omega)]
      · simp
    rw [this]; exact hown
  · rcases hfr g h with e | e
    · exact C.vin g e
    · omega
  · by_cases e : i = k
    · subst e
      simp only [if_true]
      exact hc.frame hM fun b hb e => (hu b hb).2.2 e
    · rw [if_neg e]
      exact (C.at_ i (by omega)).frame hM fun b hb e' => C.ne i b (by omega) hb e'
  · have hs := hM.size
    by_cases e : i = k
    · subst e
      simp only [if_true] at h
      have := hu g h; exact ⟨this.1, by omega⟩
    · rw [if_neg e] at h
      have := C.bin i g (by omega) h; exact ⟨this.1, by omega⟩
  · have hlt : g < w.heap.size := by
      by_cases e : i = k
      · subst e
        simp only [if_true] at h
        exact (hu g h).2.1
      · rw [if_neg e] at h
        exact (C.bin i g (by omega) h).2
    rcases hfr g e with e' | e'
    · by_cases e2 : i = k
      · subst e2
        simp only [if_true] at h
        exact (hu g h).2.2 e'
      · rw [if_neg e2] at h
        exact C.ne i g (by omega) h e'
    · omega
theorem Cds.codes (C : Cds S w cv cs k vk) : CodesAt w cv ((List.range k).map cs) vk := by
  rcases C.own.2 with ⟨rfl, h0⟩ | ⟨g, cap, cur, rfl, _, hg, h1, h2, h3, h4⟩
  · subst h0
    exact ⟨none, 0, rfl, fun i l h => by simp at h⟩
  · refine ⟨some ⟨g, 0, none⟩, cap, by simp, fun i l h => ?_⟩
    have hlt : i < k := by have := (List.getElem?_eq_some_iff.1 h).1; simpa using this
    have hl : l = cs i := by
      rw [List.getElem?_map, List.getElem?_range hlt] at h
      exact (Option.some.inj h).symm
    subst hl
    refine ⟨g, 0, rfl, lt_of_block hg, ?_, C.at_ i hlt, fun b hb => (C.bin i b hlt hb).2⟩
    rw [cell_of_heap hg, Nat.zero_add]
    have e : cur[i]? = (cur.toList.take (k * 1))[i]? := by
      rw [List.getElem?_take, if_pos (by omega)]; simp
    rw [e, h4, List.getElem?_map, List.getElem?_range hlt]; rfl
end Go.Proofs.YtppihkneeolomaaDoor
end
/- package queue: Build's state between its steps, in plain. -/
section
namespace Qu
open Qs Qg Qh
variable {lab : Nat → List UInt8}
def blkOf (lab : Nat → List UInt8) (k : Nat) : Op → List Instr
  | .put n => putBlk (lab (k + 1)) n
  | .take => takeBlk (lab (k + 1)) (lab (k + 2))
def opsCode (lab : Nat → List UInt8) : Nat → List Op → List Instr
  | _, [] => []
  | k, x :: l => blkOf lab k x ++ opsCode lab (k + 2) l
theorem opsCode_snoc (x : Op) : ∀ (l : List Op) (k : Nat), opsCode lab k (l ++ [x]) = opsCode lab k l ++ blkOf lab (k + 2 * l.length) x
  | [], k => by simp [opsCode]
  | y :: l, k => by
    rw [List.cons_append, opsCode, opsCode, opsCode_snoc x l (k + 2), List.append_assoc, List.length_cons, show k + 2 + 2 * l.length = k + 2 * (l.length + 1) by omega]
theorem codeOf_ops : ∀ (l : List Op) (k : Nat), codeOf lab k l = opsCode lab k l ++ [⟨20, 0, 0, 0, []⟩]
  | [], k => rfl
  | .put n :: l, k => by rw [codeOf, opsCode, codeOf_ops l (k + 2), List.append_assoc]; rfl
  | .take :: l, k => by rw [codeOf, opsCode, codeOf_ops l (k + 2), List.append_assoc]; rfl
theorem opsCode_len : ∀ (l : List Op) (k : Nat), (opsCode lab k l).length ≤ 30 * l.length
  | [], k => by simp [opsCode]
  | .put n :: l, k => by
    have := opsCode_len l (k + 2)
    simp only [opsCode, List.length_append, List.length_cons, blkOf]
    have h : (putBlk (lab (k + 1)) n).length = 8 := rfl
    omega
  | .take :: l, k => by
    have := opsCode_len l (k + 2)
    simp only [opsCode, List.length_append, List.length_cons, blkOf]
    have h : (takeBlk (lab (k + 1)) (lab (k + 2))).length = 30 := rfl
    omega
end Qu
namespace Go.Proofs.YtppihkneeolomaaDoor
open Go.RowKit Qs Qh
def r8 : List Int := [0, 0, 0, 0, 0, 2, 0, 0]
def regsL (k n : Nat) : List (List Int) := List.replicate k r8 ++ List.replicate (n - k) z8
theorem regsL_zero (n : Nat) : regsL 0 n = List.replicate n z8 := by simp [regsL]
theorem regsL_all (n : Nat) : regsL n n = qRegs n := by simp [regsL, qRegs, r8]
theorem regsL_get {k n : Nat} (h : k < n) : (regsL k n)[k]? = some z8 := by
  unfold regsL
  rw [List.getElem?_append_right (by simp), List.getElem?_replicate, if_pos (by simp; omega)]
theorem regsL_set {k n : Nat} (h : k < n) : (regsL k n).set k (z8.set 5 2) = regsL (k + 1) n := by
  refine List.ext_getElem? fun i => ?_
  have hr : z8.set 5 2 = r8 := rfl
  rw [List.getElem?_set, hr]
  unfold regsL
  by_cases e : k = i
  · subst e
    rw [if_pos rfl, if_pos (by simp; omega), List.getElem?_append_left (by simp)]
    simp
  · rw [if_neg e]
    by_cases h2 : i < k
    · rw [List.getElem?_append_left (by simpa using h2), List.getElem?_append_left (by simp; omega)]
      rw [List.getElem?_replicate, List.getElem?_replicate, if_pos (by omega), if_pos (by omega)]
    · rw [List.getElem?_append_right (by simp; omega), List.getElem?_append_right (by simp; omega)]
      simp only [List.length_replicate, List.getElem?_replicate]
      by_cases h3 : i < n
      · rw [if_pos (by omega), if_pos (by omega)]
      · rw [if_neg (by omega), if_neg (by omega)]
theorem regsL_len {k n : Nat} (h : k ≤ n) : (regsL k n).length = n := by simp [regsL]; omega
/-- Where things lie. -/
structure Plc where
  T2 : Nat
  B : Nat
  lo1 : Nat
  hi1 : Nat
  lo2 : Nat
  hi2 : Nat
  S : Nat
structure Plc.Ok (p : Plc) (w : World) : Prop where
  t2 : w.heap.size ≤ p.T2
  b : p.T2 < p.B
  l1 : p.B < p.lo1
  h1 : p.lo1 ≤ p.hi1
  l2 : p.hi1 ≤ p.lo2
  h2 : p.lo2 ≤ p.hi2
  s : p.hi2 ≤ p.S
/-- Behind kr rows set and k codes made. -/
structure BuildRel (w : World) (p : Plc) (iv rv : Value) (rb ib : Nat → Nat) (cs : Nat → List Instr) (n kr k : Nat) (cv : Value) (vk : Nat → Value) (wr : World) : Prop where
  mod : Mod noF w wr
  size : p.S ≤ wr.heap.size
  res : wr.heap[p.T2]? = some (.cells #[.int .i64 0, .slice none 0 0, .slice none 0 0] 32 (0, 0))
  base : BaseAt wr p.B iv rv
  regs : Rws p.lo1 p.hi1 wr rv (regsL kr n) rb
  init : Rws p.lo2 p.hi2 wr iv qInit ib
  cds : Cds p.S wr cv cs k vk
variable {w wr w1 : World} {p : Plc} {iv rv cv cv' u : Value} {rb ib : Nat → Nat} {cs : Nat → List Instr} {n kr k : Nat} {vk : Nat → Value}
theorem BuildRel.quiet (R : BuildRel w p iv rv rb ib cs n kr k cv vk wr) (h : Mod noF wr w1) : BuildRel w p iv rv rb ib cs n kr k cv vk w1 :=
  ⟨R.mod.trans0 h, Nat.le_trans R.size h.size, h.heap R.res (fun e => e), h.heap R.base (fun e => e), R.regs.keep h (fun _ _ _ e => e), R.init.keep h (fun _ _ _ e => e), R.cds.keep h (fun _ _ _ e => e)⟩
theorem BuildRel.store (R : BuildRel w p iv rv rb ib cs n kr k cv vk wr) (P : p.Ok w) (hk : kr < n) : BuildRel w p iv rv rb ib cs n (kr + 1) k cv vk (wr.setCell ⟨rb kr, 5, none⟩ (.int .i64 2)) ∧ wr.heap[rb kr]? = some (.cells #[.int .i64 0, .int .i64 0, .int .i64 0, .int .i64 0, .int .i64 0, .int .i64 0, .int .i64 0, .int .i64 0] 3 (0, 0)) ∧ p.lo1 ≤ rb kr := by
  obtain ⟨R1, hM⟩ := R.regs.set (x := 2) (j := 5) (regsL_get hk) (by decide)
  rw [regsL_set hk] at R1
  have hb := R.regs.bin kr z8 (regsL_get hk) (by decide)
  have hP := P
  obtain ⟨p1, p2, p3, p4, p5, p6, p7⟩ := hP
  refine ⟨⟨R.mod.trans hM fun x hx e => ?_, Nat.le_trans R.size hM.size, hM.heap R.res (fun e => ?_), hM.heap R.base (fun e => ?_), R1, R.init.keep hM (fun x h1 h2 e => ?_), R.cds.keep hM (fun x h1 h2 e => ?_)⟩, R.regs.row kr z8 (regsL_get hk) (by decide), hb.1⟩
  all_goals omega
theorem BuildRel.push (R : BuildRel w p iv rv rb ib cs n kr k cv vk wr) (P : p.Ok w) (hc : CodeAt wr u (cs k)) (hu : ∀ g, u.ownBlock = some g → p.S ≤ g ∧ g < wr.heap.size ∧ cv.ownBlock ≠ some g)
    (hown : w1.ownsRow 0 69 1 cv' (k + 1) ((List.range k).map vk ++ [u])) (hg : wr.grownBy w1 cv.ownBlock) (hfr : ∀ g, cv'.ownBlock = some g → cv.ownBlock = some g ∨ wr.heap.size ≤ g) :
    BuildRel w p iv rv rb ib cs n kr (k + 1) cv' (fun i => if i = k then u else vk i) w1 := by
  have hM : Mod (fun x => cv.ownBlock = some x) wr w1 := (Mod.refl (fun x => cv.ownBlock = some x) wr).grown hg fun j hj _ => hj
  have hcv := R.cds.vin
  obtain ⟨p1, p2, p3, p4, p5, p6, p7⟩ := P
  refine ⟨R.mod.trans hM fun x hx e => ?_, Nat.le_trans R.size hM.size, hM.heap R.res (fun e => ?_), hM.heap R.base (fun e => ?_), R.regs.keep hM (fun x h1 h2 e => ?_), R.init.keep hM (fun x h1 h2 e => ?_), R.cds.push R.size hc hu hown hg hfr⟩
  all_goals have := hcv _ e; omega
end Go.Proofs.YtppihkneeolomaaDoor
end
/- queue.Build: its walk. -/
section
namespace Go.Proofs.YtppihkneeolomaaDoor
open Go.RowKit Qs Qh
variable {N : Nat} {w w' : World} {v u : Value} {ll : List (List Qu.Op)} {l : List Qu.Op}
def qCs (ll : List (List Qu.Op)) (i : Nat) : List Instr := Qu.codeOf Qu.labO 0 (ll.getD i [])
theorem codeInfo : (Tryd.prog.info? 69).map (fun i => (i.zero, i.size, i.bytes)) = some (some (.slice none 0 0), 1, 24) := by kernel_rfl
set_option maxHeartbeats 16000000 in
theorem build_ok (H : OpsIn N w v ll) (hN : N ≤ w.heap.size) (h1 : 1 ≤ ll.length) (h6 : ll.length ≤ 6) (h20 : ∀ l ∈ ll, l.length ≤ 20) (hn : ∀ l ∈ ll, ∀ n, Qu.Op.put n ∈ l → 1 ≤ n ∧ n ≤ 1000) :
    Calls Tryd.prog 10 #[v] w fun e w' => ∃ iv rv cv vk, e = .returned (.tuple #[.agg #[.int .i64 64, iv, rv], cv, .nilIface]) ∧ Mod noF w w' ∧ Qh.RowsAt w' iv qInit ∧ Qh.RowsAt w' rv (qRegs ll.length) ∧ CodesAt w' cv (ll.map (Qu.codeOf Qu.labO 0)) vk := by
  have HH := Lib.hid H
  obtain ⟨i0, hti, hz0, hz1, hz2⟩ := info_parts codeInfo
  obtain ⟨a, c, rfl, hx⟩ := H
  have Hx := Lib.hid hx
  have H20 := Lib.hid h20
  have Hn := Lib.hid hn
  clear hx h20 hn
  go_enter Tryd.func10, Tryd.ntmps10
  go_wp2_with fail
  refine (check_ok (HH.out.keep (((Mod.refl noF w).alloc _).alloc _) (fun _ _ e => e)) (w.heap.size + 1) (by simp [takeS]) (by simp) (by simp; omega) h1 h6 H20.out Hn.out).mono ?_
  rintro e wc ⟨rfl, hmc⟩
  have hmw := (((Mod.refl noF w).alloc (.cells #[.int .i64 0, .slice none 0 0, .slice none 0 0] 32)).alloc (.cells #[.string takeS] 9)).trans0 hmc
  have hres : wc.heap[w.heap.size]? = some (.cells #[.int .i64 0, .slice none 0 0, .slice none 0 0] 32 (0, 0)) := ((Mod.refl noF _).alloc _ |>.trans0 hmc).heap (heap_alloc_new w _) (fun e => e)
  have hszc : w.heap.size + 1 ≤ wc.heap.size := by have := lt_of_block hres; omega
  have Hmw := Lib.hid hmw
  have Hres := Lib.hid hres
  clear hmc hmw hres
  go_wp2_with fail
  refine (newBase_ok ll.length h6 wc).mono ?_
  rintro e wb ⟨rv, rb, rfl, hmb, hB, R⟩
  have hbs := hmb.size
  have hb1 := lt_of_block hB
  have Hmb := Lib.hid hmb
  have HB := Lib.hid hB
  have HR := Lib.hid R
  clear hmb hB R
  go_wp2_with fail
  refine (cell_ok (l := []) (r := 0) HB.out (Rws.nil wb.heap.size wb.heap.size wb (fun _ => 0)) (Nat.le_refl _) (Nat.le_refl _) (by omega) (by simp) (fun h => absurd rfl h) (fun h => absurd rfl h)).mono ?_
  rintro e w3 ⟨rfl, iv1, hB3, ⟨ib1, R3⟩, hm3⟩
  have hm3w := (Hmw.out.trans0 Hmb.out).trans hm3 (fun x hx e => by
    rcases e with e | e
    · omega
    · cases e)
  have hs3 := hm3.size
  have hres3 := hm3.heap (Hmb.out.heap Hres.out (fun e => e)) (fun e => by
    rcases e with e | e
    · omega
    · cases e)
  have R3r := HR.out.keep hm3 (fun x h1 h2 e => by
    rcases e with e | e
    · omega
    · cases e)
  have Hm3w := Lib.hid hm3w
  have HB3 := Lib.hid hB3
  have HR3 := Lib.hid R3
  have HR3r := Lib.hid R3r
  have Hres3 := Lib.hid hres3
  clear hm3w hm3 hB3 R3 R3r hres3 HR HB Hmb Hres Hmw
  go_wp2_with fail
  refine (cell_ok (l := [1, 1, 0]) (r := w3.heap.size) ((Mod.refl noF w3).alloc _ |>.heap HB3.out (fun e => e)) (HR3.out.keep ((Mod.refl noF w3).alloc _) (fun _ _ _ e => e)) (by simp) (by simp; omega) (by omega) (by simp) (fun h => ⟨Nat.le_refl _, by omega⟩) (fun h => heap_alloc_new w3 _)).mono ?_
  rintro e w5 ⟨he, iv, hB5, ⟨ib, R5⟩, hm5⟩
  obtain rfl : e = .returned (.int .i64 2) := he
  have hiv1 : ∀ x, iv1.ownBlock = some x → wb.heap.size ≤ x := fun x hx => (HR3.out.vin x hx).1
  have hs5 := hm5.size
  have hq5 : Mod noF w w5 := (Hm3w.out.alloc _).trans hm5 (fun x hx e => by
    rcases e with e | e
    · omega
    · have := hiv1 x e; omega)
  have hrel : BuildRel w ⟨w.heap.size, wc.heap.size, wc.heap.size + 1, wb.heap.size, wb.heap.size, w5.heap.size, w5.heap.size⟩ iv rv rb ib (qCs ll) ll.length 0 0 (.slice none 0 0) (fun _ => .nilIface) w5 := by
    refine ⟨hq5, Nat.le_refl _, hm5.heap (((Mod.refl noF w3).alloc _).heap Hres3.out (fun e => e)) (fun (e : w.heap.size = wc.heap.size ∨ iv1.ownBlock = some w.heap.size) => ?_), hB5, ?_, R5, Cds.nil _ _ _ _⟩
    · rcases e with e | e
      · omega
      · have := hiv1 _ e; omega
    · rw [regsL_zero]
      refine (HR3r.out.keep ((Mod.refl noF w3).alloc _) (fun _ _ _ e => e)).keep hm5 (fun x (h1 : wc.heap.size + 1 ≤ x) (h2 : x < wb.heap.size) e => ?_)
      rcases e with e | e
      · omega
      · have := hiv1 x e; omega
  obtain ⟨p, hp⟩ : ∃ p : Plc, p = ⟨w.heap.size, wc.heap.size, wc.heap.size + 1, wb.heap.size, wb.heap.size, w5.heap.size, w5.heap.size⟩ := ⟨_, rfl⟩
  have hP : p.Ok w := by subst hp; simp at hs5; exact ⟨Nat.le_refl _, by simp only; omega, by simp only; omega, by simp only; omega, Nat.le_refl _, by simp only; omega, Nat.le_refl _⟩
  rw [← hp] at hrel
  have hpB : wc.heap.size = p.B := by rw [hp]
  have hpT : w.heap.size = p.T2 := by rw [hp]
  have HP := Lib.hid hP
  have Hrel := Lib.hid hrel
  clear hiv1 hs5 hq5 hrel hP hm5 hB5 R5 Hm3w HB3 HR3 HR3r Hres3 hp
  go_wp2
  go_loopw [9, 34] (fun c i wr => ∃ (k : Nat) (vk : Nat → Value), k ≤ ll.length ∧ i = .int .i64 k ∧ BuildRel w p iv rv rb ib (qCs ll) ll.length k k c vk wr) (fun _ i _ => ll.length - (intOf i).toNat)
  case atStart => exact ⟨0, _, Nat.zero_le _, rfl, Hrel.out⟩
  case round =>
    generalize wr = wo at *
    obtain ⟨k, vk, hk, rfl, hR⟩ := hrel
    obtain ⟨ra, rc, rfl, hrx⟩ := hR.regs.cell
    obtain ⟨ca, cb, cc, rfl⟩ := slice_of_own hR.cds.own
    by_cases hlt : k < ll.length
    · have hd : decide ((k : Int) < (ll.length : Int)) = true := by simp; omega
      have hki : (k : Int) < (ll.length : Int) := by omega
      obtain ⟨l, hl⟩ : ∃ l, ll[k]? = some l := ⟨_, List.getElem?_eq_getElem hlt⟩
      obtain ⟨b, off, u, rfl, hb, hc, hrow⟩ := Hx.out k l hl
      have hc2 := hR.mod.cell hc (fun e => e)
      obtain ⟨ua, uc, rfl, hxx⟩ := hrow.keep hR.mod (fun _ _ e => e)
      have hxw : ∀ wx, Mod noF w wx → OpRow N wx (.slice ua l.length uc) l := fun wx h => hrow.keep h (fun _ _ e => e)
      obtain ⟨gb, rfl, hgb, hrk⟩ := hrx k z8 (regsL_get hlt)
      obtain ⟨hR1, hrow8, hlo⟩ := hR.store HP.out hlt
      have b2 : wo.cell? ⟨p.B, 2, none⟩ = some (.slice (some ⟨gb, 0, none⟩) (regsL k ll.length).length rc) := by rw [cell_of_heap hR.base]; rfl
      rw [regsL_len hk] at b2
      have b3 : wo.cell? ⟨gb, k, none⟩ = some (.slice (some ⟨rb k, 0, none⟩) 8 8) := hrk
      have b4 : wo.cell? ⟨rb k, 5, none⟩ = some (.int .i64 0) := by rw [cell_of_heap hrow8]; rfl
      have b5 := free_of_heap hrow8 5
      have h20l := H20.out l (List.mem_of_getElem? hl)
      have hsz1 : (wo.setCell ⟨rb k, 5, none⟩ (.int .i64 2)).heap.size = wo.heap.size := by simp [World.setCell]
      have HR := Lib.hid hR
      have HR1 := Lib.hid hR1
      have Hxw := Lib.hid hxw
      have Hl := Lib.hid hl
      have Hsz1 := Lib.hid hsz1
      clear hR hR1 hxw hl hxx hrow hc hrk hrow8 hrx hsz1
      go_wp2
      go_name_world wm hwm
      have hM0 : Mkr wm wo.heap.size (.slice none 0 0) [] 0 := by
        have hh : wm.heap[wo.heap.size]? = some (.cells #[.slice none 0 0, .int .i64 0, .int .i64 k, .int .i64 0, .int .i64 0] 84 (0, 0)) := by
          rw [← hwm, ← Hsz1.out]; exact heap_alloc_new _ _
        exact ⟨⟨by rw [cell_of_heap hh]; rfl, free_of_heap hh 0, InsRow.nil _ _, (fun g h => by cases h), lt_of_block hh⟩, by rw [cell_of_heap hh]; rfl, free_of_heap hh 4⟩
      have hq0 : Mod noF (wo.setCell ⟨rb k, 5, none⟩ (.int .i64 2)) wm := by rw [← hwm]; exact (Mod.refl noF _).alloc _
      have HM0 := Lib.hid hM0
      have Hq0 := Lib.hid hq0
      clear hM0 hq0 hwm
      go_loopw [54] (fun i wr => ∃ (q : Nat) (v : Value), q ≤ l.length ∧ i = .int .i64 q ∧ Mkr wr wo.heap.size v (Qu.opsCode Qu.labO 0 (l.take q)) (2 * q) ∧ Mod noF (wo.setCell ⟨rb k, 5, none⟩ (.int .i64 2)) wr ∧ ∀ g, v.ownBlock = some g → wo.heap.size ≤ g) (fun i _ => l.length - (intOf i).toNat)
      case atStart => exact ⟨0, .slice none 0 0, Nat.zero_le _, rfl, HM0.out, Hq0.out, fun g h => by cases h⟩
      case round =>
        obtain ⟨q, v, hq, rfl, hMk, hmq, hv⟩ := hrel
        by_cases hlq : q < l.length
        · have hd2 : decide ((q : Int) < (l.length : Int)) = true := by simp; omega
          have hqi : (q : Int) < (l.length : Int) := by omega
          obtain ⟨x, hxl⟩ : ∃ x, l[q]? = some x := ⟨_, List.getElem?_eq_getElem hlq⟩
          obtain ⟨ua', uc', e', hxx⟩ := Hxw.out wr (HR1.out.mod.trans0 hmq)
          cases e'
          obtain ⟨ub, uoff, rfl, hub, h0, h1⟩ := hxx q x hxl
          have hlen := Qu.opsCode_len (lab := Qu.labO) (l.take q) 0
          rw [List.length_take] at hlen
          have htk : l.take (q + 1) = l.take q ++ [x] := by rw [List.take_add_one, hxl]; rfl
          have hsn := Qu.opsCode_snoc (lab := Qu.labO) x (l.take q) 0
          rw [← htk, List.length_take, Nat.min_eq_left hq, Nat.zero_add] at hsn
          have HMk := Lib.hid hMk
          have Hmq := Lib.hid hmq
          have Hv := Lib.hid hv
          have Hsn := Lib.hid hsn
          have Hlen := Lib.hid hlen
          clear hMk hmq hv hxl hxx htk hsn hlen
          cases x with
          | put n =>
            simp only [opK, opN] at h0 h1
            go_wp2_with fail
            refine (qop_put n (HMk.out.quiet ((Mod.refl noF wr).alloc _)) (by omega) (by have := Hlen.out; omega)).mono ?_
            rintro e wz ⟨rfl, v', hMz, hSz⟩
            go_wp2
            go_roundw
            case rel =>
              refine ⟨q + 1, v', by omega, by go_num, by rw [Hsn.out]; exact hMz, ((Hmq.out.alloc _).trans hSz.mod fun x hx e => ?_), fun g hg => ?_⟩
              · have h9 := Hsz1.out
                rcases e with e | e
                · omega
                · have := Hv.out x e; omega
              · have h9 := Hsz1.out
                have h10 := Hmq.out.size
                rcases hSz.new g hg with e | e
                · exact Hv.out g e
                · simp at e; omega
            case measure => simp [intOf]; omega
          | take =>
            simp only [opK, opN] at h0 h1
            go_wp2_with fail
            refine (qop_take 0 (HMk.out.quiet ((Mod.refl noF wr).alloc _)) (by omega) (by have := Hlen.out; omega)).mono ?_
            rintro e wz ⟨rfl, v', hMz, hSz⟩
            go_wp2
            go_roundw
            case rel =>
              refine ⟨q + 1, v', by omega, by go_num, by rw [Hsn.out]; exact hMz, ((Hmq.out.alloc _).trans hSz.mod fun x hx e => ?_), fun g hg => ?_⟩
              · have h9 := Hsz1.out
                rcases e with e | e
                · omega
                · have := Hv.out x e; omega
              · have h9 := Hsz1.out
                have h10 := Hmq.out.size
                rcases hSz.new g hg with e | e
                · exact Hv.out g e
                · simp at e; omega
            case measure => simp [intOf]; omega
        · have hd2 : decide ((q : Int) < (l.length : Int)) = false := by simp; omega
          obtain rfl : q = l.length := by omega
          rw [List.take_length] at hMk
          have hlen := Qu.opsCode_len (lab := Qu.labO) l 0
          have HMk := Lib.hid hMk
          have Hmq := Lib.hid hmq
          have Hv := Lib.hid hv
          clear hMk hmq hv
          go_wp2_with fail
          refine (op0_chain (Chain.start HMk.out.emit) (by omega) 20 _ rfl).mono ?_
          rintro e wz ⟨rfl, hbz, v', E, G⟩
          have hS := HR.out.size
          have h9 := Hsz1.out
          have hqz : Mod noF (wo.setCell ⟨rb k, 5, none⟩ (.int .i64 2)) wz := Hmq.out.trans G.mod fun x hx e => by
            rcases e with e | e
            · omega
            · have := Hv.out x e; omega
          have hcode := E.row.code
          rw [← Qu.codeOf_ops] at hcode
          have hown : ∀ g, v'.ownBlock = some g → p.S ≤ g ∧ g < wz.heap.size ∧ (Value.slice ca cb cc).ownBlock ≠ some g := fun g hg => by
            have h10 := Hmq.out.size
            have h11 : wo.heap.size ≤ g := by
              rcases G.new g hg with e | e
              · exact Hv.out g e
              · omega
            refine ⟨by omega, E.row.lt hg, fun e => ?_⟩
            have := (World.ownsRow.lt HR.out.cds.own _ e).2
            omega
          obtain ⟨xa, xc, rfl, -, -⟩ := E.row.slice
          have e0 := E.cell
          simp only [List.length_append, List.length_singleton] at hcode hown e0
          have hcs : qCs ll k = Qu.codeOf Qu.labO 0 l := by unfold qCs; rw [List.getD_eq_getElem?_getD, Hl.out]; rfl
          rw [← hcs] at hcode
          have HRz := Lib.hid (HR1.out.quiet hqz)
          have Hcode := Lib.hid hcode
          have Hown := Lib.hid hown
          have hszz : p.S ≤ wz.heap.size := by have := HRz.out.size; omega
          have hbnd : k + 1 ≤ maxLen := by unfold maxLen; omega
          clear E G hcode hown hqz hcs hbz
          go_wp2_with (at_builtin; refine wpList_append_mine _ rfl (.tmp 62) (.tmp 70) 33 rfl 69 i0 (.slice none 0 0) 1 24 Tryd.underlying33 hti hz0 hz1 hz2 rfl (by decide) _ k ((List.range k).map vk) rfl (by exact World.ownsRow.alloc HRz.out.cds.own _) ⟨wz.heap.size, 0, none⟩ 1 1 [.slice xa _ xc] rfl rfl (by exact new_cells_at _ _ _ (by simp)) (one_row _ rfl) hbnd (by omega) ?_; intro v4 w7 hown hgr hfr _; obtain ⟨ya, yb, yc, rfl⟩ := slice_of_own hown; have Hown4 := Lib.hid hown; have Hgr := Lib.hid hgr; have Hfr := Lib.hid hfr; clear hown hgr hfr)
          go_wp2
          go_roundw
          case rel =>
            exact ⟨k + 1, _, by omega, by go_num, (HRz.out.quiet ((Mod.refl noF wz).alloc _)).push HP.out (Hcode.out.frame ((Mod.refl noF wz).alloc _) (fun _ _ e => e)) (fun g hg => ⟨(Hown.out g hg).1, by have := (Hown.out g hg).2.1; simp; omega, (Hown.out g hg).2.2⟩) Hown4.out Hgr.out Hfr.out⟩
          case measure => simp [intOf]; omega
    · have hd : decide ((k : Int) < (ll.length : Int)) = false := by simp; omega
      obtain rfl : k = ll.length := by omega
      obtain ⟨ia, ic, hiv, -⟩ := hR.init.cell
      have x0 : wo.cell? ⟨p.B, 0, none⟩ = some (.int .i64 64) := by rw [cell_of_heap hR.base]; rfl
      have x1 : wo.cell? ⟨p.B, 1, none⟩ = some iv := by rw [cell_of_heap hR.base]; rfl
      have x2 : wo.cell? ⟨p.B, 2, none⟩ = some (.slice ra (regsL ll.length ll.length).length rc) := by rw [cell_of_heap hR.base]; rfl
      have y0 : wo.cell? ⟨p.T2, 0, none⟩ = some (.int .i64 0) := by rw [cell_of_heap hR.res]; rfl
      have y1 : wo.cell? ⟨p.T2, 1, none⟩ = some (.slice none 0 0) := by rw [cell_of_heap hR.res]; rfl
      have y2 : wo.cell? ⟨p.T2, 2, none⟩ = some (.slice none 0 0) := by rw [cell_of_heap hR.res]; rfl
      have yf := free_of_heap hR.res
      have yf0 := yf 0
      have yf1 := yf 1
      have yf2 := yf 2
      rw [hiv] at x1
      have HR := Lib.hid hR
      clear hR hrx yf
      go_wp2
      obtain ⟨wf, hwf⟩ : ∃ wf, wf = (((wo.setCell ⟨p.T2, 0, none⟩ (.int .i64 64)).setCell ⟨p.T2, 1, none⟩ (.slice ia qInit.length ic)).setCell ⟨p.T2, 2, none⟩ (.slice ra (regsL ll.length ll.length).length rc)) := ⟨_, rfl⟩
      have hMf : Mod (fun x => x = p.T2) wo wf := by rw [hwf]; exact (((Mod.refl (fun x => x = p.T2) wo).setCell (fun _ => rfl) _).setCell (fun _ => rfl) _).setCell (fun _ => rfl) _
      have hh : wf.heap[p.T2]? = some (.cells #[.int .i64 64, .slice ia qInit.length ic, .slice ra (regsL ll.length ll.length).length rc] 32 (0, 0)) := by
        rw [hwf, Qh.heap_setCell_same (Qh.heap_setCell_same (Qh.heap_setCell_same HR.out.res 0 _) 1 _) 2 _]; rfl
      have z0 : wf.cell? ⟨p.T2, 0, none⟩ = some (.int .i64 64) := by rw [cell_of_heap hh]; rfl
      have z1 : wf.cell? ⟨p.T2, 1, none⟩ = some (.slice ia qInit.length ic) := by rw [cell_of_heap hh]; rfl
      have z2 : wf.cell? ⟨p.T2, 2, none⟩ = some (.slice ra (regsL ll.length ll.length).length rc) := by rw [cell_of_heap hh]; rfl
      rw [← hwf]
      obtain ⟨p1, p2, p3, p4, p5, p6, p7⟩ := HP.out
      refine bodyPost_ret (v := .tuple #[.agg #[.int .i64 64, .slice ia qInit.length ic, .slice ra (regsL ll.length ll.length).length rc], .slice ca cb cc, .nilIface]) (by simp [results, Tryd.results10, go_sem, z0, z1, z2]) rfl ⟨_, _, _, vk, rfl, ?_, ?_, ?_, ?_⟩
      · exact HR.out.mod.trans hMf fun x hx e => by omega
      · have := HR.out.init.keep hMf (fun x h1 h2 e => by omega)
        rw [hiv] at this
        exact this.rows (by decide)
      · have := HR.out.regs.keep hMf (fun x h1 h2 e => by omega)
        have h := this.rows (fun l hl => by
          rw [regsL_all] at hl
          unfold qRegs at hl
          have := List.eq_of_mem_replicate hl
          subst this; decide)
        rw [regsL_all] at h ⊢
        exact h
      · have := (HR.out.cds.keep hMf (fun x h1 h2 e => by omega)).codes
        have e : (List.range ll.length).map (qCs ll) = ll.map (Qu.codeOf Qu.labO 0) := by
          refine List.ext_getElem? fun i => ?_
          rw [List.getElem?_map, List.getElem?_map]
          by_cases h : i < ll.length
          · rw [List.getElem?_range h, List.getElem?_eq_getElem h]
            simp [qCs, h]
          · rw [List.getElem?_eq_none (by simpa using h), List.getElem?_eq_none (by omega)]; rfl
        rw [e] at this
        exact this
end Go.Proofs.YtppihkneeolomaaDoor
end
/- quiescentlaw3.lined, quiescentlaw1.BackStart. -/
section
namespace Go.Proofs.YtppihkneeolomaaDoor
open Go.RowKit Qs Qh
theorem lined_ok (w : World) : Calls Tryd.prog 7 #[] w fun e w' => e = .returned (.bool true) ∧ Mod noF w w' := by
  go_enter Tryd.func7, Tryd.ntmps7
  go_wp2_with fail
  refine (qput_ok ⟨#[97]⟩ _ (by decide) (by decide)).mono ?_
  rintro e w1 ⟨va, rfl, hma⟩
  have hq1 := Mod.below hma.2.1
  obtain ⟨a1, c1, rfl, -, -⟩ := hma.1.slice
  have d1 : decide ((0 : Int) < ((qputCode [97]).length : Int)) = true := rfl
  have Hq1 := Lib.hid hq1
  clear hma hq1
  go_wp2_with fail
  refine (qtake_ok ⟨#[98]⟩ _ (by decide) (by decide)).mono ?_
  rintro e w2 ⟨va, rfl, hma⟩
  have hq2 := Mod.below hma.2.1
  obtain ⟨a2, c2, rfl, -, -⟩ := hma.1.slice
  have d2 : decide ((0 : Int) < ((qtakeCode [98]).length : Int)) = true := rfl
  have Hq2 := Lib.hid hq2
  clear hma hq2
  go_wp2
  go_ret
  exact ⟨rfl, Hq1.out.trans0 Hq2.out⟩
theorem backStart_ok (n : Nat) (a b : Option Addr) (l1 c1 l2 c2 : Nat) (w : World) : Calls Tryd.prog 13 #[.agg #[.int .i64 n, .slice a l1 c1, .slice b l2 c2]] w fun e w' => e = .returned (.agg #[.int .i64 n, .slice a l1 c1, .slice b l2 c2]) ∧ Mod noF w w' := by
  go_enter Tryd.func13, Tryd.ntmps13
  go_wp2
  exact bodyPost_ret (v := .agg #[.int .i64 n, .slice a l1 c1, .slice b l2 c2]) (by simp [results, Tryd.results13, go_sem]) rfl ⟨rfl, ((Mod.refl _ _).alloc _).alloc _⟩
end Go.Proofs.YtppihkneeolomaaDoor
end
/- Lists of ops, made in memory. -/
section
namespace Go.Proofs.YtppihkneeolomaaDoor
open Go.RowKit Qs Qh
variable {N k S : Nat} {w w1 w' : World} {v u cv cv' : Value} {ll : List (List Qu.Op)} {l : List Qu.Op} {cs : Nat → List Qu.Op} {vk : Nat → Value}
theorem OpRow.frame (h : OpRow N w u l) {F : Nat → Prop} (hM : Mod F w w') (hF : ∀ b, u.ownBlock = some b → ¬ F b) : OpRow N w' u l := by
  obtain ⟨a, c, rfl, hx⟩ := h
  refine ⟨a, c, rfl, fun i x hi => ?_⟩
  obtain ⟨b, off, rfl, hb, h0, h1⟩ := hx i x hi
  exact ⟨b, off, rfl, hb, hM.cell h0 (hF b rfl), hM.cell h1 (hF b rfl)⟩
theorem OpRow.mono (h : OpRow N w u l) {N' : Nat} (hN : N ≤ N') : OpRow N' w u l := by
  obtain ⟨a, c, e, hx⟩ := h
  refine ⟨a, c, e, fun i x hi => ?_⟩
  obtain ⟨b, off, e1, hb, h⟩ := hx i x hi
  exact ⟨b, off, e1, Nat.lt_of_lt_of_le hb hN, h⟩
/-- The lists made so far. -/
structure Ols (S : Nat) (w : World) (cv : Value) (cs : Nat → List Qu.Op) (k : Nat) (vk : Nat → Value) : Prop where
  own : w.ownsRow 0 59 1 cv k ((List.range k).map vk)
  vin : ∀ g, cv.ownBlock = some g → S ≤ g
  at_ : ∀ i, i < k → OpRow w.heap.size w (vk i) (cs i)
  bin : ∀ i g, i < k → (vk i).ownBlock = some g → S ≤ g ∧ g < w.heap.size
  ne : ∀ i g, i < k → (vk i).ownBlock = some g → cv.ownBlock ≠ some g
theorem Ols.nil (S : Nat) (w : World) (cs : Nat → List Qu.Op) (vk : Nat → Value) : Ols S w (.slice none 0 0) cs 0 vk :=
  ⟨World.ownsRow_nil w 0 _ 1, fun g h => (by cases h), fun i h => by omega, fun i g h => by omega, fun i g h => by omega⟩
theorem Ols.keep (C : Ols S w cv cs k vk) {F : Nat → Prop} (hM : Mod F w w1) (hF : ∀ b, S ≤ b → b < w.heap.size → ¬ F b) : Ols S w1 cv cs k vk := by
  refine ⟨⟨C.own.1, ?_⟩, C.vin, fun i hi => ((C.at_ i hi).frame hM fun b hb => hF b (C.bin i b hi hb).1 (C.bin i b hi hb).2).mono hM.size, fun i g hi hg => ⟨(C.bin i g hi hg).1, Nat.lt_of_lt_of_le (C.bin i g hi hg).2 hM.size⟩, C.ne⟩
  rcases C.own.2 with e | ⟨g, cap, cur, rfl, h0, hg, r⟩
  · exact .inl e
  · exact .inr ⟨g, cap, cur, rfl, h0, hM.heap hg (hF _ (C.vin g rfl) (lt_of_block hg)), r⟩
theorem Ols.push (C : Ols S w cv cs k vk) (hS : S ≤ w.heap.size) (hc : OpRow w.heap.size w u (cs k)) (hu : ∀ g, u.ownBlock = some g → S ≤ g ∧ g < w.heap.size ∧ cv.ownBlock ≠ some g)
    (hown : w1.ownsRow 0 59 1 cv' (k + 1) ((List.range k).map vk ++ [u])) (hg : w.grownBy w1 cv.ownBlock) (hfr : ∀ g, cv'.ownBlock = some g → cv.ownBlock = some g ∨ w.heap.size ≤ g) :
    Ols S w1 cv' cs (k + 1) (fun i => if i = k then u else vk i) := by
  have hM : Mod (fun x => cv.ownBlock = some x) w w1 := (Mod.refl (fun x => cv.ownBlock = some x) w).grown hg fun j hj _ => hj
  refine ⟨?_, fun g h => ?_, fun i hi => ?_, fun i g hi h => ?_, fun i g hi h e => ?_⟩
  · have : (List.range (k + 1)).map (fun i => if i = k then u else vk i) = (List.range k).map vk ++ [u] := by
      rw [List.range_succ, List.map_append]
      congr 1
      · refine List.map_congr_left fun i hi => ?_
        have := List.mem_range.1 hi
        rw [if_neg (by omega)]
      · simp
    rw [this]; exact hown
  · rcases hfr g h with e | e
    · exact C.vin g e
    · omega
  · by_cases e : i = k
    · subst e
      simp only [if_true]
      exact (hc.frame hM fun b hb e => (hu b hb).2.2 e).mono hM.size
    · rw [if_neg e]
      exact ((C.at_ i (by omega)).frame hM fun b hb e' => C.ne i b (by omega) hb e').mono hM.size
  · have hs := hM.size
    by_cases e : i = k
    · subst e
      simp only [if_true] at h
      have := hu g h; exact ⟨this.1, by omega⟩
    · rw [if_neg e] at h
      have := C.bin i g (by omega) h; exact ⟨this.1, by omega⟩
  · have hlt : g < w.heap.size := by
      by_cases e : i = k
      · subst e
        simp only [if_true] at h
        exact (hu g h).2.1
      · rw [if_neg e] at h
        exact (C.bin i g (by omega) h).2
    rcases hfr g e with e' | e'
    · by_cases e2 : i = k
      · subst e2
        simp only [if_true] at h
        exact (hu g h).2.2 e'
      · rw [if_neg e2] at h
        exact C.ne i g (by omega) h e'
    · omega
theorem Ols.ops (C : Ols S w cv cs k vk) : OpsIn w.heap.size w cv ((List.range k).map cs) := by
  rcases C.own.2 with ⟨rfl, h0⟩ | ⟨g, cap, cur, rfl, _, hg, h1, h2, h3, h4⟩
  · subst h0
    exact ⟨none, 0, rfl, fun i l h => by simp at h⟩
  · refine ⟨some ⟨g, 0, none⟩, cap, by simp, fun i l h => ?_⟩
    have hlt : i < k := by have := (List.getElem?_eq_some_iff.1 h).1; simpa using this
    have hl : l = cs i := by
      rw [List.getElem?_map, List.getElem?_range hlt] at h
      exact (Option.some.inj h).symm
    subst hl
    refine ⟨g, 0, vk i, rfl, lt_of_block hg, ?_, C.at_ i hlt⟩
    rw [cell_of_heap hg, Nat.zero_add]
    have e : cur[i]? = (cur.toList.take (k * 1))[i]? := by
      rw [List.getElem?_take, if_pos (by omega)]; simp
    rw [e, h4, List.getElem?_map, List.getElem?_range hlt]; rfl
end Go.Proofs.YtppihkneeolomaaDoor
end
/- Lists of ops as they come in: any name, any number. -/
section
namespace Go.Proofs.YtppihkneeolomaaDoor
open Go.RowKit Qs Qh
abbrev ROp := ByteArray × Int
/-- A thread's ops in memory, read only, in blocks below a bound. -/
def RRow (N : Nat) (w : World) (u : Value) (l : List ROp) : Prop :=
  ∃ a c, u = .slice a l.length c ∧ ∀ (i : Nat) x, l[i]? = some x → ∃ b off, a = some ⟨b, off, none⟩ ∧ b < N ∧ w.cell? ⟨b, off + i * 2, none⟩ = some (.string x.1) ∧ w.cell? ⟨b, off + i * 2 + 1, none⟩ = some (.int .i64 x.2)
def RIn (N : Nat) (w : World) (v : Value) (ll : List (List ROp)) : Prop :=
  ∃ a c, v = .slice a ll.length c ∧ ∀ (i : Nat) l, ll[i]? = some l → ∃ b off u, a = some ⟨b, off, none⟩ ∧ b < N ∧ w.cell? ⟨b, off + i, none⟩ = some u ∧ RRow N w u l
variable {N : Nat} {w w' : World} {v u : Value} {ll : List (List ROp)} {l : List ROp}
theorem RRow.keep (h : RRow N w u l) {F : Nat → Prop} (hM : Mod F w w') (hF : ∀ b, b < N → ¬ F b) : RRow N w' u l := by
  obtain ⟨a, c, e, hx⟩ := h
  refine ⟨a, c, e, fun i x hi => ?_⟩
  obtain ⟨b, off, e1, hb, h0, h1⟩ := hx i x hi
  exact ⟨b, off, e1, hb, hM.cell h0 (hF b hb), hM.cell h1 (hF b hb)⟩
theorem RIn.keep (h : RIn N w v ll) {F : Nat → Prop} (hM : Mod F w w') (hF : ∀ b, b < N → ¬ F b) : RIn N w' v ll := by
  obtain ⟨a, c, e, hx⟩ := h
  refine ⟨a, c, e, fun i x hi => ?_⟩
  obtain ⟨b, off, u, e1, hb, h0, h1⟩ := hx i x hi
  exact ⟨b, off, u, e1, hb, hM.cell h0 (hF b hb), h1.keep hM hF⟩
/-- An op as it comes in. -/
def opR (x : Qu.Op) : ROp := (opK x, opN x)
theorem RRow.ops {q : List Qu.Op} (h : RRow N w u (q.map opR)) : OpRow N w u q := by
  obtain ⟨a, c, e, hx⟩ := h
  refine ⟨a, c, by rw [e, List.length_map], fun i x hi => ?_⟩
  exact hx i (opR x) (by rw [List.getElem?_map, hi]; rfl)
theorem RIn.ops {q : List (List Qu.Op)} (h : RIn N w v (q.map (·.map opR))) : OpsIn N w v q := by
  obtain ⟨a, c, e, hx⟩ := h
  refine ⟨a, c, by rw [e, List.length_map], fun i l hi => ?_⟩
  obtain ⟨b, off, u, e1, hb, h0, h1⟩ := hx i (l.map opR) (by rw [List.getElem?_map, hi]; rfl)
  exact ⟨b, off, u, e1, hb, h0, h1.ops⟩
/-- Too long for the law. -/
def rowLong (l : List ROp) : Bool := decide (30 < l.length) || l.any fun x => decide (100 < x.1.size)
def longB (ll : List (List ROp)) : Bool := decide (10 < ll.length) || ll.any rowLong
theorem rowLong_false {l : List ROp} (h : rowLong l = false) : l.length ≤ 30 := by
  unfold rowLong at h
  simp only [Bool.or_eq_false_iff, decide_eq_false_iff_not] at h
  omega
theorem any_at {α : Type} {f : α → Bool} {l : List α} {i : Nat} {x : α} (h : l[i]? = some x) (hf : f x = true) : l.any f = true :=
  List.any_eq_true.2 ⟨x, List.mem_of_getElem? h, hf⟩
theorem any_none {α : Type} {f : α → Bool} {l : List α} (h : ∀ (i : Nat) x, l[i]? = some x → f x = false) : l.any f = false := by
  rw [List.any_eq_false]
  intro x hx
  obtain ⟨i, hi⟩ := List.getElem?_of_mem hx
  rw [h i x hi]; simp
set_option maxHeartbeats 4000000 in
theorem long_any (H : RIn N w v ll) (hlen : ll.length ≤ maxLen) (hrow : ∀ l ∈ ll, l.length ≤ maxLen) : Calls Tryd.prog 8 #[v] w fun e w' => e = .returned (.bool (longB ll)) ∧ w' = w := by
  obtain ⟨a, c, rfl, hx⟩ := H
  have Hx := Lib.hid hx
  have Hrow := Lib.hid hrow
  clear hx hrow
  by_cases h10 : 10 < ll.length
  · have hd : decide ((10 : Int) < (ll.length : Int)) = true := by simp; omega
    have hlb : longB ll = true := by unfold longB; simp [h10]
    rw [hlb]
    go_enter Tryd.func8, Tryd.ntmps8
    go_wp2
    go_ret
    exact ⟨rfl, rfl⟩
  have hd : decide ((10 : Int) < (ll.length : Int)) = false := by simp; omega
  have hlb : longB ll = ll.any rowLong := by unfold longB; simp [h10]
  rw [hlb]
  have Hlb := Lib.hid hlb
  clear hlb
  generalize hres : ll.any rowLong = res at *
  have Hres := Lib.hid hres
  clear hres
  go_enter Tryd.func8, Tryd.ntmps8
  go_wp2
  go_loop [3] (fun i => ∃ k : Nat, k ≤ ll.length ∧ i = .int .i64 k ∧ ∀ (j : Nat) l, j < k → ll[j]? = some l → rowLong l = false) (fun i => ll.length - (intOf i).toNat)
  case atStart => exact ⟨0, Nat.zero_le _, rfl, fun j l h => by omega⟩
  case round =>
    obtain ⟨k, hk, rfl, hall⟩ := hrel
    have Hall := Lib.hid hall
    clear hall
    by_cases hlt : k < ll.length
    · have hd2 : decide ((k : Int) < (ll.length : Int)) = true := by simp; omega
      have hki : (k : Int) < (ll.length : Int) := by omega
      obtain ⟨l, hl⟩ : ∃ l, ll[k]? = some l := ⟨_, List.getElem?_eq_getElem hlt⟩
      obtain ⟨b, off, u, rfl, hb, hc, ⟨ua, uc, rfl, hxx⟩⟩ := Hx.out k l hl
      have Hl := Lib.hid hl
      have Hxx := Lib.hid hxx
      have hml := Hrow.out l (List.mem_of_getElem? hl)
      clear hl hxx
      by_cases h30 : 30 < l.length
      · have hd3 : decide ((30 : Int) < (l.length : Int)) = true := by simp; omega
        have hr : rowLong l = true := by unfold rowLong; simp [h30]
        have hres : res = true := by rw [← Hres.out]; exact any_at Hl.out hr
        subst hres
        clear hr
        go_wp2
        go_ret
        exact ⟨rfl, rfl⟩
      have hd3 : decide ((30 : Int) < (l.length : Int)) = false := by simp; omega
      go_wp2
      go_loop [4] (fun i => ∃ q : Nat, q ≤ l.length ∧ i = .int .i64 q ∧ ∀ (j : Nat) x, j < q → l[j]? = some x → decide (100 < x.1.size) = false) (fun i => l.length - (intOf i).toNat)
      case atStart => exact ⟨0, Nat.zero_le _, rfl, fun j l h => by omega⟩
      case round =>
        obtain ⟨q, hq, rfl, hall⟩ := hrel
        have Hall2 := Lib.hid hall
        clear hall
        by_cases hltq : q < l.length
        · have hd4 : decide ((q : Int) < (l.length : Int)) = true := by simp; omega
          have hqi : (q : Int) < (l.length : Int) := by omega
          obtain ⟨x, hxl⟩ : ∃ x, l[q]? = some x := ⟨_, List.getElem?_eq_getElem hltq⟩
          obtain ⟨ub, uoff, rfl, hub, h0, -⟩ := Hxx.out q x hxl
          have Hxl := Lib.hid hxl
          clear hxl
          by_cases h100 : 100 < x.1.size
          · have hd5 : decide ((100 : Int) < (x.1.size : Int)) = true := by simp; omega
            have hr : rowLong l = true := by
              unfold rowLong
              rw [any_at (f := fun x : ROp => decide (100 < x.1.size)) Hxl.out (by simpa using h100)]
              simp
            have hres : res = true := by rw [← Hres.out]; exact any_at Hl.out hr
            subst hres
            clear hr
            go_wp2
            go_ret
            exact ⟨rfl, rfl⟩
          · have hd5 : decide ((100 : Int) < (x.1.size : Int)) = false := by simp; omega
            go_wp2
            go_round
            case rel =>
              refine ⟨q + 1, by omega, by go_num, fun j y hj hy => ?_⟩
              by_cases e : j = q
              · subst e
                rw [Hxl.out] at hy; cases hy
                simpa using h100
              · exact Hall2.out j y (by omega) hy
            case measure => simp [intOf]; omega
        · have hd4 : decide ((q : Int) < (l.length : Int)) = false := by simp; omega
          have hr : rowLong l = false := by
            unfold rowLong
            rw [any_none (fun i x hi => Hall2.out i x (by have := (List.getElem?_eq_some_iff.1 hi).1; omega) hi)]
            simp; omega
          have Hr := Lib.hid hr
          clear hr
          go_wp2
          go_round
          case rel =>
            refine ⟨k + 1, by omega, by go_num, fun j y hj hy => ?_⟩
            by_cases e : j = k
            · subst e
              rw [Hl.out] at hy; cases hy
              exact Hr.out
            · exact Hall.out j y (by omega) hy
          case measure => simp [intOf]; omega
    · have hd2 : decide ((k : Int) < (ll.length : Int)) = false := by simp; omega
      have hres : res = false := by
        rw [← Hres.out]
        exact any_none fun i l hi => Hall.out i l (by have := (List.getElem?_eq_some_iff.1 hi).1; omega) hi
      subst hres
      go_wp2
      go_ret
      exact ⟨rfl, rfl⟩
end Go.Proofs.YtppihkneeolomaaDoor
end
/- quiescentref2.Many, KindsFault: over any lists of ops. -/
section
namespace Go.Proofs.YtppihkneeolomaaDoor
open Go.RowKit Qs Qh
variable {N : Nat} {w w' : World} {v u : Value} {ll : List (List ROp)} {l : List ROp}
def manyB (ll : List (List ROp)) : Bool := decide (1 ≤ ll.length) && decide (ll.length ≤ 6) && ll.all fun l => decide (l.length ≤ 20)
set_option maxHeartbeats 4000000 in
theorem many_any (H : RIn N w v ll) (hlen : ll.length ≤ 10) (hrow : ∀ l ∈ ll, l.length ≤ 30) : Calls Tryd.prog 33 #[v] w fun e w' => e = .returned (.bool (manyB ll)) ∧ w' = w := by
  obtain ⟨a, c, rfl, hx⟩ := H
  have Hx := Lib.hid hx
  have Hrow := Lib.hid hrow
  clear hx hrow
  by_cases h1 : ll.length < 1
  · have hd : decide ((ll.length : Int) < 1) = true := by simp; omega
    have hb : manyB ll = false := by unfold manyB; simp; omega
    rw [hb]
    go_enter Tryd.func33, Tryd.ntmps33
    go_wp2
    go_ret
    exact ⟨rfl, rfl⟩
  have hd1 : decide ((ll.length : Int) < 1) = false := by simp; omega
  by_cases h6 : 6 < ll.length
  · have hd : decide ((6 : Int) < (ll.length : Int)) = true := by simp; omega
    have hb : manyB ll = false := by unfold manyB; simp; omega
    rw [hb]
    go_enter Tryd.func33, Tryd.ntmps33
    go_wp2
    go_ret
    exact ⟨rfl, rfl⟩
  have hd2 : decide ((6 : Int) < (ll.length : Int)) = false := by simp; omega
  have hb : manyB ll = ll.all fun l => decide (l.length ≤ 20) := by
    unfold manyB
    rw [decide_eq_true (show 1 ≤ ll.length by omega), decide_eq_true (show ll.length ≤ 6 by omega)]; rfl
  rw [hb]
  clear hb
  generalize hres : (ll.all fun l => decide (l.length ≤ 20)) = res at *
  have Hres := Lib.hid hres
  clear hres
  go_enter Tryd.func33, Tryd.ntmps33
  go_wp2
  go_loop [3] (fun i => ∃ k : Nat, k ≤ ll.length ∧ i = .int .i64 k ∧ ∀ (j : Nat) l, j < k → ll[j]? = some l → l.length ≤ 20) (fun i => ll.length - (intOf i).toNat)
  case atStart => exact ⟨0, Nat.zero_le _, rfl, fun j l h => by omega⟩
  case round =>
    obtain ⟨k, hk, rfl, hall⟩ := hrel
    have Hall := Lib.hid hall
    clear hall
    by_cases hlt : k < ll.length
    · have hd3 : decide ((k : Int) < (ll.length : Int)) = true := by simp; omega
      have hki : (k : Int) < (ll.length : Int) := by omega
      obtain ⟨l, hl⟩ : ∃ l, ll[k]? = some l := ⟨_, List.getElem?_eq_getElem hlt⟩
      obtain ⟨b, off, u, rfl, hb, hc, ⟨ua, uc, rfl, -⟩⟩ := Hx.out k l hl
      have Hl := Lib.hid hl
      clear hl
      by_cases h20 : 20 < l.length
      · have hd4 : decide ((20 : Int) < (l.length : Int)) = true := by simp; omega
        have hres : res = false := by
          rw [← Hres.out]
          rw [List.all_eq_false]
          exact ⟨l, List.mem_of_getElem? Hl.out, by simp; omega⟩
        subst hres
        go_wp2
        go_ret
        exact ⟨rfl, rfl⟩
      · have hd4 : decide ((20 : Int) < (l.length : Int)) = false := by simp; omega
        go_wp2
        go_round
        case rel =>
          refine ⟨k + 1, by omega, by go_num, fun j y hj hy => ?_⟩
          by_cases e : j = k
          · subst e
            rw [Hl.out] at hy; cases hy
            omega
          · exact Hall.out j y (by omega) hy
        case measure => simp [intOf]; omega
    · have hd3 : decide ((k : Int) < (ll.length : Int)) = false := by simp; omega
      have hres : res = true := by
        rw [← Hres.out, List.all_eq_true]
        intro l hl
        obtain ⟨i, hi⟩ := List.getElem?_of_mem hl
        have := Hall.out i l (by have := (List.getElem?_eq_some_iff.1 hi).1; omega) hi
        simpa using this
      subst hres
      go_wp2
      go_ret
      exact ⟨rfl, rfl⟩
theorem bare_ok (c : Int) (w : World) : Calls Tryd.prog 34 #[.int .i64 c] w fun e w' => e = .returned (.agg #[.int .i64 c, .int .i64 (-1)]) ∧ Mod noF w w' := by
  go_enter Tryd.func34, Tryd.ntmps34
  go_wp2
  exact bodyPost_ret (v := .agg #[.int .i64 c, .int .i64 (-1)]) (by simp [results, Tryd.results34, go_sem]) rfl ⟨rfl, (Mod.refl _ _).alloc _⟩
theorem fine_ok (w : World) : Calls Tryd.prog 35 #[] w fun e w' => e = .returned (.agg #[.int .i64 0, .int .i64 (-1)]) ∧ Mod noF w w' := by
  go_enter Tryd.func35, Tryd.ntmps35
  go_wp2
  exact bodyPost_ret (v := .agg #[.int .i64 0, .int .i64 (-1)]) (by simp [results, Tryd.results35, go_sem]) rfl ⟨rfl, (Mod.refl _ _).alloc _⟩
end Go.Proofs.YtppihkneeolomaaDoor
end
/- For the queue's laws: what is read of a machine, and of a start. -/
section
namespace Qh
open Go Go.RowKit Qs
variable {w w' : World} {v : Value}
theorem RowsAt.keepM {ll : List (List Int)} (h : RowsAt w v ll) (hM : Mod noF w w') : RowsAt w' v ll := by
  obtain ⟨a, c, e, hx⟩ := h
  refine ⟨a, c, e, fun i l hi => ?_⟩
  obtain ⟨b, off, u, e1, hb, hc, hi2, ho⟩ := hx i l hi
  exact ⟨b, off, u, e1, Nat.lt_of_lt_of_le hb hM.size, hM.cell hc (fun e => e), hi2.frame0 hM, fun g hg => Nat.lt_of_lt_of_le (ho g hg) hM.size⟩
theorem CodesAt.keepM {cs : List (List Instr)} {cv : Nat → Value} (h : CodesAt w v cs cv) (hM : Mod noF w w') : CodesAt w' v cs cv := by
  obtain ⟨a, c, e, hx⟩ := h
  refine ⟨a, c, e, fun i l hi => ?_⟩
  obtain ⟨b, off, e1, hb, hc, hi2, ho⟩ := hx i l hi
  exact ⟨b, off, e1, Nat.lt_of_lt_of_le hb hM.size, hM.cell hc (fun e => e), hi2.frame hM (fun _ _ e => e), fun g hg => Nat.lt_of_lt_of_le (ho g hg) hM.size⟩
theorem Mach.head {τ : Ty} {L : Lay} {m : M} {N : Int} (X : Mach τ w L m N) : w.heap[L.blk 0 0]? = some (.cells #[.pointer (some ⟨L.blk 1 0, 0, none⟩), L.row 4 0 m.T.length, L.row 5 0 m.marks.length, .int .i64 m.faults] τ.mach (0, 0)) :=
  X.rep.at_ 0 0 _ _ rfl rfl
theorem Mach.told {τ : Ty} {L : Lay} {m : M} {N : Int} (X : Mach τ w L m N) : ∃ a c, L.row 5 0 m.marks.length = .slice a m.marks.length c ∧ ∀ (i : Nat) x, m.marks[i]? = some x → ∃ b, a = some ⟨b, 0, none⟩ ∧ b < w.heap.size ∧ w.cell? ⟨b, i * 2, none⟩ = some (.int .i64 x.1) ∧ w.cell? ⟨b, i * 2 + 1, none⟩ = some (.int .i64 x.2) := by
  cases hn : L.nil 5 0 with
  | true =>
    have h0 := X.olt.n5 hn
    refine ⟨none, 0, by simp [Lay.row, hn, h0], fun i x hi => by rw [h0] at hi; simp at hi⟩
  | false =>
    have hh := X.rep.at_ 5 0 _ _ rfl (obj5 τ m hn)
    refine ⟨_, _, row_some hn, fun i x hi => ⟨_, rfl, lt_of_block hh, ?_, ?_⟩⟩
    · rw [cell_of_heap hh]
      have := flat_get markVals 2 (fun _ _ => rfl) (show 0 < 2 by omega) m.marks 0 i x hi (L.junk 5 0)
      simpa [markVals, iv] using this
    · rw [cell_of_heap hh]
      have := flat_get markVals 2 (fun _ _ => rfl) (show 1 < 2 by omega) m.marks 0 i x hi (L.junk 5 0)
      simpa [markVals, iv] using this
end Qh
namespace Go.Proofs.YtppihkneeolomaaDoor
open Go.RowKit Qs Qh
theorem qInit_fine : RowsFine 4 qInit := fun l hl => by
  simp only [qInit, List.mem_cons, List.not_mem_nil, or_false] at hl
  rcases hl with rfl | rfl
  · exact ⟨by decide, fun v hv => by cases hv⟩
  · exact ⟨by decide, by decide⟩
theorem qRegs_fine (n : Nat) : RowsFine 8 (qRegs n) := fun l hl => by
  rw [List.eq_of_mem_replicate hl]
  exact ⟨by decide, by decide⟩
theorem codes_fine {ll : List (List Qu.Op)} (h20 : ∀ l ∈ ll, l.length ≤ 20) (hp : ∀ l ∈ ll, ∀ v, Qu.Op.put v ∈ l → 1 ≤ v ∧ v ≤ 1000) : ∀ c ∈ ll.map (Qu.codeOf Qu.labO 0), CodeFine c := fun c hc => by
  obtain ⟨l, hl, rfl⟩ := List.mem_map.1 hc
  exact Qu.code_fine Qu.labO_lab Qu.labO_to (fun v hv => by have := hp l hl v hv; omega) (h20 l hl)
end Go.Proofs.YtppihkneeolomaaDoor
end
/- Lists of numbers that the queue's laws make: given, marked, count, within. -/
section
namespace Go.Proofs.YtppihkneeolomaaDoor
open Go.RowKit Qs Qh
/-- A list of numbers that its maker owns. -/
def IOwn (w : World) (x : Value) (l : List Int) : Prop := w.ownsRow 0 3 1 x l.length (l.map (Value.int .i64))
variable {N : Nat} {w w' w1 : World} {v u x : Value} {ll : List (List Qu.Op)} {l : List Qu.Op} {z : List Int}
theorem IOwn.nil (w : World) : IOwn w (.slice none 0 0) [] := World.ownsRow_nil w 0 _ 1
theorem IOwn.lt (h : IOwn w x z) {g : Nat} (hg : x.ownBlock = some g) : g < w.heap.size := (World.ownsRow.lt h g hg).2
theorem IOwn.keep (h : IOwn w x z) {F : Nat → Prop} (hM : Mod F w w1) (hF : ∀ g, x.ownBlock = some g → ¬ F g) : IOwn w1 x z := by
  refine ⟨h.1, ?_⟩
  rcases h.2 with e | ⟨g, cap, cur, rfl, h0, hg, r⟩
  · exact .inl e
  · exact .inr ⟨g, cap, cur, rfl, h0, hM.heap hg (hF g rfl), r⟩
theorem IOwn.snoc {y : Int} (h : w.ownsRow 0 3 1 x (z.length + 1) (z.map (Value.int .i64) ++ [.int .i64 y])) : IOwn w x (z ++ [y]) := by
  unfold IOwn
  rw [List.length_append, List.map_append]
  exact h
end Go.Proofs.YtppihkneeolomaaDoor
end
/- plain.Code, coded, at nil and at the program's sentinels. -/
section
namespace Go.Proofs.YtppihkneeolomaaDoor
open Go.RowKit Go.Extern.Stop Go.Stop Go.Extern Qh
/-- The sentinels' variables. -/
def errG : Nat → Nat
  | 0 => 2
  | 1 => 0
  | 2 => 1
  | 3 => 3
  | 4 => 4
  | 5 => 5
  | 6 => 6
  | 7 => 7
  | 8 => 8
  | _ => 0
/-- The package-level variables as the program's text lays them: nine sentinels, a type's handle. -/
structure ErrsAt (W : World) (a : Nat → Addr) : Prop where
  var : ∀ i, i < 9 → W.cell? ⟨errG i, 0, none⟩ = some (.iface 222 (.pointer (some (a i))))
  obj : ∀ i, i < 9 → ∃ c t, W.heap[(a i).block]? = some (.cells c t (0, 0))
  inj : ∀ i j, i < 9 → j < 9 → i ≠ j → a i ≠ a j
  et : W.cell? ⟨9, 0, none⟩ = some (.iface 192 (.agg #[.pointer (some ⟨14, 35, none⟩)]))
theorem ErrsAt.v0 {W : World} {a : Nat → Addr} (h : ErrsAt W a) : W.cell? ⟨2, 0, none⟩ = some (.iface 222 (.pointer (some (a 0)))) := h.var 0 (by omega)
theorem ErrsAt.v1 {W : World} {a : Nat → Addr} (h : ErrsAt W a) : W.cell? ⟨0, 0, none⟩ = some (.iface 222 (.pointer (some (a 1)))) := h.var 1 (by omega)
theorem ErrsAt.v2 {W : World} {a : Nat → Addr} (h : ErrsAt W a) : W.cell? ⟨1, 0, none⟩ = some (.iface 222 (.pointer (some (a 2)))) := h.var 2 (by omega)
theorem ErrsAt.v3 {W : World} {a : Nat → Addr} (h : ErrsAt W a) : W.cell? ⟨3, 0, none⟩ = some (.iface 222 (.pointer (some (a 3)))) := h.var 3 (by omega)
theorem ErrsAt.v4 {W : World} {a : Nat → Addr} (h : ErrsAt W a) : W.cell? ⟨4, 0, none⟩ = some (.iface 222 (.pointer (some (a 4)))) := h.var 4 (by omega)
theorem ErrsAt.v5 {W : World} {a : Nat → Addr} (h : ErrsAt W a) : W.cell? ⟨5, 0, none⟩ = some (.iface 222 (.pointer (some (a 5)))) := h.var 5 (by omega)
theorem ErrsAt.v6 {W : World} {a : Nat → Addr} (h : ErrsAt W a) : W.cell? ⟨6, 0, none⟩ = some (.iface 222 (.pointer (some (a 6)))) := h.var 6 (by omega)
theorem ErrsAt.v7 {W : World} {a : Nat → Addr} (h : ErrsAt W a) : W.cell? ⟨7, 0, none⟩ = some (.iface 222 (.pointer (some (a 7)))) := h.var 7 (by omega)
theorem ErrsAt.v8 {W : World} {a : Nat → Addr} (h : ErrsAt W a) : W.cell? ⟨8, 0, none⟩ = some (.iface 222 (.pointer (some (a 8)))) := h.var 8 (by omega)
theorem ErrsAt.keep {W W' : World} {a : Nat → Addr} (h : ErrsAt W a) (hM : Mod noF W W') : ErrsAt W' a :=
  ⟨fun i hi => hM.cell (h.var i hi) (fun e => e), fun i hi => by obtain ⟨c, t, e⟩ := h.obj i hi; exact ⟨c, t, hM.heap e (fun e => e)⟩, h.inj, hM.cell h.et (fun e => e)⟩
/-- The error of sentinel i. -/
def errV (a : Nat → Addr) (i : Nat) : Value := .iface 222 (.pointer (some (a i)))
theorem is_at {W : World} {a : Nat → Addr} (h : ErrsAt W a) {i k : Nat} (hi : i < 9) (hk : k < 9) :
    Calls Tryd.prog 75 #[errV a i, errV a k] W fun e w' => e = .returned (.bool (decide (i = k))) ∧ w' = W := by
  by_cases e : i = k
  · subst e
    exact (is_same (a i) W).mono fun _ _ h => ⟨by rw [h.1]; simp, h.2⟩
  · obtain ⟨c, t, e1⟩ := h.obj i hi
    obtain ⟨c2, t2, e2⟩ := h.obj k hk
    exact (is_other (a i) (a k) c c2 t t2 W (h.inj i k hi hk e) e1 e2).mono fun _ _ h => ⟨by rw [h.1]; simp [e], h.2⟩
theorem code_nil (w : World) : Calls Tryd.prog 48 #[.nilIface] w fun e w' => e = .returned (.tuple #[.int .i64 0, .int .i64 (-1)]) ∧ w' = w := by
  go_enter Tryd.func48, Tryd.ntmps48
  go_wp2
  go_ret2
  exact ⟨rfl, rfl⟩
set_option maxHeartbeats 4000000 in
theorem code_at {w : World} {a : Nat → Addr} (E : ErrsAt w a) (i : Nat) (hi : i < 9) :
    Calls Tryd.prog 48 #[errV a i] w fun e w' => e = .returned (.tuple #[.int .i64 ((i : Int) + 1), .int .i64 (-1)]) ∧ Mod noF w w' := by
  have HE := Lib.hid E
  clear E
  go_enter Tryd.func48, Tryd.ntmps48
  unfold errV
  go_wp2_with fail
  refine (as_miss (a i) ⟨w.heap.size, 0, none⟩ _ ((HE.out.keep ((Mod.refl noF w).alloc _)).et)).mono ?_
  rintro e w2 ⟨rfl, hm2⟩
  have hm := ((Mod.refl noF w).alloc (.cells #[.pointer none] 124)).trans0 hm2
  have E2 := HE.out.keep hm
  have v0 := E2.v0
  have v1 := E2.v1
  have v2 := E2.v2
  have v3 := E2.v3
  have v4 := E2.v4
  have v5 := E2.v5
  have v6 := E2.v6
  have v7 := E2.v7
  have v8 := E2.v8
  have Hm := Lib.hid hm
  have HE2 := Lib.hid E2
  clear hm2 hm E2
  go_wp2
  obtain ⟨wx, hwx⟩ : ∃ wx, w2.alloc (.cells #[.iface 222 (.pointer (some (a 0))), .iface 222 (.pointer (some (a 1))), .iface 222 (.pointer (some (a 2))), .iface 222 (.pointer (some (a 3))), .iface 222 (.pointer (some (a 4))), .iface 222 (.pointer (some (a 5))), .iface 222 (.pointer (some (a 6))), .iface 222 (.pointer (some (a 7))), .iface 222 (.pointer (some (a 8)))] 35) = wx := ⟨_, rfl⟩
  rw [hwx]
  have hq : Mod noF w2 wx := hwx ▸ (Mod.refl noF w2).alloc _
  have E3 := HE2.out.keep hq
  have hnew := hwx ▸ heap_alloc_new w2 (.cells #[.iface 222 (.pointer (some (a 0))), .iface 222 (.pointer (some (a 1))), .iface 222 (.pointer (some (a 2))), .iface 222 (.pointer (some (a 3))), .iface 222 (.pointer (some (a 4))), .iface 222 (.pointer (some (a 5))), .iface 222 (.pointer (some (a 6))), .iface 222 (.pointer (some (a 7))), .iface 222 (.pointer (some (a 8)))] 35)
  have hcell : ∀ k : Nat, k < 9 → wx.cell? ⟨w2.heap.size, 0 + k, none⟩ = some (errV a k) := fun k hk => by
    rw [cell_of_heap hnew]
    rcases (by omega : k = 0 ∨ k = 1 ∨ k = 2 ∨ k = 3 ∨ k = 4 ∨ k = 5 ∨ k = 6 ∨ k = 7 ∨ k = 8) with rfl | rfl | rfl | rfl | rfl | rfl | rfl | rfl | rfl <;> rfl
  have hfin := Hm.out.trans0 hq
  have HE3 := Lib.hid E3
  have Hcell := Lib.hid hcell
  have Hfin := Lib.hid hfin
  clear hwx hq E3 hnew hcell hfin v0 v1 v2 v3 v4 v5 v6 v7 v8
  go_loop [3, 5, 6, 27] (fun v3 _ _ x => ∃ k : Nat, k ≤ i ∧ x = .int .i64 k ∧ v3 = .int .i64 (-1)) (fun _ _ _ x => 9 - (intOf x).toNat)
  case atStart => exact ⟨0, Nat.zero_le _, rfl, rfl⟩
  case round =>
    obtain ⟨k, hk, rfl, rfl⟩ := hrel
    have hlt : (k : Int) < 9 := by omega
    have hd : decide ((k : Int) < 9) = true := by simp; omega
    have hc := Hcell.out k (by omega)
    rw [Nat.zero_add] at hc
    have hcall := is_at HE3.out hi (show k < 9 by omega)
    unfold errV at hc hcall
    have Hcall := Lib.hid hcall
    clear hcall
    go_wp2_with fail
    refine Hcall.out.mono ?_
    rintro e w' ⟨rfl, rfl⟩
    by_cases e : i = k
    · subst e
      have hdd : decide (i = i) = true := by simp
      rw [hdd]
      clear hdd
      go_wp2
      go_ret2
      exact ⟨rfl, Hfin.out⟩
    · have hdd : decide (i = k) = false := by simpa using e
      have hik : k < i := by omega
      rw [hdd]
      clear hdd e
      go_wp2
      go_round
      case rel => exact ⟨k + 1, by omega, by go_num, rfl⟩
      case measure => simp [intOf]; omega
end Go.Proofs.YtppihkneeolomaaDoor
end
