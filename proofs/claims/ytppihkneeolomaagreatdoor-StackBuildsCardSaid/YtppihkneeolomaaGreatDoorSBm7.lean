/- Texts that belong together, joined. -/
import Derived.Test.YtppihkneeolomaaGreatDoorSBm6
import Derived.Test.YtppihkneeolomaaGreatDoorSBNewWalk
import Derived.Test.YtppihkneeolomaaGreatDoorSBm1
import Derived.Test.YtppihkneeolomaaGreatDoorSBAs
import Derived.LoopTactic
import Derived.Outline
import Derived.Deep.RegionHeld3
import Derived.Test.YtppihkneeolomaaGreatDoorSBm5
import Derived.Test.YtppihkneeolomaaGreatDoorSBm3
set_option linter.unusedVariables false
set_option linter.unusedSimpArgs false
set_option linter.unusedSectionVars false
/- package client: the base of a start: rows of numbers, owned. -/
section
namespace Go.Proofs.YtppihkneeolomaaGreatDoor
open Go.RowKit Qs Qh
/-- A row's value: nil where there is none. -/
def rwU (l : List Int) (b : Nat) : Value := if l.length = 0 then .slice none 0 0 else .slice (some ⟨b, 0, none⟩) l.length l.length
def rwV (ll : List (List Int)) (bl : Nat → Nat) : List Value := ll.mapIdx fun i l => rwU l (bl i)
/-- Rows of numbers that their maker owns, in blocks of a range. -/
structure Rws (lo hi : Nat) (w : World) (v : Value) (ll : List (List Int)) (bl : Nat → Nat) : Prop where
  own : w.ownsRow 0 23 1 v ll.length (rwV ll bl)
  row : ∀ (i : Nat) l, ll[i]? = some l → l.length ≠ 0 → w.heap[bl i]? = some (.cells (l.map (Value.int .i64)).toArray 3 (0, 0))
  vin : ∀ g, v.ownBlock = some g → lo ≤ g ∧ g < hi
  bin : ∀ (i : Nat) l, ll[i]? = some l → l.length ≠ 0 → lo ≤ bl i ∧ bl i < hi
  vne : ∀ g (i : Nat) l, v.ownBlock = some g → ll[i]? = some l → l.length ≠ 0 → g ≠ bl i
  inj : ∀ (i j : Nat) l l', ll[i]? = some l → ll[j]? = some l' → l.length ≠ 0 → l'.length ≠ 0 → bl i = bl j → i = j
variable {lo hi : Nat} {w w1 w3 w4 : World} {v v4 : Value} {ll : List (List Int)} {bl : Nat → Nat}
theorem Rws.nil (lo hi : Nat) (w : World) (bl : Nat → Nat) : Rws lo hi w (.slice none 0 0) [] bl :=
  ⟨World.ownsRow_nil w 0 _ 1, fun i l h _ => by simp at h, fun g h => (by cases h), fun i l h _ => by simp at h, fun g i l h _ _ => (by cases h), fun i j l l' h _ _ _ _ => by simp at h⟩
theorem Rws.keep (R : Rws lo hi w v ll bl) {F : Nat → Prop} (hM : Mod F w w1) (hF : ∀ k, lo ≤ k → k < hi → ¬ F k) : Rws lo hi w1 v ll bl := by
  refine ⟨⟨R.own.1, ?_⟩, fun i l h h0 => hM.heap (R.row i l h h0) (hF _ (R.bin i l h h0).1 (R.bin i l h h0).2), R.vin, R.bin, R.vne, R.inj⟩
  rcases R.own.2 with e | ⟨g, cap, cur, rfl, h0, hg, r⟩
  · exact .inl e
  · exact .inr ⟨g, cap, cur, rfl, h0, hM.heap hg (hF _ (R.vin g rfl).1 (R.vin g rfl).2), r⟩
theorem Rws.more (R : Rws lo hi w v ll bl) {hi' : Nat} (h : hi ≤ hi') : Rws lo hi' w v ll bl :=
  ⟨R.own, R.row, fun g hg => ⟨(R.vin g hg).1, Nat.lt_of_lt_of_le (R.vin g hg).2 h⟩, fun i l hi h0 => ⟨(R.bin i l hi h0).1, Nat.lt_of_lt_of_le (R.bin i l hi h0).2 h⟩, R.vne, R.inj⟩
theorem rwV_push (l : List Int) (r : Nat) : rwV (ll ++ [l]) (fun i => if i = ll.length then r else bl i) = rwV ll bl ++ [rwU l r] := by
  unfold rwV
  rw [List.mapIdx_concat]
  simp only [if_true]
  congr 1
  refine List.ext_getElem? fun i => ?_
  rw [List.getElem?_mapIdx, List.getElem?_mapIdx]
  by_cases h : i < ll.length
  · rw [if_neg (by omega)]
  · rw [List.getElem?_eq_none (by omega)]; rfl
/-- A row more, in a block outside. -/
theorem Rws.push0 {lo0 : Nat} (h00 : lo0 ≤ lo) (R : Rws lo hi w v ll bl) (hhi : hi ≤ w.heap.size) (hlo : lo ≤ w.heap.size) (hM : Mod noF w w3) {l : List Int} {r : Nat} {B o : Nat} (hr0 : l.length ≠ 0 → lo0 ≤ r ∧ r ≠ B ∧ (hi ≤ r ∨ r < lo)) (hr : l.length ≠ 0 → w3.heap[r]? = some (.cells (l.map (Value.int .i64)).toArray 3 (0, 0)))
    (hown : w4.ownsRow 0 23 1 v4 (ll.length + 1) (rwV ll bl ++ [rwU l r])) (hg : w3.grownBy w4 v.ownBlock) (hfr : ∀ g, v4.ownBlock = some g → v.ownBlock = some g ∨ w3.heap.size ≤ g)
    (hB : ∀ k, lo ≤ k → k < hi → k ≠ B) (hBs : B < w.heap.size) :
    Rws lo0 w4.heap.size (w4.setCell ⟨B, o, none⟩ v4) v4 (ll ++ [l]) (fun i => if i = ll.length then r else bl i) ∧ Mod (fun k => k = B ∨ v.ownBlock = some k) w (w4.setCell ⟨B, o, none⟩ v4) := by
  have hM4 : Mod (fun x => v.ownBlock = some x) w w4 := hM.any.grown hg fun j hj _ => hj
  have hM4b : Mod (fun x => v.ownBlock = some x) w3 w4 := (Mod.refl (fun x => v.ownBlock = some x) w3).grown hg fun j hj _ => hj
  have hM5 : Mod (fun x => x = B) w4 (w4.setCell ⟨B, o, none⟩ v4) := (Mod.refl (fun x => x = B) w4).setCell (fun _ => rfl) v4
  have hall : Mod (fun x => x = B ∨ v.ownBlock = some x) w (w4.setCell ⟨B, o, none⟩ v4) := (hM4.mono fun x _ hx => .inr hx).trans hM5 fun x _ hx => .inl hx
  have hs1 := hM.size
  have hs2 := hM4b.size
  have hget : ∀ {i : Nat} {x : List Int}, (ll ++ [l])[i]? = some x → (i < ll.length ∧ ll[i]? = some x) ∨ (i = ll.length ∧ x = l) := fun {i x} h => by
    by_cases hi : i < ll.length
    · rw [List.getElem?_append_left hi] at h; exact .inl ⟨hi, h⟩
    · rw [List.getElem?_append_right (by omega)] at h
      have : i - ll.length = 0 := by have := (List.getElem?_eq_some_iff.1 h).1; simp at this; omega
      rw [this] at h; simp at h
      exact .inr ⟨by omega, h.symm⟩
  have hvin : ∀ g, v4.ownBlock = some g → lo0 ≤ g ∧ g < w4.heap.size ∧ g ≠ B := fun g hg4 => by
    have hlt := (World.ownsRow.lt hown g hg4).2
    rcases hfr g hg4 with e | e
    · have := R.vin g e; exact ⟨by omega, hlt, hB g this.1 this.2⟩
    · exact ⟨by omega, hlt, by omega⟩
  have hrl : l.length ≠ 0 → r < w3.heap.size := fun h0 => lt_of_block (hr h0)
  refine ⟨⟨?_, fun i x h h0 => ?_, fun g hg4 => ⟨(hvin g hg4).1, (hvin g hg4).2.1⟩, fun i x h h0 => ?_, fun g i x hg4 h h0 e => ?_, fun i j x y h1 h2 h3 h4 e => ?_⟩, hall⟩
  · rw [rwV_push, List.length_append]
    exact ownsRow_setCell_other hown (fun hx => (hvin _ hx).2.2 rfl) _
  · rcases hget h with ⟨hi, h⟩ | ⟨rfl, rfl⟩
    · rw [if_neg (show ¬ i = ll.length by omega)]
      have hb := R.bin i x h h0
      refine hall.heap (R.row i x h h0) fun e => ?_
      rcases e with e | e
      · exact hB _ hb.1 hb.2 e
      · exact R.vne _ i x e h h0 rfl
    · simp only [if_true]
      have hr1 := hr0 h0
      refine hM5.heap (hM4b.heap (hr h0) fun e => ?_) fun e => hr1.2.1 e
      have := R.vin r e; omega
  · rcases hget h with ⟨hi', h⟩ | ⟨rfl, rfl⟩
    · rw [if_neg (show ¬ i = ll.length by omega)]
      have hb := R.bin i x h h0
      exact ⟨by omega, by omega⟩
    · simp only [if_true]
      have := hr0 h0; have := hrl h0
      exact ⟨by omega, by omega⟩
  · rcases hget h with ⟨hi', h⟩ | ⟨rfl, rfl⟩
    · rw [if_neg (show ¬ i = ll.length by omega)] at e
      have hb := R.bin i x h h0
      rcases hfr g hg4 with e' | e'
      · exact R.vne g i x e' h h0 e
      · omega
    · simp only [if_true] at e
      subst e
      have := hr0 h0; have := hrl h0
      rcases hfr g hg4 with e' | e'
      · have := R.vin g e'; omega
      · omega
  · rcases hget h1 with ⟨hi1, q1⟩ | ⟨rfl, rfl⟩ <;> rcases hget h2 with ⟨hi2, q2⟩ | ⟨rfl, rfl⟩
    · rw [if_neg (show ¬ i = ll.length by omega), if_neg (show ¬ j = ll.length by omega)] at e
      exact R.inj i j x y q1 q2 h3 h4 e
    · simp only [if_true] at e; rw [if_neg (show ¬ i = ll.length by omega)] at e
      have := R.bin i x q1 h3; have := hr0 h4; omega
    · simp only [if_true] at e; rw [if_neg (show ¬ j = ll.length by omega)] at e
      have := R.bin j y q2 h4; have := hr0 h3; omega
    · rfl
/-- A row more. -/
theorem Rws.push (R : Rws lo hi w v ll bl) (hhi : hi ≤ w.heap.size) (hlo : lo ≤ w.heap.size) (hM : Mod noF w w3) {l : List Int} {r : Nat} {B o : Nat} (hr0 : l.length ≠ 0 → hi ≤ r ∧ lo ≤ r ∧ r ≠ B) (hr : l.length ≠ 0 → w3.heap[r]? = some (.cells (l.map (Value.int .i64)).toArray 3 (0, 0)))
    (hown : w4.ownsRow 0 23 1 v4 (ll.length + 1) (rwV ll bl ++ [rwU l r])) (hg : w3.grownBy w4 v.ownBlock) (hfr : ∀ g, v4.ownBlock = some g → v.ownBlock = some g ∨ w3.heap.size ≤ g)
    (hB : ∀ k, lo ≤ k → k < hi → k ≠ B) (hBs : B < w.heap.size) :
    Rws lo w4.heap.size (w4.setCell ⟨B, o, none⟩ v4) v4 (ll ++ [l]) (fun i => if i = ll.length then r else bl i) ∧ Mod (fun k => k = B ∨ v.ownBlock = some k) w (w4.setCell ⟨B, o, none⟩ v4) :=
  R.push0 (Nat.le_refl lo) hhi hlo hM (fun h => ⟨(hr0 h).2.1, (hr0 h).2.2, .inl (hr0 h).1⟩) hr hown hg hfr hB hBs
end Go.Proofs.YtppihkneeolomaaGreatDoor
end
/- package client: NewBase, Base.Cell. -/
section
namespace Go.Proofs.YtppihkneeolomaaGreatDoor
open Go.RowKit Qs Qh
def z8 : List Int := [0, 0, 0, 0, 0, 0, 0, 0]
theorem rowInfo : (Tryz.prog.info? 23).map (fun i => (i.zero, i.size, i.bytes)) = some (some (.slice none 0 0), 1, 24) := by kernel_rfl
/-- The base in memory. -/
def BaseAt (w : World) (B : Nat) (iv rv : Value) : Prop := w.heap[B]? = some (.cells #[.int .i64 64, iv, rv] 96 (0, 0))
theorem one_row (u : Value) (h : u.oneCell' = true) : ∀ x ∈ [u], x.oneCell' = true := fun x hx => by rw [List.mem_singleton] at hx; subst hx; exact h
theorem replicate_push (k : Nat) (x : List Int) : List.replicate (k + 1) x = List.replicate k x ++ [x] := by rw [List.replicate_succ']
theorem BaseAt.next2 {wr w3 w4 : World} {B lo hi r : Nat} {iv rv v4 : Value} {ll : List (List Int)} {l : List Int} {bl : Nat → Nat} (hB : BaseAt wr B iv rv) (R : Rws lo hi wr rv ll bl) (hhi : hi ≤ wr.heap.size) (hlo : lo ≤ wr.heap.size) (hBl : B < lo) (hM : Mod noF wr w3)
    (hr0 : l.length ≠ 0 → hi ≤ r ∧ lo ≤ r) (hr : l.length ≠ 0 → w3.heap[r]? = some (.cells (l.map (Value.int .i64)).toArray 3 (0, 0)))
    (hown : w4.ownsRow 0 23 1 v4 (ll.length + 1) (rwV ll bl ++ [rwU l r])) (hg : w3.grownBy w4 rv.ownBlock) (hfr : ∀ g, v4.ownBlock = some g → rv.ownBlock = some g ∨ w3.heap.size ≤ g) :
    BaseAt (w4.setCell ⟨B, 2, none⟩ v4) B iv v4 ∧ (∃ bl', Rws lo (w4.setCell ⟨B, 2, none⟩ v4).heap.size (w4.setCell ⟨B, 2, none⟩ v4) v4 (ll ++ [l]) bl') ∧ Mod (fun k => k = B ∨ rv.ownBlock = some k) wr (w4.setCell ⟨B, 2, none⟩ v4) := by
  have hBs : B < wr.heap.size := lt_of_block hB
  obtain ⟨R', hM'⟩ := R.push hhi hlo hM (fun h => ⟨(hr0 h).1, (hr0 h).2, by have := (hr0 h).2; omega⟩) hr hown hg hfr (B := B) (o := 2) (fun k h _ => by omega) hBs
  have hM4 : Mod (fun x => rv.ownBlock = some x) wr w4 := hM.any.grown hg fun j hj _ => hj
  have hB4 : w4.heap[B]? = _ := hM4.heap hB fun e => by have := (R.vin B e).1; omega
  have hs : (w4.setCell ⟨B, 2, none⟩ v4).heap.size = w4.heap.size := by simp [World.setCell]
  refine ⟨?_, ⟨_, hs ▸ R'⟩, hM'⟩
  unfold BaseAt
  rw [Qh.heap_setCell_same hB4]
  rfl
theorem BaseAt.next10 {lo0 : Nat} {wr w3 w4 : World} {B lo hi r : Nat} {iv rv v4 : Value} {ll : List (List Int)} {l : List Int} {bl : Nat → Nat} (hB : BaseAt wr B iv rv) (R : Rws lo hi wr iv ll bl) (h00 : lo0 ≤ lo) (hhi : hi ≤ wr.heap.size) (hlo : lo ≤ wr.heap.size) (hBl : B < lo) (hM : Mod noF wr w3)
    (hr0 : l.length ≠ 0 → lo0 ≤ r ∧ r ≠ B ∧ (hi ≤ r ∨ r < lo)) (hr : l.length ≠ 0 → w3.heap[r]? = some (.cells (l.map (Value.int .i64)).toArray 3 (0, 0)))
    (hown : w4.ownsRow 0 23 1 v4 (ll.length + 1) (rwV ll bl ++ [rwU l r])) (hg : w3.grownBy w4 iv.ownBlock) (hfr : ∀ g, v4.ownBlock = some g → iv.ownBlock = some g ∨ w3.heap.size ≤ g) :
    BaseAt (w4.setCell ⟨B, 1, none⟩ v4) B v4 rv ∧ (∃ bl', Rws lo0 (w4.setCell ⟨B, 1, none⟩ v4).heap.size (w4.setCell ⟨B, 1, none⟩ v4) v4 (ll ++ [l]) bl') ∧ Mod (fun k => k = B ∨ iv.ownBlock = some k) wr (w4.setCell ⟨B, 1, none⟩ v4) := by
  have hBs : B < wr.heap.size := lt_of_block hB
  obtain ⟨R', hM'⟩ := R.push0 h00 hhi hlo hM hr0 hr hown hg hfr (B := B) (o := 1) (fun k h _ => by omega) hBs
  have hM4 : Mod (fun x => iv.ownBlock = some x) wr w4 := hM.any.grown hg fun j hj _ => hj
  have hB4 : w4.heap[B]? = _ := hM4.heap hB fun e => by have := (R.vin B e).1; omega
  have hs : (w4.setCell ⟨B, 1, none⟩ v4).heap.size = w4.heap.size := by simp [World.setCell]
  refine ⟨?_, ⟨_, hs ▸ R'⟩, hM'⟩
  unfold BaseAt
  rw [Qh.heap_setCell_same hB4]
  rfl
set_option maxHeartbeats 4000000 in
theorem newBase_ok (n : Nat) (hn : n ≤ 6) (w : World) : Calls Tryz.prog 43 #[.int .i64 n] w fun e w' => ∃ rv rb, e = .returned (.pointer (some ⟨w.heap.size, 0, none⟩)) ∧ Mod noF w w' ∧ BaseAt w' w.heap.size (.slice none 0 0) rv ∧ Rws (w.heap.size + 1) w'.heap.size w' rv (List.replicate n z8) rb := by
  have hmk8 : ∀ w : World, (Instr.makeSlice 23 (.int .i64 8) (.int .i64 8)).run Tryz.prog w = .ok (.slice (some ⟨w.heap.size, 0, none⟩) 8 8) (w.alloc (.cells #[.int .i64 0, .int .i64 0, .int .i64 0, .int .i64 0, .int .i64 0, .int .i64 0, .int .i64 0, .int .i64 0] 3)) := fun _ => by kernel_rfl
  obtain ⟨i0, hti, hz0, hz1, hz2⟩ := info_parts rowInfo
  go_enter Tryz.func43, Tryz.ntmps43
  go_wp2
  go_loopw [8] (fun i wr => ∃ k : Nat, k ≤ n ∧ i = .int .i64 k ∧ Mod noF w wr ∧ w.heap.size + 1 ≤ wr.heap.size ∧ ∃ rv rb, BaseAt wr w.heap.size (.slice none 0 0) rv ∧ Rws (w.heap.size + 1) wr.heap.size wr rv (List.replicate k z8) rb) (fun i _ => n - (intOf i).toNat)
  case atStart => exact ⟨0, Nat.zero_le _, rfl, (Mod.refl _ _).alloc _, by simp, .slice none 0 0, fun _ => 0, by unfold BaseAt; exact heap_alloc_new _ _, Rws.nil _ _ _ _⟩
  case round =>
    rename_i wr
    obtain ⟨k, hk, rfl, hm, hsz, rv, rb, hB, R⟩ := hrel
    have b2 : wr.cell? ⟨w.heap.size, 2, none⟩ = some rv := by rw [cell_of_heap hB]; rfl
    have bf := free_of_heap hB 2
    obtain ⟨va, vb, vc, rfl⟩ := slice_of_own R.own
    have hvb : ¬ (Value.slice va vb vc).ownBlock = some w.heap.size := fun e => by have := (R.vin _ e).1; omega
    have b3 : (wr.alloc (.cells #[.int .i64 0, .int .i64 0, .int .i64 0, .int .i64 0, .int .i64 0, .int .i64 0, .int .i64 0, .int .i64 0] 3)).cell? ⟨w.heap.size, 2, none⟩ = some (.slice va vb vc) := ((Mod.refl noF wr).alloc _).cell b2 (fun e => e)
    have b4 : ((wr.alloc (.cells #[.int .i64 0, .int .i64 0, .int .i64 0, .int .i64 0, .int .i64 0, .int .i64 0, .int .i64 0, .int .i64 0] 3)).alloc (.cells #[.slice (some ⟨wr.heap.size, 0, none⟩) 8 8] 23)).cell? ⟨w.heap.size, 2, none⟩ = some (.slice va vb vc) := (((Mod.refl noF wr).alloc _).alloc _).cell b2 (fun e => e)
    have Hm := Lib.hid hm
    have HB := Lib.hid hB
    have HR := Lib.hid R
    have Hvb := Lib.hid hvb
    clear hm hB R hvb
    by_cases hlt : k < n
    · have hd : decide ((k : Int) < (n : Int)) = true := by simp; omega
      have hbnd : k + 1 ≤ maxLen := by unfold maxLen; omega
      go_wp2
      go_region_law (refine step_append_mine _ rfl (.tmp 15) (.tmp 17) 30 rfl 23 i0 (.slice none 0 0) 1 24 Tryz.underlying30 hti hz0 hz1 hz2 rfl (by decide) _ k (rwV (List.replicate k z8) rb) rfl (by have := HR.out.own; rw [List.length_replicate] at this; exact World.ownsRow.alloc (World.ownsRow.alloc this _) _) ⟨wr.heap.size + 1, 0, none⟩ 1 1 [.slice (some ⟨wr.heap.size, 0, none⟩) 8 8] rfl rfl (by exact new_cells_at _ _ _ (by simp)) (one_row _ rfl) hbnd (by omega) ?_; intro v4 w7 hown hgr hfr _; obtain ⟨xa, xb, xc, rfl⟩ := slice_of_own hown; have Hown := Lib.hid hown; have Hgr := Lib.hid hgr; have Hfr := Lib.hid hfr; have hm7 : Mod (fun x => (Value.slice va vb vc).ownBlock = some x) wr w7 := appended hgr (((Mod.refl noF wr).drew.alloc _).alloc _); have z2 := hm7.cell b2 Hvb.out; have zf := (World.frozen?_of_block (hm7.block w.heap.size (by omega) Hvb.out)).trans bf; clear hown hgr hfr hm7)
      all_goals
        go_wp2
        go_roundw
        case rel =>
          obtain ⟨hB', ⟨rb', R'⟩, hM'⟩ := HB.out.next2 HR.out (Nat.le_refl _) hsz (by omega) (((Mod.refl noF wr).alloc _).alloc _).drew (l := z8) (r := wr.heap.size) (fun _ => ⟨Nat.le_refl _, hsz⟩) (fun _ => (((Mod.refl noF _).alloc _).drew.heap (heap_alloc_new wr _) (fun e => e))) (by rw [List.length_replicate]; exact Hown.out) Hgr.out Hfr.out
          rw [← replicate_push] at R'
          exact ⟨k + 1, by omega, by go_num, Hm.out.trans hM' (fun x hx hf => by
            rcases hf with e | e
            · omega
            · have := (HR.out.vin x e).1; omega), by have := hM'.size; omega, _, rb', hB', R'⟩
        case measure => simp [intOf]; omega
    · have hd : decide ((k : Int) < (n : Int)) = false := by simp; omega
      obtain rfl : k = n := by omega
      go_wp2
      go_ret
      exact ⟨_, _, rfl, Hm.out, HB.out, HR.out⟩
theorem word0_ok (i : Nat) (hi : i < 64) (w : World) : Calls Tryz.prog 72 #[.agg #[.int .i64 i, .int .i64 0]] w fun e w' => e = .returned (.tuple #[.int .i64 ((i : Int) + 1), .nilIface]) ∧ Mod noF w w' := by
  have d0 : decide ((i : Int) < 0) = false := by simp
  have d1 : decide ((64 : Int) ≤ (i : Int)) = false := by simp; omega
  have d2 : decide ((4294967295 : Int) < (i : Int) + 1) = false := by simp; omega
  go_enter Tryz.func72, Tryz.ntmps72
  go_wp2
  go_ret2
  exact ⟨rfl, (Mod.refl _ _).alloc _⟩
end Go.Proofs.YtppihkneeolomaaGreatDoor
end
/- package client: Base.Cell. -/
section
namespace Go.Proofs.YtppihkneeolomaaGreatDoor
open Go.RowKit Qs Qh
variable {w w1 w2 : World} {B lo hi r : Nat} {iv rv : Value} {ll : List (List Int)} {l : List Int} {bl : Nat → Nat}
set_option maxHeartbeats 4000000 in
theorem cell_ok0 {lo0 : Nat} (h00 : lo0 ≤ lo) (hB : BaseAt w B iv rv) (R : Rws lo hi w iv ll bl) (hhi : hi ≤ w.heap.size) (hlo : lo ≤ w.heap.size) (hBl : B < lo) (h64 : ll.length < 64)
    (hr0 : l.length ≠ 0 → lo0 ≤ r ∧ r ≠ B ∧ (hi ≤ r ∨ r < lo)) (hr : l.length ≠ 0 → w.heap[r]? = some (.cells (l.map (Value.int .i64)).toArray 3 (0, 0))) :
    Calls Tryz.prog 45 #[.pointer (some ⟨B, 0, none⟩), rwU l r] w fun e w' => e = .returned (.int .i64 ((ll.length : Int) + 1)) ∧ ∃ iv', BaseAt w' B iv' rv ∧ (∃ bl', Rws lo0 w'.heap.size w' iv' (ll ++ [l]) bl') ∧ Mod (fun k => k = B ∨ iv.ownBlock = some k) w w' := by
  obtain ⟨i0, hti, hz0, hz1, hz2⟩ := info_parts rowInfo
  obtain ⟨va, vb, vc, rfl⟩ := slice_of_own R.own
  have hvb : ¬ (Value.slice va vb vc).ownBlock = some B := fun e => by have := (R.vin _ e).1; omega
  have hBs : B < w.heap.size := lt_of_block hB
  have hlen : vb = ll.length := by
    rcases R.own.2 with ⟨e, h0⟩ | ⟨g, cap, cur, e, _⟩
    · cases e; exact h0.symm
    · cases e; rfl
  subst hlen
  have c1 : w.cell? ⟨B, 1, none⟩ = some (.slice va ll.length vc) := by rw [cell_of_heap hB]; rfl
  have hcall := word0_ok ll.length h64 w
  have HB := Lib.hid hB
  have HR := Lib.hid R
  have Hvb := Lib.hid hvb
  have Hr := Lib.hid hr
  have Hr0 := Lib.hid hr0
  have Hcall := Lib.hid hcall
  have hbnd : ll.length + 1 ≤ maxLen := by unfold maxLen; omega
  have hone : (rwU l r).oneCell' = true := by unfold rwU; split <;> rfl
  obtain ⟨ua, ub, uc, hu⟩ : ∃ ua ub uc, Value.slice ua ub uc = rwU l r := by unfold rwU; split <;> exact ⟨_, _, _, rfl⟩
  rw [← hu] at hone ⊢
  have Hu := Lib.hid hu
  clear hB R hvb hr hr0 hcall hu
  go_enter Tryz.func45, Tryz.ntmps45
  go_wp2_with fail
  refine Hcall.out.mono ?_
  rintro e w1 ⟨rfl, hm1⟩
  have d1 := hm1.cell c1 (fun e => e)
  have df := (World.frozen?_of_block (hm1.block B hBs (fun e => e))).trans (free_of_heap HB.out 1)
  have hs1 := hm1.size
  have Hm1 := Lib.hid hm1
  clear hm1 Hcall c1
  go_wp2_with (at_builtin; refine wpList_append_mine _ rfl (.tmp 23) (.tmp 25) 30 rfl 23 i0 (.slice none 0 0) 1 24 Tryz.underlying30 hti hz0 hz1 hz2 rfl (by decide) _ ll.length (rwV ll bl) rfl (by exact World.ownsRow.alloc (owns_keep HR.out.own Hm1.out) _) ⟨w1.heap.size, 0, none⟩ 1 1 [.slice ua ub uc] rfl rfl (by exact new_cells_at _ _ _ (by simp)) (one_row _ hone) hbnd (by omega) ?_; intro v4 w7 hown hgr hfr _; obtain ⟨xa, xb, xc, rfl⟩ := slice_of_own hown; have Hown := Lib.hid hown; have hgr2 : (w1.alloc (.cells #[.slice ua ub uc] 23)).grownBy w7 (Value.slice va ll.length vc).ownBlock := hgr; have hfr2 : ∀ g, (Value.slice xa xb xc).ownBlock = some g → (Value.slice va ll.length vc).ownBlock = some g ∨ (w1.alloc (.cells #[.slice ua ub uc] 23)).heap.size ≤ g := hfr; have Hgr := Lib.hid hgr2; have Hfr := Lib.hid hfr2; have hm7 : Mod (fun x => (Value.slice va ll.length vc).ownBlock = some x) w1 w7 := appended hgr ((Mod.refl noF w1).alloc _); have z2 := hm7.cell d1 Hvb.out; have zf := (World.frozen?_of_block (hm7.block B (by omega) Hvb.out)).trans df; clear hown hgr hgr2 hfr2 hfr hm7)
  have hn := Hown.out
  rw [Hu.out] at hn
  obtain ⟨hB', ⟨bl', R'⟩, hM'⟩ := HB.out.next10 (w3 := w1.alloc (.cells #[.slice ua ub uc] 23)) (w4 := w7) (v4 := .slice xa xb xc) (l := l) (r := r) HR.out h00 hhi hlo hBl (Hm1.out.alloc _) Hr0.out (fun h => (Hm1.out.alloc _).heap (Hr.out h) (fun e => e)) hn Hgr.out Hfr.out
  go_ret
  exact ⟨rfl, _, hB', ⟨_, R'⟩, hM'⟩
theorem cell_ok (hB : BaseAt w B iv rv) (R : Rws lo hi w iv ll bl) (hhi : hi ≤ w.heap.size) (hlo : lo ≤ w.heap.size) (hBl : B < lo) (h64 : ll.length < 64)
    (hr0 : l.length ≠ 0 → hi ≤ r ∧ lo ≤ r) (hr : l.length ≠ 0 → w.heap[r]? = some (.cells (l.map (Value.int .i64)).toArray 3 (0, 0))) :
    Calls Tryz.prog 45 #[.pointer (some ⟨B, 0, none⟩), rwU l r] w fun e w' => e = .returned (.int .i64 ((ll.length : Int) + 1)) ∧ ∃ iv', BaseAt w' B iv' rv ∧ (∃ bl', Rws lo w'.heap.size w' iv' (ll ++ [l]) bl') ∧ Mod (fun k => k = B ∨ iv.ownBlock = some k) w w' :=
  cell_ok0 (Nat.le_refl lo) hB R hhi hlo hBl h64 (fun h => ⟨(hr0 h).2, by have := (hr0 h).2; omega, .inl (hr0 h).1⟩) hr
end Go.Proofs.YtppihkneeolomaaGreatDoor
end
/- stack.Check: lists of ops that are right. -/
section
namespace Go.Proofs.YtppihkneeolomaaGreatDoor
open Go.RowKit Qs Qh
def putS : ByteArray := ⟨#[112, 117, 116]⟩
def takeS : ByteArray := ⟨#[116, 97, 107, 101]⟩
def opK : Qu.Op → ByteArray
  | .put _ => putS
  | .take => takeS
def opN : Qu.Op → Int
  | .put n => n
  | .take => 0
/-- A thread's ops in memory, read only, in blocks below a bound. -/
def OpRow (N : Nat) (w : World) (u : Value) (l : List Qu.Op) : Prop :=
  ∃ a c, u = .slice a l.length c ∧ ∀ (i : Nat) x, l[i]? = some x → ∃ b off, a = some ⟨b, off, none⟩ ∧ b < N ∧ w.cell? ⟨b, off + i * 2, none⟩ = some (.string (opK x)) ∧ w.cell? ⟨b, off + i * 2 + 1, none⟩ = some (.int .i64 (opN x))
def OpsIn (N : Nat) (w : World) (v : Value) (ll : List (List Qu.Op)) : Prop :=
  ∃ a c, v = .slice a ll.length c ∧ ∀ (i : Nat) l, ll[i]? = some l → ∃ b off u, a = some ⟨b, off, none⟩ ∧ b < N ∧ w.cell? ⟨b, off + i, none⟩ = some u ∧ OpRow N w u l
variable {N : Nat} {w w' : World} {v u : Value} {ll : List (List Qu.Op)} {l : List Qu.Op}
theorem OpRow.keep (h : OpRow N w u l) {F : Nat → Prop} (hM : Mod F w w') (hF : ∀ b, b < N → ¬ F b) : OpRow N w' u l := by
  obtain ⟨a, c, e, hx⟩ := h
  refine ⟨a, c, e, fun i x hi => ?_⟩
  obtain ⟨b, off, e1, hb, h0, h1⟩ := hx i x hi
  exact ⟨b, off, e1, hb, hM.cell h0 (hF b hb), hM.cell h1 (hF b hb)⟩
theorem OpsIn.keep (h : OpsIn N w v ll) {F : Nat → Prop} (hM : Mod F w w') (hF : ∀ b, b < N → ¬ F b) : OpsIn N w' v ll := by
  obtain ⟨a, c, e, hx⟩ := h
  refine ⟨a, c, e, fun i x hi => ?_⟩
  obtain ⟨b, off, u, e1, hb, h0, h1⟩ := hx i x hi
  exact ⟨b, off, u, e1, hb, hM.cell h0 (hF b hb), h1.keep hM hF⟩
end Go.Proofs.YtppihkneeolomaaGreatDoor
end
/- package queue: rows set, codes made. -/
section
namespace Go.Proofs.YtppihkneeolomaaGreatDoor
open Go.RowKit Qs Qh
variable {lo hi k j : Nat} {w w1 w' : World} {v : Value} {ll : List (List Int)} {l : List Int} {bl : Nat → Nat} {x : Int}
theorem rwU_len {l l' : List Int} (h : l'.length = l.length) (b : Nat) : rwU l' b = rwU l b := by unfold rwU; rw [h]
theorem rwV_set (hl : ll[k]? = some l) {l' : List Int} (h : l'.length = l.length) : rwV (ll.set k l') bl = rwV ll bl := by
  unfold rwV
  refine List.ext_getElem? fun i => ?_
  rw [List.getElem?_mapIdx, List.getElem?_mapIdx, List.getElem?_set]
  by_cases e : k = i
  · subst e
    have hlt := (List.getElem?_eq_some_iff.1 hl).1
    rw [if_pos rfl, if_pos hlt, hl]
    simp [rwU_len h]
  · rw [if_neg e]
theorem Rws.set (R : Rws lo hi w v ll bl) (hl : ll[k]? = some l) (hj : j < l.length) : Rws lo hi (w.setCell ⟨bl k, j, none⟩ (.int .i64 x)) v (ll.set k (l.set j x)) bl ∧ Mod (fun b => b = bl k) w (w.setCell ⟨bl k, j, none⟩ (.int .i64 x)) := by
  have hM : Mod (fun b => b = bl k) w (w.setCell ⟨bl k, j, none⟩ (.int .i64 x)) := (Mod.refl (fun b => b = bl k) w).setCell (fun _ => rfl) _
  have hl0 : l.length ≠ 0 := by omega
  have hget : ∀ {i : Nat} {y : List Int}, (ll.set k (l.set j x))[i]? = some y → (i = k ∧ y = l.set j x) ∨ (i ≠ k ∧ ll[i]? = some y) := fun {i y} h => by
    rw [List.getElem?_set] at h
    by_cases e : k = i
    · rw [if_pos e] at h
      split at h
      · exact .inl ⟨e.symm, (Option.some.inj h).symm⟩
      · cases h
    · rw [if_neg e] at h; exact .inr ⟨fun h => e h.symm, h⟩
  have hsame : ∀ {i : Nat} {y : List Int}, (ll.set k (l.set j x))[i]? = some y → y.length ≠ 0 → ∃ z, ll[i]? = some z ∧ z.length ≠ 0 := fun {i y} h h0 => by
    rcases hget h with ⟨rfl, rfl⟩ | ⟨_, h⟩
    · exact ⟨l, hl, hl0⟩
    · exact ⟨y, h, h0⟩
  refine ⟨⟨?_, fun i y h h0 => ?_, R.vin, fun i y h h0 => ?_, fun g i y hg h h0 => ?_, fun i i' y y' h1 h2 h3 h4 => ?_⟩, hM⟩
  · rw [rwV_set hl (by simp), List.length_set]
    exact ownsRow_setCell_other R.own (fun e => R.vne _ k l e hl hl0 rfl) _
  · rcases hget h with ⟨rfl, rfl⟩ | ⟨hne, h⟩
    · rw [Qh.heap_setCell_same (R.row i l hl hl0)]
      congr 2
      simp [List.map_set]
    · exact hM.heap (R.row i y h h0) fun e => hne (R.inj i k y l h hl h0 hl0 e)
  · obtain ⟨z, hz, hz0⟩ := hsame h h0; exact R.bin i z hz hz0
  · obtain ⟨z, hz, hz0⟩ := hsame h h0; exact R.vne g i z hg hz hz0
  · obtain ⟨z, hz, hz0⟩ := hsame h1 h3
    obtain ⟨z', hz', hz0'⟩ := hsame h2 h4
    exact R.inj i i' z z' hz hz' hz0 hz0'
theorem intsAt_row {w : World} {b : Nat} {l : List Int} {T : TypeId} (h : w.heap[b]? = some (.cells (l.map (Value.int .i64)).toArray T (0, 0))) (hl : l.length ≤ maxLen) : IntsAt w (.slice (some ⟨b, 0, none⟩) l.length l.length) l :=
  ⟨_, _, rfl, hl, fun i x hi => ⟨b, 0, rfl, lt_of_block h, by rw [cell_of_heap h]; simp [hi]⟩⟩
theorem intsAt_none (w : World) : IntsAt w (.slice none 0 0) [] := ⟨none, 0, rfl, Nat.zero_le _, fun i x hi => by simp at hi⟩
theorem Rws.cell (R : Rws lo hi w v ll bl) : ∃ a c, v = .slice a ll.length c ∧ ∀ (i : Nat) l, ll[i]? = some l → ∃ b, a = some ⟨b, 0, none⟩ ∧ b < w.heap.size ∧ w.cell? ⟨b, i, none⟩ = some (rwU l (bl i)) := by
  rcases R.own.2 with ⟨rfl, h0⟩ | ⟨g, cap, cur, rfl, _, hg, h1, h2, h3, h4⟩
  · exact ⟨none, 0, by rw [h0], fun i l h => by have := (List.getElem?_eq_some_iff.1 h).1; omega⟩
  · refine ⟨_, cap, rfl, fun i l h => ⟨g, rfl, lt_of_block hg, ?_⟩⟩
    have hlt := (List.getElem?_eq_some_iff.1 h).1
    rw [cell_of_heap hg]
    have e : cur[i]? = (cur.toList.take (ll.length * 1))[i]? := by
      rw [List.getElem?_take, if_pos (by omega)]; simp
    rw [e, h4]
    unfold rwV
    rw [List.getElem?_mapIdx, h]; rfl
theorem Rws.rows (R : Rws lo hi w v ll bl) (hlen : ∀ l ∈ ll, l.length ≤ 100) : Qh.RowsAt w v ll := by
  obtain ⟨a, c, e, hx⟩ := R.cell
  refine ⟨a, c, e, fun i l h => ?_⟩
  obtain ⟨b, rfl, hb, hc⟩ := hx i l h
  refine ⟨b, 0, rwU l (bl i), rfl, hb, by rw [Nat.zero_add]; exact hc, ?_, fun g hg => ?_⟩
  · unfold rwU
    split
    · rename_i h0
      obtain rfl := List.eq_nil_of_length_eq_zero h0
      exact intsAt_none w
    · rename_i h0
      exact intsAt_row (R.row i l h h0) (by have := hlen l (List.mem_of_getElem? h); unfold maxLen; omega)
  · unfold rwU at hg
    split at hg
    · cases hg
    · rename_i h0
      cases hg
      exact lt_of_block (R.row i l h h0)
/-- The codes made so far. -/
structure Cds (S : Nat) (w : World) (cv : Value) (cs : Nat → List Instr) (k : Nat) (vk : Nat → Value) : Prop where
  own : w.ownsRow 0 71 1 cv k ((List.range k).map vk)
  vin : ∀ g, cv.ownBlock = some g → S ≤ g
  at_ : ∀ i, i < k → CodeAt w (vk i) (cs i)
  bin : ∀ i g, i < k → (vk i).ownBlock = some g → S ≤ g ∧ g < w.heap.size
  ne : ∀ i g, i < k → (vk i).ownBlock = some g → cv.ownBlock ≠ some g
variable {S : Nat} {cv cv' u : Value} {cs : Nat → List Instr} {vk : Nat → Value}
theorem Cds.nil (S : Nat) (w : World) (cs : Nat → List Instr) (vk : Nat → Value) : Cds S w (.slice none 0 0) cs 0 vk :=
  ⟨World.ownsRow_nil w 0 _ 1, fun g h => (by cases h), fun i h => by omega, fun i g h => by omega, fun i g h => by omega⟩
theorem Cds.keep (C : Cds S w cv cs k vk) {F : Nat → Prop} (hM : Mod F w w1) (hF : ∀ b, S ≤ b → b < w.heap.size → ¬ F b) : Cds S w1 cv cs k vk := by
  refine ⟨⟨C.own.1, ?_⟩, C.vin, fun i hi => (C.at_ i hi).frame hM fun b hb => hF b (C.bin i b hi hb).1 (C.bin i b hi hb).2, fun i g hi hg => ⟨(C.bin i g hi hg).1, Nat.lt_of_lt_of_le (C.bin i g hi hg).2 hM.size⟩, C.ne⟩
  rcases C.own.2 with e | ⟨g, cap, cur, rfl, h0, hg, r⟩
  · exact .inl e
  · exact .inr ⟨g, cap, cur, rfl, h0, hM.heap hg (hF _ (C.vin g rfl) (lt_of_block hg)), r⟩
theorem Cds.push (C : Cds S w cv cs k vk) (hS : S ≤ w.heap.size) (hc : CodeAt w u (cs k)) (hu : ∀ g, u.ownBlock = some g → S ≤ g ∧ g < w.heap.size ∧ cv.ownBlock ≠ some g)
    (hown : w1.ownsRow 0 71 1 cv' (k + 1) ((List.range k).map vk ++ [u])) (hg : w.grownBy w1 cv.ownBlock) (hfr : ∀ g, cv'.ownBlock = some g → cv.ownBlock = some g ∨ w.heap.size ≤ g) :
    Cds S w1 cv' cs (k + 1) (fun i => if i = k then u else vk i) := by
  have hM : Mod (fun x => cv.ownBlock = some x) w w1 := (Mod.refl (fun x => cv.ownBlock = some x) w).grown hg fun j hj _ => hj
  refine ⟨?_, fun g h => ?_, fun i hi => ?_, fun i g hi h => ?_, fun i g hi h e => ?_⟩
  · have : (List.range (k + 1)).map (fun i => if i = k then u else vk i) = (List.range k).map vk ++ [u] := by
      rw [List.range_succ, List.map_append]
      congr 1
      · refine List.map_congr_left fun i hi => ?_
        have := List.mem_range.1 hi
        rw [if_neg (by omega)]
      · simp
    rw [this]; exact hown
  · rcases hfr g h with e | e
    · exact C.vin g e
    · omega
  · by_cases e : i = k
    · subst e
      simp only [if_true]
      exact hc.frame hM fun b hb e => (hu b hb).2.2 e
    · rw [if_neg e]
      exact (C.at_ i (by omega)).frame hM fun b hb e' => C.ne i b (by omega) hb e'
  · have hs := hM.size
    by_cases e : i = k
    · subst e
      simp only [if_true] at h
      have := hu g h; exact ⟨this.1, by omega⟩
    · rw [if_neg e] at h
      have := C.bin i g (by omega) h; exact ⟨this.1, by omega⟩
  · have hlt : g < w.heap.size := by
      by_cases e : i = k
      · subst e
        simp only [if_true] at h
        exact (hu g h).2.1
      · rw [if_neg e] at h
        exact (C.bin i g (by omega) h).2
    rcases hfr g e with e' | e'
    · by_cases e2 : i = k
      · subst e2
        simp only [if_true] at h
        exact (hu g h).2.2 e'
      · rw [if_neg e2] at h
        exact C.ne i g (by omega) h e'
    · omega
theorem Cds.codes (C : Cds S w cv cs k vk) : CodesAt w cv ((List.range k).map cs) vk := by
  rcases C.own.2 with ⟨rfl, h0⟩ | ⟨g, cap, cur, rfl, _, hg, h1, h2, h3, h4⟩
  · subst h0
    exact ⟨none, 0, rfl, fun i l h => by simp at h⟩
  · refine ⟨some ⟨g, 0, none⟩, cap, by simp, fun i l h => ?_⟩
    have hlt : i < k := by have := (List.getElem?_eq_some_iff.1 h).1; simpa using this
    have hl : l = cs i := by
      rw [List.getElem?_map, List.getElem?_range hlt] at h
      exact (Option.some.inj h).symm
    subst hl
    refine ⟨g, 0, rfl, lt_of_block hg, ?_, C.at_ i hlt, fun b hb => (C.bin i b hlt hb).2⟩
    rw [cell_of_heap hg, Nat.zero_add]
    have e : cur[i]? = (cur.toList.take (k * 1))[i]? := by
      rw [List.getElem?_take, if_pos (by omega)]; simp
    rw [e, h4, List.getElem?_map, List.getElem?_range hlt]; rfl
end Go.Proofs.YtppihkneeolomaaGreatDoor
end
/- Rows by a function, turned one by one. -/
section
namespace Qc
def rowsF (g : Nat → List Int) (n : Nat) : List (List Int) := (List.range n).map g
/-- The first a rows turned. -/
def mixF (g1 g0 : Nat → List Int) (a : Nat) (i : Nat) : List Int := if i < a then g1 i else g0 i
variable {g g0 g1 : Nat → List Int} {n a : Nat}
theorem rowsF_len : (rowsF g n).length = n := by simp [rowsF]
theorem rowsF_get (h : a < n) : (rowsF g n)[a]? = some (g a) := by unfold rowsF; rw [List.getElem?_map, List.getElem?_range h]; rfl
theorem rowsF_none (h : n ≤ a) : (rowsF g n)[a]? = none := List.getElem?_eq_none (by rw [rowsF_len]; exact h)
theorem rowsF_ext (h : ∀ i, i < n → g0 i = g1 i) : rowsF g0 n = rowsF g1 n := by
  unfold rowsF
  exact List.map_congr_left fun i hi => h i (List.mem_range.1 hi)
theorem mix_zero : rowsF (mixF g1 g0 0) n = rowsF g0 n := rowsF_ext fun i _ => by unfold mixF; rw [if_neg (by omega)]
theorem mix_all : rowsF (mixF g1 g0 n) n = rowsF g1 n := rowsF_ext fun i h => by unfold mixF; rw [if_pos h]
theorem mix_get (h : a < n) : (rowsF (mixF g1 g0 a) n)[a]? = some (g0 a) := by rw [rowsF_get h]; unfold mixF; rw [if_neg (by omega)]
theorem mix_set (h : a < n) : (rowsF (mixF g1 g0 a) n).set a (g1 a) = rowsF (mixF g1 g0 (a + 1)) n := by
  refine List.ext_getElem? fun i => ?_
  rw [List.getElem?_set]
  by_cases e : a = i
  · subst e
    rw [if_pos rfl, if_pos (by rw [rowsF_len]; exact h), rowsF_get h]
    unfold mixF; rw [if_pos (by omega)]
  · rw [if_neg e]
    by_cases hi : i < n
    · rw [rowsF_get hi, rowsF_get hi]
      unfold mixF
      by_cases h2 : i < a
      · rw [if_pos h2, if_pos (by omega)]
      · rw [if_neg h2, if_neg (by omega)]
    · rw [rowsF_none (by omega), rowsF_none (by omega)]
theorem rows_replicate (z : List Int) : List.replicate n z = rowsF (fun _ => z) n := by
  unfold rowsF
  rw [List.map_const', List.length_range]
theorem rowsF_push : rowsF g n ++ [g n] = rowsF g (n + 1) := by unfold rowsF; rw [List.range_succ, List.map_append]; rfl
end Qc
end
/- plain.Code, coded, at nil and at the program's sentinels. -/
section
namespace Go.Proofs.YtppihkneeolomaaGreatDoor
open Go.RowKit Go.Extern.Stop Go.Stop Go.Extern Qh
/-- The sentinels' variables. -/
def errG : Nat → Nat
  | 0 => 2
  | 1 => 0
  | 2 => 1
  | 3 => 3
  | 4 => 4
  | 5 => 5
  | 6 => 6
  | 7 => 7
  | 8 => 8
  | _ => 0
/-- The package-level variables as the program's text lays them: nine sentinels, a type's handle. -/
structure ErrsAt (W : World) (a : Nat → Addr) : Prop where
  var : ∀ i, i < 9 → W.cell? ⟨errG i, 0, none⟩ = some (.iface 225 (.pointer (some (a i))))
  obj : ∀ i, i < 9 → ∃ c t, W.heap[(a i).block]? = some (.cells c t (0, 0))
  inj : ∀ i j, i < 9 → j < 9 → i ≠ j → a i ≠ a j
  et : W.cell? ⟨9, 0, none⟩ = some (.iface 194 (.agg #[.pointer (some ⟨14, 35, none⟩)]))
theorem ErrsAt.v0 {W : World} {a : Nat → Addr} (h : ErrsAt W a) : W.cell? ⟨2, 0, none⟩ = some (.iface 225 (.pointer (some (a 0)))) := h.var 0 (by omega)
theorem ErrsAt.v1 {W : World} {a : Nat → Addr} (h : ErrsAt W a) : W.cell? ⟨0, 0, none⟩ = some (.iface 225 (.pointer (some (a 1)))) := h.var 1 (by omega)
theorem ErrsAt.v2 {W : World} {a : Nat → Addr} (h : ErrsAt W a) : W.cell? ⟨1, 0, none⟩ = some (.iface 225 (.pointer (some (a 2)))) := h.var 2 (by omega)
theorem ErrsAt.v3 {W : World} {a : Nat → Addr} (h : ErrsAt W a) : W.cell? ⟨3, 0, none⟩ = some (.iface 225 (.pointer (some (a 3)))) := h.var 3 (by omega)
theorem ErrsAt.v4 {W : World} {a : Nat → Addr} (h : ErrsAt W a) : W.cell? ⟨4, 0, none⟩ = some (.iface 225 (.pointer (some (a 4)))) := h.var 4 (by omega)
theorem ErrsAt.v5 {W : World} {a : Nat → Addr} (h : ErrsAt W a) : W.cell? ⟨5, 0, none⟩ = some (.iface 225 (.pointer (some (a 5)))) := h.var 5 (by omega)
theorem ErrsAt.v6 {W : World} {a : Nat → Addr} (h : ErrsAt W a) : W.cell? ⟨6, 0, none⟩ = some (.iface 225 (.pointer (some (a 6)))) := h.var 6 (by omega)
theorem ErrsAt.v7 {W : World} {a : Nat → Addr} (h : ErrsAt W a) : W.cell? ⟨7, 0, none⟩ = some (.iface 225 (.pointer (some (a 7)))) := h.var 7 (by omega)
theorem ErrsAt.v8 {W : World} {a : Nat → Addr} (h : ErrsAt W a) : W.cell? ⟨8, 0, none⟩ = some (.iface 225 (.pointer (some (a 8)))) := h.var 8 (by omega)
theorem ErrsAt.keep {W W' : World} {a : Nat → Addr} (h : ErrsAt W a) (hM : Mod noF W W') : ErrsAt W' a :=
  ⟨fun i hi => hM.cell (h.var i hi) (fun e => e), fun i hi => by obtain ⟨c, t, e⟩ := h.obj i hi; exact ⟨c, t, hM.heap e (fun e => e)⟩, h.inj, hM.cell h.et (fun e => e)⟩
/-- The error of sentinel i. -/
def errV (a : Nat → Addr) (i : Nat) : Value := .iface 225 (.pointer (some (a i)))
theorem is_at {W : World} {a : Nat → Addr} (h : ErrsAt W a) {i k : Nat} (hi : i < 9) (hk : k < 9) :
    Calls Tryz.prog 88 #[errV a i, errV a k] W fun e w' => e = .returned (.bool (decide (i = k))) ∧ w' = W := by
  by_cases e : i = k
  · subst e
    exact (is_same (a i) W).mono fun _ _ h => ⟨by rw [h.1]; simp, h.2⟩
  · obtain ⟨c, t, e1⟩ := h.obj i hi
    obtain ⟨c2, t2, e2⟩ := h.obj k hk
    exact (is_other (a i) (a k) c c2 t t2 W (h.inj i k hi hk e) e1 e2).mono fun _ _ h => ⟨by rw [h.1]; simp [e], h.2⟩
theorem code_nil (w : World) : Calls Tryz.prog 59 #[.nilIface] w fun e w' => e = .returned (.tuple #[.int .i64 0, .int .i64 (-1)]) ∧ w' = w := by
  go_enter Tryz.func59, Tryz.ntmps59
  go_wp2
  go_ret2
  exact ⟨rfl, rfl⟩
set_option maxHeartbeats 4000000 in
theorem code_at {w : World} {a : Nat → Addr} (E : ErrsAt w a) (i : Nat) (hi : i < 9) :
    Calls Tryz.prog 59 #[errV a i] w fun e w' => e = .returned (.tuple #[.int .i64 ((i : Int) + 1), .int .i64 (-1)]) ∧ Mod noF w w' := by
  have HE := Lib.hid E
  clear E
  go_enter Tryz.func59, Tryz.ntmps59
  unfold errV
  go_wp2_with fail
  refine (as_miss (a i) ⟨w.heap.size, 0, none⟩ _ ((HE.out.keep ((Mod.refl noF w).alloc _)).et)).mono ?_
  rintro e w2 ⟨rfl, hm2⟩
  have hm := ((Mod.refl noF w).alloc (.cells #[.pointer none] 125)).trans0 hm2
  have E2 := HE.out.keep hm
  have v0 := E2.v0
  have v1 := E2.v1
  have v2 := E2.v2
  have v3 := E2.v3
  have v4 := E2.v4
  have v5 := E2.v5
  have v6 := E2.v6
  have v7 := E2.v7
  have v8 := E2.v8
  have Hm := Lib.hid hm
  have HE2 := Lib.hid E2
  clear hm2 hm E2
  go_wp2
  obtain ⟨wx, hwx⟩ : ∃ wx, w2.alloc (.cells #[.iface 225 (.pointer (some (a 0))), .iface 225 (.pointer (some (a 1))), .iface 225 (.pointer (some (a 2))), .iface 225 (.pointer (some (a 3))), .iface 225 (.pointer (some (a 4))), .iface 225 (.pointer (some (a 5))), .iface 225 (.pointer (some (a 6))), .iface 225 (.pointer (some (a 7))), .iface 225 (.pointer (some (a 8)))] 35) = wx := ⟨_, rfl⟩
  rw [hwx]
  have hq : Mod noF w2 wx := hwx ▸ (Mod.refl noF w2).alloc _
  have E3 := HE2.out.keep hq
  have hnew := hwx ▸ heap_alloc_new w2 (.cells #[.iface 225 (.pointer (some (a 0))), .iface 225 (.pointer (some (a 1))), .iface 225 (.pointer (some (a 2))), .iface 225 (.pointer (some (a 3))), .iface 225 (.pointer (some (a 4))), .iface 225 (.pointer (some (a 5))), .iface 225 (.pointer (some (a 6))), .iface 225 (.pointer (some (a 7))), .iface 225 (.pointer (some (a 8)))] 35)
  have hcell : ∀ k : Nat, k < 9 → wx.cell? ⟨w2.heap.size, 0 + k, none⟩ = some (errV a k) := fun k hk => by
    rw [cell_of_heap hnew]
    rcases (by omega : k = 0 ∨ k = 1 ∨ k = 2 ∨ k = 3 ∨ k = 4 ∨ k = 5 ∨ k = 6 ∨ k = 7 ∨ k = 8) with rfl | rfl | rfl | rfl | rfl | rfl | rfl | rfl | rfl <;> rfl
  have hfin := Hm.out.trans0 hq
  have HE3 := Lib.hid E3
  have Hcell := Lib.hid hcell
  have Hfin := Lib.hid hfin
  clear hwx hq E3 hnew hcell hfin v0 v1 v2 v3 v4 v5 v6 v7 v8
  go_loop [3, 5, 6, 27] (fun v3 _ _ x => ∃ k : Nat, k ≤ i ∧ x = .int .i64 k ∧ v3 = .int .i64 (-1)) (fun _ _ _ x => 9 - (intOf x).toNat)
  case atStart => exact ⟨0, Nat.zero_le _, rfl, rfl⟩
  case round =>
    obtain ⟨k, hk, rfl, rfl⟩ := hrel
    have hlt : (k : Int) < 9 := by omega
    have hd : decide ((k : Int) < 9) = true := by simp; omega
    have hc := Hcell.out k (by omega)
    rw [Nat.zero_add] at hc
    have hcall := is_at HE3.out hi (show k < 9 by omega)
    unfold errV at hc hcall
    have Hcall := Lib.hid hcall
    clear hcall
    go_wp2_with fail
    refine Hcall.out.mono ?_
    rintro e w' ⟨rfl, rfl⟩
    by_cases e : i = k
    · subst e
      have hdd : decide (i = i) = true := by simp
      rw [hdd]
      clear hdd
      go_wp2
      go_ret2
      exact ⟨rfl, Hfin.out⟩
    · have hdd : decide (i = k) = false := by simpa using e
      have hik : k < i := by omega
      rw [hdd]
      clear hdd e
      go_wp2
      go_round
      case rel => exact ⟨k + 1, by omega, by go_num, rfl⟩
      case measure => simp [intOf]; omega
end Go.Proofs.YtppihkneeolomaaGreatDoor
end
/- SpinCode: the plain law: a lock's code is right, whatever its numbers; what it writes. -/
section
namespace Go.Proofs.YtppihkneeolomaaGreatDoor
open Go.RowKit Qs Qh
theorem getD_set_ne (l : List Bool) (k i : Nat) (b : Bool) (h : ¬ i = k) : (l.set k b).getD i false = l.getD i false := by
  rw [List.getD_eq_getElem?_getD, List.getD_eq_getElem?_getD, List.getElem?_set_ne (Ne.symm h)]
end Go.Proofs.YtppihkneeolomaaGreatDoor
end
/- Code whose labels begin with a prefix: right for every prefix, if it is for one. -/
section
namespace Go.Proofs.YtppihkneeolomaaGreatDoor
open Go.RowKit Qs Qh
def preI (p : List UInt8) (x : Instr) : Instr := ⟨x.op, x.A, x.B, x.C, if x.to.isEmpty then [] else p ++ x.to⟩
def preC (p : List UInt8) (l : List Instr) : List Instr := l.map (preI p)
abbrev pre4 : List UInt8 := [97, 97, 97, 97]
theorem preI_empty {p q : List UInt8} (hp : p ≠ []) (hq : q ≠ []) (x : Instr) : (preI p x).to.isEmpty = (preI q x).to.isEmpty := by
  unfold preI
  cases x.to with
  | nil => rfl
  | cons c l =>
    obtain ⟨a, p, rfl⟩ := List.exists_cons_of_ne_nil hp
    obtain ⟨b, q, rfl⟩ := List.exists_cons_of_ne_nil hq
    rfl
theorem nameB_ne {p : List UInt8} (h : nameB p = true) : p ≠ [] := fun e => by subst e; cases h
theorem nameB_pre {p t : List UInt8} (hn : nameB p = true) (hl : p.length ≤ 4) (h : nameB (pre4 ++ t) = true) : nameB (p ++ t) = true := by
  match p, hn with
  | d :: r, hn =>
    simp only [nameB, Bool.and_eq_true, decide_eq_true_eq, List.all_cons] at hn
    obtain ⟨⟨h1, h2⟩, h3, h4⟩ := hn
    simp only [List.cons_append, List.nil_append, nameB, Bool.and_eq_true, decide_eq_true_eq, List.all_cons, List.all_append] at h ⊢
    obtain ⟨⟨g1, g2⟩, g3, g4, g5, g6, g7⟩ := h
    refine ⟨⟨?_, h2⟩, h3, h4, g7⟩
    simp at hl g1 ⊢; omega
theorem preI_name {p : List UInt8} (hn : nameB p = true) (hl : p.length ≤ 4) (x : Instr) (h : nameB (preI pre4 x).to = true) : nameB (preI p x).to = true := by
  unfold preI at h ⊢
  simp only at h ⊢
  split at h
  · cases h
  · rename_i hne
    rw [if_neg hne]
    exact nameB_pre hn hl h
theorem insFine_pre {p : List UInt8} (hn : nameB p = true) (hl : p.length ≤ 4) (x : Instr) (h : insFine (preI pre4 x) = true) : insFine (preI p x) = true := by
  have h1 := preI_empty (nameB_ne hn) (q := pre4) (by simp) x
  have h2 := preI_name hn hl x
  unfold insFine at h ⊢
  generalize (preI p x).to = tp at *
  generalize (preI pre4 x).to = tq at *
  simp only [preI] at h ⊢
  split at h <;> simp_all
theorem labelAt_pre (p t : List UInt8) (ht : t ≠ []) : ∀ (l : List Instr) (i : Nat), labelAt (p ++ t) (preC p l) i = labelAt t l i
  | [], _ => rfl
  | x :: l, i => by
    show labelAt _ (preI p x :: preC p l) i = _
    unfold labelAt
    rw [labelAt_pre p t ht l (i + 1)]
    have e : ((preI p x).op = 17 ∧ (preI p x).to = p ++ t) ↔ (x.op = 17 ∧ x.to = t) := by
      unfold preI
      simp only
      refine and_congr_right fun _ => ?_
      cases h : x.to with
      | nil =>
        simp only [List.isEmpty_nil, if_true]
        constructor
        · intro e
          have := congrArg List.length e
          simp only [List.length_nil, List.length_append] at this
          exact absurd (List.length_eq_zero_iff.1 (show t.length = 0 by omega)) ht
        · intro e; exact absurd e.symm ht
      | cons c r =>
        simp only [List.isEmpty_cons, Bool.false_eq_true, if_false]
        exact ⟨fun e => List.append_cancel_left e, fun e => by rw [e]⟩
    simp only [e]
def preOk (l : List Instr) : Bool := codeFineB (preC pre4 l) && l.all (fun x => !decide (x.op = 17) || !x.to.isEmpty) && l.all (fun x => wop x.op)
theorem preC_fine {p : List UInt8} (hn : nameB p = true) (hl : p.length ≤ 4) {l : List Instr} (h : preOk l = true) : CodeFine (preC p l) := by
  unfold preOk at h
  simp only [Bool.and_eq_true, List.all_eq_true] at h
  obtain ⟨⟨h1, h2⟩, h3⟩ := h
  have F := codeFine_of h1
  refine ⟨?_, fun y hy => ?_, fun i y hy h17 => ?_, fun y hy hne => ?_⟩
  · have := F.len; simpa [preC] using this
  · obtain ⟨x, hx, rfl⟩ := List.mem_map.1 hy
    exact insFine_pre hn hl x (F.ins _ (List.mem_map_of_mem hx))
  · unfold preC at hy
    rw [List.getElem?_map] at hy
    obtain ⟨x, hx, rfl⟩ := Option.map_eq_some_iff.1 hy
    have h17' : x.op = 17 := h17
    have hto := h2 x (List.mem_of_getElem? hx)
    rw [h17'] at hto
    have hne : x.to ≠ [] := by intro e; rw [e] at hto; simp at hto
    have e1 : ∀ q : List UInt8, (preI q x).to = q ++ x.to := fun q => by unfold preI; simp only; rw [if_neg (by simpa using hne)]
    rw [e1, labelAt_pre p _ hne, ← labelAt_pre pre4 _ hne, ← e1]
    exact F.set i _ (by unfold preC; rw [List.getElem?_map, hx]; rfl) h17'
  · obtain ⟨x, hx, rfl⟩ := List.mem_map.1 hy
    have hne' : x.to ≠ [] := by intro e; apply hne; unfold preI; rw [e]; rfl
    have e1 : ∀ q : List UInt8, (preI q x).to = q ++ x.to := fun q => by unfold preI; simp only; rw [if_neg (by simpa using hne')]
    rw [e1, labelAt_pre p _ hne', ← labelAt_pre pre4 _ hne', ← e1]
    exact F.lab _ (List.mem_map_of_mem hx) (by rw [e1]; simp)
end Go.Proofs.YtppihkneeolomaaGreatDoor
end
/- package grace: the maker of code, in memory; take, give. -/
section
namespace Go.Proofs.YtppihkneeolomaaGreatDoor
open Go.RowKit Qs Qh
/-- The maker's other fields: what it is of, its labels' first bytes. -/
structure MkAt (w : World) (b : Nat) (br : ByteArray) (fe jo co : Bool) (s : ByteArray) : Prop where
  c0 : w.cell? ⟨b, 0, none⟩ = some (.string br)
  c1 : w.cell? ⟨b, 1, none⟩ = some (.bool fe)
  c2 : w.cell? ⟨b, 2, none⟩ = some (.bool jo)
  c3 : w.cell? ⟨b, 3, none⟩ = some (.bool co)
  c5 : w.cell? ⟨b, 5, none⟩ = some (.string s)
/-- A variable of its own that code beside it reads: no block of the code's. -/
structure Cap (w : World) (b c : Nat) (u : Value) : Prop where
  cell : w.cell? ⟨c, 0, none⟩ = some u
  lt : c < w.heap.size
  ne : c ≠ b
  row : ∀ v, w.cell? ⟨b, 4, none⟩ = some v → v.ownBlock ≠ some c
variable {w0 w w1 : World} {b o : Nat} {v0 : Value} {l : List Instr} {br s : ByteArray} {fe jo co : Bool} {u : Value} {c : Nat}
theorem MkAt.quiet (M : MkAt w b br fe jo co s) (h : Mod noF w w1) : MkAt w1 b br fe jo co s :=
  ⟨h.cell M.c0 (fun e => e), h.cell M.c1 (fun e => e), h.cell M.c2 (fun e => e), h.cell M.c3 (fun e => e), h.cell M.c5 (fun e => e)⟩
theorem Chain.mk (C : Chain w0 b 4 v0 l w) (M : MkAt w0 b br fe jo co s) : MkAt w b br fe jo co s := by
  obtain ⟨hb, v, E, G⟩ := C
  exact ⟨G.cells 0 _ (by omega) M.c0, G.cells 1 _ (by omega) M.c1, G.cells 2 _ (by omega) M.c2, G.cells 3 _ (by omega) M.c3, G.cells 5 _ (by omega) M.c5⟩
theorem Chain.cap (C : Chain w0 b 4 v0 l w) (hq : Mod noF w w1) (hc : w.heap.size ≤ c) (hlt : c < w1.heap.size) (h : w1.cell? ⟨c, 0, none⟩ = some u) : Cap w1 b c u := by
  obtain ⟨v, C1, hv, hf, _⟩ := C.re hq
  refine ⟨h, hlt, ?_, fun v' hv' e => ?_⟩
  · have := C.lt; omega
  · rw [hv] at hv'; obtain rfl := Option.some.inj hv'; exact hf c hc e
theorem Cap.next {v : Value} {l' : List Instr} (K : Cap w b c u) (hv : w.cell? ⟨b, 4, none⟩ = some v) (C : Chain w b 4 v l' w1) : Cap w1 b c u := by
  obtain ⟨hb, v', E, G⟩ := C
  have hne := K.row v hv
  refine ⟨G.mod.cell K.cell (fun e => e.elim K.ne hne), Nat.lt_of_lt_of_le K.lt G.mod.size, K.ne, fun v2 h2 e => ?_⟩
  rw [E.cell] at h2
  obtain rfl := Option.some.inj h2
  rcases G.new c e with h | h
  · exact hne h
  · have := K.lt; omega
theorem Cap.quiet (K : Cap w b c u) (hb : b < w.heap.size) (h : Mod noF w w1) : Cap w1 b c u := by
  refine ⟨h.cell K.cell (fun e => e), Nat.lt_of_lt_of_le K.lt h.size, K.ne, fun v hv => K.row v ?_⟩
  have := h.block b hb (fun e => e)
  unfold World.cell? at hv ⊢
  simp only at hv ⊢
  rw [← this]; exact hv
theorem nameB_one {p : List UInt8} {c : UInt8} (h : nameB p = true) (hl : p.length ≤ 8) (hc : chB c = true) : nameB (p ++ [c]) = true := by
  match p, h with
  | d :: r, h =>
    simp only [nameB, Bool.and_eq_true, decide_eq_true_eq, List.all_cons] at h
    obtain ⟨⟨h1, h2⟩, h3, h4⟩ := h
    simp only [List.cons_append, nameB, Bool.and_eq_true, decide_eq_true_eq, List.all_cons, List.all_append, List.all_nil]
    refine ⟨⟨by simp at hl ⊢; omega, h2⟩, h3, h4, ?_⟩
    simp [hc]
theorem look_plus {c : UInt8} (hn : nameB s.data.toList = true) (hs : s.size ≤ 4) (hc : chB c = true) : LookOk (⟨(s.data.toList ++ [c]).toArray⟩ : ByteArray) 7 1 0 := by
  have hl : s.data.toList.length = s.size := bytes_len s
  refine ⟨nameB_one hn (by omega) hc, ?_, by decide, by decide, by decide, by decide, by decide, by decide, by decide, by decide⟩
  show ((s.data.toList ++ [c]).toArray).size ≤ 8
  simp; simp at hl; omega
theorem take_plus (s : ByteArray) (w : World) (hn : nameB s.data.toList = true) (hs : s.size ≤ 4) (x : ByteArray) (hx : (⟨(s.data.toList ++ [116]).toArray⟩ : ByteArray) = x) :
    Calls Tryz.prog 121 #[.string x, .int .i64 7, .int .i64 1, .int .i64 0] w fun e w' => ∃ v, e = .returned (.tuple #[v, .nilIface]) ∧ Made (takeCode (s.data.toList ++ [116]) 7 1 0) w v w' := by
  subst hx; exact take_ok _ 7 1 0 w (look_plus hn hs (by decide))
theorem give_plus (s : ByteArray) (w : World) (hn : nameB s.data.toList = true) (hs : s.size ≤ 4) (x : ByteArray) (hx : (⟨(s.data.toList ++ [103]).toArray⟩ : ByteArray) = x) :
    Calls Tryz.prog 123 #[.string x, .int .i64 7, .int .i64 1, .int .i64 0] w fun e w' => ∃ v, e = .returned (.tuple #[v, .nilIface]) ∧ Made (giveCode 7 1 0) w v w' := by
  subst hx; exact give_ok _ 7 1 0 w (look_plus hn hs (by decide))
set_option maxHeartbeats 2000000 in
theorem gtake_chain (C : Chain w0 b 4 v0 l w) (M : MkAt w b br fe jo co s) (hlen : l.length ≤ 1000) (hn : nameB s.data.toList = true) (hs : s.size ≤ 4) :
    Calls Tryz.prog 108 #[.pointer (some ⟨b, 0, none⟩)] w fun e w' => e = .returned (.tuple #[]) ∧ Chain w0 b 4 v0 (l ++ takeCode (s.data.toList ++ [116]) 7 1 0) w' := by
  have h5 := M.c5
  have HC := Lib.hid C
  have Hn := Lib.hid hn
  clear C M hn
  go_enter Tryz.func108, Tryz.ntmps108
  go_wp2_with fail
  refine (take_plus s _ Hn.out hs _ (bytes_cat s _)).mono ?_
  rintro e w1 ⟨v1, rfl, hm1⟩
  have HC1 := Lib.hid (HC.out.quiet (Mod.below hm1.2.1))
  obtain ⟨g, c, rfl, hsA⟩ := InsRow.src hm1.1 (by simp [takeCode])
  have HsA := Lib.hid hsA
  clear hm1 hsA HC
  go_wp2_with fail
  refine (more_chain HC1.out (by omega) (takeCode (s.data.toList ++ [116]) 7 1 0) g c HsA.out (by simp [takeCode])).mono ?_
  rintro e w2 ⟨rfl, C2⟩
  have HC2 := Lib.hid C2
  clear C2
  go_wp2
  go_end0
  exact ⟨rfl, HC2.out⟩
set_option maxHeartbeats 2000000 in
theorem ggive_chain (C : Chain w0 b 4 v0 l w) (M : MkAt w b br fe jo co s) (hlen : l.length ≤ 1000) (hn : nameB s.data.toList = true) (hs : s.size ≤ 4) :
    Calls Tryz.prog 110 #[.pointer (some ⟨b, 0, none⟩)] w fun e w' => e = .returned (.tuple #[]) ∧ Chain w0 b 4 v0 (l ++ giveCode 7 1 0) w' := by
  have h5 := M.c5
  have HC := Lib.hid C
  have Hn := Lib.hid hn
  clear C M hn
  go_enter Tryz.func110, Tryz.ntmps110
  go_wp2_with fail
  refine (give_plus s _ Hn.out hs _ (bytes_cat s _)).mono ?_
  rintro e w1 ⟨v1, rfl, hm1⟩
  have HC1 := Lib.hid (HC.out.quiet (Mod.below hm1.2.1))
  obtain ⟨g, c, rfl, hsA⟩ := InsRow.src hm1.1 (by simp [giveCode])
  have HsA := Lib.hid hsA
  clear hm1 hsA HC
  go_wp2_with fail
  refine (more_chain HC1.out (by omega) (giveCode 7 1 0) g c HsA.out (by simp [giveCode])).mono ?_
  rintro e w2 ⟨rfl, C2⟩
  have HC2 := Lib.hid C2
  clear C2
  go_wp2
  go_end0
  exact ⟨rfl, HC2.out⟩
end Go.Proofs.YtppihkneeolomaaGreatDoor
end
/- Regions that draw their order, of calls in a row, with slices made ahead of them: whatever order is drawn, the code grows alike. -/
section
namespace Go.Proofs.YtppihkneeolomaaGreatDoor
open Go.RowKit Qs Qh
/-- A slice of numbers, made beside the code. -/
structure Row (w : World) (b g : Nat) (l : List Int) : Prop where
  cell : ∀ i x, l[i]? = some x → w.cell? ⟨g, i, none⟩ = some (.int .i64 x)
  lt : g < w.heap.size
  ne : g ≠ b
  row : ∀ v, w.cell? ⟨b, 4, none⟩ = some v → v.ownBlock ≠ some g
def RowV (w : World) (b : Nat) (l : List Int) (u : Value) : Prop := ∃ g, u = .slice (some ⟨g, 0, none⟩) l.length l.length ∧ Row w b g l
variable {w0 w w1 : World} {b o g : Nat} {v0 v : Value} {l : List Instr} {z : List Int}
theorem Row.next {l' : List Instr} (K : Row w b g z) (hv : w.cell? ⟨b, 4, none⟩ = some v) (C : Chain w b 4 v l' w1) : Row w1 b g z := by
  obtain ⟨hb, v', E, G⟩ := C
  have hne := K.row v hv
  refine ⟨fun i x hx => G.mod.cell (K.cell i x hx) (fun e => e.elim K.ne hne), Nat.lt_of_lt_of_le K.lt G.mod.size, K.ne, fun v2 h2 e => ?_⟩
  rw [E.cell] at h2
  obtain rfl := Option.some.inj h2
  rcases G.new g e with h | h
  · exact hne h
  · have := K.lt; omega
theorem Row.quiet (K : Row w b g z) (hb : b < w.heap.size) (h : Mod noF w w1) : Row w1 b g z :=
  ⟨fun i x hx => h.cell (K.cell i x hx) (fun e => e), Nat.lt_of_lt_of_le K.lt h.size, K.ne, fun v hv => K.row v (by rw [← cell_same h hb]; exact hv)⟩
theorem Row.fresh (C : Chain w0 b 4 v0 l w) (z : List Int) (t : TypeId) : Row (w.alloc (.cells (z.map (Value.int .i64)).toArray t)) b w.heap.size z := by
  obtain ⟨v, C1, hv, hf, _⟩ := C.re ((Mod.refl noF w).alloc (.cells (z.map (Value.int .i64)).toArray t))
  refine ⟨fun i x hx => ?_, by simp, ?_, fun v' hv' e => ?_⟩
  · rw [cell_of_heap ((heap_alloc_new w _).trans rfl)]; simp [hx]
  · have := C.lt; omega
  · rw [hv] at hv'; obtain rfl := Option.some.inj hv'; exact hf _ (Nat.le_refl _) e
section
variable {P : Program} {ops : Array Oper} {Q : Exit → Act → World → Prop} {S : World → Prop}
end
end Go.Proofs.YtppihkneeolomaaGreatDoor
end
/- Calls of the code's maker in a row, in a region that draws its order: whatever order comes, the code grows alike. -/
section
namespace Go.Proofs.YtppihkneeolomaaGreatDoor
open Go.RowKit Qs Qh
/-- A call of the maker: the op's number, its numbers, its label, which function (0 Op, 1 To, 2 Label, 3 Op whose name lies in a slot), where the label lies. -/
structure EmC where
  n : Nat
  z : List Int
  to : List UInt8
  kind : Nat
  lt : Nat
def EmC.ins (e : EmC) : Instr := ⟨e.n, e.z.getD 0 0, e.z.getD 1 0, e.z.getD 2 0, e.to⟩
def slOk (x : Operand) (e : EmC) (s : Option (Nat × Tmp)) : Bool := match s with
  | some (_, t) => isTmp x t
  | none => e.z.isEmpty && isNilRow x
def argsOk (A : Array Operand) (r : Nat) (e : EmC) (s : Option (Nat × Tmp)) : Bool := match e.kind, A.toList with
  | 0, [x, y, z] => isTmp x r && isStr y (opStr e.n) && slOk z e s && e.to.isEmpty
  | 1, [x, l, y, z] => isTmp x r && isTmp l e.lt && isStr y (opStr e.n) && slOk z e s
  | 2, [x, l] => isTmp x r && isTmp l e.lt && e.z.isEmpty && e.n == 17 && s.isNone
  | 3, [x, y, z] => isTmp x r && isTmp y e.lt && slOk z e s && e.to.isEmpty
  | _, _ => false
def fnOf (k : Nat) : Nat := match k with | 0 => 49 | 1 => 65 | 2 => 64 | _ => 49
def isInt (x : Operand) (v : Int) : Bool := match x with | .const (.int .i64 u) => u == v | _ => false
def partsOk : List (Nat × Operand) → Nat → List Int → Bool
  | [], _, [] => true
  | p :: r, i, x :: xs => p.1 == i && isInt p.2 x && partsOk r (i + 1) xs
  | _, _, _ => false
def slcOk (ops : Array Oper) (z : List Int) (s : Option (Nat × Tmp)) : Bool := match s with
  | none => true
  | some (i, t) => match ops[i]? with
    | some o => (match o.op with | .buildSlice ty n parts => ty == 23 && n == z.length && decide (0 < z.length) && decide (z.length ≤ 3) && partsOk parts.toList 0 z | _ => false) && o.dst == some t
    | none => false
/-- The row of calls is the list of items, from a receiver on. -/
def emRow (ops : Array Oper) (out : List Nat) : Nat → List SpI → List EmC → Bool
  | _, [], [] => true
  | r, x :: xs, e :: es => (match ops[x.c]? with
      | some o => (match callOf o.op with | some (f, A) => f == fnOf e.kind && argsOk A r e x.s && decide (e.kind ≤ 3) | none => false) && o.dst == some x.q
      | none => false) && slcOk ops e.z x.s && (e.kind == 0 || !out.contains e.lt) && emRow ops out x.q xs es
  | _, _, _ => false
theorem isInt_spec {x : Operand} {v : Int} (h : isInt x v = true) : x = .const (.int .i64 v) := by
  unfold isInt at h
  split at h
  · rw [beq_iff_eq] at h; rw [h]
  · cases h
theorem partsOk_spec : ∀ (l : List (Nat × Operand)) (i : Nat) (z : List Int), partsOk l i z = true → l = (z.zipIdx i).map fun x => (x.2, Operand.const (Value.int .i64 x.1))
  | [], _, [], _ => rfl
  | [], _, _ :: _, h => by simp [partsOk] at h
  | (k, o) :: r, i, [], h => by simp [partsOk] at h
  | (k, o) :: r, i, x :: xs, h => by
    simp only [partsOk, Bool.and_eq_true, beq_iff_eq] at h
    obtain ⟨⟨rfl, h2⟩, h3⟩ := h
    rw [isInt_spec h2, partsOk_spec r _ xs h3]; rfl
/-- A slice of numbers as a call takes it: nil where there are none. -/
def SlV (w : World) (b : Nat) (z : List Int) (u : Value) : Prop := (z = [] ∧ u = .slice none 0 0) ∨ ((1 ≤ z.length ∧ z.length ≤ 3) ∧ RowV w b z u)
theorem RowV.cells {w : World} {b : Nat} {z : List Int} {u : Value} (h : RowV w b z u) : ∃ g, u = .slice (some ⟨g, 0, none⟩) z.length z.length ∧ g < w.heap.size ∧ ∀ i x, z[i]? = some x → w.cell? ⟨g, i, none⟩ = some (.int .i64 x) := by
  obtain ⟨g, rfl, R⟩ := h
  exact ⟨g, rfl, R.lt, R.cell⟩
variable {w0 w w1 : World} {b o : Nat} {v0 v : Value} {l : List Instr}
theorem em_op (C : Chain w0 b 4 v0 l w) (hlen : l.length ≤ 1000000) (n : Nat) {z : List Int} {u : Value} (h : SlV w b z u) :
    Calls Tryz.prog 49 #[.pointer (some ⟨b, 4, none⟩), .string (opStr n), u] w fun e w' => e = .returned (.pointer (some ⟨b, 4, none⟩)) ∧ Chain w0 b 4 v0 (l ++ [⟨n, z.getD 0 0, z.getD 1 0, z.getD 2 0, []⟩]) w' := by
  rcases h with ⟨rfl, rfl⟩ | ⟨⟨h1, h3⟩, h⟩
  · exact op0_chain C hlen n _ rfl
  · obtain ⟨g, rfl, hg, hc⟩ := h.cells
    match z, h1, h3 with
    | [x], _, _ => exact op1_chain C hlen n _ rfl g x 1 (hc 0 x rfl) hg
    | [x, y], _, _ => exact op2_chain C hlen n _ rfl g x y 2 (hc 0 x rfl) (hc 1 y rfl) hg
    | [x, y, t], _, _ => exact op3_chain C hlen n _ rfl g x y t 3 (hc 0 x rfl) (hc 1 y rfl) (hc 2 t rfl) hg
    | _ :: _ :: _ :: _ :: _, _, h3 => exact absurd h3 (by simp)
theorem em_to (C : Chain w0 b 4 v0 l w) (hlen : l.length ≤ 1000000) (n : Nat) {z : List Int} {u : Value} (h : SlV w b z u) (hz : z.length ≤ 2) (to : List UInt8) :
    Calls Tryz.prog 65 #[.pointer (some ⟨b, 4, none⟩), .string ⟨to.toArray⟩, .string (opStr n), u] w fun e w' => e = .returned (.pointer (some ⟨b, 4, none⟩)) ∧ Chain w0 b 4 v0 (l ++ [⟨n, z.getD 0 0, z.getD 1 0, z.getD 2 0, to⟩]) w' := by
  rcases h with ⟨rfl, rfl⟩ | ⟨⟨h1, h3⟩, h⟩
  · exact to0_chain C hlen n _ rfl to _ rfl
  · obtain ⟨g, rfl, hg, hc⟩ := h.cells
    match z, h1, hz with
    | [x], _, _ => exact to1_chain C hlen n _ rfl to _ rfl g x 1 (hc 0 x rfl) hg
    | [x, y], _, _ => exact to2_chain C hlen n _ rfl to _ rfl g x y 2 (hc 0 x rfl) (hc 1 y rfl) hg
    | _ :: _ :: _ :: _, _, h3 => exact absurd h3 (by simp)
/-- A slice made: its block is new. -/
theorem wp_slc {x : Oper} {a : Act} {K : Act → World → Prop} {Q : Exit → Act → World → Prop} {z : List Int} {parts : Array (Nat × Operand)} (ho : x.op = .buildSlice 23 z.length parts) (hp : partsOk parts.toList 0 z = true) (h1 : 0 < z.length) (h3 : z.length ≤ 3)
    (h : K (a.put x.dst (.slice (some ⟨w.heap.size, 0, none⟩) z.length z.length)) (w.alloc (.cells (z.map (Value.int .i64)).toArray 3))) : x.wp Tryz.prog a w K Q := by
  obtain ⟨hsz, hz⟩ := intsInfo
  cases hie : Tryz.prog.info? 3 with
  | none => simp [hie] at hsz
  | some ie =>
    simp only [hie, Option.map_some, Option.some.injEq, Option.bind_some] at hsz hz
    obtain ⟨zz, hzz⟩ := Option.isSome_iff_exists.1 hz
    refine wp_buildSlice 23 3 z.length parts ho _ ie zz Tryz.underlying23 hie hzz (by rw [hsz]; omega) (by rw [hsz]; omega) ?_ h
    rw [parts_eval a parts .i64 z (partsOk_spec _ _ _ hp), hsz]
    exact Great.fill_flat _ _ (fun v hv => by obtain ⟨n, _, rfl⟩ := List.mem_map.1 hv; rfl) (by simp)
theorem emRow_at {ops : Array Oper} {out : List Nat} : ∀ {items : List SpI} {E : List EmC} {r : Nat}, emRow ops out r items E = true → ∀ {j : Nat} {x : SpI}, items[j]? = some x → ∃ e, E[j]? = some e ∧ ∃ p : Nat, ((j = 0 ∧ p = r) ∨ ∃ j' x', j = j' + 1 ∧ items[j']? = some x' ∧ p = x'.q) ∧
    (∃ o f A, ops[x.c]? = some o ∧ callOf o.op = some (f, A) ∧ f = fnOf e.kind ∧ argsOk A p e x.s = true ∧ e.kind ≤ 3 ∧ o.dst = some x.q) ∧ slcOk ops e.z x.s = true ∧ (e.kind = 0 ∨ e.lt ∉ out)
  | [], _, _, _, j, x, hx => by simp at hx
  | y :: r, [], _, h, j, x, hx => by simp [emRow] at h
  | y :: ys, e :: es, r, h, j, x, hx => by
    simp only [emRow, Bool.and_eq_true] at h
    obtain ⟨⟨⟨h1, h2⟩, h4⟩, h3⟩ := h
    cases j with
    | zero =>
      simp at hx; subst hx
      refine ⟨e, rfl, r, .inl ⟨rfl, rfl⟩, ?_, h2, ?_⟩
      · cases ho : ops[y.c]? with
        | none => rw [ho] at h1; cases h1
        | some o =>
          rw [ho] at h1
          simp only [Bool.and_eq_true, beq_iff_eq] at h1
          obtain ⟨h1, hd⟩ := h1
          cases hc : callOf o.op with
          | none => rw [hc] at h1; cases h1
          | some p =>
            obtain ⟨f, A⟩ := p
            rw [hc] at h1
            simp only [Bool.and_eq_true, beq_iff_eq, decide_eq_true_eq] at h1
            exact ⟨o, f, A, rfl, hc, h1.1.1, h1.1.2, h1.2, hd⟩
      · simpa using h4
    | succ j =>
      obtain ⟨e', he', p, hp, r1, r2, r3⟩ := emRow_at h3 (j := j) (by simpa using hx)
      refine ⟨e', by simpa using he', p, .inr ?_, r1, r2, r3⟩
      rcases hp with ⟨rfl, rfl⟩ | ⟨j', x', rfl, hx', rfl⟩
      · exact ⟨0, y, rfl, rfl, rfl⟩
      · exact ⟨j' + 1, x', rfl, by simpa using hx', rfl⟩
/-- Where it stands: the code made so far. -/
def EmZ (w0 : World) (b : Nat) (v0 : Value) (l : List Instr) (E : List EmC) (k : Nat) (w : World) : Prop := Chain w0 b 4 v0 (l ++ (E.take k).map EmC.ins) w
def EmB (b : Nat) (E : List EmC) (j : Nat) (u : Value) (w : World) : Prop := ∀ e, E[j]? = some e → RowV w b e.z u
theorem em_spine {ops : Array Oper} {Q : Exit → Act → World → Prop} {S : World → Prop} {L0 : Array Bool} {a0 : Act} {items : List SpI} {E : List EmC} {r0 fuel : Nat}
    (hb : spB ops L0 items a0.tmps.size = true) (hrow : emRow ops (spTmps items) r0 items E = true) (hr0 : (spTmps items).contains r0 = false) (hptr : a0.eval (.tmp r0) = .pointer (some ⟨b, 4, none⟩))
    (hlb : ∀ e ∈ E, e.kind ≠ 0 → a0.eval (.tmp e.lt) = .string (if e.kind = 3 then opStr e.n else ⟨e.to.toArray⟩)) (hz2 : (E.all fun e => e.kind == 0 || e.kind == 3 || decide (e.z.length ≤ 2)) = true) (hEl : items.length = E.length) (hl : l.length + E.length ≤ 1000000)
    (hS : ∀ w' l', Chain w0 b 4 v0 l' w' → S w') (C : Chain w0 b 4 v0 l w) (hfuel : decide (((List.range ops.size).filter fun i => !L0.getD i true).length ≤ fuel) = true)
    (hend : ∀ (U : Nat → Value) w', Chain w0 b 4 v0 (l ++ E.map EmC.ins) w' → (∀ (j : Nat) (x : SpI), items[j]? = some x → U x.q = .pointer (some ⟨b, 4, none⟩)) → Q .normal (patch (spTmps items) U a0) w') :
    wpAnyH Tryz.prog .any ops Q S fuel L0 a0 w := by
  have hb' := hb
  simp only [spB, Bool.and_eq_true, decide_eq_true_eq, List.all_eq_true, List.mem_range, Bool.or_eq_true] at hb'
  obtain ⟨⟨⟨⟨⟨F1, F2⟩, F3⟩, F6⟩, F7⟩, F8⟩ := hb'
  have hrl : ∀ (j : Nat) x, items[j]? = some x → j < E.length := fun j x hx => by rw [← hEl]; exact (List.getElem?_eq_some_iff.1 hx).1
  refine spine_go (P := Tryz.prog) (Z := EmZ w0 b v0 l E) (B := EmB b E) (ret := fun _ => .pointer (some ⟨b, 4, none⟩)) hb ?_ ?_ ?_ fuel L0 a0 w 0 ((List.range ops.size).filter fun i => !L0.getD i true) ⟨F1, fun _ h => h, rfl, rfl, fun _ _ => rfl, Nat.zero_le _, by simpa [EmZ] using C, fun j x hx => ⟨fun h => ?_, fun h => absurd h (by omega)⟩, fun j x hx h => absurd h (by omega), fun j x i t hx hs h => ?_⟩ (fun i hi h => ?_) ?_
  · -- slices
    intro j x i t o k a w K hx hs ho hZ _hout hK
    obtain ⟨e, he, p, hp, hc, hsl, hlt⟩ := emRow_at hrow hx
    unfold slcOk at hsl
    rw [hs] at hsl
    simp only [ho, Bool.and_eq_true, beq_iff_eq] at hsl
    obtain ⟨hsl, hd⟩ := hsl
    split at hsl
    · rename_i ty n parts hop
      simp only [Bool.and_eq_true, beq_iff_eq, decide_eq_true_eq] at hsl
      obtain ⟨⟨⟨⟨rfl, rfl⟩, g1⟩, g3⟩, gp⟩ := hsl
      refine wp_slc hop gp g1 g3 ?_
      rw [hd]
      have hZ' : Chain w0 b 4 v0 _ w := hZ
      refine hK _ _ (hZ'.quiet ((Mod.refl _ _).alloc _)) (hS _ _ (hZ'.quiet ((Mod.refl _ _).alloc _))) (fun e' he' => ?_) fun j' u' hB e' he' => ?_
      · obtain rfl : e = e' := Option.some.inj (he.symm.trans he')
        exact ⟨w.heap.size, rfl, Row.fresh hZ' e.z _⟩
      · obtain ⟨g, rfl, R⟩ := hB e' he'
        exact ⟨g, rfl, R.quiet hZ'.lt ((Mod.refl _ _).alloc _)⟩
    · cases hsl
  · -- calls
    intro j x o a w K hx ho hZ hdef hout hret hrw hK
    obtain ⟨e, he, p, hp, ⟨o', f, A, ho', hcall, rfl, hargs, hk2, hd⟩, hsl, hlt⟩ := emRow_at hrow hx
    obtain rfl : o = o' := Option.some.inj (ho.symm.trans ho')
    have hZ' : Chain w0 b 4 v0 _ w := hZ
    have hpv : a.eval (.tmp p) = .pointer (some ⟨b, 4, none⟩) := by
      rcases hp with ⟨rfl, rfl⟩ | ⟨j', x', rfl, hx', rfl⟩
      · rw [hout _ (by intro h; rw [List.contains_iff_mem.2 h] at hr0; cases hr0)]; exact hptr
      · exact hret j' x' (by omega) hx'
    have hlab : e.kind ≠ 0 → a.eval (.tmp e.lt) = .string (if e.kind = 3 then opStr e.n else ⟨e.to.toArray⟩) := fun hk => by
      rw [hout _ (hlt.resolve_left hk)]; exact hlb e (List.mem_of_getElem? he) hk
    have hslv : ∀ z, slOk z e x.s = true → SlV w b e.z (a.eval z) := fun z hz => by
      unfold slOk at hz
      cases hs : x.s with
      | none =>
        rw [hs] at hz
        simp only [Bool.and_eq_true, List.isEmpty_iff] at hz
        rw [isNilRow_spec hz.2]
        exact .inl ⟨hz.1, rfl⟩
      | some it =>
        obtain ⟨i, t⟩ := it
        rw [hs] at hz hsl
        rw [isTmp_spec hz]
        refine .inr ⟨?_, hrw i t hs e he⟩
        unfold slcOk at hsl
        simp only at hsl
        cases ho2 : ops[i]? with
        | none => rw [ho2] at hsl; cases hsl
        | some o2 =>
          rw [ho2] at hsl
          simp only [Bool.and_eq_true, beq_iff_eq] at hsl
          obtain ⟨hsl, _⟩ := hsl
          split at hsl
          · simp only [Bool.and_eq_true, beq_iff_eq, decide_eq_true_eq] at hsl
            exact ⟨hsl.1.1.2, hsl.1.2⟩
          · cases hsl
    have hz2' : e.kind ≠ 0 → e.kind ≠ 3 → e.z.length ≤ 2 := fun hk hk3 => by
      have := List.all_eq_true.1 hz2 e (List.mem_of_getElem? he)
      simp only [Bool.or_eq_true, beq_iff_eq, decide_eq_true_eq] at this
      exact this.resolve_left (fun h => h.elim hk hk3)
    have hjl := hrl j x hx
    have htake : (E.take (j + 1)).map EmC.ins = (E.take j).map EmC.ins ++ [e.ins] := by
      rw [List.take_add_one, he]; simp
    have hll : (l ++ (E.take j).map EmC.ins).length ≤ 1000000 := by simp; omega
    obtain ⟨v1, C1, hv1, -, hk1⟩ := hZ'.re (Mod.refl noF w)
    have fin : ∀ w', Chain w b 4 v1 ((l ++ (E.take j).map EmC.ins) ++ [e.ins]) w' → ∃ v, Ending.returned (.pointer (some ⟨b, 4, none⟩)) = .returned v ∧ K (a.put o.dst v) w' := fun w' hC => by
      refine ⟨_, rfl, ?_⟩
      rw [hd]
      have hC0 := hk1 _ _ hC
      refine hK w' ?_ (hS _ _ hC0) fun j' u' hB e' he' => ?_
      · show Chain w0 b 4 v0 _ w'
        rw [htake, ← List.append_assoc]; exact hC0
      · obtain ⟨g, rfl, R⟩ := hB e' he'
        exact ⟨g, rfl, R.next hv1 hC⟩
    unfold argsOk at hargs
    split at hargs
    · rename_i hk hA
      simp only [Bool.and_eq_true, List.isEmpty_iff] at hargs
      obtain ⟨⟨⟨h1, h2⟩, h3⟩, h4⟩ := hargs
      rw [hk] at hcall
      refine wp_callOf callEmOp hcall ?_
      rename_i y1 y2 y3
      have hA' : A = #[y1, y2, y3] := Array.ext' (by simpa using hA)
      subst hA'
      simp only [List.map_toArray, List.map_cons, List.map_nil, isTmp_spec h1, isStr_spec h2, hpv]
      refine (em_op C1 hll e.n (hslv _ h3)).mono ?_
      rintro e' w' ⟨rfl, hC⟩
      have : e.ins = ⟨e.n, e.z.getD 0 0, e.z.getD 1 0, e.z.getD 2 0, []⟩ := by unfold EmC.ins; rw [h4]
      exact fin w' (by rw [this]; exact hC)
    · rename_i hk hA
      simp only [Bool.and_eq_true] at hargs
      obtain ⟨⟨⟨h1, h2⟩, h3⟩, h4⟩ := hargs
      rw [hk] at hcall
      refine wp_callOf callEmTo hcall ?_
      rename_i y1 y2 y3 y4
      have hA' : A = #[y1, y2, y3, y4] := Array.ext' (by simpa using hA)
      subst hA'
      simp only [List.map_toArray, List.map_cons, List.map_nil, isTmp_spec h1, isTmp_spec h2, isStr_spec h3, hpv, hlab (by omega), if_neg (show ¬ e.kind = 3 by omega)]
      refine (em_to C1 hll e.n (hslv _ h4) (hz2' (by omega) (by omega)) e.to).mono ?_
      rintro e' w' ⟨rfl, hC⟩
      exact fin w' hC
    · rename_i hk hA
      simp only [Bool.and_eq_true, List.isEmpty_iff, beq_iff_eq] at hargs
      obtain ⟨⟨⟨⟨h1, h2⟩, h3⟩, h4⟩, h5⟩ := hargs
      clear h5
      rw [hk] at hcall
      refine wp_callOf callEmLabel hcall ?_
      rename_i y1 y2
      have hA' : A = #[y1, y2] := Array.ext' (by simpa using hA)
      subst hA'
      simp only [List.map_toArray, List.map_cons, List.map_nil, isTmp_spec h1, isTmp_spec h2, hpv, hlab (by omega), if_neg (show ¬ e.kind = 3 by omega)]
      refine (label_chain C1 hll e.to _ rfl).mono ?_
      rintro e' w' ⟨rfl, hC⟩
      have : e.ins = ⟨17, 0, 0, 0, e.to⟩ := by unfold EmC.ins; rw [h3, h4]; rfl
      exact fin w' (by rw [this]; exact hC)
    · rename_i hk hA
      simp only [Bool.and_eq_true, List.isEmpty_iff] at hargs
      obtain ⟨⟨⟨h1, h2⟩, h3⟩, h4⟩ := hargs
      rw [hk] at hcall
      refine wp_callOf callEmOp hcall ?_
      rename_i y1 y2 y3
      have hA' : A = #[y1, y2, y3] := Array.ext' (by simpa using hA)
      subst hA'
      simp only [List.map_toArray, List.map_cons, List.map_nil, isTmp_spec h1, isTmp_spec h2, hpv, hlab (by omega), if_pos hk]
      refine (em_op C1 hll e.n (hslv _ h3)).mono ?_
      rintro e' w' ⟨rfl, hC⟩
      have : e.ins = ⟨e.n, e.z.getD 0 0, e.z.getD 1 0, e.z.getD 2 0, []⟩ := by unfold EmC.ins; rw [h4]
      exact fin w' (by rw [this]; exact hC)
    · cases hargs
  · intro a w hZ hdef hsz hout hret
    have h := hend (fun t => a.eval (.tmp t)) w (by have : EmZ w0 b v0 l E items.length w := hZ; unfold EmZ at this; rw [hEl, List.take_length] at this; exact this) hret
    rw [patch_self _ _ _ hdef hsz hout] at h
    exact h
  · have := F3 x.c (mem_spIdx.2 ⟨j, x, hx, x.c_mem⟩)
    rw [h] at this; cases this
  · have := F3 i (mem_spIdx.2 ⟨j, x, hx, SpI.i_mem hs⟩)
    rw [h] at this; cases this
  · rw [List.mem_filter]; exact ⟨List.mem_range.2 hi, by rw [h]; rfl⟩
  · exact of_decide_eq_true hfuel
end Go.Proofs.YtppihkneeolomaaGreatDoor
end
/- package queue: Build's state between its steps, in plain. -/
section
namespace Qu
open Qs Qg Qh
variable {lab : Nat → List UInt8}
end Qu
namespace Go.Proofs.YtppihkneeolomaaGreatDoor
open Go.RowKit Qs Qh
def r8 : List Int := [0, 0, 0, 0, 0, 2, 0, 0]
def regsL (k n : Nat) : List (List Int) := List.replicate k r8 ++ List.replicate (n - k) z8
theorem regsL_get {k n : Nat} (h : k < n) : (regsL k n)[k]? = some z8 := by
  unfold regsL
  rw [List.getElem?_append_right (by simp), List.getElem?_replicate, if_pos (by simp; omega)]
theorem regsL_set {k n : Nat} (h : k < n) : (regsL k n).set k (z8.set 5 2) = regsL (k + 1) n := by
  refine List.ext_getElem? fun i => ?_
  have hr : z8.set 5 2 = r8 := rfl
  rw [List.getElem?_set, hr]
  unfold regsL
  by_cases e : k = i
  · subst e
    rw [if_pos rfl, if_pos (by simp; omega), List.getElem?_append_left (by simp)]
    simp
  · rw [if_neg e]
    by_cases h2 : i < k
    · rw [List.getElem?_append_left (by simpa using h2), List.getElem?_append_left (by simp; omega)]
      rw [List.getElem?_replicate, List.getElem?_replicate, if_pos (by omega), if_pos (by omega)]
    · rw [List.getElem?_append_right (by simp; omega), List.getElem?_append_right (by simp; omega)]
      simp only [List.length_replicate, List.getElem?_replicate]
      by_cases h3 : i < n
      · rw [if_pos (by omega), if_pos (by omega)]
      · rw [if_neg (by omega), if_neg (by omega)]
/-- Where things lie. -/
structure Plc where
  T2 : Nat
  B : Nat
  lo1 : Nat
  hi1 : Nat
  lo2 : Nat
  hi2 : Nat
  S : Nat
structure Plc.Ok (p : Plc) (w : World) : Prop where
  t2 : w.heap.size ≤ p.T2
  b : p.T2 < p.B
  l1 : p.B < p.lo1
  h1 : p.lo1 ≤ p.hi1
  l2 : p.hi1 ≤ p.lo2
  h2 : p.lo2 ≤ p.hi2
  s : p.hi2 ≤ p.S
/-- Behind kr rows set and k codes made. -/
structure BuildRel (w : World) (p : Plc) (iv rv : Value) (rb ib : Nat → Nat) (cs : Nat → List Instr) (n kr k : Nat) (cv : Value) (vk : Nat → Value) (wr : World) : Prop where
  mod : Mod noF w wr
  size : p.S ≤ wr.heap.size
  res : wr.heap[p.T2]? = some (.cells #[.int .i64 0, .slice none 0 0, .slice none 0 0] 32 (0, 0))
  base : BaseAt wr p.B iv rv
  regs : Rws p.lo1 p.hi1 wr rv (regsL kr n) rb
  init : Rws p.lo2 p.hi2 wr iv qInit ib
  cds : Cds p.S wr cv cs k vk
variable {w wr w1 : World} {p : Plc} {iv rv cv cv' u : Value} {rb ib : Nat → Nat} {cs : Nat → List Instr} {n kr k : Nat} {vk : Nat → Value}
theorem BuildRel.quiet (R : BuildRel w p iv rv rb ib cs n kr k cv vk wr) (h : Mod noF wr w1) : BuildRel w p iv rv rb ib cs n kr k cv vk w1 :=
  ⟨R.mod.trans0 h, Nat.le_trans R.size h.size, h.heap R.res (fun e => e), h.heap R.base (fun e => e), R.regs.keep h (fun _ _ _ e => e), R.init.keep h (fun _ _ _ e => e), R.cds.keep h (fun _ _ _ e => e)⟩
theorem BuildRel.store (R : BuildRel w p iv rv rb ib cs n kr k cv vk wr) (P : p.Ok w) (hk : kr < n) : BuildRel w p iv rv rb ib cs n (kr + 1) k cv vk (wr.setCell ⟨rb kr, 5, none⟩ (.int .i64 2)) ∧ wr.heap[rb kr]? = some (.cells #[.int .i64 0, .int .i64 0, .int .i64 0, .int .i64 0, .int .i64 0, .int .i64 0, .int .i64 0, .int .i64 0] 3 (0, 0)) ∧ p.lo1 ≤ rb kr := by
  obtain ⟨R1, hM⟩ := R.regs.set (x := 2) (j := 5) (regsL_get hk) (by decide)
  rw [regsL_set hk] at R1
  have hb := R.regs.bin kr z8 (regsL_get hk) (by decide)
  have hP := P
  obtain ⟨p1, p2, p3, p4, p5, p6, p7⟩ := hP
  refine ⟨⟨R.mod.trans hM fun x hx e => ?_, Nat.le_trans R.size hM.size, hM.heap R.res (fun e => ?_), hM.heap R.base (fun e => ?_), R1, R.init.keep hM (fun x h1 h2 e => ?_), R.cds.keep hM (fun x h1 h2 e => ?_)⟩, R.regs.row kr z8 (regsL_get hk) (by decide), hb.1⟩
  all_goals omega
theorem BuildRel.push (R : BuildRel w p iv rv rb ib cs n kr k cv vk wr) (P : p.Ok w) (hc : CodeAt wr u (cs k)) (hu : ∀ g, u.ownBlock = some g → p.S ≤ g ∧ g < wr.heap.size ∧ cv.ownBlock ≠ some g)
    (hown : w1.ownsRow 0 71 1 cv' (k + 1) ((List.range k).map vk ++ [u])) (hg : wr.grownBy w1 cv.ownBlock) (hfr : ∀ g, cv'.ownBlock = some g → cv.ownBlock = some g ∨ wr.heap.size ≤ g) :
    BuildRel w p iv rv rb ib cs n kr (k + 1) cv' (fun i => if i = k then u else vk i) w1 := by
  have hM : Mod (fun x => cv.ownBlock = some x) wr w1 := (Mod.refl (fun x => cv.ownBlock = some x) wr).grown hg fun j hj _ => hj
  have hcv := R.cds.vin
  obtain ⟨p1, p2, p3, p4, p5, p6, p7⟩ := P
  refine ⟨R.mod.trans hM fun x hx e => ?_, Nat.le_trans R.size hM.size, hM.heap R.res (fun e => ?_), hM.heap R.base (fun e => ?_), R.regs.keep hM (fun x h1 h2 e => ?_), R.init.keep hM (fun x h1 h2 e => ?_), R.cds.push R.size hc hu hown hg hfr⟩
  all_goals have := hcv _ e; omega
end Go.Proofs.YtppihkneeolomaaGreatDoor
end
/- Lists of ops, made in memory. -/
section
namespace Go.Proofs.YtppihkneeolomaaGreatDoor
open Go.RowKit Qs Qh
variable {N k S : Nat} {w w1 w' : World} {v u cv cv' : Value} {ll : List (List Qu.Op)} {l : List Qu.Op} {cs : Nat → List Qu.Op} {vk : Nat → Value}
theorem OpRow.frame (h : OpRow N w u l) {F : Nat → Prop} (hM : Mod F w w') (hF : ∀ b, u.ownBlock = some b → ¬ F b) : OpRow N w' u l := by
  obtain ⟨a, c, rfl, hx⟩ := h
  refine ⟨a, c, rfl, fun i x hi => ?_⟩
  obtain ⟨b, off, rfl, hb, h0, h1⟩ := hx i x hi
  exact ⟨b, off, rfl, hb, hM.cell h0 (hF b rfl), hM.cell h1 (hF b rfl)⟩
theorem OpRow.mono (h : OpRow N w u l) {N' : Nat} (hN : N ≤ N') : OpRow N' w u l := by
  obtain ⟨a, c, e, hx⟩ := h
  refine ⟨a, c, e, fun i x hi => ?_⟩
  obtain ⟨b, off, e1, hb, h⟩ := hx i x hi
  exact ⟨b, off, e1, Nat.lt_of_lt_of_le hb hN, h⟩
/-- The lists made so far. -/
structure Ols (S : Nat) (w : World) (cv : Value) (cs : Nat → List Qu.Op) (k : Nat) (vk : Nat → Value) : Prop where
  own : w.ownsRow 0 86 1 cv k ((List.range k).map vk)
  vin : ∀ g, cv.ownBlock = some g → S ≤ g
  at_ : ∀ i, i < k → OpRow w.heap.size w (vk i) (cs i)
  bin : ∀ i g, i < k → (vk i).ownBlock = some g → S ≤ g ∧ g < w.heap.size
  ne : ∀ i g, i < k → (vk i).ownBlock = some g → cv.ownBlock ≠ some g
theorem Ols.nil (S : Nat) (w : World) (cs : Nat → List Qu.Op) (vk : Nat → Value) : Ols S w (.slice none 0 0) cs 0 vk :=
  ⟨World.ownsRow_nil w 0 _ 1, fun g h => (by cases h), fun i h => by omega, fun i g h => by omega, fun i g h => by omega⟩
theorem Ols.keep (C : Ols S w cv cs k vk) {F : Nat → Prop} (hM : Mod F w w1) (hF : ∀ b, S ≤ b → b < w.heap.size → ¬ F b) : Ols S w1 cv cs k vk := by
  refine ⟨⟨C.own.1, ?_⟩, C.vin, fun i hi => ((C.at_ i hi).frame hM fun b hb => hF b (C.bin i b hi hb).1 (C.bin i b hi hb).2).mono hM.size, fun i g hi hg => ⟨(C.bin i g hi hg).1, Nat.lt_of_lt_of_le (C.bin i g hi hg).2 hM.size⟩, C.ne⟩
  rcases C.own.2 with e | ⟨g, cap, cur, rfl, h0, hg, r⟩
  · exact .inl e
  · exact .inr ⟨g, cap, cur, rfl, h0, hM.heap hg (hF _ (C.vin g rfl) (lt_of_block hg)), r⟩
theorem Ols.push (C : Ols S w cv cs k vk) (hS : S ≤ w.heap.size) (hc : OpRow w.heap.size w u (cs k)) (hu : ∀ g, u.ownBlock = some g → S ≤ g ∧ g < w.heap.size ∧ cv.ownBlock ≠ some g)
    (hown : w1.ownsRow 0 86 1 cv' (k + 1) ((List.range k).map vk ++ [u])) (hg : w.grownBy w1 cv.ownBlock) (hfr : ∀ g, cv'.ownBlock = some g → cv.ownBlock = some g ∨ w.heap.size ≤ g) :
    Ols S w1 cv' cs (k + 1) (fun i => if i = k then u else vk i) := by
  have hM : Mod (fun x => cv.ownBlock = some x) w w1 := (Mod.refl (fun x => cv.ownBlock = some x) w).grown hg fun j hj _ => hj
  refine ⟨?_, fun g h => ?_, fun i hi => ?_, fun i g hi h => ?_, fun i g hi h e => ?_⟩
  · have : (List.range (k + 1)).map (fun i => if i = k then u else vk i) = (List.range k).map vk ++ [u] := by
      rw [List.range_succ, List.map_append]
      congr 1
      · refine List.map_congr_left fun i hi => ?_
        have := List.mem_range.1 hi
        rw [if_neg (by omega)]
      · simp
    rw [this]; exact hown
  · rcases hfr g h with e | e
    · exact C.vin g e
    · omega
  · by_cases e : i = k
    · subst e
      simp only [if_true]
      exact (hc.frame hM fun b hb e => (hu b hb).2.2 e).mono hM.size
    · rw [if_neg e]
      exact ((C.at_ i (by omega)).frame hM fun b hb e' => C.ne i b (by omega) hb e').mono hM.size
  · have hs := hM.size
    by_cases e : i = k
    · subst e
      simp only [if_true] at h
      have := hu g h; exact ⟨this.1, by omega⟩
    · rw [if_neg e] at h
      have := C.bin i g (by omega) h; exact ⟨this.1, by omega⟩
  · have hlt : g < w.heap.size := by
      by_cases e : i = k
      · subst e
        simp only [if_true] at h
        exact (hu g h).2.1
      · rw [if_neg e] at h
        exact (C.bin i g (by omega) h).2
    rcases hfr g e with e' | e'
    · by_cases e2 : i = k
      · subst e2
        simp only [if_true] at h
        exact (hu g h).2.2 e'
      · rw [if_neg e2] at h
        exact C.ne i g (by omega) h e'
    · omega
theorem Ols.ops (C : Ols S w cv cs k vk) : OpsIn w.heap.size w cv ((List.range k).map cs) := by
  rcases C.own.2 with ⟨rfl, h0⟩ | ⟨g, cap, cur, rfl, _, hg, h1, h2, h3, h4⟩
  · subst h0
    exact ⟨none, 0, rfl, fun i l h => by simp at h⟩
  · refine ⟨some ⟨g, 0, none⟩, cap, by simp, fun i l h => ?_⟩
    have hlt : i < k := by have := (List.getElem?_eq_some_iff.1 h).1; simpa using this
    have hl : l = cs i := by
      rw [List.getElem?_map, List.getElem?_range hlt] at h
      exact (Option.some.inj h).symm
    subst hl
    refine ⟨g, 0, vk i, rfl, lt_of_block hg, ?_, C.at_ i hlt⟩
    rw [cell_of_heap hg, Nat.zero_add]
    have e : cur[i]? = (cur.toList.take (k * 1))[i]? := by
      rw [List.getElem?_take, if_pos (by omega)]; simp
    rw [e, h4, List.getElem?_map, List.getElem?_range hlt]; rfl
end Go.Proofs.YtppihkneeolomaaGreatDoor
end
/- Lists of ops as they come in: any name, any number. -/
section
namespace Go.Proofs.YtppihkneeolomaaGreatDoor
open Go.RowKit Qs Qh
abbrev ROp := ByteArray × Int
/-- A thread's ops in memory, read only, in blocks below a bound. -/
def RRow (N : Nat) (w : World) (u : Value) (l : List ROp) : Prop :=
  ∃ a c, u = .slice a l.length c ∧ ∀ (i : Nat) x, l[i]? = some x → ∃ b off, a = some ⟨b, off, none⟩ ∧ b < N ∧ w.cell? ⟨b, off + i * 2, none⟩ = some (.string x.1) ∧ w.cell? ⟨b, off + i * 2 + 1, none⟩ = some (.int .i64 x.2)
def RIn (N : Nat) (w : World) (v : Value) (ll : List (List ROp)) : Prop :=
  ∃ a c, v = .slice a ll.length c ∧ ∀ (i : Nat) l, ll[i]? = some l → ∃ b off u, a = some ⟨b, off, none⟩ ∧ b < N ∧ w.cell? ⟨b, off + i, none⟩ = some u ∧ RRow N w u l
variable {N : Nat} {w w' : World} {v u : Value} {ll : List (List ROp)} {l : List ROp}
theorem RRow.keep (h : RRow N w u l) {F : Nat → Prop} (hM : Mod F w w') (hF : ∀ b, b < N → ¬ F b) : RRow N w' u l := by
  obtain ⟨a, c, e, hx⟩ := h
  refine ⟨a, c, e, fun i x hi => ?_⟩
  obtain ⟨b, off, e1, hb, h0, h1⟩ := hx i x hi
  exact ⟨b, off, e1, hb, hM.cell h0 (hF b hb), hM.cell h1 (hF b hb)⟩
theorem RIn.keep (h : RIn N w v ll) {F : Nat → Prop} (hM : Mod F w w') (hF : ∀ b, b < N → ¬ F b) : RIn N w' v ll := by
  obtain ⟨a, c, e, hx⟩ := h
  refine ⟨a, c, e, fun i x hi => ?_⟩
  obtain ⟨b, off, u, e1, hb, h0, h1⟩ := hx i x hi
  exact ⟨b, off, u, e1, hb, hM.cell h0 (hF b hb), h1.keep hM hF⟩
/-- An op as it comes in. -/
def opR (x : Qu.Op) : ROp := (opK x, opN x)
theorem RRow.ops {q : List Qu.Op} (h : RRow N w u (q.map opR)) : OpRow N w u q := by
  obtain ⟨a, c, e, hx⟩ := h
  refine ⟨a, c, by rw [e, List.length_map], fun i x hi => ?_⟩
  exact hx i (opR x) (by rw [List.getElem?_map, hi]; rfl)
theorem RIn.ops {q : List (List Qu.Op)} (h : RIn N w v (q.map (·.map opR))) : OpsIn N w v q := by
  obtain ⟨a, c, e, hx⟩ := h
  refine ⟨a, c, by rw [e, List.length_map], fun i l hi => ?_⟩
  obtain ⟨b, off, u, e1, hb, h0, h1⟩ := hx i (l.map opR) (by rw [List.getElem?_map, hi]; rfl)
  exact ⟨b, off, u, e1, hb, h0, h1.ops⟩
/-- Too long for the law. -/
def rowLong (l : List ROp) : Bool := decide (30 < l.length) || l.any fun x => decide (100 < x.1.size)
def longB (ll : List (List ROp)) : Bool := decide (10 < ll.length) || ll.any rowLong
theorem rowLong_false {l : List ROp} (h : rowLong l = false) : l.length ≤ 30 := by
  unfold rowLong at h
  simp only [Bool.or_eq_false_iff, decide_eq_false_iff_not] at h
  omega
theorem any_at {α : Type} {f : α → Bool} {l : List α} {i : Nat} {x : α} (h : l[i]? = some x) (hf : f x = true) : l.any f = true :=
  List.any_eq_true.2 ⟨x, List.mem_of_getElem? h, hf⟩
theorem any_none {α : Type} {f : α → Bool} {l : List α} (h : ∀ (i : Nat) x, l[i]? = some x → f x = false) : l.any f = false := by
  rw [List.any_eq_false]
  intro x hx
  obtain ⟨i, hi⟩ := List.getElem?_of_mem hx
  rw [h i x hi]; simp
set_option maxHeartbeats 4000000 in
theorem long_any (H : RIn N w v ll) (hlen : ll.length ≤ maxLen) (hrow : ∀ l ∈ ll, l.length ≤ maxLen) : Calls Tryz.prog 9 #[v] w fun e w' => e = .returned (.bool (longB ll)) ∧ w' = w := by
  obtain ⟨a, c, rfl, hx⟩ := H
  have Hx := Lib.hid hx
  have Hrow := Lib.hid hrow
  clear hx hrow
  by_cases h10 : 10 < ll.length
  · have hd : decide ((10 : Int) < (ll.length : Int)) = true := by simp; omega
    have hlb : longB ll = true := by unfold longB; simp [h10]
    rw [hlb]
    go_enter Tryz.func9, Tryz.ntmps9
    go_wp2
    go_ret
    exact ⟨rfl, rfl⟩
  have hd : decide ((10 : Int) < (ll.length : Int)) = false := by simp; omega
  have hlb : longB ll = ll.any rowLong := by unfold longB; simp [h10]
  rw [hlb]
  have Hlb := Lib.hid hlb
  clear hlb
  generalize hres : ll.any rowLong = res at *
  have Hres := Lib.hid hres
  clear hres
  go_enter Tryz.func9, Tryz.ntmps9
  go_wp2
  go_loop [3] (fun i => ∃ k : Nat, k ≤ ll.length ∧ i = .int .i64 k ∧ ∀ (j : Nat) l, j < k → ll[j]? = some l → rowLong l = false) (fun i => ll.length - (intOf i).toNat)
  case atStart => exact ⟨0, Nat.zero_le _, rfl, fun j l h => by omega⟩
  case round =>
    obtain ⟨k, hk, rfl, hall⟩ := hrel
    have Hall := Lib.hid hall
    clear hall
    by_cases hlt : k < ll.length
    · have hd2 : decide ((k : Int) < (ll.length : Int)) = true := by simp; omega
      have hki : (k : Int) < (ll.length : Int) := by omega
      obtain ⟨l, hl⟩ : ∃ l, ll[k]? = some l := ⟨_, List.getElem?_eq_getElem hlt⟩
      obtain ⟨b, off, u, rfl, hb, hc, ⟨ua, uc, rfl, hxx⟩⟩ := Hx.out k l hl
      have Hl := Lib.hid hl
      have Hxx := Lib.hid hxx
      have hml := Hrow.out l (List.mem_of_getElem? hl)
      clear hl hxx
      by_cases h30 : 30 < l.length
      · have hd3 : decide ((30 : Int) < (l.length : Int)) = true := by simp; omega
        have hr : rowLong l = true := by unfold rowLong; simp [h30]
        have hres : res = true := by rw [← Hres.out]; exact any_at Hl.out hr
        subst hres
        clear hr
        go_wp2
        go_ret
        exact ⟨rfl, rfl⟩
      have hd3 : decide ((30 : Int) < (l.length : Int)) = false := by simp; omega
      go_wp2
      go_loop [4] (fun i => ∃ q : Nat, q ≤ l.length ∧ i = .int .i64 q ∧ ∀ (j : Nat) x, j < q → l[j]? = some x → decide (100 < x.1.size) = false) (fun i => l.length - (intOf i).toNat)
      case atStart => exact ⟨0, Nat.zero_le _, rfl, fun j l h => by omega⟩
      case round =>
        obtain ⟨q, hq, rfl, hall⟩ := hrel
        have Hall2 := Lib.hid hall
        clear hall
        by_cases hltq : q < l.length
        · have hd4 : decide ((q : Int) < (l.length : Int)) = true := by simp; omega
          have hqi : (q : Int) < (l.length : Int) := by omega
          obtain ⟨x, hxl⟩ : ∃ x, l[q]? = some x := ⟨_, List.getElem?_eq_getElem hltq⟩
          obtain ⟨ub, uoff, rfl, hub, h0, -⟩ := Hxx.out q x hxl
          have Hxl := Lib.hid hxl
          clear hxl
          by_cases h100 : 100 < x.1.size
          · have hd5 : decide ((100 : Int) < (x.1.size : Int)) = true := by simp; omega
            have hr : rowLong l = true := by
              unfold rowLong
              rw [any_at (f := fun x : ROp => decide (100 < x.1.size)) Hxl.out (by simpa using h100)]
              simp
            have hres : res = true := by rw [← Hres.out]; exact any_at Hl.out hr
            subst hres
            clear hr
            go_wp2
            go_ret
            exact ⟨rfl, rfl⟩
          · have hd5 : decide ((100 : Int) < (x.1.size : Int)) = false := by simp; omega
            go_wp2
            go_round
            case rel =>
              refine ⟨q + 1, by omega, by go_num, fun j y hj hy => ?_⟩
              by_cases e : j = q
              · subst e
                rw [Hxl.out] at hy; cases hy
                simpa using h100
              · exact Hall2.out j y (by omega) hy
            case measure => simp [intOf]; omega
        · have hd4 : decide ((q : Int) < (l.length : Int)) = false := by simp; omega
          have hr : rowLong l = false := by
            unfold rowLong
            rw [any_none (fun i x hi => Hall2.out i x (by have := (List.getElem?_eq_some_iff.1 hi).1; omega) hi)]
            simp; omega
          have Hr := Lib.hid hr
          clear hr
          go_wp2
          go_round
          case rel =>
            refine ⟨k + 1, by omega, by go_num, fun j y hj hy => ?_⟩
            by_cases e : j = k
            · subst e
              rw [Hl.out] at hy; cases hy
              exact Hr.out
            · exact Hall.out j y (by omega) hy
          case measure => simp [intOf]; omega
    · have hd2 : decide ((k : Int) < (ll.length : Int)) = false := by simp; omega
      have hres : res = false := by
        rw [← Hres.out]
        exact any_none fun i l hi => Hall.out i l (by have := (List.getElem?_eq_some_iff.1 hi).1; omega) hi
      subst hres
      go_wp2
      go_ret
      exact ⟨rfl, rfl⟩
end Go.Proofs.YtppihkneeolomaaGreatDoor
end
/- quiescentref2.Many, KindsFault: over any lists of ops. -/
section
namespace Go.Proofs.YtppihkneeolomaaGreatDoor
open Go.RowKit Qs Qh
variable {N : Nat} {w w' : World} {v u : Value} {ll : List (List ROp)} {l : List ROp}
def manyB (ll : List (List ROp)) : Bool := decide (1 ≤ ll.length) && decide (ll.length ≤ 6) && ll.all fun l => decide (l.length ≤ 20)
set_option maxHeartbeats 4000000 in
theorem many_any (H : RIn N w v ll) (hlen : ll.length ≤ 10) (hrow : ∀ l ∈ ll, l.length ≤ 30) : Calls Tryz.prog 40 #[v] w fun e w' => e = .returned (.bool (manyB ll)) ∧ w' = w := by
  obtain ⟨a, c, rfl, hx⟩ := H
  have Hx := Lib.hid hx
  have Hrow := Lib.hid hrow
  clear hx hrow
  by_cases h1 : ll.length < 1
  · have hd : decide ((ll.length : Int) < 1) = true := by simp; omega
    have hb : manyB ll = false := by unfold manyB; simp; omega
    rw [hb]
    go_enter Tryz.func40, Tryz.ntmps40
    go_wp2
    go_ret
    exact ⟨rfl, rfl⟩
  have hd1 : decide ((ll.length : Int) < 1) = false := by simp; omega
  by_cases h6 : 6 < ll.length
  · have hd : decide ((6 : Int) < (ll.length : Int)) = true := by simp; omega
    have hb : manyB ll = false := by unfold manyB; simp; omega
    rw [hb]
    go_enter Tryz.func40, Tryz.ntmps40
    go_wp2
    go_ret
    exact ⟨rfl, rfl⟩
  have hd2 : decide ((6 : Int) < (ll.length : Int)) = false := by simp; omega
  have hb : manyB ll = ll.all fun l => decide (l.length ≤ 20) := by
    unfold manyB
    rw [decide_eq_true (show 1 ≤ ll.length by omega), decide_eq_true (show ll.length ≤ 6 by omega)]; rfl
  rw [hb]
  clear hb
  generalize hres : (ll.all fun l => decide (l.length ≤ 20)) = res at *
  have Hres := Lib.hid hres
  clear hres
  go_enter Tryz.func40, Tryz.ntmps40
  go_wp2
  go_loop [3] (fun i => ∃ k : Nat, k ≤ ll.length ∧ i = .int .i64 k ∧ ∀ (j : Nat) l, j < k → ll[j]? = some l → l.length ≤ 20) (fun i => ll.length - (intOf i).toNat)
  case atStart => exact ⟨0, Nat.zero_le _, rfl, fun j l h => by omega⟩
  case round =>
    obtain ⟨k, hk, rfl, hall⟩ := hrel
    have Hall := Lib.hid hall
    clear hall
    by_cases hlt : k < ll.length
    · have hd3 : decide ((k : Int) < (ll.length : Int)) = true := by simp; omega
      have hki : (k : Int) < (ll.length : Int) := by omega
      obtain ⟨l, hl⟩ : ∃ l, ll[k]? = some l := ⟨_, List.getElem?_eq_getElem hlt⟩
      obtain ⟨b, off, u, rfl, hb, hc, ⟨ua, uc, rfl, -⟩⟩ := Hx.out k l hl
      have Hl := Lib.hid hl
      clear hl
      by_cases h20 : 20 < l.length
      · have hd4 : decide ((20 : Int) < (l.length : Int)) = true := by simp; omega
        have hres : res = false := by
          rw [← Hres.out]
          rw [List.all_eq_false]
          exact ⟨l, List.mem_of_getElem? Hl.out, by simp; omega⟩
        subst hres
        go_wp2
        go_ret
        exact ⟨rfl, rfl⟩
      · have hd4 : decide ((20 : Int) < (l.length : Int)) = false := by simp; omega
        go_wp2
        go_round
        case rel =>
          refine ⟨k + 1, by omega, by go_num, fun j y hj hy => ?_⟩
          by_cases e : j = k
          · subst e
            rw [Hl.out] at hy; cases hy
            omega
          · exact Hall.out j y (by omega) hy
        case measure => simp [intOf]; omega
    · have hd3 : decide ((k : Int) < (ll.length : Int)) = false := by simp; omega
      have hres : res = true := by
        rw [← Hres.out, List.all_eq_true]
        intro l hl
        obtain ⟨i, hi⟩ := List.getElem?_of_mem hl
        have := Hall.out i l (by have := (List.getElem?_eq_some_iff.1 hi).1; omega) hi
        simpa using this
      subst hres
      go_wp2
      go_ret
      exact ⟨rfl, rfl⟩
theorem bare_ok (c : Int) (w : World) : Calls Tryz.prog 31 #[.int .i64 c] w fun e w' => e = .returned (.agg #[.int .i64 c, .int .i64 (-1)]) ∧ Mod noF w w' := by
  go_enter Tryz.func31, Tryz.ntmps31
  go_wp2
  exact bodyPost_ret (v := .agg #[.int .i64 c, .int .i64 (-1)]) (by simp [results, Tryz.results31, go_sem]) rfl ⟨rfl, (Mod.refl _ _).alloc _⟩
theorem fine_ok (w : World) : Calls Tryz.prog 41 #[] w fun e w' => e = .returned (.agg #[.int .i64 0, .int .i64 (-1)]) ∧ Mod noF w w' := by
  go_enter Tryz.func41, Tryz.ntmps41
  go_wp2
  exact bodyPost_ret (v := .agg #[.int .i64 0, .int .i64 (-1)]) (by simp [results, Tryz.results41, go_sem]) rfl ⟨rfl, (Mod.refl _ _).alloc _⟩
end Go.Proofs.YtppihkneeolomaaGreatDoor
end
/- For the queue's laws: what is read of a machine, and of a start. -/
section
namespace Qh
open Go Go.RowKit Qs
variable {w w' : World} {v : Value}
theorem RowsAt.keepM {ll : List (List Int)} (h : RowsAt w v ll) (hM : Mod noF w w') : RowsAt w' v ll := by
  obtain ⟨a, c, e, hx⟩ := h
  refine ⟨a, c, e, fun i l hi => ?_⟩
  obtain ⟨b, off, u, e1, hb, hc, hi2, ho⟩ := hx i l hi
  exact ⟨b, off, u, e1, Nat.lt_of_lt_of_le hb hM.size, hM.cell hc (fun e => e), hi2.frame0 hM, fun g hg => Nat.lt_of_lt_of_le (ho g hg) hM.size⟩
theorem CodesAt.keepM {cs : List (List Instr)} {cv : Nat → Value} (h : CodesAt w v cs cv) (hM : Mod noF w w') : CodesAt w' v cs cv := by
  obtain ⟨a, c, e, hx⟩ := h
  refine ⟨a, c, e, fun i l hi => ?_⟩
  obtain ⟨b, off, e1, hb, hc, hi2, ho⟩ := hx i l hi
  exact ⟨b, off, e1, Nat.lt_of_lt_of_le hb hM.size, hM.cell hc (fun e => e), hi2.frame hM (fun _ _ e => e), fun g hg => Nat.lt_of_lt_of_le (ho g hg) hM.size⟩
theorem Mach.head {τ : Ty} {L : Lay} {m : M} {N : Int} (X : Mach τ w L m N) : w.heap[L.blk 0 0]? = some (.cells #[.pointer (some ⟨L.blk 1 0, 0, none⟩), L.row 4 0 m.T.length, L.row 5 0 m.marks.length, .int .i64 m.faults] τ.mach (0, 0)) :=
  X.rep.at_ 0 0 _ _ rfl rfl
theorem Mach.told {τ : Ty} {L : Lay} {m : M} {N : Int} (X : Mach τ w L m N) : ∃ a c, L.row 5 0 m.marks.length = .slice a m.marks.length c ∧ ∀ (i : Nat) x, m.marks[i]? = some x → ∃ b, a = some ⟨b, 0, none⟩ ∧ b < w.heap.size ∧ w.cell? ⟨b, i * 2, none⟩ = some (.int .i64 x.1) ∧ w.cell? ⟨b, i * 2 + 1, none⟩ = some (.int .i64 x.2) := by
  cases hn : L.nil 5 0 with
  | true =>
    have h0 := X.olt.n5 hn
    refine ⟨none, 0, by simp [Lay.row, hn, h0], fun i x hi => by rw [h0] at hi; simp at hi⟩
  | false =>
    have hh := X.rep.at_ 5 0 _ _ rfl (obj5 τ m hn)
    refine ⟨_, _, row_some hn, fun i x hi => ⟨_, rfl, lt_of_block hh, ?_, ?_⟩⟩
    · rw [cell_of_heap hh]
      have := flat_get markVals 2 (fun _ _ => rfl) (show 0 < 2 by omega) m.marks 0 i x hi (L.junk 5 0)
      simpa [markVals, iv] using this
    · rw [cell_of_heap hh]
      have := flat_get markVals 2 (fun _ _ => rfl) (show 1 < 2 by omega) m.marks 0 i x hi (L.junk 5 0)
      simpa [markVals, iv] using this
end Qh
namespace Go.Proofs.YtppihkneeolomaaGreatDoor
open Go.RowKit Qs Qh
end Go.Proofs.YtppihkneeolomaaGreatDoor
end
/- Lists of numbers that the queue's laws make: given, marked, count, within. -/
section
namespace Go.Proofs.YtppihkneeolomaaGreatDoor
open Go.RowKit Qs Qh
/-- A list of numbers that its maker owns. -/
def IOwn (w : World) (x : Value) (l : List Int) : Prop := w.ownsRow 0 3 1 x l.length (l.map (Value.int .i64))
variable {N : Nat} {w w' w1 : World} {v u x : Value} {ll : List (List Qu.Op)} {l : List Qu.Op} {z : List Int}
theorem IOwn.nil (w : World) : IOwn w (.slice none 0 0) [] := World.ownsRow_nil w 0 _ 1
theorem IOwn.lt (h : IOwn w x z) {g : Nat} (hg : x.ownBlock = some g) : g < w.heap.size := (World.ownsRow.lt h g hg).2
theorem IOwn.keep (h : IOwn w x z) {F : Nat → Prop} (hM : Mod F w w1) (hF : ∀ g, x.ownBlock = some g → ¬ F g) : IOwn w1 x z := by
  refine ⟨h.1, ?_⟩
  rcases h.2 with e | ⟨g, cap, cur, rfl, h0, hg, r⟩
  · exact .inl e
  · exact .inr ⟨g, cap, cur, rfl, h0, hM.heap hg (hF g rfl), r⟩
theorem IOwn.snoc {y : Int} (h : w.ownsRow 0 3 1 x (z.length + 1) (z.map (Value.int .i64) ++ [.int .i64 y])) : IOwn w x (z ++ [y]) := by
  unfold IOwn
  rw [List.length_append, List.map_append]
  exact h
end Go.Proofs.YtppihkneeolomaaGreatDoor
end
