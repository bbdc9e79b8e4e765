/- Texts that belong together, joined. -/
import Derived.Test.YtppihkneeolomaaGreatDoorProg
import Derived.WalkKit
import Derived.Deep.QuietTactic
import Derived.BigQuiet
import Derived.Lib.Hide
import Derived.Test.YtppihkneeolomaaGreatDoorSBm2
import Derived.BigRegion
import Derived.Outline
import Derived.Deep.LoopGhost
import Derived.WalkSpells
import Derived.WalkLawsBesides
import Derived.StillTailTactics
import Derived.RowKit
import Derived.IntWalk
import Derived.Deep.RegionWith
import Derived.LoopTactic
import Derived.Deep.RegionHeld3
import Derived.Test.YtppihkneeolomaaGreatDoorRows
import Derived.ProofKit
import Derived.OpenShut
import Derived.Deep.Slices
import Derived.JoinedOf
import Derived.KernelRfl
import Derived.LaidLaws
import Derived.LaidHandle
import Derived.ChangeSame
import Derived.ChangeVars
import Derived.Stop.Joined
set_option linter.unusedVariables false
set_option linter.unusedSimpArgs false
set_option linter.unusedSectionVars false
/- (*quiescentref1.Memory).Here, .At. -/
section
namespace Go.Proofs.YtppihkneeolomaaGreatDoor
open Go.RowKit Qs Qh
def ty : Ty := { mach := 51, mem := 80, cell := 76, waits := 112, thr := 73, mark := 62, int := 3, wait := 191, instr := 143 }
variable {K : Nat → Bool} {w : World} {L : Lay} {m : M} {N : Int}
end Go.Proofs.YtppihkneeolomaaGreatDoor
end
/- quiescentref1.NewMemory. -/
section
namespace Go.Proofs.YtppihkneeolomaaGreatDoor
open Go.RowKit Qs Qh
theorem newArr_zero_any (B B' n : Nat) : newArr B n 0 = newArr B' n 0 := by rw [← newArr_zero, ← newArr_zero]
/-- What a new memory's loop keeps. -/
structure NewRel (w : World) (n t bm bc bw k : Nat) (wr : World) : Prop where
  size : wr.heap.size = w.heap.size + 3 + k
  mem : wr.heap[bm]? = some (.cells #[.slice (some ⟨bc, 0, none⟩) n n, .slice (some ⟨bw, 0, none⟩) t t] 80 (0, 0))
  cells : wr.heap[bc]? = some (.cells (newArr (w.heap.size + 3) n k).toArray 76 (0, 0))
  waits : wr.heap[bw]? = some (.cells (List.replicate t (.slice none 0 0)).toArray 112 (0, 0))
  words : ∀ i, i < k → wr.heap[w.heap.size + 3 + i]? = some (.cells #[.int .i64 0, .int .i64 0, .int .i64 0, .int .i64 0] 3 (0, 0))
  below : Below w.heap.size w wr
theorem NewRel.next {w wr : World} {n t bm bc bw k : Nat} (h : NewRel w n t bm bc bw k wr) (hk : k < n) (h2 : bc < w.heap.size + 3) (hB : w.heap.size ≤ bc) (h12 : bm ≠ bc) (h23 : bc ≠ bw) (h1 : bm < w.heap.size + 3) (h3 : bw < w.heap.size + 3) :
    NewRel w n t bm bc bw (k + 1) ((wr.setCell ⟨bc, k * 3, none⟩ (.slice (some ⟨wr.heap.size, 0, none⟩) 4 4)).alloc (.cells #[.int .i64 0, .int .i64 0, .int .i64 0, .int .i64 0] 3)) := by
  have hs := h.size
  have hss : (wr.setCell ⟨bc, k * 3, none⟩ (.slice (some ⟨wr.heap.size, 0, none⟩) 4 4)).heap.size = wr.heap.size := by simp [World.setCell]
  have old : ∀ (b : Nat) (o : Obj), (wr.setCell ⟨bc, k * 3, none⟩ (.slice (some ⟨wr.heap.size, 0, none⟩) 4 4)).heap[b]? = some o → ((wr.setCell ⟨bc, k * 3, none⟩ (.slice (some ⟨wr.heap.size, 0, none⟩) 4 4)).alloc (.cells #[.int .i64 0, .int .i64 0, .int .i64 0, .int .i64 0] 3)).heap[b]? = some o := fun b o hb => (Below.heap_alloc _ _ b (lt_of_block hb)).trans hb
  refine ⟨by simp [World.setCell]; omega, old _ _ ?_, old _ _ ?_, old _ _ ?_, ?_, ?_⟩
  · rw [Qh.heap_setCell_other h12]; exact h.mem
  · rw [Qh.heap_setCell_same h.cells, newArr_succ hk]
    simp [hs]
  · rw [Qh.heap_setCell_other (Ne.symm h23)]; exact h.waits
  · intro i hi
    by_cases e : i = k
    · subst e
      have := heap_alloc_new (wr.setCell ⟨bc, i * 3, none⟩ (.slice (some ⟨wr.heap.size, 0, none⟩) 4 4)) (.cells #[.int .i64 0, .int .i64 0, .int .i64 0, .int .i64 0] 3)
      rw [hss, hs] at this
      rw [hs]
      exact this
    · refine old _ _ ?_
      rw [Qh.heap_setCell_other (by omega)]
      exact h.words i (by omega)
  · exact (h.below.setCell hB _).alloc (by rw [hss]; omega) _
theorem NewRel.drew {w wr : World} {n t bm bc bw k : Nat} (h : NewRel w n t bm bc bw k wr) : NewRel w n t bm bc bw k wr.drew :=
  ⟨h.size, h.mem, h.cells, h.waits, h.words, ⟨h.below.os, h.below.tape, h.below.output, h.below.size, h.below.block⟩⟩
theorem NewRel.start {w wr : World} {n t bm bc bw : Nat} (hs : wr.heap.size = w.heap.size + 3) (hm : wr.heap[bm]? = some (.cells #[.slice (some ⟨bc, 0, none⟩) n n, .slice (some ⟨bw, 0, none⟩) t t] 80 (0, 0)))
    (hc : wr.heap[bc]? = some (.cells (newArr 0 n 0).toArray 76 (0, 0))) (hw : wr.heap[bw]? = some (.cells (List.replicate t (.slice none 0 0)).toArray 112 (0, 0))) (hb : Below w.heap.size w wr) : NewRel w n t bm bc bw 0 wr :=
  ⟨by omega, hm, by rw [newArr_zero_any _ 0]; exact hc, hw, fun i hi => absurd hi (by omega), hb⟩
end Go.Proofs.YtppihkneeolomaaGreatDoor
end
/- quiescentref1.NewMachine, the first half: its memory. -/
section
namespace Go.Proofs.YtppihkneeolomaaGreatDoor
open Go.RowKit Qs Qh
/-- What the first loop of NewMachine keeps. -/
structure PreRel (W : World) (bs b0 bm : Nat) (iw rw_ : Value) (n t : Nat) (init : List (List Int)) (i : Nat) (wr : World) (L : Lay) : Prop where
  rep : Rep ty memK wr L (preM n t init i)
  ol : OkL L (preM n t init i)
  below : Below W.heap.size W wr
  foot : ∀ k, Foot ty memK L (preM n t init i) k → W.heap.size ≤ k ∧ k ≠ bs ∧ k ≠ b0
  top : L.blk 1 0 = bm
  nil7 : ∀ j, L.nil 7 j = true
  box : wr.heap[bs]? = some (.cells #[.int .i64 n, iw, rw_] 40 (0, 0))
  mach : wr.heap[b0]? = some (.cells #[.pointer (some ⟨bm, 0, none⟩), .slice none 0 0, .slice none 0 0, .int .i64 0] 51 (0, 0))
theorem PreRel.next {W wr w1 w2 : World} {bs b0 bm n t i : Nat} {iw rw_ : Value} {init : List (List Int)} {L : Lay} (h : PreRel W bs b0 bm iw rw_ n t init i wr L) (hW : bs < wr.heap.size) (hb0 : b0 < wr.heap.size) (hi : i < n) {l : List Int} (hl : init[i]? = some l) (h4 : l.length ≤ 4)
    (R1 : Rep ty memK w1 (L.words i (wr.heap.size + 1)) { (preM n t init i) with cells := (preM n t init i).cells.set i (zeroCell (0 + 1)) }) (hM1 : Mod (fun x => x = L.blk 2 0) wr w1) (hs1 : wr.heap.size + 1 < w1.heap.size)
    (hg : w2.heap[wr.heap.size + 1]? = some (.cells ((pad 4 l).map (Value.int .i64)).toArray 3 (0, 0))) (hM2 : Mod (fun x => x = wr.heap.size + 1) w1 w2) :
    PreRel W bs b0 bm iw rw_ n t init (i + 1) w2 (L.words i (wr.heap.size + 1)) := by
  have hbe := h.below.size
  have h20 : Foot ty memK L (preM n t init i) (L.blk 2 0) := ⟨2, 0, rfl, by rw [obj2 ty _ h.ol.n2]; rfl, rfl⟩
  have hf20 := h.foot _ h20
  have hgt : ({ (preM n t init i) with cells := (preM n t init i).cells.set i (zeroCell (0 + 1)) } : M).cells[i]? = some (zeroCell 1) := by
    show ((preM n t init i).cells.set i (zeroCell (0 + 1)))[i]? = _
    rw [List.getElem?_set]; simp [preM_len, hi]
  have ho6 : obj ty (L.words i (wr.heap.size + 1)) { (preM n t init i) with cells := (preM n t init i).cells.set i (zeroCell (0 + 1)) } 6 i = some ([iv 0, iv 0, iv 0, iv 0], ty.int) := by
    rw [obj6 ty (by simp [Lay.words]) hgt]
    simp [Lay.words, zeroCell]
  have hsucc := preM_succ (t := t) hi hl
  have R2 : Rep ty memK w2 (L.words i (wr.heap.size + 1)) (preM n t init (i + 1)) := by
    rw [← hsucc]
    refine R1.put (a := 6) (i := i) rfl ho6 (cs' := (pad 4 l).map iv) ?_ ?_ ?_ ?_
    · rw [obj6 ty (c := ⟨pad 4 l, 1, true⟩) (by simp [Lay.words]) (by
        show (((preM n t init i).cells.set i (zeroCell 1)).set i ⟨pad 4 l, 1, true⟩)[i]? = _
        rw [List.getElem?_set]; simp [preM_len, hi])]
      simp [Lay.words]
    · intro b k hbk
      by_cases e2 : b = 2 ∧ k = 0
      · obtain ⟨rfl, rfl⟩ := e2
        rw [obj2 ty _ (by rw [words_nil L i _ 2 0 (by omega)]; exact h.ol.n2), obj2 ty _ (by rw [words_nil L i _ 2 0 (by omega)]; exact h.ol.n2)]
        have : flat (cellVals (L.words i (wr.heap.size + 1))) 0 (((preM n t init i).cells.set i (zeroCell 1)).set i ⟨pad 4 l, 1, true⟩) = flat (cellVals (L.words i (wr.heap.size + 1))) 0 ((preM n t init i).cells.set i (zeroCell (0 + 1))) := by
          refine flat_congr _ _ 0 (by simp) fun q x y h1 h2 => ?_
          rw [List.getElem?_set] at h1
          by_cases e : i = q
          · subst e
            rw [List.getElem?_set] at h2
            simp [preM_len, hi] at h1 h2
            subst h1; subst h2
            simp [cellVals, zeroCell, pad_len h4]
          · rw [if_neg e, ] at h1
            have e0 : (zeroCell 1 : Cell) = zeroCell (0 + 1) := rfl
            rw [e0, h2] at h1
            cases h1; rfl
        show some (flat _ 0 (((preM n t init i).cells.set i (zeroCell 1)).set i ⟨pad 4 l, 1, true⟩) ++ _, _) = some (flat _ 0 ((preM n t init i).cells.set i (zeroCell (0 + 1))) ++ _, _)
        rw [this]
      · exact cell_obj ty _ { (preM n t init i) with cells := (preM n t init i).cells.set i (zeroCell (0 + 1)) } hgt b k hbk e2
    · have : (L.words i (wr.heap.size + 1)).blk 6 i = wr.heap.size + 1 := by simp [Lay.words]
      rw [this]; exact hM2
    · have : (L.words i (wr.heap.size + 1)).blk 6 i = wr.heap.size + 1 := by simp [Lay.words]
      rw [this]; exact hg
  have hfoot : ∀ k, Foot ty memK (L.words i (wr.heap.size + 1)) (preM n t init (i + 1)) k → Foot ty memK L (preM n t init i) k ∨ k = wr.heap.size + 1 := by
    intro k hk
    rw [← hsucc] at hk
    have hk1 := foot_cell ty memK (L.words i (wr.heap.size + 1)) { (preM n t init i) with cells := (preM n t init i).cells.set i (zeroCell (0 + 1)) } hgt k hk
    exact words_foot h.ol hk1
  refine ⟨R2, ?_, ?_, ?_, ?_, ?_, ?_, ?_⟩
  · rw [← hsucc]
    have := ok_cell (i := i) (c := zeroCell 1) (c' := ⟨pad 4 l, 1, true⟩) (words_ok (i := i) (b := wr.heap.size + 1) (t := 0 + 1) h.ol)
    exact this
  · exact (h.below.trans (hM1.under hbe (fun k hk => by omega))).trans (hM2.under (by have := hM1.size; omega) (fun k hk => by omega))
  · intro k hk
    rcases hfoot k hk with h1 | h1
    · exact h.foot k h1
    · subst h1; refine ⟨by omega, by omega, by omega⟩
  · rw [words_blk L i _ 1 0 (by omega)]; exact h.top
  · intro j; rw [words_nil L i _ 7 j (by omega)]; exact h.nil7 j
  · exact hM2.heap (hM1.heap h.box (fun e => hf20.2.1 e.symm)) (by omega)
  · exact hM2.heap (hM1.heap h.mach (fun e => hf20.2.2 e.symm)) (by omega)
end Go.Proofs.YtppihkneeolomaaGreatDoor
end
/- code.Name. -/
section
namespace Go.Proofs.YtppihkneeolomaaGreatDoor
open Go.RowKit Qs Qh
theorem name_any (s : ByteArray) (w : World) (hs : s.size ≤ maxLen) :
    Calls Tryz.prog 91 #[.string s] w fun e w' => e = .returned (.bool (nameB s.data.toList)) ∧ w = w' := by
  unfold maxLen at hs
  by_cases h0 : s.size = 0
  · have e0 : s.toList = [] := by rw [Lib.toList_data]; exact List.length_eq_zero_iff.1 (by rw [bytes_len]; exact h0)
    have e1 : s.toList.isEmpty = true := by rw [e0]; rfl
    have e2 : nameB s.data.toList = false := by rw [← Lib.toList_data, e0]; rfl
    rw [e2]
    clear e2 h0
    go_enter Tryz.func91, Tryz.ntmps91
    go_wp2
    go_ret
    exact ⟨rfl, rfl⟩
  · have hp : 0 < s.size := by omega
    have e1 : s.toList.isEmpty = false := by
      rw [Lib.toList_data]
      cases h : s.data.toList with
      | nil => have := bytes_len s; rw [h] at this; simp at this; omega
      | cons _ _ => rfl
    by_cases h12 : 12 < s.size
    · have e2 := nameB_len (l := s.data.toList) (by rw [bytes_len]; exact h12)
      rw [e2]
      clear e2 h0
      have hd : decide ((12 : Int) < (s.size : Int)) = true := by simp; omega
      go_enter Tryz.func91, Tryz.ntmps91
      go_wp2
      go_ret
      exact ⟨rfl, rfl⟩
    · have hd : decide ((12 : Int) < (s.size : Int)) = false := by simp; omega
      have g0 := bytes_get s 0 hp
      go_enter Tryz.func91, Tryz.ntmps91
      go_wp2
      · go_ret
        refine ⟨ret_bool (nameB_first g0 ?_).symm, rfl⟩
        have : (s[0].toNat : Int) < 97 ∨ 122 < (s[0].toNat : Int) := by assumption
        unfold lowB; simp; omega
      · have hlow : lowB s[0] = true := by
          have : 97 ≤ (s[0].toNat : Int) ∧ (s[0].toNat : Int) ≤ 122 := by assumption
          unfold lowB; simp; omega
        have Hlow := Lib.hid hlow
        have G0 := Lib.hid g0
        clear hlow g0
        go_loop [24, 3, 4] (fun i _ _ => ∃ k : Nat, k ≤ s.size ∧ i = .int .i64 k ∧ ∀ (j : Nat) d, j < k → s.data.toList[j]? = some d → chB d = true) (fun i _ _ => s.size - (intOf i).toNat)
        case atStart => exact ⟨0, Nat.zero_le _, rfl, fun j d hj => absurd hj (by omega)⟩
        case round =>
          obtain ⟨k, hk, rfl, hall⟩ := hrel
          have Hall := Lib.hid hall
          clear hall
          by_cases hlt : k < s.size
          · have gk := bytes_get s k hlt
            have Gk := Lib.hid gk
            clear gk
            go_wp2
            all_goals (try simp only [bne_iff_ne, ne_eq, bne_eq_false_iff_eq] at *)
            all_goals first
              | (go_round
                 case rel => exact ⟨k + 1, by omega, by go_num, ch_step hlt Hall.out (chB_true (by omega))⟩
                 case measure => simp [intOf]; omega)
              | (go_ret
                 exact ⟨ret_bool (nameB_ch Gk.out (chB_false (by omega))).symm, rfl⟩)
          · obtain rfl : k = s.size := by omega
            go_wp2
            go_ret
            refine ⟨ret_bool (nameB_yes G0.out Hlow.out (by rw [bytes_len]; omega) fun i d hd => Hall.out i d ?_ hd).symm, rfl⟩
            have := (List.getElem?_eq_some_iff.1 hd).1
            rw [bytes_len] at this; exact this
      · go_ret
        refine ⟨ret_bool (nameB_first g0 ?_).symm, rfl⟩
        have : (s[0].toNat : Int) < 97 := by assumption
        unfold lowB; simp; omega
end Go.Proofs.YtppihkneeolomaaGreatDoor
end
/- quiescentref1.IsName. -/
section
namespace Go.Proofs.YtppihkneeolomaaGreatDoor
open Go.RowKit Qs Qh
theorem nameB_low {s : ByteArray} (hp : 0 < s.size) (h : lowB s[0] = false) : nameB s.data.toList = false := nameB_first (bytes_get s 0 hp) h
theorem lowB_true {c : UInt8} (h : 97 ≤ (c.toNat : Int) ∧ (c.toNat : Int) ≤ 122) : lowB c = true := by
  unfold lowB; simp only [Bool.and_eq_true, decide_eq_true_eq]; omega
theorem lowB_false {c : UInt8} (h : ¬ (97 ≤ (c.toNat : Int) ∧ (c.toNat : Int) ≤ 122)) : lowB c = false := by
  rw [← Bool.not_eq_true]; unfold lowB; simp only [Bool.and_eq_true, decide_eq_true_eq]; omega
theorem isName_any (s : ByteArray) (w : World) (hs : s.size ≤ maxLen) :
    Calls Tryz.prog 100 #[.string s] w fun e w' => e = .returned (.bool (nameB s.data.toList)) ∧ w = w' := by
  unfold maxLen at hs
  by_cases h0 : s.size = 0
  · have e2 : nameB s.data.toList = false := by
      have : s.data.toList = [] := List.length_eq_zero_iff.1 (by rw [bytes_len]; exact h0)
      rw [this]; rfl
    rw [e2]
    have hd : decide ((s.size : Int) < 1) = true := by simp; omega
    clear e2
    go_enter Tryz.func100, Tryz.ntmps100
    go_wp2
    go_ret
    exact ⟨rfl, rfl⟩
  · have hp : 0 < s.size := by omega
    have hd0 : decide ((s.size : Int) < 1) = false := by simp; omega
    by_cases h12 : 12 < s.size
    · have e2 := nameB_len (l := s.data.toList) (by rw [bytes_len]; exact h12)
      rw [e2]
      clear e2 h0
      have hd : decide ((12 : Int) < (s.size : Int)) = true := by simp; omega
      go_enter Tryz.func100, Tryz.ntmps100
      go_wp2
      go_ret
      exact ⟨rfl, rfl⟩
    · have hd : decide ((12 : Int) < (s.size : Int)) = false := by simp; omega
      clear h0
      go_enter Tryz.func100, Tryz.ntmps100
      go_wp2
      go_loop [3, 4, 5] (fun i _ _ => ∃ k : Nat, k ≤ s.size ∧ i = .int .i64 k ∧ (0 < k → lowB s[0] = true) ∧ ∀ (j : Nat) d, j < k → s.data.toList[j]? = some d → chB d = true) (fun i _ _ => s.size - (intOf i).toNat)
      case atStart => exact ⟨0, Nat.zero_le _, rfl, fun h => absurd h (by omega), fun j d hj => absurd hj (by omega)⟩
      case round =>
        obtain ⟨k, hk, rfl, hfirst, hall⟩ := hrel
        have Hall := Lib.hid hall
        have Hfirst := Lib.hid hfirst
        clear hall hfirst
        by_cases hlt : k < s.size
        · have gk := bytes_get s k hlt
          have Gk := Lib.hid gk
          clear gk
          by_cases hk0 : k = 0
          · subst hk0
            go_wp2
            all_goals (try simp only [bne_iff_ne, ne_eq, bne_eq_false_iff_eq, Bool.not_eq_true', Bool.not_eq_false', decide_eq_false_iff_not, decide_eq_true_eq] at *)
            all_goals first
              | (go_round
                 case rel => exact ⟨1, by omega, by go_num, fun _ => lowB_true (by omega), ch_step hlt Hall.out (chB_true (by omega))⟩
                 case measure => simp [intOf]; omega)
              | (go_ret
                 exact ⟨ret_bool (nameB_low hp (lowB_false (by omega))).symm, rfl⟩)
          · have hkz : ((k : Int) == 0) = false := by rw [beq_eq_false_iff_ne]; omega
            have Hk0 := Lib.hid hk0
            clear hk0
            go_wp2
            all_goals (try simp only [bne_iff_ne, ne_eq, bne_eq_false_iff_eq, Bool.not_eq_true', Bool.not_eq_false', decide_eq_false_iff_not, decide_eq_true_eq] at *)
            all_goals first
              | (go_round
                 case rel => exact ⟨k + 1, by omega, by go_num, fun _ => Hfirst.out (by have := Hk0.out; omega), ch_step hlt Hall.out (chB_true (by omega))⟩
                 case measure => simp [intOf]; omega)
              | (go_ret
                 exact ⟨ret_bool (nameB_ch Gk.out (chB_false (by omega))).symm, rfl⟩)
        · obtain rfl : k = s.size := by omega
          go_wp2
          go_ret
          refine ⟨ret_bool (nameB_yes (bytes_get s 0 hp) (Hfirst.out hp) (by rw [bytes_len]; omega) fun i d hd => Hall.out i d ?_ hd).symm, rfl⟩
          have := (List.getElem?_eq_some_iff.1 hd).1
          rw [bytes_len] at this; exact this
end Go.Proofs.YtppihkneeolomaaGreatDoor
end
/- quiescentref1.Shape, at each op. -/
section
namespace Go.Proofs.YtppihkneeolomaaGreatDoor
open Go.RowKit Qs Qh
theorem shape_const (w : World) : Calls Tryz.prog 98 #[.string ⟨#[99, 111, 110, 115, 116]⟩] w fun e w' => e = .returned (.tuple #[.string ⟨#[114, 118]⟩, .bool true]) ∧ w = w' := by
  go_enter Tryz.func98, Tryz.ntmps98
  go_wp2
  go_ret2
  exact ⟨rfl, rfl⟩
theorem shape_move (w : World) : Calls Tryz.prog 98 #[.string ⟨#[109, 111, 118, 101]⟩] w fun e w' => e = .returned (.tuple #[.string ⟨#[114, 114]⟩, .bool true]) ∧ w = w' := by
  go_enter Tryz.func98, Tryz.ntmps98
  go_wp2
  go_ret2
  exact ⟨rfl, rfl⟩
theorem shape_add (w : World) : Calls Tryz.prog 98 #[.string ⟨#[97, 100, 100]⟩] w fun e w' => e = .returned (.tuple #[.string ⟨#[114, 114, 114]⟩, .bool true]) ∧ w = w' := by
  go_enter Tryz.func98, Tryz.ntmps98
  go_wp2
  go_ret2
  exact ⟨rfl, rfl⟩
theorem shape_sub (w : World) : Calls Tryz.prog 98 #[.string ⟨#[115, 117, 98]⟩] w fun e w' => e = .returned (.tuple #[.string ⟨#[114, 114, 114]⟩, .bool true]) ∧ w = w' := by
  go_enter Tryz.func98, Tryz.ntmps98
  go_wp2
  go_ret2
  exact ⟨rfl, rfl⟩
theorem shape_and (w : World) : Calls Tryz.prog 98 #[.string ⟨#[97, 110, 100]⟩] w fun e w' => e = .returned (.tuple #[.string ⟨#[114, 114, 114]⟩, .bool true]) ∧ w = w' := by
  go_enter Tryz.func98, Tryz.ntmps98
  go_wp2
  go_ret2
  exact ⟨rfl, rfl⟩
theorem shape_xor (w : World) : Calls Tryz.prog 98 #[.string ⟨#[120, 111, 114]⟩] w fun e w' => e = .returned (.tuple #[.string ⟨#[114, 114, 114]⟩, .bool true]) ∧ w = w' := by
  go_enter Tryz.func98, Tryz.ntmps98
  go_wp2
  go_ret2
  exact ⟨rfl, rfl⟩
theorem shape_load (w : World) : Calls Tryz.prog 98 #[.string ⟨#[108, 111, 97, 100]⟩] w fun e w' => e = .returned (.tuple #[.string ⟨#[114, 114, 119]⟩, .bool true]) ∧ w = w' := by
  go_enter Tryz.func98, Tryz.ntmps98
  go_wp2
  go_ret2
  exact ⟨rfl, rfl⟩
theorem shape_store (w : World) : Calls Tryz.prog 98 #[.string ⟨#[115, 116, 111, 114, 101]⟩] w fun e w' => e = .returned (.tuple #[.string ⟨#[114, 114, 119]⟩, .bool true]) ∧ w = w' := by
  go_enter Tryz.func98, Tryz.ntmps98
  go_wp2
  go_ret2
  exact ⟨rfl, rfl⟩
theorem shape_swap (w : World) : Calls Tryz.prog 98 #[.string ⟨#[115, 119, 97, 112]⟩] w fun e w' => e = .returned (.tuple #[.string ⟨#[114, 114, 119]⟩, .bool true]) ∧ w = w' := by
  go_enter Tryz.func98, Tryz.ntmps98
  go_wp2
  go_ret2
  exact ⟨rfl, rfl⟩
theorem shape_cas (w : World) : Calls Tryz.prog 98 #[.string ⟨#[99, 97, 115]⟩] w fun e w' => e = .returned (.tuple #[.string ⟨#[114, 115, 119]⟩, .bool true]) ∧ w = w' := by
  go_enter Tryz.func98, Tryz.ntmps98
  go_wp2
  go_ret2
  exact ⟨rfl, rfl⟩
theorem shape_alloc (w : World) : Calls Tryz.prog 98 #[.string ⟨#[97, 108, 108, 111, 99]⟩] w fun e w' => e = .returned (.tuple #[.string ⟨#[114]⟩, .bool true]) ∧ w = w' := by
  go_enter Tryz.func98, Tryz.ntmps98
  go_wp2
  go_ret2
  exact ⟨rfl, rfl⟩
theorem shape_free (w : World) : Calls Tryz.prog 98 #[.string ⟨#[102, 114, 101, 101]⟩] w fun e w' => e = .returned (.tuple #[.string ⟨#[114]⟩, .bool true]) ∧ w = w' := by
  go_enter Tryz.func98, Tryz.ntmps98
  go_wp2
  go_ret2
  exact ⟨rfl, rfl⟩
theorem shape_fence (w : World) : Calls Tryz.prog 98 #[.string ⟨#[102, 101, 110, 99, 101]⟩] w fun e w' => e = .returned (.tuple #[.string ⟨#[]⟩, .bool true]) ∧ w = w' := by
  go_enter Tryz.func98, Tryz.ntmps98
  go_wp2
  go_ret2
  exact ⟨rfl, rfl⟩
theorem shape_force (w : World) : Calls Tryz.prog 98 #[.string ⟨#[102, 111, 114, 99, 101]⟩] w fun e w' => e = .returned (.tuple #[.string ⟨#[]⟩, .bool true]) ∧ w = w' := by
  go_enter Tryz.func98, Tryz.ntmps98
  go_wp2
  go_ret2
  exact ⟨rfl, rfl⟩
theorem shape_zero (w : World) : Calls Tryz.prog 98 #[.string ⟨#[122, 101, 114, 111]⟩] w fun e w' => e = .returned (.tuple #[.string ⟨#[114, 108]⟩, .bool true]) ∧ w = w' := by
  go_enter Tryz.func98, Tryz.ntmps98
  go_wp2
  go_ret2
  exact ⟨rfl, rfl⟩
theorem shape_same (w : World) : Calls Tryz.prog 98 #[.string ⟨#[115, 97, 109, 101]⟩] w fun e w' => e = .returned (.tuple #[.string ⟨#[114, 114, 108]⟩, .bool true]) ∧ w = w' := by
  go_enter Tryz.func98, Tryz.ntmps98
  go_wp2
  go_ret2
  exact ⟨rfl, rfl⟩
theorem shape_goto (w : World) : Calls Tryz.prog 98 #[.string ⟨#[103, 111, 116, 111]⟩] w fun e w' => e = .returned (.tuple #[.string ⟨#[108]⟩, .bool true]) ∧ w = w' := by
  go_enter Tryz.func98, Tryz.ntmps98
  go_wp2
  go_ret2
  exact ⟨rfl, rfl⟩
theorem shape_label (w : World) : Calls Tryz.prog 98 #[.string ⟨#[108, 97, 98, 101, 108]⟩] w fun e w' => e = .returned (.tuple #[.string ⟨#[108]⟩, .bool true]) ∧ w = w' := by
  go_enter Tryz.func98, Tryz.ntmps98
  go_wp2
  go_ret2
  exact ⟨rfl, rfl⟩
theorem shape_mark (w : World) : Calls Tryz.prog 98 #[.string ⟨#[109, 97, 114, 107]⟩] w fun e w' => e = .returned (.tuple #[.string ⟨#[114]⟩, .bool true]) ∧ w = w' := by
  go_enter Tryz.func98, Tryz.ntmps98
  go_wp2
  go_ret2
  exact ⟨rfl, rfl⟩
theorem shape_need (w : World) : Calls Tryz.prog 98 #[.string ⟨#[110, 101, 101, 100]⟩] w fun e w' => e = .returned (.tuple #[.string ⟨#[114]⟩, .bool true]) ∧ w = w' := by
  go_enter Tryz.func98, Tryz.ntmps98
  go_wp2
  go_ret2
  exact ⟨rfl, rfl⟩
theorem shape_stop (w : World) : Calls Tryz.prog 98 #[.string ⟨#[115, 116, 111, 112]⟩] w fun e w' => e = .returned (.tuple #[.string ⟨#[]⟩, .bool true]) ∧ w = w' := by
  go_enter Tryz.func98, Tryz.ntmps98
  go_wp2
  go_ret2
  exact ⟨rfl, rfl⟩
end Go.Proofs.YtppihkneeolomaaGreatDoor
end
/- quiescentref1.LabelAt. -/
section
namespace Go.Proofs.YtppihkneeolomaaGreatDoor
open Go.RowKit Qs Qh
variable {w : World} {L : Lay} {m : M} {N : Int}
def labE (to : List UInt8) (l : List Instr) : Int := match labelAt to l 0 with | some i => (i : Int) | none => -1
theorem drop_at {l : List Instr} {q : Nat} {x : Instr} (h : l[q]? = some x) : l.drop q = x :: l.drop (q + 1) := by
  obtain ⟨hl, rfl⟩ := List.getElem?_eq_some_iff.1 h
  exact List.drop_eq_getElem_cons hl
set_option maxHeartbeats 1000000 in
theorem labelAt_any (a : Option Addr) (c : Nat) (l : List Instr) (to : List UInt8) (w : World) (hl : l.length ≤ 1000000)
    (hx : ∀ (i : Nat) x, l[i]? = some x → ∃ b off, a = some ⟨b, off, none⟩ ∧ b < w.heap.size ∧ ∀ j y, (instrVals x)[j]? = some y → w.cell? ⟨b, off + i * 5 + j, none⟩ = some y) :
    Calls Tryz.prog 82 #[.slice a l.length c, sv to] w fun e w' => e = .returned (.int .i64 (labE to l)) ∧ w = w' := by
  have Hx := Lib.hid hx
  clear hx
  generalize hto : (⟨to.toArray⟩ : ByteArray) = tb
  have Hto := Lib.hid hto
  unfold sv
  rw [hto]
  clear hto
  go_enter Tryz.func82, Tryz.ntmps82
  go_wp2
  go_loopg [5] l.length (fun k i wr => wr = w ∧ ∃ q : Nat, q + k = l.length ∧ i = .int .i64 q ∧ labelAt to l 0 = labelAt to (l.drop q) q)
  case atStart => exact ⟨rfl, 0, by omega, rfl, rfl⟩
  case round =>
    obtain ⟨rfl, q, hq, rfl, hla⟩ := hrel
    have Hla := Lib.hid hla
    clear hla
    by_cases hlt : q < l.length
    · have hd : decide ((q : Int) < (l.length : Int)) = true := by simp; omega
      obtain ⟨x, hxq⟩ : ∃ x, l[q]? = some x := ⟨_, List.getElem?_eq_getElem hlt⟩
      obtain ⟨b, off, rfl, hb, hc⟩ := Hx.out q x hxq
      have c0 := hc 0 _ rfl
      have c4 := hc 4 _ rfl
      simp only [Nat.add_zero, sv] at c0 c4
      generalize hs : opStr x.op = s at *
      generalize hd4 : (⟨x.to.toArray⟩ : ByteArray) = d at *
      have Hs := Lib.hid hs
      have Hd4 := Lib.hid hd4
      have Hxq := Lib.hid hxq
      clear hs hd4 hxq hc
      go_wp2
      · go_ret
        have h1 : x.op = 17 := (opStr_label x.op).1 (by rw [Hs.out]; assumption)
        have h2 : x.to = to := by
          have h : (d.toList == tb.toList) = true := by assumption
          rw [← Hd4.out, ← Hto.out, bytes_list, bytes_list] at h
          exact beq_iff_eq.1 h
        refine ⟨ret_int ?_, rfl⟩
        unfold labE
        rw [Hla.out, drop_at Hxq.out]
        simp [labelAt, h1, h2]
      · go_roundg (l.length - (q + 1))
        case measure => omega
        case rel =>
          refine ⟨rfl, q + 1, by omega, by go_num, ?_⟩
          have h2 : ¬ x.to = to := by
            have h : (d.toList == tb.toList) = false := by assumption
            rw [← Hd4.out, ← Hto.out, bytes_list, bytes_list] at h
            exact fun e => by rw [e] at h; simp at h
          rw [Hla.out, drop_at Hxq.out]
          simp [labelAt, h2]
      · go_roundg (l.length - (q + 1))
        case measure => omega
        case rel =>
          refine ⟨rfl, q + 1, by omega, by go_num, ?_⟩
          have h1 : ¬ x.op = 17 := fun e => by
            have h : ¬ s.toList = [108, 97, 98, 101, 108] := by assumption
            exact h (by rw [← Hs.out]; exact (opStr_label x.op).2 e)
          rw [Hla.out, drop_at Hxq.out]
          simp [labelAt, h1]
    · have hd : decide ((q : Int) < (l.length : Int)) = false := by simp; omega
      go_wp2
      go_ret
      refine ⟨ret_int ?_, rfl⟩
      unfold labE
      rw [Hla.out, List.drop_eq_nil_of_le (by omega)]
      rfl
end Go.Proofs.YtppihkneeolomaaGreatDoor
end
/- Small functions of the reference: IsWord, RefOf, WordOf. -/
section
namespace Go.Proofs.YtppihkneeolomaaGreatDoor
open Go.RowKit Qs Qh
theorem isWord_any (n : Int) (w : World) :
    Calls Tryz.prog 60 #[.int .i64 n] w fun e w' => e = .returned (.bool (isWord n)) ∧ w = w' := by
  by_cases h0 : 0 ≤ n
  · by_cases h1 : n < 4294967296
    · have e : isWord n = true := by simp [isWord, W32, h0, h1]
      have d0 : decide (0 ≤ n) = true := by simpa using h0
      have d1 : decide (n < 4294967296) = true := by simpa using h1
      rw [e]
      go_enter Tryz.func60, Tryz.ntmps60
      go_wp2
      go_ret
      exact ⟨rfl, rfl⟩
    · have e : isWord n = false := by simp [isWord, W32]; omega
      have d0 : decide (0 ≤ n) = true := by simpa using h0
      have d1 : decide (n < 4294967296) = false := by simpa using h1
      rw [e]
      go_enter Tryz.func60, Tryz.ntmps60
      go_wp2
      go_ret
      exact ⟨rfl, rfl⟩
  · have e : isWord n = false := by simp [isWord, h0]
    have d0 : decide (0 ≤ n) = false := by simpa using h0
    rw [e]
    go_enter Tryz.func60, Tryz.ntmps60
    go_wp2
    go_ret
    exact ⟨rfl, rfl⟩
end Go.Proofs.YtppihkneeolomaaGreatDoor
end
/- A cell given, a cell freed, a word swapped, by the machine. -/
section
namespace Qh
open Go Go.RowKit Qs Go.Proofs.YtppihkneeolomaaGreatDoor
variable {τ : Ty} {w w' : World} {L L' : Lay} {m m' : M} {N : Int}
theorem OkM.reset {i : Nat} {c c' : Cell} (om : OkM N m) (hc : m.cells[i]? = some c) (hw : c'.words.length = 4 ∧ ∀ v ∈ c'.words, isWord v = true) (ht : 0 ≤ c'.times ∧ c'.times ≤ N) : OkM N { m with cells := m.cells.set i c' } := by
  refine ⟨by simpa using om.cells1, by simpa using om.cells, fun j x hx => ?_, fun j x hx => ?_, om.waits, om.wlen, fun t l hl x hx => by simpa using om.wval t l hl x hx, om.N0⟩
  · simp only [List.getElem?_set] at hx
    split at hx
    · split at hx
      · cases hx; exact hw
      · cases hx
    · exact om.words j x hx
  · simp only [List.getElem?_set] at hx
    split at hx
    · split at hx
      · cases hx; exact ht
      · cases hx
    · exact om.times j x hx
theorem zero_words (n : Int) : (zeroCell n).words.length = 4 ∧ ∀ v ∈ (zeroCell n).words, isWord v = true := ⟨rfl, fun v hv => by
  simp [zeroCell] at hv; subst hv; rfl⟩
theorem Mach.given (X : Mach τ w L m N) {i B : Nat} {c : Cell} (hc : m.cells[i]? = some c) (hB : w.heap.size ≤ B) (R : Rep τ allK w' (L.words i B) { m with cells := m.cells.set i (zeroCell (c.times + 1)) }) (hM : Mod (fun x => x = L.blk 2 0) w w') :
    MUp τ w L m w' (L.words i B) { m with cells := m.cells.set i (zeroCell (c.times + 1)) } (N + 1) := by
  have ht := X.om.times i c hc
  refine X.up (by omega) ⟨R, words_ok X.ol, ⟨fun a j h6 _ => ⟨by simp [Lay.words, h6], by simp [Lay.words, h6], by simp [Lay.words, h6], by simp [Lay.words, h6]⟩, rfl⟩, hM.mono (fun x _ e => ?_), fun k hk => ?_⟩ ((X.om.mono (by omega)).reset hc (zero_words _) ?_) rfl rfl rfl rfl
  · subst e; exact ⟨2, 0, rfl, by rw [obj2 τ m X.ol.n2]; rfl, rfl⟩
  · rcases words_foot X.ol hk with h | rfl
    · exact .inl h
    · exact .inr hB
  · show 0 ≤ c.times + 1 ∧ c.times + 1 ≤ N + 1
    omega
variable {t : Nat} {h : Thr} {a b c p : Nat} {A B C : Int} {to : List UInt8}
theorem allocAt_some : ∀ (l : List Cell) (s i : Nat) (n : Int), allocAt l s = some (i, n) → ∃ c, l[i - s]? = some c ∧ c.times = n
  | [], _, _, _, h => by simp [allocAt] at h
  | x :: l, s, i, n, h => by
    simp only [allocAt] at h
    split at h
    · obtain ⟨c, hc, ht⟩ := allocAt_some l (s + 1) i n h
      have hle : s + 1 ≤ i := allocAt_ge l (s + 1) i n h
      refine ⟨c, ?_, ht⟩
      rw [show i - s = (i - (s + 1)) + 1 from by omega]
      simpa using hc
    · cases h; exact ⟨x, by simp, rfl⟩
where allocAt_ge : ∀ (l : List Cell) (s i : Nat) (n : Int), allocAt l s = some (i, n) → s ≤ i
  | [], _, _, _, h => by simp [allocAt] at h
  | x :: l, s, i, n, h => by
    simp only [allocAt] at h
    split at h
    · have := allocAt_ge l (s + 1) i n h; omega
    · cases h; exact Nat.le_refl _
end Qh
end
/- (*quiescentref1.Machine).Step, by all instructions. -/
section
namespace Go.Proofs.YtppihkneeolomaaGreatDoor
open Go.RowKit Qs Qh
variable {w : World} {L : Lay} {m : M} {N : Int}
def easyOp (_ : Nat) : Bool := true
def Easy (m : M) : Prop := ∀ (t : Nat) h, m.T[t]? = some h → ∀ x ∈ h.code, easyOp x.op = true
/-- How a step is told. -/
def StepTold (w : World) (L : Lay) (m : M) (N : Int) (t : Nat) : Prop :=
  Calls Tryz.prog 83 #[.pointer (some ⟨L.blk 0 0, 0, none⟩), .int .i64 t] w fun e w' => e = .returned (.int .i64 (m.step t).2) ∧ ∃ L', MUp ty w L m w' L' (m.step t).1 (N + 48)
theorem told {t : Nat} {h : Thr} {x : Instr} (hh : m.T[t]? = some h) (hx : h.code[h.pc]? = some x) (h20 : x.op ≠ 20) {m' : M} {N' : Int} (hN' : N' ≤ N + 48) (he : (m.setPc t (h.pc + 1)).exec t x = m')
    (hc : Calls Tryz.prog 83 #[.pointer (some ⟨L.blk 0 0, 0, none⟩), .int .i64 t] w fun e w' => e = .returned (.int .i64 0) ∧ ∃ L', MUp ty w L m w' L' m' N') : StepTold w L m N t := by
  unfold StepTold
  rw [step_eq hh hx h20]
  refine hc.mono ?_
  rintro e w' ⟨rfl, L', U⟩
  refine ⟨rfl, L', ?_⟩
  rw [he]
  exact U.mono hN'
end Go.Proofs.YtppihkneeolomaaGreatDoor
end
/- (*quiescentref1.Machine).Run. -/
section
namespace Go.Proofs.YtppihkneeolomaaGreatDoor
open Go.RowKit Qs Qh
variable {w : World} {L : Lay} {m : M} {N : Int}
theorem Easy.keep {w' : World} {L' : Lay} {m' : M} {N' : Int} (h : Easy m) (U : MUp ty w L m w' L' m' N') : Easy m' := by
  intro t x' hx' i hi
  obtain ⟨x, hx, e⟩ := U.thr t x' hx'
  rw [e] at hi
  exact h t x hx i hi
end Go.Proofs.YtppihkneeolomaaGreatDoor
end
/- A slice of structs that came in: its rows. -/
section
namespace Go.Proofs.YtppihkneeolomaaGreatDoor
open Go.ChangeShapes Go.WideShapes Go.ChangeAt Go.RowKit Qh
/-- Such a slice, its elements k cells each. -/
def RowsAt {α : Type} (vals : α → List Value) (k : Nat) (w : World) (v : Value) (l : List α) : Prop :=
  ∃ a c, v = .slice a l.length c ∧ l.length ≤ c ∧ c ≤ maxLen ∧ (a = none → c = 0) ∧ ∀ i x, l[i]? = some x → ∃ b off, a = some ⟨b, off, none⟩ ∧ b < w.heap.size ∧ ∀ j y, (vals x)[j]? = some y → w.cell? ⟨b, off + i * k + j, none⟩ = some y
theorem RowsAt.frame {α : Type} {vals : α → List Value} {k : Nat} {w w' : World} {v : Value} {l : List α} {F : Nat → Prop} (h : RowsAt vals k w v l) (hM : Mod F w w') (hF : ∀ b, b < w.heap.size → ¬ F b) : RowsAt vals k w' v l := by
  obtain ⟨a, c, e, hl, hc, hn, hx⟩ := h
  refine ⟨a, c, e, hl, hc, hn, fun i x hi => ?_⟩
  obtain ⟨b, off, rfl, hlt, hj⟩ := hx i x hi
  exact ⟨b, off, rfl, Nat.lt_of_lt_of_le hlt hM.size, fun j y h => hM.cell (hj j y h) (hF b hlt)⟩
theorem RowsAt.frame0 {α : Type} {vals : α → List Value} {k : Nat} {w w' : World} {v : Value} {l : List α} (h : RowsAt vals k w v l) (hM : Mod noF w w') : RowsAt vals k w' v l := h.frame hM fun _ _ e => e
theorem rowsAt_of {H : Type} {enc : TypeId × Value → H} {P : Program} {W : World} {T I : TypeId} {a : Option Addr} {len cap : Nat} {d : DataW H} {p : List MemPlace} {α : Type} {vals : α → List Value} {k : Nat} {good : α → Prop} (hk : 0 < k) (hT : P.underlying T = some (.slice I)) (hC : P.cellsOf I = k)
    (hread : ∀ n cs y, DataW.trod enc P W 0 (fun _ => true) true n I cs = some y → ∃ x, cs = vals x ∧ good x)
    (h : DataW.Trod enc P W 0 (fun _ => true) true T (.slice a len cap) d p) : ∃ l : List α, RowsAt vals k W (.slice a len cap) l ∧ ∀ x ∈ l, good x := by
  obtain ⟨fuel, hf⟩ := h
  rcases Go.Deep.open_slice hT hf with ⟨hcs, _⟩ | ⟨A, l, c, m, n, D, Pl, hcs, _, hl, hm, hmm, _, hel⟩
  · simp [Value.cells] at hcs
    obtain ⟨rfl, rfl, rfl⟩ := hcs
    exact ⟨[], ⟨none, 0, rfl, by simp, by simp, fun _ => rfl, fun i x h => by simp at h⟩, fun x h => by simp at h⟩
  · simp [Value.cells] at hcs
    obtain ⟨rfl, rfl, rfl⟩ := hcs
    have hx : ∀ i, i < len → ∃ x, good x ∧ (vals x).length = k ∧ ∀ j, j < k → W.cell? (A.add (i * k + j)) = (vals x)[j]? := fun i hi => by
      obtain ⟨cs', hc, ht⟩ := hel i (by rw [hmm]; simp; omega)
      obtain ⟨x, rfl, hg⟩ := hread _ _ _ ht
      obtain ⟨_, hlen, hat⟩ := World.cells?_some hc
      rw [hC] at hat hlen
      exact ⟨x, hg, hlen, fun j hj => by rw [← hat j hj, Go.Deep.add_add]⟩
    refine ⟨List.ofFn fun (i : Fin len) => Classical.choose (hx i.1 i.2), ⟨some A, cap, by simp, by simpa using hl, hm, fun e => by simp at e, fun i x hi => ?_⟩, fun x hx' => ?_⟩
    · obtain ⟨h1, h2⟩ := List.getElem?_eq_some_iff.1 hi
      have hi' : i < len := by simpa using h1
      simp only [List.getElem_ofFn] at h2
      obtain ⟨_, hlen, hat⟩ := Classical.choose_spec (hx i hi')
      rw [h2] at hlen hat
      obtain ⟨_, hlen0, hat0⟩ := Classical.choose_spec (hx 0 (by omega))
      have h00 := hat0 0 hk
      rw [List.getElem?_eq_getElem (by omega)] at h00
      obtain ⟨b, off, spot⟩ := A
      have hspot : spot = none := by simpa [Addr.add] using World.cell?_spot h00
      subst hspot
      refine ⟨b, off, rfl, by simpa [Addr.add] using World.block_lt_of_cell? _ _ h00, fun j y hj => ?_⟩
      have hjk : j < k := by rw [← hlen]; exact (List.getElem?_eq_some_iff.1 hj).1
      have := hat j hjk
      rw [Go.WideShapes.add_plain] at this
      rw [Nat.add_assoc, this, hj]
    · obtain ⟨i, rfl⟩ := (List.mem_ofFn).1 hx'
      exact (Classical.choose_spec (hx i.1 i.2)).1
end Go.Proofs.YtppihkneeolomaaGreatDoor
end
/- joinedFacts, out of its parts: the kernel takes each by itself. -/
section
namespace Go.Proofs.YtppihkneeolomaaGreatDoor
open Go
/-- The kinds that a row with conditions bears. -/
def kindsOf (P : Program) (b : Bool) (l : List TypeId) : List (Option IntKind) := if b then [] else l.map fun t => match P.underlying t with | some (.int k) => some k | _ => none
theorem joined_of {P : Program} {f : FuncId} {fn : Func} {s : ChangeSpec} {c : OpenClaim}
    (k0 : (c.wf (OpenSpec.ofChange s)) = true)
    (k1 : (laidOutB P) = true)
    (k2 : (mapsRowed P) = true)
    (k3 : (fn.params.all (P.readableRec ·)) = true)
    (k4 : (namedTie P c.named s.vars) = true)
    (k5 : ((c.stops == [])) = true)
    (k6 : ((P.stops == [])) = true)
    (k7 : ((c.knobs == [])) = true)
    (k8 : ((P.stopKnobs == [])) = true)
    (k9 : ((c.inPlace == P.inPlace f)) = true)
    (k10 : ((c.unfollowed == P.unfollowed f)) = true)
    (k11 : ((c.recurses == P.recurses f)) = true)
    (k12 : ((c.named == P.varsNamed f)) = true)
    (k13 : ((c.maps == (fn.params.toList ++ s.plain.varTypes P).any (P.mapsRec ·))) = true)
    (k14 : ((c.ifaces == (fn.params.toList ++ s.plain.varTypes P).any (P.ifacesRec ·))) = true)
    (k15 : ((c.mapsOut == P.mapsAmong fn.resultTypes.toList)) = true)
    (k16 : ((c.loops == (fn.params.toList ++ s.plain.varTypes P).any (P.loopsFrom ·))) = true)
    (k17 : ((c.wideKeys == (fn.params.toList ++ s.plain.varTypes P ++ fn.resultTypes.toList).any (P.wideKeysFrom ·))) = true)
    (k18 : (s.vars.all (P.varReadable ·)) = true)
    (k19 : (fn.resultTypes.all (fun t => P.readableRec t && decide (t < P.types.size))) = true)
    (k20 : ((c.ifacesOut == fn.resultTypes.toList.any (P.ifacesRec ·))) = true)
    (k21 : ((c.loopsOut == fn.resultTypes.toList.any (P.loopsFrom ·))) = true)
    (k22 : ((c.plainKeys == P.plainKeys)) = true)
    (k23 : (c.shortTexts.isNone) = true)
    (k24 : (P.stopsHeard) = true)
    (k25 : (P.mayEnter) = true)
    (k26 : ((c.lifted == P.liftsFinal)) = true)
    (k27 : ((P.make == some c.make)) = true)
    (k28 : ((c.kinds == kindsOf P c.domain.isEmpty fn.params.toList)) = true)
    (k29 : ((c.pinned == c.pinnedBy)) = true)
    (k30 : ((c.veiled == (fn.params.toList ++ s.plain.varTypes P ++ fn.resultTypes.toList).any (P.veiledRec ·))) = true)
    (k31 : (c.veiledFits P fn.params.toList (fn.params.toList ++ s.plain.varTypes P ++ fn.resultTypes.toList)) = true) : joinedFacts P f fn s c = true := by
  unfold joinedFacts
  refine Bool.and_eq_true_iff.2 ⟨?_, k31⟩
  refine Bool.and_eq_true_iff.2 ⟨?_, k30⟩
  refine Bool.and_eq_true_iff.2 ⟨?_, k29⟩
  refine Bool.and_eq_true_iff.2 ⟨?_, k28⟩
  refine Bool.and_eq_true_iff.2 ⟨?_, k27⟩
  refine Bool.and_eq_true_iff.2 ⟨?_, k26⟩
  refine Bool.and_eq_true_iff.2 ⟨?_, k25⟩
  refine Bool.and_eq_true_iff.2 ⟨?_, k24⟩
  refine Bool.and_eq_true_iff.2 ⟨?_, k23⟩
  refine Bool.and_eq_true_iff.2 ⟨?_, k22⟩
  refine Bool.and_eq_true_iff.2 ⟨?_, k21⟩
  refine Bool.and_eq_true_iff.2 ⟨?_, k20⟩
  refine Bool.and_eq_true_iff.2 ⟨?_, k19⟩
  refine Bool.and_eq_true_iff.2 ⟨?_, k18⟩
  refine Bool.and_eq_true_iff.2 ⟨?_, k17⟩
  refine Bool.and_eq_true_iff.2 ⟨?_, k16⟩
  refine Bool.and_eq_true_iff.2 ⟨?_, k15⟩
  refine Bool.and_eq_true_iff.2 ⟨?_, k14⟩
  refine Bool.and_eq_true_iff.2 ⟨?_, k13⟩
  refine Bool.and_eq_true_iff.2 ⟨?_, k12⟩
  refine Bool.and_eq_true_iff.2 ⟨?_, k11⟩
  refine Bool.and_eq_true_iff.2 ⟨?_, k10⟩
  refine Bool.and_eq_true_iff.2 ⟨?_, k9⟩
  refine Bool.and_eq_true_iff.2 ⟨?_, k8⟩
  refine Bool.and_eq_true_iff.2 ⟨?_, k7⟩
  refine Bool.and_eq_true_iff.2 ⟨?_, k6⟩
  refine Bool.and_eq_true_iff.2 ⟨?_, k5⟩
  refine Bool.and_eq_true_iff.2 ⟨?_, k4⟩
  refine Bool.and_eq_true_iff.2 ⟨?_, k3⟩
  refine Bool.and_eq_true_iff.2 ⟨?_, k2⟩
  refine Bool.and_eq_true_iff.2 ⟨?_, k1⟩
  exact k0
end Go.Proofs.YtppihkneeolomaaGreatDoor
end
/- A world that meets what the rows lay of the package-level variables: sentinels, a type's handle, tables. -/
section
namespace Go.Proofs.YtppihkneeolomaaGreatDoor
theorem own : ownKnob Tryz.prog.godebug = none := by kernel_rfl
theorem laidOut : laidOutB Tryz.prog = true := by kernel_rfl
noncomputable def low : Nat := (World.holding Tryz.prog default ⟨#[], #[], []⟩).heap.size
/-- A variable's cells, laid. -/
def setVar (vs : Array Value) : Obj → Obj
  | .cells _ t frozen => .cells vs t frozen
  | o => o
def tab0 : Array Value := #[.int .u8 0, .int .u8 1, .int .u8 28, .int .u8 2, .int .u8 29, .int .u8 14, .int .u8 24, .int .u8 3, .int .u8 30, .int .u8 22, .int .u8 20, .int .u8 15, .int .u8 25, .int .u8 17, .int .u8 4, .int .u8 8, .int .u8 31, .int .u8 27, .int .u8 13, .int .u8 23, .int .u8 21, .int .u8 19, .int .u8 16, .int .u8 7, .int .u8 26, .int .u8 12, .int .u8 18, .int .u8 6, .int .u8 11, .int .u8 5, .int .u8 10, .int .u8 9]
def tab1 : Array Value := #[.int .u8 0, .int .u8 1, .int .u8 56, .int .u8 2, .int .u8 57, .int .u8 49, .int .u8 28, .int .u8 3, .int .u8 61, .int .u8 58, .int .u8 42, .int .u8 50, .int .u8 38, .int .u8 29, .int .u8 17, .int .u8 4, .int .u8 62, .int .u8 47, .int .u8 59, .int .u8 36, .int .u8 45, .int .u8 43, .int .u8 51, .int .u8 22, .int .u8 53, .int .u8 39, .int .u8 33, .int .u8 30, .int .u8 24, .int .u8 18, .int .u8 12, .int .u8 5, .int .u8 63, .int .u8 55, .int .u8 48, .int .u8 27, .int .u8 60, .int .u8 41, .int .u8 37, .int .u8 16, .int .u8 46, .int .u8 35, .int .u8 44, .int .u8 21, .int .u8 52, .int .u8 32, .int .u8 23, .int .u8 11, .int .u8 54, .int .u8 26, .int .u8 40, .int .u8 15, .int .u8 34, .int .u8 20, .int .u8 31, .int .u8 10, .int .u8 25, .int .u8 14, .int .u8 19, .int .u8 9, .int .u8 13, .int .u8 8, .int .u8 7, .int .u8 6]
def tab2 : Array Value := #[.int .u64 1, .int .u64 10, .int .u64 100, .int .u64 1000, .int .u64 10000, .int .u64 100000, .int .u64 1000000, .int .u64 10000000, .int .u64 100000000, .int .u64 1000000000, .int .u64 10000000000, .int .u64 100000000000, .int .u64 1000000000000, .int .u64 10000000000000, .int .u64 100000000000000, .int .u64 1000000000000000, .int .u64 10000000000000000, .int .u64 100000000000000000, .int .u64 1000000000000000000, .int .u64 10000000000000000000]
noncomputable def laidWorld (os : Os) : World :=
  let w0 := World.holding Tryz.prog os ⟨#[.cells #[.string { data := #[113, 117, 105, 101, 115, 99, 101, 110, 116, 58, 32, 116, 101, 120, 116] }] 244,
    .cells #[.string { data := #[113, 117, 105, 101, 115, 99, 101, 110, 116, 58, 32, 98, 111, 117, 110, 100] }] 244,
    .cells #[.string { data := #[113, 117, 105, 101, 115, 99, 101, 110, 116, 58, 32, 115, 104, 97, 112, 101] }] 244,
    .cells #[.string { data := #[113, 117, 105, 101, 115, 99, 101, 110, 116, 58, 32, 110, 97, 109, 101] }] 244,
    .cells #[.string { data := #[113, 117, 105, 101, 115, 99, 101, 110, 116, 58, 32, 110, 111, 110, 101] }] 244,
    .cells #[.string { data := #[113, 117, 105, 101, 115, 99, 101, 110, 116, 58, 32, 102, 117, 108, 108] }] 244,
    .cells #[.string { data := #[113, 117, 105, 101, 115, 99, 101, 110, 116, 58, 32, 115, 116, 97, 108, 101] }] 244,
    .cells #[.string { data := #[113, 117, 105, 101, 115, 99, 101, 110, 116, 58, 32, 104, 101, 108, 100] }] 244,
    .cells #[.string { data := #[113, 117, 105, 101, 115, 99, 101, 110, 116, 58, 32, 100, 111, 110, 101] }] 244], #[], []⟩
  { w0 with heap := (((((((((((((w0.heap.modify 2 (setVar #[.iface 225 (.pointer (some ⟨low + 0, 0, none⟩))])).modify 0 (setVar #[.iface 225 (.pointer (some ⟨low + 1, 0, none⟩))])).modify 1 (setVar #[.iface 225 (.pointer (some ⟨low + 2, 0, none⟩))])).modify 3 (setVar #[.iface 225 (.pointer (some ⟨low + 3, 0, none⟩))])).modify 4 (setVar #[.iface 225 (.pointer (some ⟨low + 4, 0, none⟩))])).modify 5 (setVar #[.iface 225 (.pointer (some ⟨low + 5, 0, none⟩))])).modify 6 (setVar #[.iface 225 (.pointer (some ⟨low + 6, 0, none⟩))])).modify 7 (setVar #[.iface 225 (.pointer (some ⟨low + 7, 0, none⟩))])).modify 8 (setVar #[.iface 225 (.pointer (some ⟨low + 8, 0, none⟩))])).modify 9 (setVar #[.iface 194 (.agg #[.pointer (some ⟨14, 35, none⟩)])])).modify 12 (setVar tab0)).modify 13 (setVar tab1)).modify 11 (setVar tab2)) }
theorem laid_met_stackBuilds (os : Os) (args : Array Value) : laidMetH Tryz.prog Rows.stackBuildsRow.laid ((laidWorld os).forCall (fun _ _ => 0) ⟨#[], args, []⟩).memory :=
  laidMetH_of_parts (by rw [show (List.filter (fun x : String × DataW Unit => x.2.handleName?.isNone) Rows.stackBuildsRow.laid) = Rows.stackBuildsRow.laid.take 3 ++ Rows.stackBuildsRow.laid.drop 4 by kernel_rfl]; exact laidMet_of_run' 70 (by kernel_rfl) (by kernel_rfl)) (by kernel_rfl)
end Go.Proofs.YtppihkneeolomaaGreatDoor
end
