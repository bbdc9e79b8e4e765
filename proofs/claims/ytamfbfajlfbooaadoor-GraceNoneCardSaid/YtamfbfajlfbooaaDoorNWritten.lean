/- quiescentref2.Written. -/
import Derived.Test.YtamfbfajlfbooaaDoorNm4
import Derived.Outline
set_option linter.unusedVariables false
set_option linter.unusedSimpArgs false
set_option linter.unusedSectionVars false
namespace Go.Proofs.YtamfbfajlfbooaaDoor
open Go.RowKit Qs Qh
/-- What an instruction writes, noted. -/
def wset (o : List Bool) (x : Instr) : List Bool :=
  if x.op ≤ 6 ∨ x.op = 8 ∨ x.op = 10 then o.set x.A.toNat true else if x.op = 9 then o.set x.B.toNat true else o
def writtenL (l : List Instr) : List Bool := l.foldl wset (List.replicate 8 false)
theorem wset_len (o : List Bool) (x : Instr) : (wset o x).length = o.length := by
  unfold wset
  split
  · simp
  · split <;> simp
theorem writtenL_len (l : List Instr) : (writtenL l).length = 8 := by
  unfold writtenL
  have : ∀ (l : List Instr) (o : List Bool), (l.foldl wset o).length = o.length := by
    intro l; induction l with
    | nil => intro o; rfl
    | cons x l ih => intro o; rw [List.foldl_cons, ih, wset_len]
  rw [this]; rfl
/-- Eight Bools in memory. -/
def BoolsAt (w : World) (B : Nat) (o : List Bool) : Prop := w.heap[B]? = some (.cells (o.map Value.bool).toArray 4 (0, 0))
theorem BoolsAt.set {w : World} {B : Nat} {o : List Bool} (h : BoolsAt w B o) (i : Nat) (b : Bool) : BoolsAt (w.setCell ⟨B, i, none⟩ (.bool b)) B (o.set i b) := by
  unfold BoolsAt at h ⊢
  rw [Qh.heap_setCell_same h]; simp [List.map_set]
/-- The ops that a lock's, a stack's, a queue's code bears. -/
def wop (n : Nat) : Bool := n ≤ 9 || (12 ≤ n && n ≤ 17)
set_option maxHeartbeats 8000000 in
theorem written_ok (v : Value) (l : List Instr) (w : World) (hc : CodeAt w v l) (hf : CodeFine l) (ho : ∀ x ∈ l, wop x.op = true) (hl : l.length ≤ 1000) :
    Calls Tryd.prog 61 #[v] w fun e w' => e = .returned (.slice (some ⟨w.heap.size, 0, none⟩) 8 8) ∧ Mod noF w w' ∧ BoolsAt w' w.heap.size (writtenL l) := by
  obtain ⟨a, c, rfl, hcm, -⟩ := hc.at_
  have hmk : ∀ w : World, (Go.Instr.makeSlice 104 (.int .i64 8) (.int .i64 8)).run Tryd.prog w = .ok (.slice (some ⟨w.heap.size, 0, none⟩) 8 8) (w.alloc (.cells #[.bool false, .bool false, .bool false, .bool false, .bool false, .bool false, .bool false, .bool false] 4)) := fun _ => by kernel_rfl
  have Hc := Lib.hid hc
  have Hf := Lib.hid hf
  have Ho := Lib.hid ho
  clear hc hf ho
  go_enter Tryd.func61, Tryd.ntmps61
  go_wp2
  go_loopw [4, 5, 19, 33] (fun i _ _ _ wr => ∃ k : Nat, k ≤ l.length ∧ i = .int .i64 k ∧ Mod noF w wr ∧ BoolsAt wr w.heap.size (writtenL (l.take k))) (fun i _ _ _ _ => l.length - (intOf i).toNat)
  case atStart => exact ⟨0, Nat.zero_le _, rfl, (Mod.refl _ _).alloc _, (heap_alloc_new w _).trans rfl⟩
  case round =>
    obtain ⟨k, hk, rfl, hm, hB⟩ := hrel
    by_cases hlt : k < l.length
    · have hd : decide ((k : Int) < (l.length : Int)) = true := by simp; omega
      have hki : (k : Int) < (l.length : Int) := by omega
      obtain ⟨x, hx⟩ : ∃ x, l[k]? = some x := ⟨_, List.getElem?_eq_getElem hlt⟩
      obtain ⟨a', c', e', -, hcell⟩ := (Hc.out.frame hm (fun _ _ e => e)).at_
      cases e'
      obtain ⟨b, off, rfl, hbl, hv⟩ := hcell k x hx
      have o0 : wr.cell? ⟨b, off + k * 5, none⟩ = some (.string (opStr x.op)) := hv 0 _ rfl
      have o1 : wr.cell? ⟨b, off + k * 5 + 1, none⟩ = some (.int .i64 x.A) := hv 1 _ rfl
      have o2 : wr.cell? ⟨b, off + k * 5 + 2, none⟩ = some (.int .i64 x.B) := hv 2 _ rfl
      have o3 : wr.cell? ⟨b, off + k * 5 + 3, none⟩ = some (.int .i64 x.C) := hv 3 _ rfl
      have o4 : wr.cell? ⟨b, off + k * 5 + 4, none⟩ = some (.string ⟨x.to.toArray⟩) := hv 4 _ rfl
      have htk : writtenL (l.take (k + 1)) = wset (writtenL (l.take k)) x := by
        have e : l.take (k + 1) = l.take k ++ [x] := by rw [List.take_succ_eq_append_getElem hlt]; rw [List.getElem?_eq_getElem hlt] at hx; cases hx; rfl
        unfold writtenL; rw [e, List.foldl_append]; rfl
      have hlen := writtenL_len (l.take k)
      have hBl := lt_of_block hB
      have hfr := free_of_heap hB
      have hBc : ∀ i, i < 8 → ∃ y, wr.cell? ⟨w.heap.size, i, none⟩ = some (.bool y) := fun i hi => by
        rw [cell_of_heap hB]
        have : i < (writtenL (l.take k)).length := by omega
        exact ⟨(writtenL (l.take k))[i], by simp [this]⟩
      have hin := Hf.out.ins x (List.mem_of_getElem? hx)
      have hop := Ho.out x (List.mem_of_getElem? hx)
      have Hm := Lib.hid hm
      have HB := Lib.hid hB
      have Htk := Lib.hid htk
      have HBc := Lib.hid hBc
      have Hfr := Lib.hid hfr
      generalize (⟨x.to.toArray⟩ : ByteArray) = tv at o4
      clear hm hB htk hcell hv hBc hfr hlen
      have hops : x.op = 0 ∨ x.op = 1 ∨ x.op = 2 ∨ x.op = 3 ∨ x.op = 4 ∨ x.op = 5 ∨ x.op = 6 ∨ x.op = 7 ∨ x.op = 8 ∨ x.op = 9 ∨ x.op = 12 ∨ x.op = 13 ∨ x.op = 14 ∨ x.op = 15 ∨ x.op = 16 ∨ x.op = 17 := by
        unfold wop at hop; simp only [Bool.or_eq_true, Bool.and_eq_true, decide_eq_true_eq] at hop; omega
      clear hop
      rcases hops with hop | hop | hop | hop | hop | hop | hop | hop | hop | hop | hop | hop | hop | hop | hop | hop
      · have p0 : wr.cell? ⟨b, off + k * 5, none⟩ = some (.string ⟨#[99, 111, 110, 115, 116]⟩) := by rw [o0, hop]; rfl
        clear o0
        have hreg : isReg x.A 8 := by
          have h := insFine_ok hin
          unfold insOk at h
          rw [hop] at h
          simp only [isReg] at h ⊢
          omega
        obtain ⟨r0, r1⟩ := hreg
        obtain ⟨q, hq⟩ := Int.eq_ofNat_of_zero_le r0
        rw [hq] at r1
        have hq8 : q < 8 := by omega
        have hset : wset (writtenL (l.take k)) x = (writtenL (l.take k)).set q true := by
          unfold wset
          rw [if_pos (by omega), hq]; rfl
        rw [hq] at o1
        obtain ⟨y, hy⟩ := HBc.out q hq8
        have hfz := Hfr.out q
        have Hset := Lib.hid hset
        clear hset hq r0 hin hop
        go_wp2
        go_roundw
        case rel => exact ⟨k + 1, by omega, by go_num, ((Hm.out.setCell (fun h => absurd h (Nat.lt_irrefl _)) _).alloc _), by rw [Htk.out, Hset.out]; exact ((Mod.refl noF _).alloc _).heap (BoolsAt.set HB.out q true) (fun e => e)⟩
        case measure => simp [intOf]; omega
      · have p0 : wr.cell? ⟨b, off + k * 5, none⟩ = some (.string ⟨#[109, 111, 118, 101]⟩) := by rw [o0, hop]; rfl
        clear o0
        have hreg : isReg x.A 8 := by
          have h := insFine_ok hin
          unfold insOk at h
          rw [hop] at h
          simp only [isReg] at h ⊢
          omega
        obtain ⟨r0, r1⟩ := hreg
        obtain ⟨q, hq⟩ := Int.eq_ofNat_of_zero_le r0
        rw [hq] at r1
        have hq8 : q < 8 := by omega
        have hset : wset (writtenL (l.take k)) x = (writtenL (l.take k)).set q true := by
          unfold wset
          rw [if_pos (by omega), hq]; rfl
        rw [hq] at o1
        obtain ⟨y, hy⟩ := HBc.out q hq8
        have hfz := Hfr.out q
        have Hset := Lib.hid hset
        clear hset hq r0 hin hop
        go_wp2
        go_roundw
        case rel => exact ⟨k + 1, by omega, by go_num, ((Hm.out.setCell (fun h => absurd h (Nat.lt_irrefl _)) _).alloc _), by rw [Htk.out, Hset.out]; exact ((Mod.refl noF _).alloc _).heap (BoolsAt.set HB.out q true) (fun e => e)⟩
        case measure => simp [intOf]; omega
      · have p0 : wr.cell? ⟨b, off + k * 5, none⟩ = some (.string ⟨#[97, 100, 100]⟩) := by rw [o0, hop]; rfl
        clear o0
        have hreg : isReg x.A 8 := by
          have h := insFine_ok hin
          unfold insOk at h
          rw [hop] at h
          simp only [isReg] at h ⊢
          omega
        obtain ⟨r0, r1⟩ := hreg
        obtain ⟨q, hq⟩ := Int.eq_ofNat_of_zero_le r0
        rw [hq] at r1
        have hq8 : q < 8 := by omega
        have hset : wset (writtenL (l.take k)) x = (writtenL (l.take k)).set q true := by
          unfold wset
          rw [if_pos (by omega), hq]; rfl
        rw [hq] at o1
        obtain ⟨y, hy⟩ := HBc.out q hq8
        have hfz := Hfr.out q
        have Hset := Lib.hid hset
        clear hset hq r0 hin hop
        go_wp2
        go_roundw
        case rel => exact ⟨k + 1, by omega, by go_num, ((Hm.out.setCell (fun h => absurd h (Nat.lt_irrefl _)) _).alloc _), by rw [Htk.out, Hset.out]; exact ((Mod.refl noF _).alloc _).heap (BoolsAt.set HB.out q true) (fun e => e)⟩
        case measure => simp [intOf]; omega
      · have p0 : wr.cell? ⟨b, off + k * 5, none⟩ = some (.string ⟨#[115, 117, 98]⟩) := by rw [o0, hop]; rfl
        clear o0
        have hreg : isReg x.A 8 := by
          have h := insFine_ok hin
          unfold insOk at h
          rw [hop] at h
          simp only [isReg] at h ⊢
          omega
        obtain ⟨r0, r1⟩ := hreg
        obtain ⟨q, hq⟩ := Int.eq_ofNat_of_zero_le r0
        rw [hq] at r1
        have hq8 : q < 8 := by omega
        have hset : wset (writtenL (l.take k)) x = (writtenL (l.take k)).set q true := by
          unfold wset
          rw [if_pos (by omega), hq]; rfl
        rw [hq] at o1
        obtain ⟨y, hy⟩ := HBc.out q hq8
        have hfz := Hfr.out q
        have Hset := Lib.hid hset
        clear hset hq r0 hin hop
        go_wp2
        go_roundw
        case rel => exact ⟨k + 1, by omega, by go_num, ((Hm.out.setCell (fun h => absurd h (Nat.lt_irrefl _)) _).alloc _), by rw [Htk.out, Hset.out]; exact ((Mod.refl noF _).alloc _).heap (BoolsAt.set HB.out q true) (fun e => e)⟩
        case measure => simp [intOf]; omega
      · have p0 : wr.cell? ⟨b, off + k * 5, none⟩ = some (.string ⟨#[97, 110, 100]⟩) := by rw [o0, hop]; rfl
        clear o0
        have hreg : isReg x.A 8 := by
          have h := insFine_ok hin
          unfold insOk at h
          rw [hop] at h
          simp only [isReg] at h ⊢
          omega
        obtain ⟨r0, r1⟩ := hreg
        obtain ⟨q, hq⟩ := Int.eq_ofNat_of_zero_le r0
        rw [hq] at r1
        have hq8 : q < 8 := by omega
        have hset : wset (writtenL (l.take k)) x = (writtenL (l.take k)).set q true := by
          unfold wset
          rw [if_pos (by omega), hq]; rfl
        rw [hq] at o1
        obtain ⟨y, hy⟩ := HBc.out q hq8
        have hfz := Hfr.out q
        have Hset := Lib.hid hset
        clear hset hq r0 hin hop
        go_wp2
        go_roundw
        case rel => exact ⟨k + 1, by omega, by go_num, ((Hm.out.setCell (fun h => absurd h (Nat.lt_irrefl _)) _).alloc _), by rw [Htk.out, Hset.out]; exact ((Mod.refl noF _).alloc _).heap (BoolsAt.set HB.out q true) (fun e => e)⟩
        case measure => simp [intOf]; omega
      · have p0 : wr.cell? ⟨b, off + k * 5, none⟩ = some (.string ⟨#[120, 111, 114]⟩) := by rw [o0, hop]; rfl
        clear o0
        have hreg : isReg x.A 8 := by
          have h := insFine_ok hin
          unfold insOk at h
          rw [hop] at h
          simp only [isReg] at h ⊢
          omega
        obtain ⟨r0, r1⟩ := hreg
        obtain ⟨q, hq⟩ := Int.eq_ofNat_of_zero_le r0
        rw [hq] at r1
        have hq8 : q < 8 := by omega
        have hset : wset (writtenL (l.take k)) x = (writtenL (l.take k)).set q true := by
          unfold wset
          rw [if_pos (by omega), hq]; rfl
        rw [hq] at o1
        obtain ⟨y, hy⟩ := HBc.out q hq8
        have hfz := Hfr.out q
        have Hset := Lib.hid hset
        clear hset hq r0 hin hop
        go_wp2
        go_roundw
        case rel => exact ⟨k + 1, by omega, by go_num, ((Hm.out.setCell (fun h => absurd h (Nat.lt_irrefl _)) _).alloc _), by rw [Htk.out, Hset.out]; exact ((Mod.refl noF _).alloc _).heap (BoolsAt.set HB.out q true) (fun e => e)⟩
        case measure => simp [intOf]; omega
      · have p0 : wr.cell? ⟨b, off + k * 5, none⟩ = some (.string ⟨#[108, 111, 97, 100]⟩) := by rw [o0, hop]; rfl
        clear o0
        have hreg : isReg x.A 8 := by
          have h := insFine_ok hin
          unfold insOk at h
          rw [hop] at h
          simp only [isReg] at h ⊢
          omega
        obtain ⟨r0, r1⟩ := hreg
        obtain ⟨q, hq⟩ := Int.eq_ofNat_of_zero_le r0
        rw [hq] at r1
        have hq8 : q < 8 := by omega
        have hset : wset (writtenL (l.take k)) x = (writtenL (l.take k)).set q true := by
          unfold wset
          rw [if_pos (by omega), hq]; rfl
        rw [hq] at o1
        obtain ⟨y, hy⟩ := HBc.out q hq8
        have hfz := Hfr.out q
        have Hset := Lib.hid hset
        clear hset hq r0 hin hop
        go_wp2
        go_roundw
        case rel => exact ⟨k + 1, by omega, by go_num, ((Hm.out.setCell (fun h => absurd h (Nat.lt_irrefl _)) _).alloc _), by rw [Htk.out, Hset.out]; exact ((Mod.refl noF _).alloc _).heap (BoolsAt.set HB.out q true) (fun e => e)⟩
        case measure => simp [intOf]; omega
      · have p0 : wr.cell? ⟨b, off + k * 5, none⟩ = some (.string ⟨#[115, 116, 111, 114, 101]⟩) := by rw [o0, hop]; rfl
        clear o0
        have hset : wset (writtenL (l.take k)) x = writtenL (l.take k) := by
          unfold wset
          rw [if_neg (by omega), if_neg (by omega)]
        have Hset := Lib.hid hset
        clear hset hin hop
        go_wp2
        go_roundw
        case rel => exact ⟨k + 1, by omega, by go_num, Hm.out.alloc _, by rw [Htk.out, Hset.out]; exact ((Mod.refl noF wr).alloc _).heap HB.out (fun e => e)⟩
        case measure => simp [intOf]; omega
      · have p0 : wr.cell? ⟨b, off + k * 5, none⟩ = some (.string ⟨#[115, 119, 97, 112]⟩) := by rw [o0, hop]; rfl
        clear o0
        have hreg : isReg x.A 8 := by
          have h := insFine_ok hin
          unfold insOk at h
          rw [hop] at h
          simp only [isReg] at h ⊢
          omega
        obtain ⟨r0, r1⟩ := hreg
        obtain ⟨q, hq⟩ := Int.eq_ofNat_of_zero_le r0
        rw [hq] at r1
        have hq8 : q < 8 := by omega
        have hset : wset (writtenL (l.take k)) x = (writtenL (l.take k)).set q true := by
          unfold wset
          rw [if_pos (by omega), hq]; rfl
        rw [hq] at o1
        obtain ⟨y, hy⟩ := HBc.out q hq8
        have hfz := Hfr.out q
        have Hset := Lib.hid hset
        clear hset hq r0 hin hop
        go_wp2
        go_roundw
        case rel => exact ⟨k + 1, by omega, by go_num, ((Hm.out.setCell (fun h => absurd h (Nat.lt_irrefl _)) _).alloc _), by rw [Htk.out, Hset.out]; exact ((Mod.refl noF _).alloc _).heap (BoolsAt.set HB.out q true) (fun e => e)⟩
        case measure => simp [intOf]; omega
      · have p0 : wr.cell? ⟨b, off + k * 5, none⟩ = some (.string ⟨#[99, 97, 115]⟩) := by rw [o0, hop]; rfl
        clear o0
        have hreg : isReg x.B 8 := by
          have h := insFine_ok hin
          unfold insOk at h
          rw [hop] at h
          simp only [isReg] at h ⊢
          omega
        obtain ⟨r0, r1⟩ := hreg
        obtain ⟨q, hq⟩ := Int.eq_ofNat_of_zero_le r0
        rw [hq] at r1
        have hq8 : q < 8 := by omega
        have hset : wset (writtenL (l.take k)) x = (writtenL (l.take k)).set q true := by
          unfold wset
          rw [if_neg (by omega), if_pos hop, hq]; rfl
        rw [hq] at o2
        obtain ⟨y, hy⟩ := HBc.out q hq8
        have hfz := Hfr.out q
        have Hset := Lib.hid hset
        clear hset hq r0 hin hop
        go_wp2
        go_roundw
        case rel => exact ⟨k + 1, by omega, by go_num, ((Hm.out.setCell (fun h => absurd h (Nat.lt_irrefl _)) _).alloc _), by rw [Htk.out, Hset.out]; exact ((Mod.refl noF _).alloc _).heap (BoolsAt.set HB.out q true) (fun e => e)⟩
        case measure => simp [intOf]; omega
      · have p0 : wr.cell? ⟨b, off + k * 5, none⟩ = some (.string ⟨#[102, 101, 110, 99, 101]⟩) := by rw [o0, hop]; rfl
        clear o0
        have hset : wset (writtenL (l.take k)) x = writtenL (l.take k) := by
          unfold wset
          rw [if_neg (by omega), if_neg (by omega)]
        have Hset := Lib.hid hset
        clear hset hin hop
        go_wp2
        go_roundw
        case rel => exact ⟨k + 1, by omega, by go_num, Hm.out.alloc _, by rw [Htk.out, Hset.out]; exact ((Mod.refl noF wr).alloc _).heap HB.out (fun e => e)⟩
        case measure => simp [intOf]; omega
      · have p0 : wr.cell? ⟨b, off + k * 5, none⟩ = some (.string ⟨#[102, 111, 114, 99, 101]⟩) := by rw [o0, hop]; rfl
        clear o0
        have hset : wset (writtenL (l.take k)) x = writtenL (l.take k) := by
          unfold wset
          rw [if_neg (by omega), if_neg (by omega)]
        have Hset := Lib.hid hset
        clear hset hin hop
        go_wp2
        go_roundw
        case rel => exact ⟨k + 1, by omega, by go_num, Hm.out.alloc _, by rw [Htk.out, Hset.out]; exact ((Mod.refl noF wr).alloc _).heap HB.out (fun e => e)⟩
        case measure => simp [intOf]; omega
      · have p0 : wr.cell? ⟨b, off + k * 5, none⟩ = some (.string ⟨#[122, 101, 114, 111]⟩) := by rw [o0, hop]; rfl
        clear o0
        have hset : wset (writtenL (l.take k)) x = writtenL (l.take k) := by
          unfold wset
          rw [if_neg (by omega), if_neg (by omega)]
        have Hset := Lib.hid hset
        clear hset hin hop
        go_wp2
        go_roundw
        case rel => exact ⟨k + 1, by omega, by go_num, Hm.out.alloc _, by rw [Htk.out, Hset.out]; exact ((Mod.refl noF wr).alloc _).heap HB.out (fun e => e)⟩
        case measure => simp [intOf]; omega
      · have p0 : wr.cell? ⟨b, off + k * 5, none⟩ = some (.string ⟨#[115, 97, 109, 101]⟩) := by rw [o0, hop]; rfl
        clear o0
        have hset : wset (writtenL (l.take k)) x = writtenL (l.take k) := by
          unfold wset
          rw [if_neg (by omega), if_neg (by omega)]
        have Hset := Lib.hid hset
        clear hset hin hop
        go_wp2
        go_roundw
        case rel => exact ⟨k + 1, by omega, by go_num, Hm.out.alloc _, by rw [Htk.out, Hset.out]; exact ((Mod.refl noF wr).alloc _).heap HB.out (fun e => e)⟩
        case measure => simp [intOf]; omega
      · have p0 : wr.cell? ⟨b, off + k * 5, none⟩ = some (.string ⟨#[103, 111, 116, 111]⟩) := by rw [o0, hop]; rfl
        clear o0
        have hset : wset (writtenL (l.take k)) x = writtenL (l.take k) := by
          unfold wset
          rw [if_neg (by omega), if_neg (by omega)]
        have Hset := Lib.hid hset
        clear hset hin hop
        go_wp2
        go_roundw
        case rel => exact ⟨k + 1, by omega, by go_num, Hm.out.alloc _, by rw [Htk.out, Hset.out]; exact ((Mod.refl noF wr).alloc _).heap HB.out (fun e => e)⟩
        case measure => simp [intOf]; omega
      · have p0 : wr.cell? ⟨b, off + k * 5, none⟩ = some (.string ⟨#[108, 97, 98, 101, 108]⟩) := by rw [o0, hop]; rfl
        clear o0
        have hset : wset (writtenL (l.take k)) x = writtenL (l.take k) := by
          unfold wset
          rw [if_neg (by omega), if_neg (by omega)]
        have Hset := Lib.hid hset
        clear hset hin hop
        go_wp2
        go_roundw
        case rel => exact ⟨k + 1, by omega, by go_num, Hm.out.alloc _, by rw [Htk.out, Hset.out]; exact ((Mod.refl noF wr).alloc _).heap HB.out (fun e => e)⟩
        case measure => simp [intOf]; omega
    · have hd : decide ((k : Int) < (l.length : Int)) = false := by simp; omega
      obtain rfl : k = l.length := by omega
      rw [List.take_length] at hB
      have Hm := Lib.hid hm
      have HB := Lib.hid hB
      clear hm hB
      go_wp2
      go_ret
      exact ⟨rfl, Hm.out, HB.out⟩
end Go.Proofs.YtamfbfajlfbooaaDoor
