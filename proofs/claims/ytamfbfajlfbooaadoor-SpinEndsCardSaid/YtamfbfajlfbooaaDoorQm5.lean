/- Texts that belong together, joined. -/
import Derived.Test.YtamfbfajlfbooaaDoorQm4
import Derived.Test.YtamfbfajlfbooaaDoorQCritical
import Derived.Test.YtamfbfajlfbooaaDoorQm1
import Derived.Test.YtamfbfajlfbooaaDoorQDrain
import Derived.Test.YtamfbfajlfbooaaDoorQm2
import Derived.Deep.LoopGhost
set_option linter.unusedVariables false
set_option linter.unusedSimpArgs false
set_option linter.unusedSectionVars false
/- What SpinSafe and SpinEnds build: the law. -/
section
namespace Go.Proofs.YtamfbfajlfbooaaDoor
open Go.RowKit Qs Qh
def spR : List Int := [0, 0, 0, 0, 0, 0, 0, 1]
theorem codesInfo : (Tryd.prog.info? 28).map (fun i => (i.zero, i.size, i.bytes)) = some (some (.slice none 0 0), 1, 24) := by kernel_rfl
theorem rowsInfo : (Tryd.prog.info? 23).map (fun i => (i.zero, i.size, i.bytes)) = some (some (.slice none 0 0), 1, 24) := by kernel_rfl
theorem heap3_a (w : World) (a b c : Obj) : (((w.alloc a).alloc b).alloc c).heap[w.heap.size]? = some a := by
  have h0 := heap_alloc_new w a
  have h1 := (Below.heap_alloc (w.alloc a) b _ (lt_of_block h0)).trans h0
  exact (Below.heap_alloc ((w.alloc a).alloc b) c _ (lt_of_block h1)).trans h1
theorem heap3_b (w : World) (a b c : Obj) : (((w.alloc a).alloc b).alloc c).heap[w.heap.size + 1]? = some b := by
  have h0 := heap_alloc_new (w.alloc a) b
  have h1 := (Below.heap_alloc ((w.alloc a).alloc b) c _ (lt_of_block h0)).trans h0
  simpa using h1
theorem heap3_c (w : World) (a b c : Obj) : (((w.alloc a).alloc b).alloc c).heap[w.heap.size + 1 + 1]? = some c := by
  have h0 := heap_alloc_new ((w.alloc a).alloc b) c
  simpa using h0
def spW (w : World) : World := ((w.alloc (.cells #[] 3)).alloc (.cells #[.slice (some ⟨w.heap.size, 0, none⟩) 0 0] 23)).alloc (.cells #[.int .i64 1, .slice (some ⟨w.heap.size + 1, 0, none⟩) 1 1, .slice none 0 0] 26)
theorem spSet (w : World) : SetRel w (w.heap.size + 1 + 1) 1 (.slice (some ⟨w.heap.size + 1, 0, none⟩) 1 1) [[]] (.slice none 0 0) (.slice none 0 0) [] [] (fun _ => .bool false) (fun _ => .bool false) (spW w) := by
  have hb := heap3_b w (.cells #[] 3) (.cells #[.slice (some ⟨w.heap.size, 0, none⟩) 0 0] 23) (.cells #[.int .i64 1, .slice (some ⟨w.heap.size + 1, 0, none⟩) 1 1, .slice none 0 0] 26)
  have ha := heap3_a w (.cells #[] 3) (.cells #[.slice (some ⟨w.heap.size, 0, none⟩) 0 0] 23) (.cells #[.int .i64 1, .slice (some ⟨w.heap.size + 1, 0, none⟩) 1 1, .slice none 0 0] 26)
  refine ⟨heap3_c w _ _ _, World.ownsRow_nil _ 0 _ 1, World.ownsRow_nil _ 0 _ 1, (fun i c h => by simp at h), (fun i c h => by simp at h), ?_, (fun h => by cases h), (fun h => by cases h), (fun g h => by cases h), ((((Mod.refl noF w).alloc _).alloc _).alloc _).toBelow, by omega, (fun g h => by cases h), (fun g h => by cases h)⟩
  have hlt1 := lt_of_block hb
  have hlt0 := lt_of_block ha
  refine ⟨_, _, rfl, fun g hg => ?_, fun i l hl => ?_⟩
  · have : w.heap.size + 1 = g := by simpa [Value.ownBlock] using hg
    exact ⟨⟨by omega, (fun h => by cases h), (fun h => by cases h)⟩, this ▸ hlt1⟩
  · have hi : i = 0 := by have := (List.getElem?_eq_some_iff.1 hl).1; simp at this; exact this
    subst hi
    have : l = [] := by simpa using hl.symm
    subst this
    refine ⟨_, 0, _, rfl, hlt1, (cell_of_heap (w := spW w) hb 0).trans rfl, ⟨_, _, rfl, Nat.zero_le _, fun i x h => by simp at h⟩, fun g hg => ?_⟩
    have : w.heap.size = g := by simpa [Value.ownBlock] using hg
    exact ⟨⟨⟨by omega, (fun h => by cases h), (fun h => by cases h)⟩, this ▸ hlt0⟩, this ▸ hlt0⟩
theorem rep_snoc {α : Type} (k : Nat) (a : α) : List.replicate k a ++ [a] = List.replicate (k + 1) a := by rw [List.replicate_succ']
theorem slice_one (a : Option Addr) (b c : Nat) : ∀ u ∈ [Value.slice a b c], u.oneCell' = true := by
  intro u hu; simp at hu; subst hu; rfl
/-- The start that is built. -/
theorem spStart_eq (th n : Nat) (h1 : 1 ≤ th) (h4 : th ≤ 4) : startM 1 [[]] (List.replicate th spR) (List.replicate th (spCode n)) = spStart th n := by
  rcases (by omega : th = 1 ∨ th = 2 ∨ th = 3 ∨ th = 4) with rfl | rfl | rfl | rfl <;> rfl
theorem spFine : CodeFine (spCode 1) ∧ CodeFine (spCode 2) ∧ CodeFine (spCode 3) := ⟨codeFine_of (by decide +kernel), codeFine_of (by decide +kernel), codeFine_of (by decide +kernel)⟩
theorem spFine_of {n : Nat} (h1 : 1 ≤ n) (h3 : n ≤ 3) : CodeFine (spCode n) := by
  rcases (by omega : n = 1 ∨ n = 2 ∨ n = 3) with rfl | rfl | rfl
  · exact spFine.1
  · exact spFine.2.1
  · exact spFine.2.2
theorem spFines {th n : Nat} (h1 : 1 ≤ n) (h3 : n ≤ 3) : ∀ c ∈ List.replicate th (spCode n), CodeFine c := fun c hc => by rw [List.eq_of_mem_replicate hc]; exact spFine_of h1 h3
theorem spInit : RowsFine 4 [[]] := fun l hl => by simp at hl; subst hl; simp
theorem spRegs (th : Nat) : RowsFine 8 (List.replicate th spR) := fun l hl => by
  rw [List.eq_of_mem_replicate hl]
  exact ⟨by decide, fun v hv => by simp [spR] at hv; rcases hv with rfl | rfl <;> rfl⟩
end Go.Proofs.YtamfbfajlfbooaaDoor
end
/- (*quiescentref1.Memory).Fence. -/
section
namespace Go.Proofs.YtamfbfajlfbooaaDoor
open Go.RowKit Qs Qh
variable {K : Nat → Bool} {w : World} {L : Lay} {m : M} {N : Int}
/-- Behind some drains of a thread. -/
def Fenced (K : Nat → Bool) (w : World) (L : Lay) (m : M) (t : Nat) (l : List Wt) (k : Nat) (n : Value) (wr : World) : Prop :=
  ∃ pre r Lq, l = pre ++ r ∧ r.length = k ∧ n = .int .i64 ((drainAll m.cells pre).2 : Nat) ∧ Up ty K w L m wr Lq { m with cells := (drainAll m.cells pre).1, waits := m.waits.set t r }
set_option maxRecDepth 100000 in
set_option maxHeartbeats 1000000 in
theorem memFence_any (R : Rep ty K w L m) (h1 : K 1 = true) (h2 : K 2 = true) (h3 : K 3 = true) (h6 : K 6 = true) (h7 : K 7 = true) (om : OkM N m) (ol : OkL L m) (hN : N ≤ 1000000000000) (t : Nat) {l : List Wt} (hl : m.waits[t]? = some l) :
    Calls Tryd.prog 112 #[.pointer (some ⟨L.blk 1 0, 0, none⟩), .int .i64 t] w fun e w' =>
      e = .returned (.int .i64 ((drainAll m.cells l).2 : Nat)) ∧ ∃ L', Up ty K w L m w' L' { m with cells := (drainAll m.cells l).1, waits := m.waits.set t [] } := by
  have ht : t < m.waits.length := (List.getElem?_eq_some_iff.1 hl).1
  have hwl := om.waits
  have hl8 := om.wlen t l hl
  have Hl := Lib.hid hl
  have HR := Lib.hid R
  have Hom := Lib.hid om
  have Hol := Lib.hid ol
  clear hl R om ol
  go_enter Tryd.func112, Tryd.ntmps112
  go_wp2
  go_loopg [5] l.length (fun k n wr => Fenced K w L m t l k n wr)
  case atStart =>
    refine ⟨[], l, L, rfl, rfl, rfl, ?_⟩
    rw [set_back Hl.out]
    exact Up.refl HR.out Hol.out
  case round =>
    obtain ⟨pre, r, Lq, hlq, hrk, rfl, hU⟩ := hrel
    have hwq : (m.waits.set t r)[t]? = some r := by simp [ht]
    have e1 : Lq.blk 1 0 = L.blk 1 0 := (hU.ext.same 1 0 (by omega) (by omega)).1
    have hval := Hom.out.wval t l Hl.out
    have omq : OkM N { m with cells := (drainAll m.cells pre).1, waits := m.waits.set t r } := by
      have o1 := drainAll_ok pre Hom.out (fun x hx => (hval x (by rw [hlq]; simp [hx])).1)
      exact o1.setWaits (by rw [hlq] at hl8; simp at hl8; omega) (fun x hx => by simpa [drainAll_length] using hval x (by rw [hlq]; simp [hx]))
    have c0 := hU.rep.waits_at h1 hU.ok
    have c1 := waits_row hU.rep h3 hU.ok (t := t) hwq
    have hsp3 := hU.ok.sp3
    rw [e1] at c0
    simp only [List.length_set] at c0 hsp3
    have hcount := drainAll_le pre m.cells
    have hpl : pre.length ≤ 8 := by rw [hlq] at hl8; simp at hl8; omega
    generalize hnf : (drainAll m.cells pre).2 = nf at *
    have hnf8 : nf ≤ 8 := by omega
    have Hnf := Lib.hid hnf
    have HU := Lib.hid hU
    have Homq := Lib.hid omq
    have Hlq := Lib.hid hlq
    have E1 := Lib.hid e1
    have Hwq := Lib.hid hwq
    have Hrk := Lib.hid hrk
    clear hnf hU omq hlq e1 hwq hval hrk hcount hpl
    cases r with
    | nil =>
      have hrow : ∃ sa sc, Lq.row 7 t 0 = .slice sa 0 sc := by
        unfold Lay.row
        cases h : Lq.nil 7 t with
        | true => exact ⟨none, 0, rfl⟩
        | false => exact ⟨_, _, rfl⟩
      obtain ⟨sa, sc, hrow⟩ := hrow
      rw [List.length_nil, hrow] at c1
      clear hrow
      go_wp2
      go_ret
      have hlp : l = pre := by have := Hlq.out; simpa using this
      refine ⟨ret_int (by rw [hlp, Hnf.out]), Lq, ?_⟩
      rw [hlp]; exact HU.out
    | cons x r =>
      have hn : Lq.nil 7 t = false := by
        cases h : Lq.nil 7 t with
        | false => rfl
        | true => have := HU.out.ok.n7 t _ Hwq.out h; cases this
      rw [row_some hn] at c1
      simp only [List.length_cons] at c1
      have hcall := drain_some HU.out.rep h1 h2 h3 h6 h7 Homq.out HU.out.ok hN t Hwq.out
      rw [E1.out] at hcall
      have Hcall := Lib.hid hcall
      have hde : drainE (drainAll m.cells pre).1 x = 0 ∨ drainE (drainAll m.cells pre).1 x = 7 := by unfold drainE; split <;> simp
      clear hn hcall
      rcases hde with hde | hde
      · have hb : (drain1 (drainAll m.cells pre).1 x).2 = false := by
          rw [drain1_bad]
          unfold drainE at hde
          cases h : hereIn (drainAll m.cells pre).1 x.c x.g with
          | true => rfl
          | false => rw [h] at hde; simp at hde
        have Hb := Lib.hid hb
        have Hde := Lib.hid hde
        clear hde hb
        go_wp2_with (go_at_call 116; refine Hcall.out.mono ?_; rintro e w5 ⟨rfl, L5, hU5⟩; rw [show drainE _ x = _ from Hde.out])
        go_roundg r.length
        case measure => have := Hrk.out; simp at this; omega
        case rel =>
          refine ⟨pre ++ [x], r, L5, by rw [Hlq.out]; simp, rfl, ?_, ?_⟩
          · rw [drainAll_snoc, Hb.out, Hnf.out]; rfl
          · rw [drainAll_snoc]
            have := HU.out.trans hU5
            simp only [List.set_set] at this
            exact this
      · have hb : (drain1 (drainAll m.cells pre).1 x).2 = true := by
          rw [drain1_bad]
          unfold drainE at hde
          cases h : hereIn (drainAll m.cells pre).1 x.c x.g with
          | true => rw [h] at hde; simp at hde
          | false => rfl
        have Hb := Lib.hid hb
        have Hde := Lib.hid hde
        clear hde hb
        go_wp2_with (go_at_call 116; refine Hcall.out.mono ?_; rintro e w5 ⟨rfl, L5, hU5⟩; rw [show drainE _ x = _ from Hde.out])
        go_roundg r.length
        case measure => have := Hrk.out; simp at this; omega
        case rel =>
          refine ⟨pre ++ [x], r, L5, by rw [Hlq.out]; simp, rfl, ?_, ?_⟩
          · rw [drainAll_snoc, Hb.out, Hnf.out]; simp
          · rw [drainAll_snoc]
            have := HU.out.trans hU5
            simp only [List.set_set] at this
            exact this
end Go.Proofs.YtamfbfajlfbooaaDoor
end
