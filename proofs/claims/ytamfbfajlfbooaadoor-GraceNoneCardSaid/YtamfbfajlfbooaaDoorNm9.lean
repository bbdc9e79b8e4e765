/- Texts that belong together, joined. -/
import Derived.Test.YtamfbfajlfbooaaDoorNGraceWorld
import Derived.Test.YtamfbfajlfbooaaDoorNGraceRd
import Derived.Test.YtamfbfajlfbooaaDoorNm4
import Derived.Test.YtamfbfajlfbooaaDoorNNewWalk
import Derived.Test.YtamfbfajlfbooaaDoorNm8
import Derived.Outline
set_option linter.unusedVariables false
set_option linter.unusedSimpArgs false
set_option linter.unusedSectionVars false
/- quiescentlaw2.played: a machine for a cast. -/
section
namespace Go.Proofs.YtamfbfajlfbooaaDoor
open Go.RowKit Qs Qh
/-- One of a cast: writer or reader, how often, how many reads, nested or not. -/
structure Cst where
  wr : Bool
  t : Nat
  r : Nat
  ne : Bool
def castCode (f : Nat) (wait : Bool) (x : Cst) : List Instr := if x.wr then wrCode f wait x.t else rdCode f (if x.ne then 3 else 1) x.r x.t
def CastAt (w : World) (v : Value) (l : List Cst) : Prop :=
  ∃ a c, v = .slice a l.length c ∧ ∀ (i : Nat) x, l[i]? = some x → ∃ b off, a = some ⟨b, off, none⟩ ∧ b < w.heap.size ∧ w.cell? ⟨b, off + i * 4, none⟩ = some (.bool x.wr) ∧ w.cell? ⟨b, off + i * 4 + 1, none⟩ = some (.int .i64 x.t) ∧ w.cell? ⟨b, off + i * 4 + 2, none⟩ = some (.int .i64 x.r) ∧ w.cell? ⟨b, off + i * 4 + 3, none⟩ = some (.bool x.ne)
theorem reader_any {f n r : Nat} (h1 : 1 ≤ f) (h4 : f ≤ 4) (hn : n ≤ 3) (hr : r ≤ 5) (ne : Bool) (w : World) :
    Calls Tryd.prog 100 #[.int .i64 f, .int .i64 n, .int .i64 r, .bool ne] w fun e w' => ∃ v, e = .returned (.tuple #[v, .bool true]) ∧ Own w w' v (rdCode f (if ne then 3 else 1) r n) := by
  cases ne with
  | true => exact reader_true h1 h4 hn hr w
  | false => exact reader_false h1 h4 hn hr w
/-- A table of codes that grows, in blocks newer than W. -/
structure CodeTab (W : World) (v : Value) (codes : List (List Instr)) (cv : Nat → Value) (wr : World) : Prop where
  vrow : wr.ownsRow 0 28 1 v codes.length ((List.range codes.length).map cv)
  code : ∀ (i : Nat) c, codes[i]? = some c → CodeAt wr (cv i) c ∧ ∀ g, (cv i).ownBlock = some g → ¬ v.ownBlock = some g ∧ g < wr.heap.size
  below : Below W.heap.size W wr
  hv : ∀ g, v.ownBlock = some g → W.heap.size ≤ g
variable {W wr w1 w2 : World} {v v1 x : Value} {codes : List (List Instr)} {cv : Nat → Value}
theorem CodeTab.start (W : World) (f : Nat → Value) : CodeTab W (.slice none 0 0) [] f W := ⟨World.ownsRow_nil _ 0 _ 1, (fun i c h => by simp at h), Below.refl _ _, (fun g h => by cases h)⟩
theorem CodeTab.quiet (h : CodeTab W v codes cv wr) (hq : Mod noF wr w1) : CodeTab W v codes cv w1 := by
  have hs := hq.size
  refine ⟨owns_mod h.vrow hq (fun _ _ e => e), fun i c hi => ?_, h.below.trans (hq.toBelow.mono h.below.size), h.hv⟩
  obtain ⟨a, b⟩ := h.code i c hi
  exact ⟨a.frame hq (fun _ _ e => e), fun g hg => ⟨(b g hg).1, by have := (b g hg).2; omega⟩⟩
theorem CodeTab.add (h : CodeTab W v codes cv wr) {c : List Instr} (hc : CodeAt w1 x c) (hx : ∀ g, x.ownBlock = some g → ¬ v.ownBlock = some g ∧ g < w1.heap.size) (hq : Mod noF wr w1)
    (hown : w2.ownsRow 0 28 1 v1 (codes.length + 1) ((List.range codes.length).map cv ++ [x])) (hg : w1.grownBy w2 v.ownBlock) (hfr : ∀ g, v1.ownBlock = some g → v.ownBlock = some g ∨ w1.heap.size ≤ g) :
    CodeTab W v1 (codes ++ [c]) (fun i => if i = codes.length then x else cv i) w2 := by
  have h1 := h.quiet hq
  have hM : Mod (fun g => v.ownBlock = some g) w1 w2 := (Mod.refl (fun g => v.ownBlock = some g) w1).grown hg fun k hk _ => hk
  have hs := hM.size
  have hout : ∀ g, ¬ v.ownBlock = some g → g < w1.heap.size → ¬ v1.ownBlock = some g := fun g ho hlt e => (hfr g e).elim ho (fun e2 => by omega)
  refine ⟨?_, fun i d hi => ?_, h1.below.trans (hM.under h1.below.size h.hv), fun g hg => ?_⟩
  · rw [List.length_append]
    show w2.ownsRow 0 _ 1 v1 (codes.length + 1) _
    rw [show (codes.length + [c].length) = codes.length + 1 from rfl, range_map_snoc]; exact hown
  · by_cases e : i = codes.length
    · subst e
      simp at hi; subst hi
      simp only [if_true]
      exact ⟨hc.frame hM (fun g hg e => (hx g hg).1 e), fun g hg => ⟨hout g (hx g hg).1 (hx g hg).2, by have := (hx g hg).2; omega⟩⟩
    · have hlt : i < codes.length := by
        have := (List.getElem?_eq_some_iff.1 hi).1
        simp at this; omega
      rw [List.getElem?_append_left hlt] at hi
      obtain ⟨a, b⟩ := h1.code i d hi
      simp only [if_neg e]
      exact ⟨a.frame hM (fun g hg => (b g hg).1), fun g hg => ⟨hout g (b g hg).1 (b g hg).2, by have := (b g hg).2; omega⟩⟩
  · rcases hfr g hg with e2 | e2
    · exact h.hv g e2
    · have := h1.below.size; omega
theorem CodeTab.at_ (h : CodeTab W v codes cv wr) : CodesAt wr v codes cv := by
  obtain ⟨a, c, e, hx⟩ := row_cells h.vrow
  refine ⟨a, c, e, fun i d hi => ?_⟩
  obtain ⟨b, e1, hb, hc⟩ := hx i (List.getElem?_eq_some_iff.1 hi).1
  obtain ⟨h1, h2⟩ := h.code i d hi
  exact ⟨b, 0, e1, hb, hc, h1, fun g hg => (h2 g hg).2⟩
theorem grInit_fine {f n : Nat} (hn : n ≤ 4) : RowsFine 4 (grInit f n) := by
  intro l hl
  simp only [grInit, List.mem_append, List.mem_cons, List.not_mem_nil, or_false, List.mem_map, List.mem_range] at hl
  rcases hl with (rfl | ⟨t, ht, rfl⟩) | rfl | rfl
  · unfold grHub; split <;> exact ⟨by decide, by decide⟩
  · refine ⟨by simp [grOwn], fun v hv => ?_⟩
    simp only [grOwn, List.mem_cons, List.not_mem_nil, or_false] at hv
    rcases hv with rfl | rfl | rfl | rfl
    · split <;> decide
    · split
      · exact isWord_of (by omega) (by omega)
      · decide
    · decide
    · decide
  · exact ⟨by simp, fun v hv => by simp at hv; subst hv; exact isWord_of (by omega) (by omega)⟩
  · exact ⟨by decide, by decide⟩
theorem grRegs_fine {n : Nat} (hn : n ≤ 4) : RowsFine 8 (grRegs n) := by
  intro l hl
  simp only [grRegs, List.mem_map, List.mem_range] at hl
  obtain ⟨t, ht, rfl⟩ := hl
  refine ⟨by simp [grReg], fun v hv => ?_⟩
  simp only [grReg, List.mem_cons, List.not_mem_nil, or_false] at hv
  rcases hv with rfl | rfl | rfl | rfl | rfl | rfl | rfl | rfl
  all_goals first | decide | exact isWord_of (by omega) (by omega)
end Go.Proofs.YtamfbfajlfbooaaDoor
end
/- Without a wait something is read that is gone: by the kernel, on the plain model. -/
section
namespace Qs
def M.upto3 : Nat → M → M
  | 0, m => m
  | n + 1, m => if (m.thr 0).reg 3 = 0 then M.upto3 n (m.turn 0).1 else m
def M.pairs (a b : Int) : Nat → M → M
  | 0, m => m
  | n + 1, m => M.pairs a b n ((m.turn a).1.turn b).1
theorem M.pairs_add (a b : Int) : ∀ (n k : Nat) (m : M), M.pairs a b (n + k) m = M.pairs a b k (M.pairs a b n m)
  | 0, k, m => by rw [Nat.zero_add]; rfl
  | n + 1, k, m => by
    rw [show n + 1 + k = (n + k) + 1 from by omega]
    exact M.pairs_add a b n k _
theorem M.pairs_snoc (a b : Int) (n : Nat) (m : M) : M.pairs a b (n + 1) m = ((((M.pairs a b n m).turn a).1.turn b).1) := by
  rw [M.pairs_add a b n 1 m]; rfl
theorem M.upto3_stop : ∀ (n k : Nat) (m : M), ¬ ((M.upto3 n m).thr 0).reg 3 = 0 → M.upto3 (n + k) m = M.upto3 n m
  | 0, 0, m, h => rfl
  | 0, k + 1, m, h => by
    rw [Nat.zero_add]
    show (if (m.thr 0).reg 3 = 0 then _ else m) = m
    rw [if_neg (show ¬ (m.thr 0).reg 3 = 0 from h)]
  | n + 1, k, m, h => by
    rw [show n + 1 + k = (n + k) + 1 from by omega]
    show (if (m.thr 0).reg 3 = 0 then M.upto3 (n + k) (m.turn 0).1 else m) = (if (m.thr 0).reg 3 = 0 then M.upto3 n (m.turn 0).1 else m)
    by_cases e : (m.thr 0).reg 3 = 0
    · rw [if_pos e, if_pos e]
      have h' : ¬ ((M.upto3 n (m.turn 0).1).thr 0).reg 3 = 0 := by
        have : M.upto3 (n + 1) m = M.upto3 n (m.turn 0).1 := by show (if (m.thr 0).reg 3 = 0 then _ else m) = _; rw [if_pos e]
        rw [this] at h; exact h
      exact M.upto3_stop n k _ h'
    · rw [if_neg e, if_neg e]
theorem M.pairs_fix {a b : Int} {m : M} (h : ((m.turn a).1.turn b).1 = m) : ∀ n, M.pairs a b n m = m
  | 0 => rfl
  | n + 1 => by show M.pairs a b n ((m.turn a).1.turn b).1 = m; rw [h]; exact M.pairs_fix h n
theorem force_faults (m : M) : ∀ k, m.faults ≤ (m.force k).faults
  | 0 => Int.le_refl _
  | k + 1 => by
    have h := force_faults m k
    show m.faults ≤ (m.force k).faults + _
    omega
theorem exec_faults (m : M) (t : Nat) (x : Instr) : m.faults ≤ (m.exec t x).faults := by
  have hf : ∀ m : M, m.faults ≤ (m.fence t).faults := fun m => by show m.faults ≤ m.faults + _; omega
  have hd : ∀ m : M, m.faults ≤ (m.drain t).1.faults := fun m => by
    unfold M.drain
    split
    · exact Int.le_refl _
    · show m.faults ≤ m.faults + _
      split <;> omega
  have h0 := hf m
  have h1 := hd m
  have h2 := force_faults m m.T.length
  unfold M.exec
  simp only
  split <;> (repeat' split) <;> first | exact Int.le_refl _ | exact h0 | exact h1 | exact h2 | (show m.faults ≤ m.faults + 1; omega)
theorem step_faults (m : M) (t : Nat) : m.faults ≤ (m.step t).1.faults := by
  unfold M.step
  split
  · exact Int.le_refl _
  · split
    · exact Int.le_refl _
    · exact exec_faults (m.setPc t _) t _
theorem drain_faults (m : M) (t : Nat) : m.faults ≤ (m.drain t).1.faults := by
  unfold M.drain
  split
  · exact Int.le_refl _
  · show m.faults ≤ m.faults + _
    split <;> omega
theorem turn_faults (m : M) (n : Int) : m.faults ≤ (m.turn n).1.faults := by
  unfold M.turn
  simp only
  split
  · exact step_faults _ _
  · exact drain_faults _ _
theorem pairs_faults (a b : Int) : ∀ (n : Nat) (m : M), m.faults ≤ (M.pairs a b n m).faults
  | 0, m => Int.le_refl _
  | n + 1, m => Int.le_trans (Int.le_trans (turn_faults m a) (turn_faults _ b)) (pairs_faults a b n _)
end Qs
namespace Go.Proofs.YtamfbfajlfbooaaDoor
open Qs Qh
def noneCodes (f r : Nat) : List (List Instr) := [rdCode f 1 r 1, wrCode f false 1]
def noneM (f r : Nat) : M := startM 30 (grInit f 2) (grRegs 2) (noneCodes f r)
def noneChk (f r : Nat) : Bool :=
  let a := M.upto3 60 (noneM f r)
  let b := M.pairs 1 3 40 a
  decide (¬ (a.thr 0).reg 3 = 0) && decide (((b.turn 1).1.turn 3).1 = b) && decide (0 < (M.pairs 0 2 40 b).faults)
theorem none_1 : ((List.range 5).all fun r => noneChk 1 (r + 1)) = true := by decide +kernel
theorem none_2 : ((List.range 5).all fun r => noneChk 2 (r + 1)) = true := by decide +kernel
theorem none_3 : ((List.range 5).all fun r => noneChk 3 (r + 1)) = true := by decide +kernel
theorem none_4 : ((List.range 5).all fun r => noneChk 4 (r + 1)) = true := by decide +kernel
theorem none_chk {f r : Nat} (h1 : 1 ≤ f) (h4 : f ≤ 4) (r1 : 1 ≤ r) (r5 : r ≤ 5) : noneChk f r = true := by
  have hr : r - 1 ∈ List.range 5 := List.mem_range.2 (by omega)
  have e : r - 1 + 1 = r := by omega
  rcases (by omega : f = 1 ∨ f = 2 ∨ f = 3 ∨ f = 4) with rfl | rfl | rfl | rfl
  · have := List.all_eq_true.1 none_1 _ hr; rwa [e] at this
  · have := List.all_eq_true.1 none_2 _ hr; rwa [e] at this
  · have := List.all_eq_true.1 none_3 _ hr; rwa [e] at this
  · have := List.all_eq_true.1 none_4 _ hr; rwa [e] at this
def noneA (f r : Nat) : M := M.upto3 2000 (noneM f r)
def noneB (f r : Nat) : M := M.pairs 1 3 2000 (noneA f r)
theorem none_law {f r : Nat} (h1 : 1 ≤ f) (h4 : f ≤ 4) (r1 : 1 ≤ r) (r5 : r ≤ 5) : 0 < (M.pairs 0 2 2000 (noneB f r)).faults := by
  have h := none_chk h1 h4 r1 r5
  simp only [noneChk, Bool.and_eq_true, decide_eq_true_eq] at h
  obtain ⟨⟨ha, hb⟩, hc⟩ := h
  have e1 : noneA f r = M.upto3 60 (noneM f r) := M.upto3_stop 60 1940 _ ha
  have e2 : noneB f r = M.pairs 1 3 40 (M.upto3 60 (noneM f r)) := by
    unfold noneB
    rw [e1, show (2000 : Nat) = 40 + 1960 from rfl, M.pairs_add]
    exact M.pairs_fix hb 1960
  rw [e2, show (2000 : Nat) = 40 + 1960 from rfl, M.pairs_add]
  exact Int.lt_of_lt_of_le hc (pairs_faults 0 2 1960 _)
theorem noneFine : ((List.range 4).all fun f => codeFineB (wrCode (f + 1) false 1) && (List.range 5).all fun r => codeFineB (rdCode (f + 1) 1 (r + 1) 1)) = true := by decide +kernel
theorem noneEasy : ((List.range 4).all fun f => (wrCode (f + 1) false 1).all (fun x => easyOp x.op) && (List.range 5).all fun r => (rdCode (f + 1) 1 (r + 1) 1).all fun x => easyOp x.op) = true := by decide +kernel
theorem none_fine {f r : Nat} (h1 : 1 ≤ f) (h4 : f ≤ 4) (r1 : 1 ≤ r) (r5 : r ≤ 5) : CodeFine (rdCode f 1 r 1) ∧ CodeFine (wrCode f false 1) := by
  have h := List.all_eq_true.1 noneFine (f - 1) (List.mem_range.2 (by omega))
  simp only [Bool.and_eq_true, List.all_eq_true] at h
  have hr := h.2 (r - 1) (List.mem_range.2 (by omega))
  rw [show f - 1 + 1 = f from by omega] at h hr
  rw [show r - 1 + 1 = r from by omega] at hr
  exact ⟨codeFine_of hr, codeFine_of h.1⟩
theorem none_easy {f r : Nat} (h1 : 1 ≤ f) (h4 : f ≤ 4) (r1 : 1 ≤ r) (r5 : r ≤ 5) : Easy (noneM f r) := by
  have h := List.all_eq_true.1 noneEasy (f - 1) (List.mem_range.2 (by omega))
  simp only [Bool.and_eq_true, List.all_eq_true] at h
  have hr := h.2 (r - 1) (List.mem_range.2 (by omega))
  rw [show f - 1 + 1 = f from by omega] at h hr
  rw [show r - 1 + 1 = r from by omega] at hr
  intro t x hx y hy
  have hc : x.code ∈ noneCodes f r := by
    obtain ⟨c, hc, rfl⟩ := startM_T' hx
    exact List.mem_of_getElem? hc
  simp only [noneCodes, List.mem_cons, List.not_mem_nil, or_false] at hc
  rcases hc with e | e
  · rw [e] at hy; exact hr y hy
  · rw [e] at hy; exact h.1 y hy
end Go.Proofs.YtamfbfajlfbooaaDoor
end
