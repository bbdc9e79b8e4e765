/- slices.Backward over what waits. -/
import Derived.RangeFuncBox
import Derived.RangeFuncFrom
import Derived.RangeFuncLeaves
import Derived.Shelf.Abstract
import Derived.WalkKit
import Derived.OwnWalkIn
import Derived.TacticsInMore
import Derived.LoopNIn
import Derived.LoopIn
import Derived.Test.YtamfbfajlfbooaaDoorRPNew
set_option linter.unusedVariables false
set_option linter.unusedSimpArgs false
set_option linter.unusedSectionVars false
namespace Go.Proofs.YtamfbfajlfbooaaDoor
open Go.RowKit Go.Shelf Qs Qh
attribute [local go_sem] Oper.semAt_some
set_option maxHeartbeats 1000000 in
theorem back_in (F : Fence) (n : Nat) (h5 : F.fn 94) (hro : F.round = none) (a : Option Addr) (len cap : Nat) (w : World) :
    CallsIn F n Tryd.prog 94 #[.slice a len cap] w fun e w' => e = .returned (.func (.func 131) #[] #[.pointer (some ⟨w.heap.size, 0, none⟩)]) ∧ w' = w.alloc (.cells #[.slice a len cap] 143) := by
  refine callsIn_of_wp Tryd.func94 rfl h5 ?_ hro
  simp only [Tryd.ntmps94, List.size_toArray, List.length_cons, List.length_nil, Nat.reduceAdd, Nat.reduceSub, Array.replicate_succ, Array.replicate_zero, List.push_toArray, List.append_toArray, List.nil_append, List.cons_append]
  gi_wp2
  go_ret
  exact ⟨rfl, rfl⟩
/-- What has come when k rounds are over. -/
def upto {α : Type} (f : Nat → α) (k : Nat) : List α := (List.range k).map f
theorem upto_succ {α : Type} (f : Nat → α) (k : Nat) : upto f (k + 1) = upto f k ++ [f k] := by simp [upto, List.range_succ]
theorem upto_length {α : Type} (f : Nat → α) (k : Nat) : (upto f k).length = k := by simp [upto]
def wt0 : Wt := ⟨0, 0, 0, 0⟩
/-- The k-th that comes: its index, itself. -/
def backF (q : List Wt) (k : Nat) : Nat × Wt := (q.length - 1 - k, (q[q.length - 1 - k]?).getD wt0)
def backE (x : Nat × Wt) : Array Value := #[.int .i64 (x.1 : Int), .agg #[.int .i64 x.2.c, .int .i64 x.2.g, .int .i64 x.2.w, .int .i64 x.2.v]]
set_option maxRecDepth 100000 in
set_option maxHeartbeats 2000000 in
theorem back1_in (F : Fence) (n : Nat) (h7 : F.fn 131) (hro : F.round = none) (hn : 1 ≤ n) (l Bs n₀ g s cap : Nat) (q : List Wt) (hq8 : q.length ≤ 8) (hb : g < n₀) (hBn : Bs < n₀) (J Jx : List (Nat × Wt) → World → Prop)
    (hY : ∀ pre x W, J pre W → pre.length < q.length → YieldAt F (n - 1) Tryd.prog l (backE x) W fun e W' =>
      (e = .returned (.bool true) ∧ J (pre ++ [x]) W' ∧ Below n₀ W W') ∨ (e = .returned (.bool false) ∧ Jx (pre ++ [x]) W'))
    (W : World) (hBs : W.cell? ⟨Bs, 0, none⟩ = some (.slice (some ⟨g, s, none⟩) q.length cap)) (hgW : g < W.heap.size) (hc : ∀ j u, (flat wtVals 0 q)[j]? = some u → W.cell? ⟨g, s + j, none⟩ = some u) (h0 : J [] W) :
    CallsIn F n Tryd.prog 131 #[.func (.yield l) #[] #[], .pointer (some ⟨Bs, 0, none⟩)] W fun e W' => (∃ v, e = .returned v) ∧
      ((∃ ys, ys = upto (backF q) q.length ∧ J ys W') ∨ (∃ pre, (∃ k, k ≤ q.length ∧ pre = upto (backF q) k) ∧ Jx pre W')) := by
  have hBW := World.block_lt_of_cell? _ _ hBs
  refine callsIn_of_wp Tryd.func131 rfl h7 ?_ hro
  simp only [Tryd.ntmps131, List.size_toArray, List.length_cons, List.length_nil, Nat.reduceAdd, Nat.reduceSub, Array.replicate_succ, Array.replicate_zero, List.push_toArray, List.append_toArray, List.nil_append, List.cons_append]
  gi_wp2
  gi_loopw [3] (fun i wr => ∃ k j : Nat, k + j = q.length ∧ i = .int .i64 ((j : Int) - 1) ∧ J (upto (backF q) k) wr ∧ Below n₀ W wr) (fun i _ => (intOf i + 1).toNat)
  case atStart => exact ⟨0, q.length, by omega, rfl, h0, Below.refl _ _⟩
  case round =>
    rename_i wr
    obtain ⟨k, j, hkj, rfl, hJs, hnx⟩ := hrel
    cases j with
    | zero =>
      have hd : decide ((0 : Int) ≤ ((0 : Nat) : Int) - 1) = false := by simp
      obtain rfl : k = q.length := by omega
      gi_wp2
      go_end0
      exact ⟨⟨_, rfl⟩, .inl ⟨_, rfl, hJs⟩⟩
    | succ j =>
      have hjq : j < q.length := by omega
      obtain ⟨x, hx⟩ : ∃ x, q[j]? = some x := ⟨_, List.getElem?_eq_getElem hjq⟩
      have hbk : backF q k = (j, x) := by
        unfold backF
        rw [show q.length - 1 - k = j by omega, hx]; rfl
      have hcell : ∀ i u, (wtVals 0 x)[i]? = some u → wr.cell? ⟨g, s + (j * 4 + i), none⟩ = some u := by
        intro i u hu
        have hi : i < 4 := (List.getElem?_eq_some_iff.1 hu).1
        have := flat_get wtVals 4 (fun _ _ => rfl) hi q 0 j x hx []
        rw [List.append_nil] at this
        exact (hnx.cell (p := ⟨g, s + (j * 4 + i), none⟩) hb).trans (hc _ _ (this.trans hu))
      have c0 : wr.cell? ⟨g, s + j * 4, none⟩ = some (.int .i64 x.c) := hcell 0 _ rfl
      have c1 : wr.cell? ⟨g, s + j * 4 + 1, none⟩ = some (.int .i64 x.g) := hcell 1 _ rfl
      have c2 : wr.cell? ⟨g, s + j * 4 + 2, none⟩ = some (.int .i64 x.w) := hcell 2 _ rfl
      have c3 : wr.cell? ⟨g, s + j * 4 + 3, none⟩ = some (.int .i64 x.v) := hcell 3 _ rfl
      have hbs := (hnx.cell (p := ⟨Bs, 0, none⟩) hBn).trans hBs
      have hgw : g < wr.heap.size := Nat.lt_of_lt_of_le hgW hnx.size
      have hd : decide ((0 : Int) ≤ ((j + 1 : Nat) : Int) - 1) = true := by rw [decide_eq_true_eq]; omega
      have hjn : ((j + 1 : Nat) : Int) - 1 = (j : Int) := by omega
      have hji : (j : Int) < (q.length : Int) := by omega
      rw [hjn] at hd
      rw [hjn]
      obtain ⟨fn, tmps, assign, body, hy, hR⟩ := hY _ (j, x) wr hJs (by rw [upto_length]; omega)
      unfold backE at hy
      dsimp only at hy
      gi_wp2
      refine hR.mono ?_
      rintro e W3 (⟨rfl, hJ3, hk3⟩ | ⟨rfl, hJx3⟩)
      · gi_wp2
        go_roundw
        case rel => exact ⟨k + 1, j, by omega, by simp, by rw [upto_succ, hbk]; exact hJ3, hnx.trans hk3⟩
        case measure => simp [intOf]
      · gi_wp2
        refine bodyPost_ret (results_none rfl _ _ _) rfl ?_
        exact ⟨⟨_, rfl⟩, .inr ⟨_, ⟨k + 1, by omega, by rw [upto_succ, hbk]⟩, hJx3⟩⟩
end Go.Proofs.YtamfbfajlfbooaaDoor
