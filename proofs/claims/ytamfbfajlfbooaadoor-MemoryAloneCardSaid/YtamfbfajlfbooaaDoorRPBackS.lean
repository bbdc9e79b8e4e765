/- slices.Backward over what waits: its contract. -/
import Derived.Test.YtamfbfajlfbooaaDoorRPBack
set_option linter.unusedVariables false
set_option linter.unusedSimpArgs false
set_option linter.unusedSectionVars false
namespace Go.Proofs.YtamfbfajlfbooaaDoor
open Go.RowKit Go.Shelf Qs Qh
attribute [local go_sem] Oper.semAt_some
set_option maxRecDepth 100000 in
set_option maxHeartbeats 1000000 in
theorem back1_nil (F : Fence) (n : Nat) (h7 : F.fn 131) (hro : F.round = none) (l Bs : Nat) (J : List (Nat × Wt) → World → Prop) (W : World) (hBs : W.cell? ⟨Bs, 0, none⟩ = some (.slice none 0 0)) (h0 : J [] W) :
    CallsIn F n Tryd.prog 131 #[.func (.yield l) #[] #[], .pointer (some ⟨Bs, 0, none⟩)] W fun e W' => (∃ v, e = .returned v) ∧ J [] W' := by
  have hBW := World.block_lt_of_cell? _ _ hBs
  refine callsIn_of_wp Tryd.func131 rfl h7 ?_ hro
  simp only [Tryd.ntmps131, List.size_toArray, List.length_cons, List.length_nil, Nat.reduceAdd, Nat.reduceSub, Array.replicate_succ, Array.replicate_zero, List.push_toArray, List.append_toArray, List.nil_append, List.cons_append]
  gi_wp2
  gi_loopw [3] (fun i wr => i = .int .i64 (-1) ∧ J [] wr) (fun _ _ => 0)
  case atStart => exact ⟨rfl, h0⟩
  case round =>
    obtain ⟨rfl, hJs⟩ := hrel
    gi_wp2
    go_end0
    exact ⟨⟨_, rfl⟩, hJs⟩
theorem below_row {w W : World} {v : Value} {q : List Wt} (h : waitRow w v q) (hW : Below w.heap.size w W) : waitRow W v q := h.keep (Mod.below hW) fun _ _ e => e
theorem back_stops (F : Fence) (n : Nat) (h7 : F.fn 131) (hro : F.round = none) (hn : 1 ≤ n) (Bs : Nat) (sv : Value) (q : List Wt) (hq8 : q.length ≤ 8) (w : World) (hBs : Bs < w.heap.size)
    (hc : w.cell? ⟨Bs, 0, none⟩ = some sv) (hI : waitRow w sv q) :
    SeqStopsK F n Tryd.prog 131 #[.pointer (some ⟨Bs, 0, none⟩)] backE (Below w.heap.size) (fun ys => ys = upto (backF q) q.length) (fun pre => ∃ k, k ≤ q.length ∧ pre = upto (backF q) k) q.length w := fun l J Jx W hW _ _ hY h0 => by
  have hc' := (hW.cell (p := ⟨Bs, 0, none⟩) hBs).trans hc
  have hlt := hI.lt
  rcases (below_row hI hW).2 with ⟨rfl, h00⟩ | ⟨g, s, cap, cur, rfl, hg, r1, r2, r3, r4⟩
  · obtain rfl : q = [] := List.eq_nil_of_length_eq_zero h00
    exact (back1_nil F n h7 hro l Bs J W hc' h0).mono fun e W' ⟨he, hj⟩ => ⟨he, .inl ⟨_, rfl, hj⟩⟩
  · have hgl := hlt g rfl
    refine back1_in F n h7 hro hn l Bs w.heap.size g s cap q hq8 hgl hBs J Jx hY W hc' (lt_of_block hg) (fun j u hu => ?_) h0
    rw [cell_of_heap hg]
    rw [← r4, List.getElem?_take] at hu
    split at hu
    · rw [List.getElem?_drop] at hu; simpa using hu
    · cases hu
end Go.Proofs.YtamfbfajlfbooaaDoor
