/- Rows of instructions as they came in, of one's own; slices.Clone. -/
import Derived.Test.YtamfbfajlfbooaaDoorRStructs
import Derived.Test.YtamfbfajlfbooaaDoorREmitOp
import Derived.Test.YtamfbfajlfbooaaDoorRRowsLaw
import Derived.Laws.AppendOwnNone
import Derived.Lib.SliceRun
import Derived.Outline
set_option linter.unusedVariables false
set_option linter.unusedSimpArgs false
set_option linter.unusedSectionVars false
namespace Go.Proofs.YtamfbfajlfbooaaDoor
open Go.RowKit Qs Qh
def rinsV (_ : Nat) (x : RIns) : List Value := x.vals
theorem rins_len (l : List RIns) (s : Nat) : (flat rinsV s l).length = l.length * 5 := flat_length rinsV 5 (fun _ _ => rfl) l s
theorem rins_one : ∀ (l : List RIns) (s : Nat), ∀ u ∈ flat rinsV s l, u.oneCell' = true
  | [], _, u, h => by simp [flat] at h
  | x :: l, s, u, h => by
    simp only [flat, rinsV, RIns.vals, List.mem_append, List.mem_cons, List.not_mem_nil, or_false] at h
    rcases h with (rfl | rfl | rfl | rfl | rfl) | h
    · rfl
    · rfl
    · rfl
    · rfl
    · rfl
    · exact rins_one l (s + 1) u h
/-- A row of one's own. -/
def RInsRow (w : World) (v : Value) (l : List RIns) : Prop := w.ownsRow 0 insT 5 v l.length (flat rinsV 0 l)
theorem RInsRow.keep {w w' : World} {F : Nat → Prop} {v : Value} {l : List RIns} (h : RInsRow w v l) (hM : Mod F w w') (hF : ∀ g, v.ownBlock = some g → ¬ F g) : RInsRow w' v l := by
  refine ⟨h.1, ?_⟩
  rcases h.2 with e | ⟨g, cap, cur, rfl, h0, hg, r⟩
  · exact .inl e
  · exact .inr ⟨g, cap, cur, rfl, h0, hM.heap hg (hF g rfl), r⟩
theorem RInsRow.slice {w : World} {v : Value} {l : List RIns} (h : RInsRow w v l) : ∃ a c, v = .slice a l.length c ∧ c ≤ maxLen ∧ l.length ≤ maxLen := by
  rcases h.2 with ⟨rfl, h0⟩ | ⟨g, cap, cur, rfl, _, _, h1, h2, _⟩
  · rw [h0]; exact ⟨none, 0, rfl, Nat.zero_le _, Nat.zero_le _⟩
  · exact ⟨_, _, rfl, h2, Nat.le_trans h1 h2⟩
theorem RInsRow.cell {w : World} {v : Value} {l : List RIns} (h : RInsRow w v l) {i : Nat} {x : RIns} (hi : l[i]? = some x) : ∃ g c, v = .slice (some ⟨g, 0, none⟩) l.length c ∧ g < w.heap.size ∧ (∀ j, w.frozen? ⟨g, j, none⟩ = false) ∧ ∀ j y, x.vals[j]? = some y → w.cell? ⟨g, i * 5 + j, none⟩ = some y := by
  have hil := (List.getElem?_eq_some_iff.1 hi).1
  rcases h.2 with ⟨rfl, h0⟩ | ⟨g, cap, cur, rfl, h0, hg, h1, h2, h3, h4⟩
  · omega
  · refine ⟨g, cap, rfl, lt_of_block hg, fun j => ?_, fun j y hy => ?_⟩
    · unfold World.frozen?; rw [hg]; simp
    · rw [cell_of_heap hg]
      have hj : j < 5 := (List.getElem?_eq_some_iff.1 hy).1
      have hgt := flat_get rinsV 5 (fun _ _ => rfl) hj l 0 i x hi []
      rw [List.append_nil] at hgt
      have e : cur[i * 5 + j]? = (cur.toList.take (l.length * 5))[i * 5 + j]? := by
        rw [List.getElem?_take, if_pos (by omega)]; simp
      rw [e, h4, hgt]; exact hy
theorem RInsRow.set {w : World} {g c : Nat} {l : List RIns} {i : Nat} {x y : RIns} {j : Nat} {u : Value} (h : RInsRow w (.slice (some ⟨g, 0, none⟩) l.length c) l) (hi : l[i]? = some x) (hj : j < 5) (hy : y.vals = x.vals.set j u) :
    RInsRow (w.setCell ⟨g, i * 5 + j, none⟩ u) (.slice (some ⟨g, 0, none⟩) l.length c) (l.set i y) := by
  refine ⟨by rw [rins_len], ?_⟩
  rcases h.2 with ⟨e, _⟩ | ⟨g', cap, cur, e, h0, hg, h1, h2, h3, h4⟩
  · cases e
  · simp only [Value.slice.injEq, Option.some.injEq, Addr.mk.injEq] at e
    obtain ⟨⟨rfl, _⟩, _, rfl⟩ := e
    right
    refine ⟨g, c, cur.setIfInBounds (i * 5 + j) u, by simp, h0, Qh.heap_setCell_same hg _ _, by simpa using h1, h2, by simpa using h3, ?_⟩
    rw [Array.toList_setIfInBounds, List.length_set, List.take_set, h4]
    have := flat_set rinsV 5 (fun _ _ => rfl) hj u l 0 i x y hi hy []
    rwa [List.append_nil, List.append_nil] at this
theorem RowsAt.src {w : World} {v : Value} {l : List RIns} (h : RowsAt RIns.vals 5 w v l) : (v = .slice none 0 0 ∧ l = []) ∨ ∃ ad c, v = .slice (some ad) l.length c ∧ ∀ j u, (flat rinsV 0 l)[j]? = some u → w.cell? (ad.add j) = some u := by
  obtain ⟨a, c, e, hl, hc, hn, hx⟩ := h
  cases a with
  | none =>
    left
    cases l with
    | nil => rw [hn rfl] at e; exact ⟨e, rfl⟩
    | cons x l => obtain ⟨b, off, e', _⟩ := hx 0 x rfl; cases e'
  | some ad =>
    refine .inr ⟨ad, c, e, fun j u hu => ?_⟩
    have hj : j < l.length * 5 := by rw [← rins_len l 0]; exact (List.getElem?_eq_some_iff.1 hu).1
    have hi : j / 5 < l.length := by omega
    obtain ⟨b, off, e', _, hcell⟩ := hx (j / 5) _ (List.getElem?_eq_getElem hi)
    cases e'
    have hgt := flat_get rinsV 5 (fun _ _ => rfl) (show j % 5 < 5 by omega) l 0 (j / 5) _ (List.getElem?_eq_getElem hi) []
    rw [List.append_nil, show j / 5 * 5 + j % 5 = j by omega, hu] at hgt
    have := hcell (j % 5) u hgt.symm
    rw [Go.WideShapes.add_plain, ← this]
    congr 2; omega
set_option maxHeartbeats 2000000 in
theorem clone_any (w : World) (v : Value) (l : List RIns) (R : RInsRow w v l) (hl : l.length ≤ 1000) :
    Calls Tryd.prog 108 #[v] w fun e w' => ∃ v', e = .returned v' ∧ RInsRow w' v' l ∧ Mod noF w w' ∧ ∀ g, v'.ownBlock = some g → w.heap.size ≤ g := by
  have HR := Lib.hid R
  have qT : ∀ (w : World) (a : Option Addr) (n c n' c' : Nat), (binOp .eql 28 (.slice a n c) (.slice none n' c')).run Tryd.prog w = .ok (.bool a.isNone) w := fun w a n c n' c' => Lib.run_eql_slice_nil w _ _ a n c n' c' Tryd.underlying28
  obtain ⟨i0, hi, hz0, hz1, hz2⟩ := info_parts insInfo
  rcases R.2 with ⟨rfl, h0⟩ | ⟨g, cap, cur, rfl, h0, hg, h1, h2, h3, h4⟩
  · clear R
    obtain rfl : l = [] := List.eq_nil_of_length_eq_zero h0
    go_enter Tryd.func108, Tryd.ntmps108
    go_wp2
    go_ret
    exact ⟨_, rfl, HR.out, Mod.refl _ _, by simp [Value.ownBlock]⟩
  · have hsrc : ∀ j u, (flat rinsV 0 l)[j]? = some u → w.cell? ((⟨g, 0, none⟩ : Addr).add j) = some u := World.ownsRow.cells R (g := g) rfl
    have Hsrc := Lib.hid hsrc
    have Hlt := Lib.hid (lt_of_block hg)
    clear R hsrc h0 h1 h2 h3 h4 hg
    have hbnd : 0 + l.length ≤ maxLen := by unfold maxLen; omega
    have hbnd2 : (0 + l.length) * 56 ≤ 140737488355328 := by omega
    go_enter Tryd.func108, Tryd.ntmps108
    go_wp2_with (at_builtin; refine wpList_append_mine _ rfl (.tmp 5) (.tmp 6) 28 rfl 124 i0 (.agg #[.string ⟨#[]⟩, .int .i64 0, .int .i64 0, .int .i64 0, .string ⟨#[]⟩]) 5 56 Tryd.underlying28 hi hz0 hz1 hz2 rfl (by decide) (.slice (some ⟨w.heap.size, 0, none⟩) 0 0) 0 [] rfl (World.ownsRow_made w #[] 0 (Nat.zero_le _) (by decide) rfl) ⟨g, 0, none⟩ l.length cap (flat rinsV 0 l) rfl (rins_len l 0) (fun j u hj => (Mod.refl noF w |>.alloc _).cell (Hsrc.out j u hj) (fun e => e)) (rins_one _ _) hbnd hbnd2 ?_; intro v2 w2 hown2 hgr2 hfr2 hz2'; have hm2 : Mod noF w w2 := ((Mod.refl noF w).alloc (.cells #[] 124)).grown hgr2 (fun k hk hlt => by simp [Value.ownBlock] at hk; omega); have Hm2 := Lib.hid hm2; have Hown2 := Lib.hid hown2; have Hfr2 := Lib.hid hfr2; clear hm2 hown2 hgr2 hfr2 hz2')
    go_ret
    refine ⟨_, rfl, ?_, Hm2.out, fun k hk => ?_⟩
    · have := Hown2.out
      rwa [Nat.zero_add, List.nil_append] at this
    · rcases Hfr2.out k hk with e | e
      · simp [Value.ownBlock] at e; omega
      · simp at e; omega
/-- append(nil, l...): a row of one's own. -/
theorem wpList_copy {ops : Array Oper} {rest : List Oper} {o : Oper} {a : Act} {Q : Exit → Act → World → Prop} (hgd : o.guard = none) (s x : Operand) (ho : o.op = .call { callee := .builtin .append, args := #[s, x], argTypes := #[28, 28] })
    {w : World} {v : Value} {l : List RIns} (R : RowsAt RIns.vals 5 w v l) (hs : a.eval s = .slice none 0 0) (hx : a.eval x = v) (hl : l.length ≤ 1000)
    (h : ∀ v' w', RInsRow w' v' l → Mod noF w w' → (∀ g, v'.ownBlock = some g → w.heap.size ≤ g) → wpList Tryd.prog ops Q rest (a.put o.dst v') w') : wpList Tryd.prog ops Q (o :: rest) a w := by
  obtain ⟨i0, hi, hz0, hz1, hz2⟩ := info_parts insInfo
  rcases R.src with ⟨rfl, rfl⟩ | ⟨ad, c, rfl, hsrc⟩
  · exact wpList_append_own_none hgd s x _ ho 0 _ i0 5 Tryd.underlying28 hi _ 0 [] hs (World.ownsRow_nil w 0 _ 5) hx (h _ _ (World.ownsRow_nil w 0 _ 5) (Mod.refl _ _) (by simp [Value.ownBlock]))
  · refine wpList_append_mine _ hgd s x _ ho 124 i0 (.agg #[.string ⟨#[]⟩, .int .i64 0, .int .i64 0, .int .i64 0, .string ⟨#[]⟩]) 5 56 Tryd.underlying28 hi hz0 hz1 hz2 rfl (by decide) (.slice none 0 0) 0 [] hs (World.ownsRow_nil w 0 _ 5) ad l.length c (flat rinsV 0 l) hx (rins_len l 0) hsrc (rins_one _ _) (by unfold maxLen; omega) (by omega) ?_
    intro v2 w2 hown2 hgr2 hfr2 _
    refine h v2 w2 ?_ ((Mod.refl noF w).grown hgr2 (fun k hk _ => by simp [Value.ownBlock] at hk)) fun g hg => ?_
    · rwa [Nat.zero_add, List.nil_append] at hown2
    · rcases hfr2 g hg with e | e
      · simp [Value.ownBlock] at e
      · exact e
end Go.Proofs.YtamfbfajlfbooaaDoor
