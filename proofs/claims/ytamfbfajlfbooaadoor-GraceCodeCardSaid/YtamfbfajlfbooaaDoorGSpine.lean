/- Regions that draw their order, of calls in a row, with slices made ahead of them: whatever order is drawn, the code grows alike. -/
import Derived.Test.YtamfbfajlfbooaaDoorGGrace
import Derived.Deep.RegionHeld3
set_option linter.unusedVariables false
set_option linter.unusedSimpArgs false
set_option linter.unusedSectionVars false
namespace Go.Proofs.YtamfbfajlfbooaaDoor
open Go.RowKit Qs Qh
/-- A slice of numbers, made beside the code. -/
structure Row (w : World) (b g : Nat) (l : List Int) : Prop where
  cell : ∀ i x, l[i]? = some x → w.cell? ⟨g, i, none⟩ = some (.int .i64 x)
  lt : g < w.heap.size
  ne : g ≠ b
  row : ∀ v, w.cell? ⟨b, 4, none⟩ = some v → v.ownBlock ≠ some g
def RowV (w : World) (b : Nat) (l : List Int) (u : Value) : Prop := ∃ g, u = .slice (some ⟨g, 0, none⟩) l.length l.length ∧ Row w b g l
variable {w0 w w1 : World} {b o g : Nat} {v0 v : Value} {l : List Instr} {z : List Int}
theorem cell_same {w w1 : World} {b : Nat} (h : Mod noF w w1) (hb : b < w.heap.size) (i : Nat) : w1.cell? ⟨b, i, none⟩ = w.cell? ⟨b, i, none⟩ := by
  have := h.block b hb (fun e => e)
  unfold World.cell?
  simp only
  rw [← this]
theorem Row.next {l' : List Instr} (K : Row w b g z) (hv : w.cell? ⟨b, 4, none⟩ = some v) (C : Chain w b 4 v l' w1) : Row w1 b g z := by
  obtain ⟨hb, v', E, G⟩ := C
  have hne := K.row v hv
  refine ⟨fun i x hx => G.mod.cell (K.cell i x hx) (fun e => e.elim K.ne hne), Nat.lt_of_lt_of_le K.lt G.mod.size, K.ne, fun v2 h2 e => ?_⟩
  rw [E.cell] at h2
  obtain rfl := Option.some.inj h2
  rcases G.new g e with h | h
  · exact hne h
  · have := K.lt; omega
theorem Row.quiet (K : Row w b g z) (hb : b < w.heap.size) (h : Mod noF w w1) : Row w1 b g z :=
  ⟨fun i x hx => h.cell (K.cell i x hx) (fun e => e), Nat.lt_of_lt_of_le K.lt h.size, K.ne, fun v hv => K.row v (by rw [← cell_same h hb]; exact hv)⟩
theorem Row.fresh (C : Chain w0 b 4 v0 l w) (z : List Int) (t : TypeId) : Row (w.alloc (.cells (z.map (Value.int .i64)).toArray t)) b w.heap.size z := by
  obtain ⟨v, C1, hv, hf, _⟩ := C.re ((Mod.refl noF w).alloc (.cells (z.map (Value.int .i64)).toArray t))
  refine ⟨fun i x hx => ?_, by simp, ?_, fun v' hv' e => ?_⟩
  · rw [cell_of_heap ((heap_alloc_new w _).trans rfl)]; simp [hx]
  · have := C.lt; omega
  · rw [hv] at hv'; obtain rfl := Option.some.inj hv'; exact hf _ (Nat.le_refl _) e
/-- A call of the row: the slice ahead of it, its number, its temporary. -/
structure SpI where
  s : Option (Nat × Tmp)
  c : Nat
  q : Tmp
def SpI.idx (x : SpI) : List Nat := (x.s.map (·.1)).toList ++ [x.c]
def SpI.tmps (x : SpI) : List Tmp := (x.s.map (·.2)).toList ++ [x.q]
def spIdx (items : List SpI) : List Nat := items.flatMap SpI.idx
def spTmps (items : List SpI) : List Tmp := items.flatMap SpI.tmps
def opIs (ops : Array Oper) (i : Nat) (d : Tmp) : Bool := match ops[i]? with | some o => o.dst == some d && o.guard.isNone | none => false
def waits (ops : Array Oper) (i on : Nat) : Bool := match ops[i]? with | some o => o.after.any (fun e => Region.binds .any e && e.on == on) | none => false
def SpI.ok (ops : Array Oper) (x : SpI) : Bool := opIs ops x.c x.q && (match x.s with | some (i, t) => opIs ops i t && waits ops x.c i && decide (i ≠ x.c) && decide (t ≠ x.q) | none => true)
def SpI.apart (x y : SpI) : Bool := x.idx.all (fun i => !y.idx.contains i) && x.tmps.all (fun t => !y.tmps.contains t)
def spItems (ops : Array Oper) : List SpI → Bool
  | [] => true
  | x :: r => x.ok ops && r.all (fun y => x.apart y) && (match r with | y :: _ => waits ops y.c x.c | [] => true) && spItems ops r
def spB (ops : Array Oper) (L0 : Array Bool) (items : List SpI) (T : Nat) : Bool :=
  decide (L0.size = ops.size) && (List.range ops.size).all (fun i => L0.getD i true || (spIdx items).contains i) && (spIdx items).all (fun i => !L0.getD i true) && (spTmps items).all (fun t => decide (t < T)) &&
  (List.range ops.size).all (fun i => match ops[i]? with | some o => o.after.all (fun e => decide (e.on < i)) | none => true) && spItems ops items
theorem opIs_spec {ops : Array Oper} {i : Nat} {d : Tmp} (h : opIs ops i d = true) : ∃ o, ops[i]? = some o ∧ o.dst = some d ∧ o.guard = none := by
  unfold opIs at h
  cases ho : ops[i]? with
  | none => rw [ho] at h; cases h
  | some o =>
    rw [ho] at h
    simp only [Bool.and_eq_true, beq_iff_eq, Option.isNone_iff_eq_none] at h
    exact ⟨o, rfl, h⟩
theorem waits_spec {ops : Array Oper} {i on : Nat} (h : waits ops i on = true) {o : Oper} (ho : ops[i]? = some o) : ∃ e ∈ o.after, Region.binds .any e = true ∧ e.on = on := by
  unfold waits at h
  rw [ho] at h
  obtain ⟨e, he, hb⟩ := Array.any_eq_true'.1 h
  simp only [Bool.and_eq_true, beq_iff_eq] at hb
  exact ⟨e, he, hb⟩
theorem spItems_ok {ops : Array Oper} : ∀ {items : List SpI}, spItems ops items = true → ∀ {j : Nat} {x : SpI}, items[j]? = some x → x.ok ops = true
  | [], _, j, x, h => by simp at h
  | y :: r, h, j, x, hx => by
    simp only [spItems, Bool.and_eq_true] at h
    cases j with
    | zero => simp at hx; subst hx; exact h.1.1.1
    | succ j => exact spItems_ok h.2 (by simpa using hx)
theorem spItems_waits {ops : Array Oper} : ∀ {items : List SpI}, spItems ops items = true → ∀ {j : Nat} {x y : SpI}, items[j]? = some x → items[j + 1]? = some y → waits ops y.c x.c = true
  | [], _, j, x, y, h, _ => by simp at h
  | z :: r, h, j, x, y, hx, hy => by
    simp only [spItems, Bool.and_eq_true] at h
    cases j with
    | zero =>
      simp at hx; subst hx
      cases r with
      | nil => simp at hy
      | cons u r => simp at hy; subst hy; exact h.1.2
    | succ j => exact spItems_waits h.2 (by simpa using hx) (by simpa using hy)
theorem spItems_lt {ops : Array Oper} : ∀ {items : List SpI}, spItems ops items = true → ∀ {j k : Nat} {x y : SpI}, j < k → items[j]? = some x → items[k]? = some y → x.apart y = true
  | [], _, j, k, x, y, _, h, _ => by simp at h
  | z :: r, h, j, k, x, y, hjk, hx, hy => by
    simp only [spItems, Bool.and_eq_true, List.all_eq_true] at h
    cases k with
    | zero => omega
    | succ k =>
      cases j with
      | zero =>
        simp at hx; subst hx
        exact h.1.1.2 y (List.mem_of_getElem? (by simpa using hy))
      | succ j => exact spItems_lt h.2 (show j < k by omega) (by simpa using hx) (by simpa using hy)
theorem SpI.apart_idx {x y : SpI} (h : x.apart y = true) {i k : Nat} (hi : i ∈ x.idx) (hk : k ∈ y.idx) : i ≠ k := fun e => by
  simp only [SpI.apart, Bool.and_eq_true, List.all_eq_true] at h
  have := h.1 i hi
  rw [e] at this
  simp [hk] at this
theorem SpI.apart_tmp {x y : SpI} (h : x.apart y = true) {i k : Tmp} (hi : i ∈ x.tmps) (hk : k ∈ y.tmps) : i ≠ k := fun e => by
  simp only [SpI.apart, Bool.and_eq_true, List.all_eq_true] at h
  have := h.2 i hi
  rw [e] at this
  simp [hk] at this
theorem sp_idx_ne {ops : Array Oper} {items : List SpI} (h : spItems ops items = true) {j k : Nat} {x y : SpI} (hx : items[j]? = some x) (hy : items[k]? = some y) (hne : j ≠ k) {i i' : Nat} (hi : i ∈ x.idx) (hi' : i' ∈ y.idx) : i ≠ i' := by
  rcases Nat.lt_or_gt_of_ne hne with hl | hl
  · exact SpI.apart_idx (spItems_lt h hl hx hy) hi hi'
  · exact (SpI.apart_idx (spItems_lt h hl hy hx) hi' hi).symm
theorem sp_tmp_ne {ops : Array Oper} {items : List SpI} (h : spItems ops items = true) {j k : Nat} {x y : SpI} (hx : items[j]? = some x) (hy : items[k]? = some y) (hne : j ≠ k) {i i' : Tmp} (hi : i ∈ x.tmps) (hi' : i' ∈ y.tmps) : i ≠ i' := by
  rcases Nat.lt_or_gt_of_ne hne with hl | hl
  · exact SpI.apart_tmp (spItems_lt h hl hx hy) hi hi'
  · exact (SpI.apart_tmp (spItems_lt h hl hy hx) hi' hi).symm
theorem SpI.c_mem (x : SpI) : x.c ∈ x.idx := by simp [SpI.idx]
theorem SpI.q_mem (x : SpI) : x.q ∈ x.tmps := by simp [SpI.tmps]
theorem SpI.i_mem {x : SpI} {i : Nat} {t : Tmp} (h : x.s = some (i, t)) : i ∈ x.idx := by simp [SpI.idx, h]
theorem SpI.t_mem {x : SpI} {i : Nat} {t : Tmp} (h : x.s = some (i, t)) : t ∈ x.tmps := by simp [SpI.tmps, h]
theorem mem_spIdx {items : List SpI} {i : Nat} : i ∈ spIdx items ↔ ∃ (j : Nat) (x : SpI), items[j]? = some x ∧ i ∈ x.idx := by
  unfold spIdx
  rw [List.mem_flatMap]
  constructor
  · rintro ⟨x, hx, hi⟩
    obtain ⟨j, hj⟩ := List.getElem?_of_mem hx
    exact ⟨j, x, hj, hi⟩
  · rintro ⟨j, x, hj, hi⟩
    exact ⟨x, List.mem_of_getElem? hj, hi⟩
theorem mem_spTmps {items : List SpI} {j : Nat} {x : SpI} (h : items[j]? = some x) {t : Tmp} (ht : t ∈ x.tmps) : t ∈ spTmps items := List.mem_flatMap.2 ⟨x, List.mem_of_getElem? h, ht⟩
theorem SpI.mem_idx {x : SpI} {i : Nat} (h : i ∈ x.idx) : i = x.c ∨ ∃ t, x.s = some (i, t) := by
  unfold SpI.idx at h
  cases hs : x.s with
  | none => rw [hs] at h; simp at h; exact .inl h
  | some p =>
    rw [hs] at h; simp at h
    rcases h with rfl | h
    · exact .inr ⟨p.2, rfl⟩
    · exact .inl h
theorem eval_put_same {a : Act} {d : Tmp} {u : Value} (h : d < a.tmps.size) : (a.put (some d) u).eval (.tmp d) = u := by
  simp [Act.put, Act.eval, h]
theorem eval_put_ne {a : Act} {d t : Tmp} {u : Value} (h : d ≠ t) : (a.put (some d) u).eval (.tmp t) = a.eval (.tmp t) := by
  simp [Act.put, Act.eval, Array.getElem?_setIfInBounds_ne h]
theorem tmps_put_ne {a : Act} {d t : Tmp} {u : Value} (h : d ≠ t) : (a.put (some d) u).tmps[t]? = a.tmps[t]? := by
  simp [Act.put, Array.getElem?_setIfInBounds_ne h]
theorem eval_of {a a0 : Act} {t : Tmp} (h : a.tmps[t]? = a0.tmps[t]?) : a.eval (.tmp t) = a0.eval (.tmp t) := by
  simp only [Act.eval, Array.getD_eq_getD_getElem?, h]
theorem tmps_put_size {a : Act} {d : Tmp} {u : Value} : (a.put (some d) u).tmps.size = a.tmps.size := by simp [Act.put]
section
variable {P : Program} {ops : Array Oper} {Q : Exit → Act → World → Prop} {S : World → Prop}
/-- How far it has come. -/
structure SpInv (ops : Array Oper) (L0 : Array Bool) (a0 : Act) (items : List SpI) (Z : Nat → World → Prop) (B : Nat → Value → World → Prop) (ret : Nat → Value) (listed : Array Bool) (a : Act) (w : World) (k : Nat) : Prop where
  size : listed.size = ops.size
  mono : ∀ i, L0.getD i true = true → listed.getD i true = true
  defers : a.defers = a0.defers
  tsize : a.tmps.size = a0.tmps.size
  out : ∀ t, t ∉ spTmps items → a.tmps[t]? = a0.tmps[t]?
  le : k ≤ items.length
  z : Z k w
  calls : ∀ j x, items[j]? = some x → (listed.getD x.c true = true ↔ j < k)
  rets : ∀ j x, items[j]? = some x → j < k → a.eval (.tmp x.q) = ret j
  rows : ∀ j x i t, items[j]? = some x → x.s = some (i, t) → listed.getD i true = true → B j (a.eval (.tmp t)) w
theorem getD_tf {L : Array Bool} {i : Nat} (h : i < L.size) : L.getD i true = L.getD i false := by simp [h]
theorem getD_set_same {L : Array Bool} {i : Nat} (h : i < L.size) (d : Bool) : (L.setIfInBounds i true).getD i d = true := by simp [h]
theorem spine_go {L0 : Array Bool} {a0 : Act} {items : List SpI} {Z : Nat → World → Prop} {B : Nat → Value → World → Prop} {ret : Nat → Value} (hb : spB ops L0 items a0.tmps.size = true)
    (hsl : ∀ j x i t o k a w (K : Act → World → Prop), items[j]? = some x → x.s = some (i, t) → ops[i]? = some o → Z k w → (∀ u w', Z k w' → S w' → B j u w' → (∀ j' u', B j' u' w → B j' u' w') → K (a.put (some t) u) w') → o.wp P a w K Q)
    (hcl : ∀ j x o a w (K : Act → World → Prop), items[j]? = some x → ops[x.c]? = some o → Z j w → a.defers = a0.defers → (∀ t, t ∉ spTmps items → a.eval (.tmp t) = a0.eval (.tmp t)) → (∀ j' x', j' < j → items[j']? = some x' → a.eval (.tmp x'.q) = ret j') → (∀ i t, x.s = some (i, t) → B j (a.eval (.tmp t)) w) → (∀ w', Z (j + 1) w' → S w' → (∀ j' u', B j' u' w → B j' u' w') → K (a.put (some x.q) (ret j)) w') → o.wp P a w K Q)
    (hend : ∀ a w, Z items.length w → a.defers = a0.defers → a.tmps.size = a0.tmps.size → (∀ t, t ∉ spTmps items → a.tmps[t]? = a0.tmps[t]?) → (∀ j x, items[j]? = some x → a.eval (.tmp x.q) = ret j) → Q .normal a w) :
    ∀ (fuel : Nat) (listed : Array Bool) (a : Act) (w : World) (k : Nat) (rem : List Nat), SpInv ops L0 a0 items Z B ret listed a w k → (∀ i, i < ops.size → listed.getD i true = false → i ∈ rem) → rem.length ≤ fuel → wpAnyH P .any ops Q S fuel listed a w := by
  simp only [spB, Bool.and_eq_true, decide_eq_true_eq, List.all_eq_true, List.mem_range, Bool.or_eq_true] at hb
  obtain ⟨⟨⟨⟨⟨F1, F2⟩, F3⟩, F6⟩, F7⟩, F8⟩ := hb
  have allEnd : ∀ listed a w k, SpInv ops L0 a0 items Z B ret listed a w k → (∀ i, i < ops.size → listed.getD i true = true) → Q .normal a w := fun listed a w k I hall => by
    have hk : k = items.length := by
      rcases Nat.lt_or_ge k items.length with h | h
      · obtain ⟨x, hx⟩ : ∃ x, items[k]? = some x := ⟨_, List.getElem?_eq_getElem h⟩
        have hok := spItems_ok F8 hx
        simp only [SpI.ok, Bool.and_eq_true] at hok
        obtain ⟨o, ho, _⟩ := opIs_spec hok.1
        have := (I.calls k x hx).1 (hall _ (Array.getElem?_eq_some_iff.1 ho).1)
        omega
      · have := I.le; omega
    subst hk
    exact hend a w I.z I.defers I.tsize I.out fun j x hx => I.rets j x hx (List.getElem?_eq_some_iff.1 hx).1
  intro fuel
  induction fuel with
  | zero =>
    intro listed a w k rem I hrem hl
    have hnil : rem = [] := List.length_eq_zero_iff.1 (by omega)
    have hall : ∀ i, i < ops.size → listed.getD i true = true := fun i hi => by
      cases h : listed.getD i true with
      | true => rfl
      | false => have := hrem i hi h; rw [hnil] at this; cases this
    refine ⟨?_, allEnd listed a w k I hall⟩
    refine List.eq_nil_iff_forall_not_mem.2 fun i hi => ?_
    obtain ⟨h1, o, ho, _⟩ := mem_ready.1 hi
    rw [hall i (Array.getElem?_eq_some_iff.1 ho).1] at h1
    cases h1
  | succ fuel ih =>
    intro listed a w k rem I hrem hl
    refine ⟨fun hnil => ?_, fun i hi => ?_⟩
    · refine allEnd listed a w k I fun i => ?_
      induction i using Nat.strongRecOn with
      | _ i ihi =>
        intro hlt
        cases h : listed.getD i true with
        | true => rfl
        | false =>
          obtain ⟨o, ho⟩ : ∃ o, ops[i]? = some o := ⟨_, Array.getElem?_eq_getElem hlt⟩
          have : i ∈ Region.ready .any ops listed := mem_ready.2 ⟨h, o, ho, fun e he hbn => by
            have h7 := F7 i hlt
            rw [ho] at h7
            have hlt2 : e.on < i := by
              have := Array.all_eq_true'.1 h7 e he
              simpa using this
            have := ihi e.on hlt2 (by omega)
            rwa [getD_tf (by rw [I.size]; omega)] at this⟩
          rw [hnil] at this
          cases this
    · obtain ⟨hun, o, ho, haft⟩ := mem_ready.1 hi
      have hlt : i < ops.size := (Array.getElem?_eq_some_iff.1 ho).1
      have hin : i ∈ spIdx items := by
        rcases F2 i hlt with h | h
        · have := I.mono i h; rw [this] at hun; cases hun
        · simpa using h
      obtain ⟨j, x, hx, hix⟩ := mem_spIdx.1 hin
      have hok := spItems_ok F8 hx
      simp only [SpI.ok, Bool.and_eq_true] at hok
      have hlis : i < listed.size := by rw [I.size]; exact hlt
      have hrem2 : ∀ k, k < ops.size → (listed.setIfInBounds i true).getD k true = false → k ∈ rem.erase i := fun k hk hf => by
        by_cases e : i = k
        · subst e; rw [getD_set_same hlis] at hf; cases hf
        · rw [Go.getD_set_ne true e] at hf
          exact (List.mem_erase_of_ne (Ne.symm e)).2 (hrem k hk hf)
      have hlen2 : (rem.erase i).length ≤ fuel := by
        have h1 := List.length_erase_of_mem (hrem i hlt hun)
        omega
      have hmono2 : ∀ k, L0.getD k true = true → (listed.setIfInBounds i true).getD k true = true := fun k hk => by
        by_cases e : i = k
        · subst e; exact getD_set_same hlis true
        · rw [Go.getD_set_ne true e]; exact I.mono k hk
      unfold wpOp
      simp only [ho]
      rcases SpI.mem_idx hix with rfl | ⟨t, hs⟩
      · obtain ⟨o', ho', hdst, hg⟩ := opIs_spec hok.1
        obtain rfl : o = o' := Option.some.inj (ho.symm.trans ho')
        rw [if_pos (by simp [Region.wanted, hg])]
        left
        have hnk : ¬ j < k := fun h => by rw [(I.calls j x hx).2 h] at hun; cases hun
        have hjk : j = k := by
          rcases Nat.lt_or_ge k j with h | h
          · exfalso
            obtain ⟨j', rfl⟩ : ∃ j', j = j' + 1 := ⟨j - 1, by omega⟩
            obtain ⟨y, hy⟩ : ∃ y, items[j']? = some y := ⟨_, List.getElem?_eq_getElem (by have := (List.getElem?_eq_some_iff.1 hx).1; omega)⟩
            obtain ⟨e, he, hbn, hon⟩ := waits_spec (spItems_waits F8 hy hx) ho
            have h1 := haft e he hbn
            have hys := spItems_ok F8 hy
            simp only [SpI.ok, Bool.and_eq_true] at hys
            obtain ⟨oy, hoy, _⟩ := opIs_spec hys.1
            rw [hon, ← getD_tf (by rw [I.size]; exact (Array.getElem?_eq_some_iff.1 hoy).1)] at h1
            have := (I.calls j' y hy).1 h1
            omega
          · omega
        subst hjk
        have hrow : ∀ i t, x.s = some (i, t) → B j (a.eval (.tmp t)) w := fun i t hs => by
          have h2 := hok.2
          rw [hs] at h2
          simp only [Bool.and_eq_true] at h2
          obtain ⟨⟨⟨h21, h22⟩, _⟩, _⟩ := h2
          obtain ⟨e, he, hbn, hon⟩ := waits_spec h22 ho
          have h1 := haft e he hbn
          obtain ⟨oi, hoi, _⟩ := opIs_spec h21
          rw [hon, ← getD_tf (by rw [I.size]; exact (Array.getElem?_eq_some_iff.1 hoi).1)] at h1
          exact I.rows j x i t hx hs h1
        have hqs : x.q < a.tmps.size := by rw [I.tsize]; exact F6 _ (mem_spTmps hx x.q_mem)
        refine hcl j x o a w _ hx ho I.z I.defers (fun t ht => eval_of (I.out t ht)) (fun j' x' hj' hx' => I.rets j' x' hx' hj') hrow fun w' hZ hS hB => ⟨hS, ?_⟩
        refine ih _ _ _ (j + 1) (rem.erase x.c) ⟨by simp [I.size], hmono2, I.defers, tmps_put_size.trans I.tsize, fun t ht => ?_, (List.getElem?_eq_some_iff.1 hx).1, hZ, fun j' y hy => ?_, fun j' y hy hlt' => ?_, fun j' y i t hy hs hli => ?_⟩ hrem2 hlen2
        · rw [tmps_put_ne (fun e => ht (by rw [← e]; exact mem_spTmps hx x.q_mem))]; exact I.out t ht
        · by_cases e : j = j'
          · subst e
            obtain rfl : x = y := Option.some.inj (hx.symm.trans hy)
            rw [getD_set_same hlis]; simp
          · have hne := sp_idx_ne F8 hx hy e x.c_mem y.c_mem
            rw [Go.getD_set_ne true hne, I.calls j' y hy]; omega
        · by_cases e : j = j'
          · subst e
            obtain rfl : x = y := Option.some.inj (hx.symm.trans hy)
            exact eval_put_same hqs
          · rw [eval_put_ne (sp_tmp_ne F8 hx hy e x.q_mem y.q_mem)]
            exact I.rets j' y hy (by omega)
        · have hne : x.c ≠ i ∧ x.q ≠ t := by
            by_cases e : j = j'
            · subst e
              obtain rfl : x = y := Option.some.inj (hx.symm.trans hy)
              have h2 := hok.2
              rw [hs] at h2
              simp only [Bool.and_eq_true, decide_eq_true_eq] at h2
              exact ⟨fun e => h2.1.2 e.symm, fun e => h2.2 e.symm⟩
            · exact ⟨sp_idx_ne F8 hx hy e x.c_mem (SpI.i_mem hs), sp_tmp_ne F8 hx hy e x.q_mem (SpI.t_mem hs)⟩
          rw [Go.getD_set_ne true hne.1] at hli
          rw [eval_put_ne hne.2]
          exact hB _ _ (I.rows j' y i t hy hs hli)
      · have h2 := hok.2
        rw [hs] at h2
        simp only [Bool.and_eq_true, decide_eq_true_eq] at h2
        obtain ⟨⟨⟨h21, h22⟩, hic⟩, htq⟩ := h2
        obtain ⟨o', ho', hdst, hg⟩ := opIs_spec h21
        obtain rfl : o = o' := Option.some.inj (ho.symm.trans ho')
        rw [if_pos (by simp [Region.wanted, hg])]
        left
        have hts : t < a.tmps.size := by rw [I.tsize]; exact F6 _ (mem_spTmps hx (SpI.t_mem hs))
        refine hsl j x i t o k a w _ hx hs ho I.z fun u w' hZ hS hB hF => ⟨hS, ?_⟩
        refine ih _ _ _ k (rem.erase i) ⟨by simp [I.size], hmono2, I.defers, tmps_put_size.trans I.tsize, fun t' ht => ?_, I.le, hZ, fun j' y hy => ?_, fun j' y hy hlt' => ?_, fun j' y i' t' hy hs' hli => ?_⟩ hrem2 hlen2
        · rw [tmps_put_ne (fun e => ht (by rw [← e]; exact mem_spTmps hx (SpI.t_mem hs)))]; exact I.out t' ht
        · have hne : i ≠ y.c := by
            by_cases e : j = j'
            · subst e
              obtain rfl : x = y := Option.some.inj (hx.symm.trans hy)
              exact hic
            · exact sp_idx_ne F8 hx hy e (SpI.i_mem hs) y.c_mem
          rw [Go.getD_set_ne true hne]; exact I.calls j' y hy
        · have hne : t ≠ y.q := by
            by_cases e : j = j'
            · subst e
              obtain rfl : x = y := Option.some.inj (hx.symm.trans hy)
              exact htq
            · exact sp_tmp_ne F8 hx hy e (SpI.t_mem hs) y.q_mem
          rw [eval_put_ne hne]; exact I.rets j' y hy hlt'
        · by_cases e : j = j'
          · subst e
            obtain rfl : x = y := Option.some.inj (hx.symm.trans hy)
            rw [hs] at hs'
            obtain ⟨rfl, rfl⟩ := Prod.mk.inj (Option.some.inj hs')
            rw [eval_put_same hts]; exact hB
          · rw [Go.getD_set_ne true (sp_idx_ne F8 hx hy e (SpI.i_mem hs) (SpI.i_mem hs'))] at hli
            rw [eval_put_ne (sp_tmp_ne F8 hx hy e (SpI.t_mem hs) (SpI.t_mem hs'))]
            exact hF _ _ (I.rows j' y i' t' hy hs' hli)
end
end Go.Proofs.YtamfbfajlfbooaaDoor
