/- Calls of the code's maker in a row, in a region that draws its order: whatever order comes, the code grows alike. -/
import Derived.Test.YtamfbfajlfbooaaDoorGSpine
import Derived.Test.YtamfbfajlfbooaaDoorGPreCode
import Derived.Great.BuildSlice
set_option linter.unusedVariables false
set_option linter.unusedSimpArgs false
set_option linter.unusedSectionVars false
namespace Go.Proofs.YtamfbfajlfbooaaDoor
open Go.RowKit Qs Qh
theorem callEmOp (args : Array Value) (w : World) : (callFunc 103 args).run Tryd.prog w = .ok (.enter 103 args) w := by kernel_rfl
theorem callEmTo (args : Array Value) (w : World) : (callFunc 104 args).run Tryd.prog w = .ok (.enter 104 args) w := by kernel_rfl
theorem callEmLabel (args : Array Value) (w : World) : (callFunc 102 args).run Tryd.prog w = .ok (.enter 102 args) w := by kernel_rfl
def callOf (o : Op) : Option (Nat × Array Operand) := match o with
  | .call c => (match c.callee with | .value (.func f) => some (f, c.args) | _ => none)
  | _ => none
theorem wp_callOf {P : Program} {o : Oper} {a : Act} {w : World} {f : FuncId} {A : Array Operand} (hf : ∀ args w, (callFunc f args).run P w = .ok (.enter f args) w) (ho : callOf o.op = some (f, A))
    {Q : Exit → Act → World → Prop} {K : Act → World → Prop} (h : Calls P f (A.map a.eval) w fun e w' => ∃ v, e = .returned v ∧ K (a.put o.dst v) w') : o.wp P a w K Q := by
  have hr : (execOp a.eval o).run P w = .ok (.enter f (A.map a.eval)) w := by
    unfold callOf at ho
    split at ho
    · rename_i c hc
      split at ho
      · rename_i f' hf'
        cases ho
        unfold execOp
        simp only [hc, resolve, hf', Act.eval, Deferred.ofValue, invoke, Sem.run_bind, Sem.run_pure, Result.andThen_ok, Array.append_empty, Array.empty_append, hf]
      · cases ho
    · cases ho
  unfold Oper.wp
  rw [hr, Oper.upon_enter]
  refine h.mono ?_
  rintro e w' ⟨v, rfl, hk⟩
  exact hk
/-- A call of the maker: the op's number, its numbers, its label, which function (0 Op, 1 To, 2 Label, 3 Op whose name lies in a slot), where the label lies. -/
structure EmC where
  n : Nat
  z : List Int
  to : List UInt8
  kind : Nat
  lt : Nat
def EmC.ins (e : EmC) : Instr := ⟨e.n, e.z.getD 0 0, e.z.getD 1 0, e.z.getD 2 0, e.to⟩
def isTmp (x : Operand) (t : Nat) : Bool := match x with | .tmp u => u == t | _ => false
def isStr (x : Operand) (s : ByteArray) : Bool := match x with | .const (.string u) => decide (u.data.toList = s.data.toList) | _ => false
def isNilRow (x : Operand) : Bool := match x with | .const (.slice none 0 0) => true | _ => false
def slOk (x : Operand) (e : EmC) (s : Option (Nat × Tmp)) : Bool := match s with
  | some (_, t) => isTmp x t
  | none => e.z.isEmpty && isNilRow x
def argsOk (A : Array Operand) (r : Nat) (e : EmC) (s : Option (Nat × Tmp)) : Bool := match e.kind, A.toList with
  | 0, [x, y, z] => isTmp x r && isStr y (opStr e.n) && slOk z e s && e.to.isEmpty
  | 1, [x, l, y, z] => isTmp x r && isTmp l e.lt && isStr y (opStr e.n) && slOk z e s
  | 2, [x, l] => isTmp x r && isTmp l e.lt && e.z.isEmpty && e.n == 17 && s.isNone
  | 3, [x, y, z] => isTmp x r && isTmp y e.lt && slOk z e s && e.to.isEmpty
  | _, _ => false
def fnOf (k : Nat) : Nat := match k with | 0 => 103 | 1 => 104 | 2 => 102 | _ => 103
def isInt (x : Operand) (v : Int) : Bool := match x with | .const (.int .i64 u) => u == v | _ => false
def partsOk : List (Nat × Operand) → Nat → List Int → Bool
  | [], _, [] => true
  | p :: r, i, x :: xs => p.1 == i && isInt p.2 x && partsOk r (i + 1) xs
  | _, _, _ => false
def slcOk (ops : Array Oper) (z : List Int) (s : Option (Nat × Tmp)) : Bool := match s with
  | none => true
  | some (i, t) => match ops[i]? with
    | some o => (match o.op with | .buildSlice ty n parts => ty == 23 && n == z.length && decide (0 < z.length) && decide (z.length ≤ 3) && partsOk parts.toList 0 z | _ => false) && o.dst == some t
    | none => false
/-- The row of calls is the list of items, from a receiver on. -/
def emRow (ops : Array Oper) (out : List Nat) : Nat → List SpI → List EmC → Bool
  | _, [], [] => true
  | r, x :: xs, e :: es => (match ops[x.c]? with
      | some o => (match callOf o.op with | some (f, A) => f == fnOf e.kind && argsOk A r e x.s && decide (e.kind ≤ 3) | none => false) && o.dst == some x.q
      | none => false) && slcOk ops e.z x.s && (e.kind == 0 || !out.contains e.lt) && emRow ops out x.q xs es
  | _, _, _ => false
theorem isTmp_spec {x : Operand} {t : Nat} (h : isTmp x t = true) : x = .tmp t := by
  unfold isTmp at h
  split at h
  · rw [beq_iff_eq] at h; rw [h]
  · cases h
theorem isStr_spec {x : Operand} {s : ByteArray} (h : isStr x s = true) : x = .const (.string s) := by
  unfold isStr at h
  split at h
  · rename_i u
    have h := of_decide_eq_true h
    have : u = s := by
      cases u; cases s
      simp only at h
      congr 1
      exact Array.ext' h
    rw [this]
  · cases h
theorem isNilRow_spec {x : Operand} (h : isNilRow x = true) : x = .const (.slice none 0 0) := by
  unfold isNilRow at h
  split at h
  · rfl
  · cases h
theorem isInt_spec {x : Operand} {v : Int} (h : isInt x v = true) : x = .const (.int .i64 v) := by
  unfold isInt at h
  split at h
  · rw [beq_iff_eq] at h; rw [h]
  · cases h
theorem partsOk_spec : ∀ (l : List (Nat × Operand)) (i : Nat) (z : List Int), partsOk l i z = true → l = (z.zipIdx i).map fun x => (x.2, Operand.const (Value.int .i64 x.1))
  | [], _, [], _ => rfl
  | [], _, _ :: _, h => by simp [partsOk] at h
  | (k, o) :: r, i, [], h => by simp [partsOk] at h
  | (k, o) :: r, i, x :: xs, h => by
    simp only [partsOk, Bool.and_eq_true, beq_iff_eq] at h
    obtain ⟨⟨rfl, h2⟩, h3⟩ := h
    rw [isInt_spec h2, partsOk_spec r _ xs h3]; rfl
/-- A slice of numbers as a call takes it: nil where there are none. -/
def SlV (w : World) (b : Nat) (z : List Int) (u : Value) : Prop := (z = [] ∧ u = .slice none 0 0) ∨ ((1 ≤ z.length ∧ z.length ≤ 3) ∧ RowV w b z u)
theorem RowV.cells {w : World} {b : Nat} {z : List Int} {u : Value} (h : RowV w b z u) : ∃ g, u = .slice (some ⟨g, 0, none⟩) z.length z.length ∧ g < w.heap.size ∧ ∀ i x, z[i]? = some x → w.cell? ⟨g, i, none⟩ = some (.int .i64 x) := by
  obtain ⟨g, rfl, R⟩ := h
  exact ⟨g, rfl, R.lt, R.cell⟩
variable {w0 w w1 : World} {b o : Nat} {v0 v : Value} {l : List Instr}
theorem em_op (C : Chain w0 b 4 v0 l w) (hlen : l.length ≤ 1000000) (n : Nat) {z : List Int} {u : Value} (h : SlV w b z u) :
    Calls Tryd.prog 103 #[.pointer (some ⟨b, 4, none⟩), .string (opStr n), u] w fun e w' => e = .returned (.pointer (some ⟨b, 4, none⟩)) ∧ Chain w0 b 4 v0 (l ++ [⟨n, z.getD 0 0, z.getD 1 0, z.getD 2 0, []⟩]) w' := by
  rcases h with ⟨rfl, rfl⟩ | ⟨⟨h1, h3⟩, h⟩
  · exact op0_chain C hlen n _ rfl
  · obtain ⟨g, rfl, hg, hc⟩ := h.cells
    match z, h1, h3 with
    | [x], _, _ => exact op1_chain C hlen n _ rfl g x 1 (hc 0 x rfl) hg
    | [x, y], _, _ => exact op2_chain C hlen n _ rfl g x y 2 (hc 0 x rfl) (hc 1 y rfl) hg
    | [x, y, t], _, _ => exact op3_chain C hlen n _ rfl g x y t 3 (hc 0 x rfl) (hc 1 y rfl) (hc 2 t rfl) hg
    | _ :: _ :: _ :: _ :: _, _, h3 => exact absurd h3 (by simp)
theorem em_to (C : Chain w0 b 4 v0 l w) (hlen : l.length ≤ 1000000) (n : Nat) {z : List Int} {u : Value} (h : SlV w b z u) (hz : z.length ≤ 2) (to : List UInt8) :
    Calls Tryd.prog 104 #[.pointer (some ⟨b, 4, none⟩), .string ⟨to.toArray⟩, .string (opStr n), u] w fun e w' => e = .returned (.pointer (some ⟨b, 4, none⟩)) ∧ Chain w0 b 4 v0 (l ++ [⟨n, z.getD 0 0, z.getD 1 0, z.getD 2 0, to⟩]) w' := by
  rcases h with ⟨rfl, rfl⟩ | ⟨⟨h1, h3⟩, h⟩
  · exact to0_chain C hlen n _ rfl to _ rfl
  · obtain ⟨g, rfl, hg, hc⟩ := h.cells
    match z, h1, hz with
    | [x], _, _ => exact to1_chain C hlen n _ rfl to _ rfl g x 1 (hc 0 x rfl) hg
    | [x, y], _, _ => exact to2_chain C hlen n _ rfl to _ rfl g x y 2 (hc 0 x rfl) (hc 1 y rfl) hg
    | _ :: _ :: _ :: _, _, h3 => exact absurd h3 (by simp)
theorem intsInfo : (Tryd.prog.info? 3).map (·.size) = some 1 ∧ ((Tryd.prog.info? 3).bind (·.zero)).isSome = true := ⟨by kernel_rfl, by kernel_rfl⟩
/-- A slice made: its block is new. -/
theorem wp_slc {x : Oper} {a : Act} {K : Act → World → Prop} {Q : Exit → Act → World → Prop} {z : List Int} {parts : Array (Nat × Operand)} (ho : x.op = .buildSlice 23 z.length parts) (hp : partsOk parts.toList 0 z = true) (h1 : 0 < z.length) (h3 : z.length ≤ 3)
    (h : K (a.put x.dst (.slice (some ⟨w.heap.size, 0, none⟩) z.length z.length)) (w.alloc (.cells (z.map (Value.int .i64)).toArray 3))) : x.wp Tryd.prog a w K Q := by
  obtain ⟨hsz, hz⟩ := intsInfo
  cases hie : Tryd.prog.info? 3 with
  | none => simp [hie] at hsz
  | some ie =>
    simp only [hie, Option.map_some, Option.some.injEq, Option.bind_some] at hsz hz
    obtain ⟨zz, hzz⟩ := Option.isSome_iff_exists.1 hz
    refine wp_buildSlice 23 3 z.length parts ho _ ie zz Tryd.underlying23 hie hzz (by rw [hsz]; omega) (by rw [hsz]; omega) ?_ h
    rw [parts_eval a parts .i64 z (partsOk_spec _ _ _ hp), hsz]
    exact Great.fill_flat _ _ (fun v hv => by obtain ⟨n, _, rfl⟩ := List.mem_map.1 hv; rfl) (by simp)
def patch (ts : List Nat) (U : Nat → Value) (a : Act) : Act := ts.foldl (fun acc t => acc.put (some t) (U t)) a
theorem patch_self : ∀ (ts : List Nat) (a0 a : Act), a.defers = a0.defers → a.tmps.size = a0.tmps.size → (∀ t, t ∉ ts → a.tmps[t]? = a0.tmps[t]?) → patch ts (fun t => a.eval (.tmp t)) a0 = a
  | [], a0, a, hd, hs, h => by
    cases a; cases a0
    simp only [patch, List.foldl] at *
    subst hd
    congr 1
    exact (Array.ext_getElem? fun i => (h i (by simp))).symm
  | t :: ts, a0, a, hd, hs, h => by
    show patch ts _ (a0.put (some t) (a.eval (.tmp t))) = a
    refine patch_self ts _ a hd ?_ fun u hu => ?_
    · rw [tmps_put_size]; exact hs
    · by_cases e : t = u
      · subst e
        by_cases hlt : t < a.tmps.size
        · have hlt0 : t < a0.tmps.size := by omega
          simp [Act.put, Act.eval, hlt, hlt0]
        · have hlt0 : ¬ t < a0.tmps.size := by omega
          simp [Act.put, hlt, hlt0]
      · rw [tmps_put_ne e]; exact h u (by simp [hu, Ne.symm e])
theorem emRow_at {ops : Array Oper} {out : List Nat} : ∀ {items : List SpI} {E : List EmC} {r : Nat}, emRow ops out r items E = true → ∀ {j : Nat} {x : SpI}, items[j]? = some x → ∃ e, E[j]? = some e ∧ ∃ p : Nat, ((j = 0 ∧ p = r) ∨ ∃ j' x', j = j' + 1 ∧ items[j']? = some x' ∧ p = x'.q) ∧
    (∃ o f A, ops[x.c]? = some o ∧ callOf o.op = some (f, A) ∧ f = fnOf e.kind ∧ argsOk A p e x.s = true ∧ e.kind ≤ 3 ∧ o.dst = some x.q) ∧ slcOk ops e.z x.s = true ∧ (e.kind = 0 ∨ e.lt ∉ out)
  | [], _, _, _, j, x, hx => by simp at hx
  | y :: r, [], _, h, j, x, hx => by simp [emRow] at h
  | y :: ys, e :: es, r, h, j, x, hx => by
    simp only [emRow, Bool.and_eq_true] at h
    obtain ⟨⟨⟨h1, h2⟩, h4⟩, h3⟩ := h
    cases j with
    | zero =>
      simp at hx; subst hx
      refine ⟨e, rfl, r, .inl ⟨rfl, rfl⟩, ?_, h2, ?_⟩
      · cases ho : ops[y.c]? with
        | none => rw [ho] at h1; cases h1
        | some o =>
          rw [ho] at h1
          simp only [Bool.and_eq_true, beq_iff_eq] at h1
          obtain ⟨h1, hd⟩ := h1
          cases hc : callOf o.op with
          | none => rw [hc] at h1; cases h1
          | some p =>
            obtain ⟨f, A⟩ := p
            rw [hc] at h1
            simp only [Bool.and_eq_true, beq_iff_eq, decide_eq_true_eq] at h1
            exact ⟨o, f, A, rfl, hc, h1.1.1, h1.1.2, h1.2, hd⟩
      · simpa using h4
    | succ j =>
      obtain ⟨e', he', p, hp, r1, r2, r3⟩ := emRow_at h3 (j := j) (by simpa using hx)
      refine ⟨e', by simpa using he', p, .inr ?_, r1, r2, r3⟩
      rcases hp with ⟨rfl, rfl⟩ | ⟨j', x', rfl, hx', rfl⟩
      · exact ⟨0, y, rfl, rfl, rfl⟩
      · exact ⟨j' + 1, x', rfl, by simpa using hx', rfl⟩
/-- Where it stands: the code made so far. -/
def EmZ (w0 : World) (b : Nat) (v0 : Value) (l : List Instr) (E : List EmC) (k : Nat) (w : World) : Prop := Chain w0 b 4 v0 (l ++ (E.take k).map EmC.ins) w
def EmB (b : Nat) (E : List EmC) (j : Nat) (u : Value) (w : World) : Prop := ∀ e, E[j]? = some e → RowV w b e.z u
theorem em_spine {ops : Array Oper} {Q : Exit → Act → World → Prop} {S : World → Prop} {L0 : Array Bool} {a0 : Act} {items : List SpI} {E : List EmC} {r0 fuel : Nat}
    (hb : spB ops L0 items a0.tmps.size = true) (hrow : emRow ops (spTmps items) r0 items E = true) (hr0 : (spTmps items).contains r0 = false) (hptr : a0.eval (.tmp r0) = .pointer (some ⟨b, 4, none⟩))
    (hlb : ∀ e ∈ E, e.kind ≠ 0 → a0.eval (.tmp e.lt) = .string (if e.kind = 3 then opStr e.n else ⟨e.to.toArray⟩)) (hz2 : (E.all fun e => e.kind == 0 || e.kind == 3 || decide (e.z.length ≤ 2)) = true) (hEl : items.length = E.length) (hl : l.length + E.length ≤ 1000000)
    (hS : ∀ w' l', Chain w0 b 4 v0 l' w' → S w') (C : Chain w0 b 4 v0 l w) (hfuel : decide (((List.range ops.size).filter fun i => !L0.getD i true).length ≤ fuel) = true)
    (hend : ∀ (U : Nat → Value) w', Chain w0 b 4 v0 (l ++ E.map EmC.ins) w' → (∀ (j : Nat) (x : SpI), items[j]? = some x → U x.q = .pointer (some ⟨b, 4, none⟩)) → Q .normal (patch (spTmps items) U a0) w') :
    wpAnyH Tryd.prog .any ops Q S fuel L0 a0 w := by
  have hb' := hb
  simp only [spB, Bool.and_eq_true, decide_eq_true_eq, List.all_eq_true, List.mem_range, Bool.or_eq_true] at hb'
  obtain ⟨⟨⟨⟨⟨F1, F2⟩, F3⟩, F6⟩, F7⟩, F8⟩ := hb'
  have hrl : ∀ (j : Nat) x, items[j]? = some x → j < E.length := fun j x hx => by rw [← hEl]; exact (List.getElem?_eq_some_iff.1 hx).1
  refine spine_go (P := Tryd.prog) (Z := EmZ w0 b v0 l E) (B := EmB b E) (ret := fun _ => .pointer (some ⟨b, 4, none⟩)) hb ?_ ?_ ?_ fuel L0 a0 w 0 ((List.range ops.size).filter fun i => !L0.getD i true) ⟨F1, fun _ h => h, rfl, rfl, fun _ _ => rfl, Nat.zero_le _, by simpa [EmZ] using C, fun j x hx => ⟨fun h => ?_, fun h => absurd h (by omega)⟩, fun j x hx h => absurd h (by omega), fun j x i t hx hs h => ?_⟩ (fun i hi h => ?_) ?_
  · -- slices
    intro j x i t o k a w K hx hs ho hZ hK
    obtain ⟨e, he, p, hp, hc, hsl, hlt⟩ := emRow_at hrow hx
    unfold slcOk at hsl
    rw [hs] at hsl
    simp only [ho, Bool.and_eq_true, beq_iff_eq] at hsl
    obtain ⟨hsl, hd⟩ := hsl
    split at hsl
    · rename_i ty n parts hop
      simp only [Bool.and_eq_true, beq_iff_eq, decide_eq_true_eq] at hsl
      obtain ⟨⟨⟨⟨rfl, rfl⟩, g1⟩, g3⟩, gp⟩ := hsl
      refine wp_slc hop gp g1 g3 ?_
      rw [hd]
      have hZ' : Chain w0 b 4 v0 _ w := hZ
      refine hK _ _ (hZ'.quiet ((Mod.refl _ _).alloc _)) (hS _ _ (hZ'.quiet ((Mod.refl _ _).alloc _))) (fun e' he' => ?_) fun j' u' hB e' he' => ?_
      · obtain rfl : e = e' := Option.some.inj (he.symm.trans he')
        exact ⟨w.heap.size, rfl, Row.fresh hZ' e.z _⟩
      · obtain ⟨g, rfl, R⟩ := hB e' he'
        exact ⟨g, rfl, R.quiet hZ'.lt ((Mod.refl _ _).alloc _)⟩
    · cases hsl
  · -- calls
    intro j x o a w K hx ho hZ hdef hout hret hrw hK
    obtain ⟨e, he, p, hp, ⟨o', f, A, ho', hcall, rfl, hargs, hk2, hd⟩, hsl, hlt⟩ := emRow_at hrow hx
    obtain rfl : o = o' := Option.some.inj (ho.symm.trans ho')
    have hZ' : Chain w0 b 4 v0 _ w := hZ
    have hpv : a.eval (.tmp p) = .pointer (some ⟨b, 4, none⟩) := by
      rcases hp with ⟨rfl, rfl⟩ | ⟨j', x', rfl, hx', rfl⟩
      · rw [hout _ (by intro h; rw [List.contains_iff_mem.2 h] at hr0; cases hr0)]; exact hptr
      · exact hret j' x' (by omega) hx'
    have hlab : e.kind ≠ 0 → a.eval (.tmp e.lt) = .string (if e.kind = 3 then opStr e.n else ⟨e.to.toArray⟩) := fun hk => by
      rw [hout _ (hlt.resolve_left hk)]; exact hlb e (List.mem_of_getElem? he) hk
    have hslv : ∀ z, slOk z e x.s = true → SlV w b e.z (a.eval z) := fun z hz => by
      unfold slOk at hz
      cases hs : x.s with
      | none =>
        rw [hs] at hz
        simp only [Bool.and_eq_true, List.isEmpty_iff] at hz
        rw [isNilRow_spec hz.2]
        exact .inl ⟨hz.1, rfl⟩
      | some it =>
        obtain ⟨i, t⟩ := it
        rw [hs] at hz hsl
        rw [isTmp_spec hz]
        refine .inr ⟨?_, hrw i t hs e he⟩
        unfold slcOk at hsl
        simp only at hsl
        cases ho2 : ops[i]? with
        | none => rw [ho2] at hsl; cases hsl
        | some o2 =>
          rw [ho2] at hsl
          simp only [Bool.and_eq_true, beq_iff_eq] at hsl
          obtain ⟨hsl, _⟩ := hsl
          split at hsl
          · simp only [Bool.and_eq_true, beq_iff_eq, decide_eq_true_eq] at hsl
            exact ⟨hsl.1.1.2, hsl.1.2⟩
          · cases hsl
    have hz2' : e.kind ≠ 0 → e.kind ≠ 3 → e.z.length ≤ 2 := fun hk hk3 => by
      have := List.all_eq_true.1 hz2 e (List.mem_of_getElem? he)
      simp only [Bool.or_eq_true, beq_iff_eq, decide_eq_true_eq] at this
      exact this.resolve_left (fun h => h.elim hk hk3)
    have hjl := hrl j x hx
    have htake : (E.take (j + 1)).map EmC.ins = (E.take j).map EmC.ins ++ [e.ins] := by
      rw [List.take_add_one, he]; simp
    have hll : (l ++ (E.take j).map EmC.ins).length ≤ 1000000 := by simp; omega
    obtain ⟨v1, C1, hv1, -, hk1⟩ := hZ'.re (Mod.refl noF w)
    have fin : ∀ w', Chain w b 4 v1 ((l ++ (E.take j).map EmC.ins) ++ [e.ins]) w' → ∃ v, Ending.returned (.pointer (some ⟨b, 4, none⟩)) = .returned v ∧ K (a.put o.dst v) w' := fun w' hC => by
      refine ⟨_, rfl, ?_⟩
      rw [hd]
      have hC0 := hk1 _ _ hC
      refine hK w' ?_ (hS _ _ hC0) fun j' u' hB e' he' => ?_
      · show Chain w0 b 4 v0 _ w'
        rw [htake, ← List.append_assoc]; exact hC0
      · obtain ⟨g, rfl, R⟩ := hB e' he'
        exact ⟨g, rfl, R.next hv1 hC⟩
    unfold argsOk at hargs
    split at hargs
    · rename_i hk hA
      simp only [Bool.and_eq_true, List.isEmpty_iff] at hargs
      obtain ⟨⟨⟨h1, h2⟩, h3⟩, h4⟩ := hargs
      rw [hk] at hcall
      refine wp_callOf callEmOp hcall ?_
      rename_i y1 y2 y3
      have hA' : A = #[y1, y2, y3] := Array.ext' (by simpa using hA)
      subst hA'
      simp only [List.map_toArray, List.map_cons, List.map_nil, isTmp_spec h1, isStr_spec h2, hpv]
      refine (em_op C1 hll e.n (hslv _ h3)).mono ?_
      rintro e' w' ⟨rfl, hC⟩
      have : e.ins = ⟨e.n, e.z.getD 0 0, e.z.getD 1 0, e.z.getD 2 0, []⟩ := by unfold EmC.ins; rw [h4]
      exact fin w' (by rw [this]; exact hC)
    · rename_i hk hA
      simp only [Bool.and_eq_true] at hargs
      obtain ⟨⟨⟨h1, h2⟩, h3⟩, h4⟩ := hargs
      rw [hk] at hcall
      refine wp_callOf callEmTo hcall ?_
      rename_i y1 y2 y3 y4
      have hA' : A = #[y1, y2, y3, y4] := Array.ext' (by simpa using hA)
      subst hA'
      simp only [List.map_toArray, List.map_cons, List.map_nil, isTmp_spec h1, isTmp_spec h2, isStr_spec h3, hpv, hlab (by omega), if_neg (show ¬ e.kind = 3 by omega)]
      refine (em_to C1 hll e.n (hslv _ h4) (hz2' (by omega) (by omega)) e.to).mono ?_
      rintro e' w' ⟨rfl, hC⟩
      exact fin w' hC
    · rename_i hk hA
      simp only [Bool.and_eq_true, List.isEmpty_iff, beq_iff_eq] at hargs
      obtain ⟨⟨⟨⟨h1, h2⟩, h3⟩, h4⟩, h5⟩ := hargs
      clear h5
      rw [hk] at hcall
      refine wp_callOf callEmLabel hcall ?_
      rename_i y1 y2
      have hA' : A = #[y1, y2] := Array.ext' (by simpa using hA)
      subst hA'
      simp only [List.map_toArray, List.map_cons, List.map_nil, isTmp_spec h1, isTmp_spec h2, hpv, hlab (by omega), if_neg (show ¬ e.kind = 3 by omega)]
      refine (label_chain C1 hll e.to _ rfl).mono ?_
      rintro e' w' ⟨rfl, hC⟩
      have : e.ins = ⟨17, 0, 0, 0, e.to⟩ := by unfold EmC.ins; rw [h3, h4]; rfl
      exact fin w' (by rw [this]; exact hC)
    · rename_i hk hA
      simp only [Bool.and_eq_true, List.isEmpty_iff] at hargs
      obtain ⟨⟨⟨h1, h2⟩, h3⟩, h4⟩ := hargs
      rw [hk] at hcall
      refine wp_callOf callEmOp hcall ?_
      rename_i y1 y2 y3
      have hA' : A = #[y1, y2, y3] := Array.ext' (by simpa using hA)
      subst hA'
      simp only [List.map_toArray, List.map_cons, List.map_nil, isTmp_spec h1, isTmp_spec h2, hpv, hlab (by omega), if_pos hk]
      refine (em_op C1 hll e.n (hslv _ h3)).mono ?_
      rintro e' w' ⟨rfl, hC⟩
      have : e.ins = ⟨e.n, e.z.getD 0 0, e.z.getD 1 0, e.z.getD 2 0, []⟩ := by unfold EmC.ins; rw [h4]
      exact fin w' (by rw [this]; exact hC)
    · cases hargs
  · intro a w hZ hdef hsz hout hret
    have h := hend (fun t => a.eval (.tmp t)) w (by have : EmZ w0 b v0 l E items.length w := hZ; unfold EmZ at this; rw [hEl, List.take_length] at this; exact this) hret
    rw [patch_self _ _ _ hdef hsz hout] at h
    exact h
  · have := F3 x.c (mem_spIdx.2 ⟨j, x, hx, x.c_mem⟩)
    rw [h] at this; cases this
  · have := F3 i (mem_spIdx.2 ⟨j, x, hx, SpI.i_mem hs⟩)
    rw [h] at this; cases this
  · rw [List.mem_filter]; exact ⟨List.mem_range.2 hi, by rw [h]; rfl⟩
  · exact of_decide_eq_true hfuel
end Go.Proofs.YtamfbfajlfbooaaDoor
