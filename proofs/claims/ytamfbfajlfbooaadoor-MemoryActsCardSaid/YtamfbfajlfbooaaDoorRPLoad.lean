/- package memory: Load. -/
import Derived.Test.YtamfbfajlfbooaaDoorRm6
import Derived.RangeFuncNested
import Derived.Laws.StructEq
import Derived.Test.YtamfbfajlfbooaaDoorRPStore
set_option linter.unusedVariables false
set_option linter.unusedSimpArgs false
set_option linter.unusedSectionVars false
namespace Go.Proofs.YtamfbfajlfbooaaDoor
open Go.RowKit Go.Shelf Qs Qh
attribute [local go_sem] Oper.semAt_some
variable {w : World} {B : PB} {l : List Cell} {ws : List (List Wt)} {vs : List Value} {a : Nat → Addr}
theorem leavesM_nil {F : Fence} {n : Nat} {P : Program} {fn : Func} {tmps : Array Value} {R : Ending → World → Prop} {v : Value} {w : World} (h1 : (results fn tmps).run P w = .ok v w) (h2 : R (.returned v) w) : LeavesInM F n P fn tmps R [] .returning w := ⟨v, h1, h2⟩
abbrev intBox (n : Int) : Obj := .cells #[.int .i64 n] 3
abbrev errBox (v : Value) : Obj := .cells #[v] 54
theorem heap4 (w : World) (a b c d : Obj) : ((((w.alloc a).alloc b).alloc c).alloc d).heap[w.heap.size]? = some a ∧ ((((w.alloc a).alloc b).alloc c).alloc d).heap[w.heap.size + 1]? = some b ∧ ((((w.alloc a).alloc b).alloc c).alloc d).heap[w.heap.size + 1 + 1]? = some c ∧ ((((w.alloc a).alloc b).alloc c).alloc d).heap[w.heap.size + 1 + 1 + 1]? = some d := by
  have up : ∀ (x : World) (o : Obj) {k : Nat} {u : Obj}, x.heap[k]? = some u → (x.alloc o).heap[k]? = some u := fun x o k u h => (Below.heap_alloc x o k (lt_of_block h)).trans h
  have h1 := heap_alloc_new w a
  have h2 := heap_alloc_new (w.alloc a) b
  have h3 := heap_alloc_new ((w.alloc a).alloc b) c
  have h4 := heap_alloc_new (((w.alloc a).alloc b).alloc c) d
  simp only [World.size_alloc] at h2 h3 h4
  exact ⟨up _ _ (up _ _ (up _ _ h1)), up _ _ (up _ _ h2), up _ _ h3, h4⟩
set_option maxRecDepth 100000 in
set_option maxHeartbeats 4000000 in
theorem pload_err2 (h : PMV w B l ws vs) (E : Errs4 w a) (hn : l.length ≤ 64) (ht : timesOk l) {t : Nat} {q : List Wt} (hq : ws[t]? = some q) (c r W_ : Int) (he : loadE l c r W_ = (0, 2)) :
    Calls Tryd.prog 34 #[.pointer (some ⟨B.bM, 0, none⟩), .int .i64 t, .agg #[.int .i64 c, .int .i64 r], .int .i64 W_] w fun e w' => e = .returned (.tuple #[.int .i64 0, errOf' a 2]) ∧ Mod noF w w' := by
  simp only [errOf', errV, show ((2 : Int) = 0) = False by decide, if_false, show (2 : Int).toNat - 1 = 1 from rfl]
  have htl := (List.getElem?_eq_some_iff.1 hq).1
  have hq0 := (((((Mod.refl noF w).alloc (refBox c r)).alloc (intBox W_)).alloc (intBox 0)).alloc (errBox .nilIface))
  have h2 := h.keep0 hq0
  have hbx := heap4 w (refBox c r) (intBox W_) (intBox 0) (errBox .nilIface)
  have E2 := E.keep hq0
  obtain ⟨wz, hwz⟩ : ∃ wz, wz = (((w.alloc (refBox c r)).alloc (intBox W_)).alloc (intBox 0)).alloc (errBox .nilIface) := ⟨_, rfl⟩
  rw [← hwz] at h2 hbx E2 hq0
  obtain ⟨bx0, bx1, bx2, bx3⟩ := hbx
  have hS : ∀ W, Mod noF wz.drew W → (Mod noF wz.drew W ∧ W.cell? ⟨B.bM, 0, none⟩ = some (.pointer (some ⟨B.bA, 0, none⟩)) ∧ W.cell? ⟨w.heap.size, 0, none⟩ = some (.int .i64 c) ∧ W.cell? ⟨w.heap.size, 1, none⟩ = some (.int .i64 r) ∧ W.cell? ⟨w.heap.size + 1, 0, none⟩ = some (.int .i64 W_)) := by
    intro W hW
    have hz := (Mod.refl noF wz).drew.trans0 hW
    have hx := hz.heap bx0 (fun e => e)
    exact ⟨hW, (h2.keep0 hz).ptr, (cell_of_heap hx 0).trans rfl, (cell_of_heap hx 1).trans rfl, (cell_of_heap (hz.heap bx1 (fun e => e)) 0).trans rfl⟩
  have hcall : ∀ W, Mod noF wz.drew W → Calls Tryd.prog 66 #[.pointer (some ⟨B.bA, 0, none⟩), .agg #[.int .i64 c, .int .i64 r], .int .i64 W_] W fun e w' => e = .returned (.tuple #[.int .i64 (loadE l c r W_).1, errOf' a (loadE l c r W_).2]) ∧ Mod noF wz.drew W ∧ Mod noF wz.drew w' := by
    intro W hW
    have hz := (Mod.refl noF wz).drew.trans0 hW
    exact (aload_any (h2.keep0 hz).arena (E2.keep hz) hn ht c r W_).mono fun e w' h => ⟨h.1, hW, hW.trans0 h.2⟩
  rw [he] at hcall
  simp only [errOf', errV, show ((2 : Int) = 0) = False by decide, if_false, show (2 : Int).toNat - 1 = 1 from rfl] at hcall
  obtain ⟨-, z0, z1, z2, z3⟩ := hS wz.drew (Mod.refl _ _)
  have zb := h2.lt (x := B.bM) (.inl rfl)
  have zx := lt_of_block bx0
  have zx1 := lt_of_block bx1
  have HS := Lib.hid hS
  have Hcall := Lib.hid hcall
  have H := Lib.hid h2
  have HE := Lib.hid E2
  have Hq := Lib.hid hq
  have Hq0 := Lib.hid hq0
  have Bx0 := Lib.hid bx0
  have Bx1 := Lib.hid bx1
  have Bx2 := Lib.hid bx2
  have Bx3 := Lib.hid bx3
  clear hcall h h2 hq0 E E2 ht hq he bx0 bx1 bx2 bx3 hS
  refine (callsIn_wide (n := 6)).1 ?_
  refine callsIn_of_wp_marks Tryd.func34 rfl trivial ?_ rfl
  refine wpIn_wide.2 ?_
  simp only [Tryd.ntmps34, List.size_toArray, List.length_cons, List.length_nil, Nat.reduceAdd, Nat.reduceSub, Array.replicate_succ, Array.replicate_zero, List.push_toArray, List.append_toArray, List.nil_append, List.cons_append]
  go_wp2_with fail
  rw [← hwz]
  refine (pthread_ok H.out t htl).mono ?_
  rintro e w' ⟨rfl, rfl⟩
  clear hwz
  go_wp2
  go_region_held3 (fun W => Mod noF wz.drew W ∧ W.cell? ⟨B.bM, 0, none⟩ = some (.pointer (some ⟨B.bA, 0, none⟩)) ∧ W.cell? ⟨w.heap.size, 0, none⟩ = some (.int .i64 c) ∧ W.cell? ⟨w.heap.size, 1, none⟩ = some (.int .i64 r) ∧ W.cell? ⟨w.heap.size + 1, 0, none⟩ = some (.int .i64 W_)) ((refine HS.out _ ?_; first | assumption | exact Mod.refl _ _)) (first | (go_at_call 66; go_split_ands; refine (Hcall.out _ ?_).mono ?_; assumption; rintro e w1 ⟨rfl, hm0, hm1⟩))
  have hm1 := (Mod.refl noF wz).drew.trans0 hm1
  have hx2 := hm1.heap Bx2.out (fun e => e)
  have hx3 := hm1.heap Bx3.out (fun e => e)
  have y2 : w1.cell? ⟨w.heap.size + 1 + 1, 0, none⟩ = some (.int .i64 0) := (cell_of_heap hx2 0).trans rfl
  have y3 : w1.cell? ⟨w.heap.size + 1 + 1 + 1, 0, none⟩ = some .nilIface := (cell_of_heap hx3 0).trans rfl
  have f2 := free_of_heap hx2 0
  have f3 := free_of_heap hx3 0
  have yb2 := lt_of_block hx2
  have yb3 := lt_of_block hx3
  have Hm1 := Lib.hid hm1
  clear hm1
  go_wp2
  refine leavesM_nil (v := .tuple #[.int .i64 0, errV a 1]) (by simp [results, Tryd.results34, go_sem, errV, y2, y3]) ⟨rfl, ((Hq0.out.trans0 Hm1.out).setCell (fun h => by simp at h; omega) _).setCell (fun h => by simp at h; omega) _⟩
set_option maxRecDepth 100000 in
set_option maxHeartbeats 4000000 in
theorem pload_err7 (h : PMV w B l ws vs) (E : Errs4 w a) (hn : l.length ≤ 64) (ht : timesOk l) {t : Nat} {q : List Wt} (hq : ws[t]? = some q) (c r W_ : Int) (he : loadE l c r W_ = (0, 7)) :
    Calls Tryd.prog 34 #[.pointer (some ⟨B.bM, 0, none⟩), .int .i64 t, .agg #[.int .i64 c, .int .i64 r], .int .i64 W_] w fun e w' => e = .returned (.tuple #[.int .i64 0, errOf' a 7]) ∧ Mod noF w w' := by
  simp only [errOf', errV, show ((7 : Int) = 0) = False by decide, if_false, show (7 : Int).toNat - 1 = 6 from rfl]
  have htl := (List.getElem?_eq_some_iff.1 hq).1
  have hq0 := (((((Mod.refl noF w).alloc (refBox c r)).alloc (intBox W_)).alloc (intBox 0)).alloc (errBox .nilIface))
  have h2 := h.keep0 hq0
  have hbx := heap4 w (refBox c r) (intBox W_) (intBox 0) (errBox .nilIface)
  have E2 := E.keep hq0
  obtain ⟨wz, hwz⟩ : ∃ wz, wz = (((w.alloc (refBox c r)).alloc (intBox W_)).alloc (intBox 0)).alloc (errBox .nilIface) := ⟨_, rfl⟩
  rw [← hwz] at h2 hbx E2 hq0
  obtain ⟨bx0, bx1, bx2, bx3⟩ := hbx
  have hS : ∀ W, Mod noF wz.drew W → (Mod noF wz.drew W ∧ W.cell? ⟨B.bM, 0, none⟩ = some (.pointer (some ⟨B.bA, 0, none⟩)) ∧ W.cell? ⟨w.heap.size, 0, none⟩ = some (.int .i64 c) ∧ W.cell? ⟨w.heap.size, 1, none⟩ = some (.int .i64 r) ∧ W.cell? ⟨w.heap.size + 1, 0, none⟩ = some (.int .i64 W_)) := by
    intro W hW
    have hz := (Mod.refl noF wz).drew.trans0 hW
    have hx := hz.heap bx0 (fun e => e)
    exact ⟨hW, (h2.keep0 hz).ptr, (cell_of_heap hx 0).trans rfl, (cell_of_heap hx 1).trans rfl, (cell_of_heap (hz.heap bx1 (fun e => e)) 0).trans rfl⟩
  have hcall : ∀ W, Mod noF wz.drew W → Calls Tryd.prog 66 #[.pointer (some ⟨B.bA, 0, none⟩), .agg #[.int .i64 c, .int .i64 r], .int .i64 W_] W fun e w' => e = .returned (.tuple #[.int .i64 (loadE l c r W_).1, errOf' a (loadE l c r W_).2]) ∧ Mod noF wz.drew W ∧ Mod noF wz.drew w' := by
    intro W hW
    have hz := (Mod.refl noF wz).drew.trans0 hW
    exact (aload_any (h2.keep0 hz).arena (E2.keep hz) hn ht c r W_).mono fun e w' h => ⟨h.1, hW, hW.trans0 h.2⟩
  rw [he] at hcall
  simp only [errOf', errV, show ((7 : Int) = 0) = False by decide, if_false, show (7 : Int).toNat - 1 = 6 from rfl] at hcall
  obtain ⟨-, z0, z1, z2, z3⟩ := hS wz.drew (Mod.refl _ _)
  have zb := h2.lt (x := B.bM) (.inl rfl)
  have zx := lt_of_block bx0
  have zx1 := lt_of_block bx1
  have HS := Lib.hid hS
  have Hcall := Lib.hid hcall
  have H := Lib.hid h2
  have HE := Lib.hid E2
  have Hq := Lib.hid hq
  have Hq0 := Lib.hid hq0
  have Bx0 := Lib.hid bx0
  have Bx1 := Lib.hid bx1
  have Bx2 := Lib.hid bx2
  have Bx3 := Lib.hid bx3
  clear hcall h h2 hq0 E E2 ht hq he bx0 bx1 bx2 bx3 hS
  refine (callsIn_wide (n := 6)).1 ?_
  refine callsIn_of_wp_marks Tryd.func34 rfl trivial ?_ rfl
  refine wpIn_wide.2 ?_
  simp only [Tryd.ntmps34, List.size_toArray, List.length_cons, List.length_nil, Nat.reduceAdd, Nat.reduceSub, Array.replicate_succ, Array.replicate_zero, List.push_toArray, List.append_toArray, List.nil_append, List.cons_append]
  go_wp2_with fail
  rw [← hwz]
  refine (pthread_ok H.out t htl).mono ?_
  rintro e w' ⟨rfl, rfl⟩
  clear hwz
  go_wp2
  go_region_held3 (fun W => Mod noF wz.drew W ∧ W.cell? ⟨B.bM, 0, none⟩ = some (.pointer (some ⟨B.bA, 0, none⟩)) ∧ W.cell? ⟨w.heap.size, 0, none⟩ = some (.int .i64 c) ∧ W.cell? ⟨w.heap.size, 1, none⟩ = some (.int .i64 r) ∧ W.cell? ⟨w.heap.size + 1, 0, none⟩ = some (.int .i64 W_)) ((refine HS.out _ ?_; first | assumption | exact Mod.refl _ _)) (first | (go_at_call 66; go_split_ands; refine (Hcall.out _ ?_).mono ?_; assumption; rintro e w1 ⟨rfl, hm0, hm1⟩))
  have hm1 := (Mod.refl noF wz).drew.trans0 hm1
  have hx2 := hm1.heap Bx2.out (fun e => e)
  have hx3 := hm1.heap Bx3.out (fun e => e)
  have y2 : w1.cell? ⟨w.heap.size + 1 + 1, 0, none⟩ = some (.int .i64 0) := (cell_of_heap hx2 0).trans rfl
  have y3 : w1.cell? ⟨w.heap.size + 1 + 1 + 1, 0, none⟩ = some .nilIface := (cell_of_heap hx3 0).trans rfl
  have f2 := free_of_heap hx2 0
  have f3 := free_of_heap hx3 0
  have yb2 := lt_of_block hx2
  have yb3 := lt_of_block hx3
  have Hm1 := Lib.hid hm1
  clear hm1
  go_wp2
  refine leavesM_nil (v := .tuple #[.int .i64 0, errV a 6]) (by simp [results, Tryd.results34, go_sem, errV, y2, y3]) ⟨rfl, ((Hq0.out.trans0 Hm1.out).setCell (fun h => by simp at h; omega) _).setCell (fun h => by simp at h; omega) _⟩

/-- The boxes of Load: the ref, the word, its two results. -/
structure LBox (W : World) (N : Nat) (c r W_ : Int) (u2 u3 : Value) : Prop where
  b0 : W.heap[N]? = some (refBox c r)
  b1 : W.heap[N + 1]? = some (intBox W_)
  b2 : W.heap[N + 1 + 1]? = some (.cells #[u2] 3)
  b3 : W.heap[N + 1 + 1 + 1]? = some (errBox u3)
theorem block_kept {X Y : World} {row : Option Nat} {b Bd : Nat} {o : Obj} (h : X.heap[b]? = some o) (hc : o.isCells = true) (hg : X.grownBy Y row) (hrow : ∀ r, row = some r → Bd ≤ r ∧ ∃ o : Obj, X.heap[r]? = some o ∧ o.isCells = false) : Y.heap[b]? = some o := by
  refine (hg.block b (lt_of_block h) fun e => ?_).trans h
  obtain ⟨_, o', h1, h2⟩ := hrow b e.symm
  rw [h] at h1; cases h1; rw [hc] at h2; cases h2
theorem LBox.kept {X Y : World} {row : Option Nat} {N Bd : Nat} {c r W_ : Int} {u2 u3 : Value} (h : LBox X N c r W_ u2 u3) (hg : X.grownBy Y row) (hrow : ∀ r, row = some r → Bd ≤ r ∧ ∃ o : Obj, X.heap[r]? = some o ∧ o.isCells = false) : LBox Y N c r W_ u2 u3 :=
  ⟨block_kept h.b0 rfl hg hrow, block_kept h.b1 rfl hg hrow, block_kept h.b2 rfl hg hrow, block_kept h.b3 rfl hg hrow⟩
theorem LBox.mod {X Y : World} {N : Nat} {c r W_ : Int} {u2 u3 : Value} (h : LBox X N c r W_ u2 u3) (hM : Mod noF X Y) : LBox Y N c r W_ u2 u3 :=
  ⟨hM.heap h.b0 (fun e => e), hM.heap h.b1 (fun e => e), hM.heap h.b2 (fun e => e), hM.heap h.b3 (fun e => e)⟩
theorem LBox.set {X : World} {N : Nat} {c r W_ : Int} {u2 u3 : Value} (h : LBox X N c r W_ u2 u3) (v2 v3 : Value) : LBox ((X.setCell ⟨N + 1 + 1, 0, none⟩ v2).setCell ⟨N + 1 + 1 + 1, 0, none⟩ v3) N c r W_ v2 v3 := by
  have o : ∀ (b : Nat) (u : Obj), b ≠ N + 1 + 1 → b ≠ N + 1 + 1 + 1 → X.heap[b]? = some u → ((X.setCell ⟨N + 1 + 1, 0, none⟩ v2).setCell ⟨N + 1 + 1 + 1, 0, none⟩ v3).heap[b]? = some u := fun b u h1 h2 hb => (Qh.heap_setCell_other h2 _).trans ((Qh.heap_setCell_other h1 _).trans hb)
  refine ⟨o _ _ (by omega) (by omega) h.b0, o _ _ (by omega) (by omega) h.b1, ?_, ?_⟩
  · refine (Qh.heap_setCell_other (by omega) _).trans ?_
    have := Qh.heap_setCell_same h.b2 0 v2
    simpa using this
  · have h3 := (Qh.heap_setCell_other (w := X) (k := N + 1 + 1 + 1) (b := N + 1 + 1) (i := 0) (by omega) v2).trans h.b3
    have := Qh.heap_setCell_same h3 0 v3
    simpa using this
/-- The frame of a round. -/
def loadTmps (bM bA bW w1s N rc : Nat) (ra : Option Addr) (t qn wn : Nat) (c r W_ x : Int) (Bx : Nat) (y : Nat × Wt) : Array Value := #[.pointer (some ⟨bM, 0, none⟩), .int .i64 t, .agg #[.int .i64 c, .int .i64 r], .int .i64 W_, undef, undef, .pointer (some ⟨N, 0, none⟩), .pointer (some ⟨N + 1, 0, none⟩), .pointer (some ⟨N + 1 + 1, 0, none⟩), .pointer (some ⟨N + 1 + 1 + 1, 0, none⟩), .nilIface, .int .i64 x, .nilIface, undef, .pointer (some ⟨Bx, 0, none⟩), .pointer (some ⟨bM, 0, none⟩), .int .i64 t, .nilIface, .nilIface, .bool false, undef, .tuple #[.int .i64 x, .nilIface], .pointer (some ⟨bM, 0, none⟩), .pointer (some ⟨bM, 0, none⟩), .pointer (some ⟨bM, 0, none⟩), .pointer (some ⟨bA, 0, none⟩), .agg #[.int .i64 c, .int .i64 r], .int .i64 W_, .tuple #[.int .i64 x, .nilIface], .int .i64 x, .nilIface, .nilIface, .bool false, undef, .pointer (some ⟨bM, 0, none⟩), .pointer (some ⟨bM, 0, none⟩), .pointer (some ⟨bM, 1, none⟩), .slice (some ⟨bW, 0, none⟩) wn wn, .int .i64 t, .pointer (some ⟨bW, t, none⟩), .slice ra qn rc, .func (.func 131) #[] #[.pointer (some ⟨w1s, 0, none⟩)], .int .i64 (y.1 : Int), .agg #[.int .i64 y.2.c, .int .i64 y.2.g, .int .i64 y.2.w, .int .i64 y.2.v], undef, undef, undef, undef, undef, undef, undef, undef, undef, undef, undef, undef, undef]
set_option maxRecDepth 100000 in
set_option maxHeartbeats 4000000 in
theorem pload_ok (h : PMV w B l ws vs) (E : Errs4 w a) (hn : l.length ≤ 64) (ht : timesOk l) (hn6 : ws.length ≤ 6) {t : Nat} {q : List Wt} (hq : ws[t]? = some q) (hql : q.length ≤ 8) (c r W_ x : Int) (he : loadE l c r W_ = (x, 0)) :
    Calls Tryd.prog 34 #[.pointer (some ⟨B.bM, 0, none⟩), .int .i64 t, .agg #[.int .i64 c, .int .i64 r], .int .i64 W_] w fun e w' => e = .returned (.tuple #[.int .i64 (Qs.look q c r W_ x), .nilIface]) ∧ Mod noF w w' := by
  have htl := (List.getElem?_eq_some_iff.1 hq).1
  have hq0 := (((((Mod.refl noF w).alloc (refBox c r)).alloc (intBox W_)).alloc (intBox 0)).alloc (errBox .nilIface))
  have h2 := h.keep0 hq0
  have hbx := heap4 w (refBox c r) (intBox W_) (intBox 0) (errBox .nilIface)
  have E2 := E.keep hq0
  obtain ⟨wz, hwz⟩ : ∃ wz, wz = (((w.alloc (refBox c r)).alloc (intBox W_)).alloc (intBox 0)).alloc (errBox .nilIface) := ⟨_, rfl⟩
  rw [← hwz] at h2 hbx E2 hq0
  obtain ⟨bx0, bx1, bx2, bx3⟩ := hbx
  have hS : ∀ W, Mod noF wz.drew W → (Mod noF wz.drew W ∧ W.cell? ⟨B.bM, 0, none⟩ = some (.pointer (some ⟨B.bA, 0, none⟩)) ∧ W.cell? ⟨w.heap.size, 0, none⟩ = some (.int .i64 c) ∧ W.cell? ⟨w.heap.size, 1, none⟩ = some (.int .i64 r) ∧ W.cell? ⟨w.heap.size + 1, 0, none⟩ = some (.int .i64 W_)) := by
    intro W hW
    have hz := (Mod.refl noF wz).drew.trans0 hW
    have hx := hz.heap bx0 (fun e => e)
    exact ⟨hW, (h2.keep0 hz).ptr, (cell_of_heap hx 0).trans rfl, (cell_of_heap hx 1).trans rfl, (cell_of_heap (hz.heap bx1 (fun e => e)) 0).trans rfl⟩
  have hcall : ∀ W, Mod noF wz.drew W → Calls Tryd.prog 66 #[.pointer (some ⟨B.bA, 0, none⟩), .agg #[.int .i64 c, .int .i64 r], .int .i64 W_] W fun e w' => e = .returned (.tuple #[.int .i64 (loadE l c r W_).1, errOf' a (loadE l c r W_).2]) ∧ Mod noF wz.drew W ∧ Mod noF wz.drew w' := by
    intro W hW
    have hz := (Mod.refl noF wz).drew.trans0 hW
    exact (aload_any (h2.keep0 hz).arena (E2.keep hz) hn ht c r W_).mono fun e w' h => ⟨h.1, hW, hW.trans0 h.2⟩
  rw [he] at hcall
  simp only [errOf', errV, if_true] at hcall
  obtain ⟨-, z0, z1, z2, z3⟩ := hS wz.drew (Mod.refl _ _)
  have zb := h2.lt (x := B.bM) (.inl rfl)
  have zx := lt_of_block bx0
  have zx1 := lt_of_block bx1
  have HS := Lib.hid hS
  have Hcall := Lib.hid hcall
  have H := Lib.hid h2
  have HE := Lib.hid E2
  have Hq := Lib.hid hq
  have Hq0 := Lib.hid hq0
  have Bx0 := Lib.hid bx0
  have Bx1 := Lib.hid bx1
  have Bx2 := Lib.hid bx2
  have Bx3 := Lib.hid bx3
  clear hcall h h2 hq0 E E2 ht hq he bx0 bx1 bx2 bx3 hS
  refine (callsIn_wide (n := 6)).1 ?_
  refine callsIn_of_wp_marks Tryd.func34 rfl trivial ?_ rfl
  refine wpIn_wide.2 ?_
  simp only [Tryd.ntmps34, List.size_toArray, List.length_cons, List.length_nil, Nat.reduceAdd, Nat.reduceSub, Array.replicate_succ, Array.replicate_zero, List.push_toArray, List.append_toArray, List.nil_append, List.cons_append]
  go_wp2_with fail
  rw [← hwz]
  refine (pthread_ok H.out t htl).mono ?_
  rintro e w' ⟨rfl, rfl⟩
  clear hwz
  go_wp2
  go_region_held3 (fun W => Mod noF wz.drew W ∧ W.cell? ⟨B.bM, 0, none⟩ = some (.pointer (some ⟨B.bA, 0, none⟩)) ∧ W.cell? ⟨w.heap.size, 0, none⟩ = some (.int .i64 c) ∧ W.cell? ⟨w.heap.size, 1, none⟩ = some (.int .i64 r) ∧ W.cell? ⟨w.heap.size + 1, 0, none⟩ = some (.int .i64 W_)) ((refine HS.out _ ?_; first | assumption | exact Mod.refl _ _)) (first | (go_at_call 66; go_split_ands; refine (Hcall.out _ ?_).mono ?_; assumption; rintro e w1 ⟨rfl, hm0, hm1⟩))
  have hm1 := (Mod.refl noF wz).drew.trans0 hm1
  have hx2 := hm1.heap Bx2.out (fun e => e)
  have hx3 := hm1.heap Bx3.out (fun e => e)
  have y2 : w1.cell? ⟨w.heap.size + 1 + 1, 0, none⟩ = some (.int .i64 0) := (cell_of_heap hx2 0).trans rfl
  have y3 : w1.cell? ⟨w.heap.size + 1 + 1 + 1, 0, none⟩ = some .nilIface := (cell_of_heap hx3 0).trans rfl
  have f2 := free_of_heap hx2 0
  have f3 := free_of_heap hx3 0
  have yb2 := lt_of_block hx2
  have yb3 := lt_of_block hx3
  have Hm1 := Lib.hid hm1
  clear hm1
  have h1 := H.out.keep0 Hm1.out
  have p1 := h1.slice
  have pb := h1.lt (x := B.bM) (.inl rfl)
  have pw := h1.lt (x := B.bW) (.inr (.inr (.inr (.inl rfl))))
  obtain ⟨v, ra, rc, hvv, rfl, k1, k2, p2, hrow⟩ := h1.rowAt Hq.out
  have pt : (t : Int) < (ws.length : Int) := by omega
  have H1 := Lib.hid h1
  have Hrow := Lib.hid hrow
  clear h1 hvv hrow
  go_wp2_with fail
  refine ((callsIn_wide (n := 5)).1 (back_in Fence.wide 5 trivial rfl ra q.length rc w1)).mono ?_
  rintro e w2 ⟨rfl, rfl⟩
  go_wp2_with fail
  have hL : LBox w1 w.heap.size c r W_ (.int .i64 0) .nilIface := (show LBox wz w.heap.size c r W_ (.int .i64 0) .nilIface from ⟨Bx0.out, Bx1.out, Bx2.out, Bx3.out⟩).mod Hm1.out
  have hwL : Mod noF w1 (w1.alloc (.cells #[.slice ra q.length rc] 143)) := (Mod.refl noF w1).alloc _
  have hcb := heap_alloc_new w1 (.cells #[.slice ra q.length rc] 143)
  have hwsz : w.heap.size ≤ w1.heap.size := by omega
  have hM0 := Hq0.out.trans0 Hm1.out
  obtain ⟨wL, hLw⟩ : ∃ wL, wL = w1.alloc (.cells #[.slice ra q.length rc] 143) := ⟨_, rfl⟩
  have hlsz : wL.heap.size = w1.heap.size + 1 := by rw [hLw]; simp
  rw [← hLw] at hwL hcb ⊢
  have hLL := hL.mod hwL
  have hRL : waitRow wL (.slice ra q.length rc) q := Hrow.out.keep hwL (fun _ _ e => e)
  have hBL : Below w.heap.size w wL := (hM0.trans0 hwL).toBelow
  have hcL : wL.cell? ⟨w1.heap.size, 0, none⟩ = some (.slice ra q.length rc) := (cell_of_heap hcb 0).trans rfl
  clear hLw
  refine (wpIn_wide (n := 6)).1 ?_
  refine wpIn_rangeFunc_ownH (F := Fence.wide) rfl (by decide) (gf := 131) (lb := #[.pointer (some ⟨w1.heap.size, 0, none⟩)]) rfl trivial (enters_of Tryd.func131 (by kernel_rfl) rfl)
    (back_stops Fence.wide 5 trivial rfl (by decide) w1.heap.size (.slice ra q.length rc) q hql wL (by omega) hcL hRL) belowK_t (belowK_b (Nat.le_refl _)) (Below.refl _ _) (fun _ => rfl)
    (fun pre W => ((∀ y ∈ pre, ¬ hit c r W_ y.2) ∧ LBox W w.heap.size c r W_ (.int .i64 0) .nilIface) ∧ Below w.heap.size wL W)
    (fun k pre W => (k = .ret ∧ ∃ pre' y, pre = pre' ++ [y] ∧ (∀ z ∈ pre', ¬ hit c r W_ z.2) ∧ hit c r W_ y.2 ∧ LBox W w.heap.size c r W_ (.int .i64 y.2.v) .nilIface) ∧ Below w.heap.size wL W)
    (OwnFrom.and (fun s A B row hs hg hr => ⟨hs.1, hs.2.kept hg hr⟩) (ownFrom_below (by omega) (by omega)))
    (fun k => OwnFrom.and (fun s A B row hs hg hr => by obtain ⟨h1, p', y, h2, h3, h4, h5⟩ := hs; exact ⟨h1, p', y, h2, h3, h4, h5.kept hg hr⟩) (ownFrom_below (by omega) (by omega)))
    ⟨⟨by simp, hLL⟩, Below.refl _ _⟩
    (fun y a' W => ∃ Bx, wL.heap.size ≤ Bx ∧ W.heap[Bx]? = some (.cells #[.int .i64 y.2.c, .int .i64 y.2.g, .int .i64 y.2.w, .int .i64 y.2.v] 145) ∧ a' = { tmps := loadTmps B.bM B.bA B.bW w1.heap.size w.heap.size rc ra t q.length ws.length c r W_ x Bx y, defers := [] })
    (fun y a' s A B row hs hg hr => by obtain ⟨Bx, h1, h2, h3⟩ := hs; exact ⟨Bx, h1, block_kept h2 rfl hg hr, h3⟩) ?assign ?body ?done ?stop
  case assign =>
    rintro l' pre ⟨yi, yc, yg, yw, yv⟩ W K ⟨⟨hne, hb⟩, hB⟩ hK
    have hsz := hB.size
    simp only [backE]
    gi_wp2
    exact hK _ _ ((KeepsOthers.alloc _ _).from _) ((Below.refl _ W).alloc hsz _) ⟨⟨hne, hb.mod ((Mod.refl noF W).alloc _)⟩, hB.alloc (by omega) _⟩ ⟨W.heap.size, hsz, heap_alloc_new W _, rfl⟩
  case body =>
    rintro l' pre ⟨yi, yc, yg, yw, yv⟩ a' W hl' ⟨rr, hrr⟩ ⟨⟨hne, hb⟩, hB⟩ ⟨Bx, hBx, bx, rfl⟩ hlt
    have c0 : W.cell? ⟨w.heap.size, 0, none⟩ = some (.int .i64 c) := (cell_of_heap hb.b0 0).trans rfl
    have c1 : W.cell? ⟨w.heap.size, 1, none⟩ = some (.int .i64 r) := (cell_of_heap hb.b0 1).trans rfl
    have c2 : W.cell? ⟨w.heap.size + 1, 0, none⟩ = some (.int .i64 W_) := (cell_of_heap hb.b1 0).trans rfl
    have c3 : W.cell? ⟨w.heap.size + 1 + 1, 0, none⟩ = some (.int .i64 0) := (cell_of_heap hb.b2 0).trans rfl
    have c4 : W.cell? ⟨w.heap.size + 1 + 1 + 1, 0, none⟩ = some .nilIface := (cell_of_heap hb.b3 0).trans rfl
    have e3 := free_of_heap hb.b2 0
    have e4 := free_of_heap hb.b3 0
    have d0 : W.cell? ⟨Bx, 0, none⟩ = some (.int .i64 yc) := (cell_of_heap bx 0).trans rfl
    have d1 : W.cell? ⟨Bx, 1, none⟩ = some (.int .i64 yg) := (cell_of_heap bx 1).trans rfl
    have d2 : W.cell? ⟨Bx, 2, none⟩ = some (.int .i64 yw) := (cell_of_heap bx 2).trans rfl
    have d3 : W.cell? ⟨Bx, 3, none⟩ = some (.int .i64 yv) := (cell_of_heap bx 3).trans rfl
    have g0 := lt_of_block hb.b0
    have g1 := lt_of_block hb.b1
    have g2 := lt_of_block hb.b2
    have g3 := lt_of_block hb.b3
    have g4 := lt_of_block bx
    unfold loadTmps
    gi_wp2
    · rename_i h1 h2 h3
      exact ⟨((KeepsOthers.setCell _ _ _).trans (KeepsOthers.setCell _ _ _)).from _, ⟨rfl, pre, yi, ⟨c, r, yw, yv⟩, rfl, fun i y hy => hne (i, y) hy, ⟨rfl, rfl, eq_of_beq h3⟩, hb.set _ _⟩, (hB.setCell (p := ⟨w.heap.size + 1 + 1, 0, none⟩) (by simp only; omega) _).setCell (p := ⟨w.heap.size + 1 + 1 + 1, 0, none⟩) (by simp only; omega) _⟩
    · rename_i h1 h2 h3
      exact ⟨KeepsFrom.refl _ _, Below.refl _ _, ⟨fun i y hy => (List.mem_append.1 hy).elim (fun h => hne (i, y) h) (fun h hh => by simp at h; obtain ⟨rfl, rfl⟩ := h; rw [beq_eq_false_iff_ne] at h3; exact h3 hh.2.2), hb⟩, hB⟩
    · rename_i h1 h2
      exact ⟨KeepsFrom.refl _ _, Below.refl _ _, ⟨fun i y hy => (List.mem_append.1 hy).elim (fun h => hne (i, y) h) (fun h hh => by simp at h; obtain ⟨rfl, rfl⟩ := h; exact h2 hh.2.1), hb⟩, hB⟩
    · rename_i h1
      exact ⟨KeepsFrom.refl _ _, Below.refl _ _, ⟨fun i y hy => (List.mem_append.1 hy).elim (fun h => hne (i, y) h) (fun h hh => by simp at h; obtain ⟨rfl, rfl⟩ := h; exact h1 hh.1), hb⟩, hB⟩
  case done =>
    rintro D ys W hD rfl ⟨⟨hne, hb⟩, hB⟩ hK
    have c3 : W.cell? ⟨w.heap.size + 1 + 1, 0, none⟩ = some (.int .i64 0) := (cell_of_heap hb.b2 0).trans rfl
    have c4 : W.cell? ⟨w.heap.size + 1 + 1 + 1, 0, none⟩ = some .nilIface := (cell_of_heap hb.b3 0).trans rfl
    have e3 := free_of_heap hb.b2 0
    have e4 := free_of_heap hb.b3 0
    have g2 := lt_of_block hb.b2
    have g3 := lt_of_block hb.b3
    go_wp2
    have hBw := ((hBL.trans hB).setCell (p := ⟨w.heap.size + 1 + 1, 0, none⟩) (by simp only; omega) (.int .i64 x)).setCell (p := ⟨w.heap.size + 1 + 1 + 1, 0, none⟩) (by simp only; omega) .nilIface
    have hLb := hb.set (.int .i64 x) .nilIface
    have hKD := ((KeepsOthers.setCell W ⟨w.heap.size + 1 + 1, 0, none⟩ (.int .i64 x)).trans (KeepsOthers.setCell _ ⟨w.heap.size + 1 + 1 + 1, 0, none⟩ .nilIface)).same D _ hK rfl
    have hBD := hBw.trans (belowK_b (w := wL) (by omega) _ D _ (.deferred none) hD hKD rfl rfl)
    have hpo : ∀ k : Nat, k ≠ D → (World.putObj ((W.setCell ⟨w.heap.size + 1 + 1, 0, none⟩ (.int .i64 x)).setCell ⟨w.heap.size + 1 + 1 + 1, 0, none⟩ .nilIface) D (.deferred none)).heap[k]? = ((W.setCell ⟨w.heap.size + 1 + 1, 0, none⟩ (.int .i64 x)).setCell ⟨w.heap.size + 1 + 1 + 1, 0, none⟩ .nilIface).heap[k]? := fun k h => World.putObj_heap_other h
    have q2 : (World.putObj ((W.setCell ⟨w.heap.size + 1 + 1, 0, none⟩ (.int .i64 x)).setCell ⟨w.heap.size + 1 + 1 + 1, 0, none⟩ .nilIface) D (.deferred none)).cell? ⟨w.heap.size + 1 + 1, 0, none⟩ = some (.int .i64 x) := (cell_of_heap ((hpo _ (by omega)).trans hLb.b2) 0).trans rfl
    have q3 : (World.putObj ((W.setCell ⟨w.heap.size + 1 + 1, 0, none⟩ (.int .i64 x)).setCell ⟨w.heap.size + 1 + 1 + 1, 0, none⟩ .nilIface) D (.deferred none)).cell? ⟨w.heap.size + 1 + 1 + 1, 0, none⟩ = some .nilIface := (cell_of_heap ((hpo _ (by omega)).trans hLb.b3) 0).trans rfl
    refine ⟨by simp, .inl ⟨_, _, rfl, run_takeDeferred hKD, ?_⟩⟩
    refine leavesM_nil (v := .tuple #[(.int .i64 x), .nilIface]) (by simp [results, Tryd.results34, go_sem, q2, q3]) ⟨by rw [look_all x hne], Mod.below hBD⟩
  case stop =>
    rintro D k pre W hD hSp ⟨⟨rfl, pre', y, rfl, hne, hy, hb⟩, hB⟩ hK
    obtain ⟨k, hSk, hSe⟩ := hSp
    have g2 := lt_of_block hb.b2
    have g3 := lt_of_block hb.b3
    refine wpIn_wide.2 ?_
    go_wp2
    have hBw := hBL.trans hB
    have hLb := hb
    have hKD := hK
    have hBD := hBw.trans (belowK_b (w := wL) (by omega) _ D _ (.deferred none) hD hKD rfl rfl)
    have hpo : ∀ k : Nat, k ≠ D → (World.putObj W D (.deferred none)).heap[k]? = W.heap[k]? := fun k h => World.putObj_heap_other h
    have q2 : (World.putObj W D (.deferred none)).cell? ⟨w.heap.size + 1 + 1, 0, none⟩ = some (.int .i64 y.2.v) := (cell_of_heap ((hpo _ (by omega)).trans hLb.b2) 0).trans rfl
    have q3 : (World.putObj W D (.deferred none)).cell? ⟨w.heap.size + 1 + 1 + 1, 0, none⟩ = some .nilIface := (cell_of_heap ((hpo _ (by omega)).trans hLb.b3) 0).trans rfl
    refine ⟨by simp, .inl ⟨_, _, rfl, run_takeDeferred hKD, ?_⟩⟩
    refine leavesM_nil (v := .tuple #[(.int .i64 y.2.v), .nilIface]) (by simp [results, Tryd.results34, go_sem, q2, q3]) ⟨by rw [look_found x hSk hSe hy hne], Mod.below hBD⟩
end Go.Proofs.YtamfbfajlfbooaaDoor
