/- Texts that belong together, joined. -/
import Derived.Test.YtamfbfajlfbooaaDoorEDrain
import Derived.Test.YtamfbfajlfbooaaDoorEm2
import Derived.Deep.LoopGhost
import Derived.Test.YtamfbfajlfbooaaDoorEm4
import Derived.Test.YtamfbfajlfbooaaDoorEQueue
import Derived.Outline
import Derived.Deep.RegionHeld3
import Derived.Great.BuildSlice
import Derived.Test.YtamfbfajlfbooaaDoorEm1
import Derived.Test.YtamfbfajlfbooaaDoorECritical
set_option linter.unusedVariables false
set_option linter.unusedSimpArgs false
set_option linter.unusedSectionVars false
/- (*quiescentref1.Memory).Fence. -/
section
namespace Go.Proofs.YtamfbfajlfbooaaDoor
open Go.RowKit Qs Qh
variable {K : Nat → Bool} {w : World} {L : Lay} {m : M} {N : Int}
/-- Behind some drains of a thread. -/
def Fenced (K : Nat → Bool) (w : World) (L : Lay) (m : M) (t : Nat) (l : List Wt) (k : Nat) (n : Value) (wr : World) : Prop :=
  ∃ pre r Lq, l = pre ++ r ∧ r.length = k ∧ n = .int .i64 ((drainAll m.cells pre).2 : Nat) ∧ Up ty K w L m wr Lq { m with cells := (drainAll m.cells pre).1, waits := m.waits.set t r }
set_option maxRecDepth 100000 in
set_option maxHeartbeats 1000000 in
theorem memFence_any (R : Rep ty K w L m) (h1 : K 1 = true) (h2 : K 2 = true) (h3 : K 3 = true) (h6 : K 6 = true) (h7 : K 7 = true) (om : OkM N m) (ol : OkL L m) (hN : N ≤ 1000000000000) (t : Nat) {l : List Wt} (hl : m.waits[t]? = some l) :
    Calls Tryd.prog 112 #[.pointer (some ⟨L.blk 1 0, 0, none⟩), .int .i64 t] w fun e w' =>
      e = .returned (.int .i64 ((drainAll m.cells l).2 : Nat)) ∧ ∃ L', Up ty K w L m w' L' { m with cells := (drainAll m.cells l).1, waits := m.waits.set t [] } := by
  have ht : t < m.waits.length := (List.getElem?_eq_some_iff.1 hl).1
  have hwl := om.waits
  have hl8 := om.wlen t l hl
  have Hl := Lib.hid hl
  have HR := Lib.hid R
  have Hom := Lib.hid om
  have Hol := Lib.hid ol
  clear hl R om ol
  go_enter Tryd.func112, Tryd.ntmps112
  go_wp2
  go_loopg [5] l.length (fun k n wr => Fenced K w L m t l k n wr)
  case atStart =>
    refine ⟨[], l, L, rfl, rfl, rfl, ?_⟩
    rw [set_back Hl.out]
    exact Up.refl HR.out Hol.out
  case round =>
    obtain ⟨pre, r, Lq, hlq, hrk, rfl, hU⟩ := hrel
    have hwq : (m.waits.set t r)[t]? = some r := by simp [ht]
    have e1 : Lq.blk 1 0 = L.blk 1 0 := (hU.ext.same 1 0 (by omega) (by omega)).1
    have hval := Hom.out.wval t l Hl.out
    have omq : OkM N { m with cells := (drainAll m.cells pre).1, waits := m.waits.set t r } := by
      have o1 := drainAll_ok pre Hom.out (fun x hx => (hval x (by rw [hlq]; simp [hx])).1)
      exact o1.setWaits (by rw [hlq] at hl8; simp at hl8; omega) (fun x hx => by simpa [drainAll_length] using hval x (by rw [hlq]; simp [hx]))
    have c0 := hU.rep.waits_at h1 hU.ok
    have c1 := waits_row hU.rep h3 hU.ok (t := t) hwq
    have hsp3 := hU.ok.sp3
    rw [e1] at c0
    simp only [List.length_set] at c0 hsp3
    have hcount := drainAll_le pre m.cells
    have hpl : pre.length ≤ 8 := by rw [hlq] at hl8; simp at hl8; omega
    generalize hnf : (drainAll m.cells pre).2 = nf at *
    have hnf8 : nf ≤ 8 := by omega
    have Hnf := Lib.hid hnf
    have HU := Lib.hid hU
    have Homq := Lib.hid omq
    have Hlq := Lib.hid hlq
    have E1 := Lib.hid e1
    have Hwq := Lib.hid hwq
    have Hrk := Lib.hid hrk
    clear hnf hU omq hlq e1 hwq hval hrk hcount hpl
    cases r with
    | nil =>
      have hrow : ∃ sa sc, Lq.row 7 t 0 = .slice sa 0 sc := by
        unfold Lay.row
        cases h : Lq.nil 7 t with
        | true => exact ⟨none, 0, rfl⟩
        | false => exact ⟨_, _, rfl⟩
      obtain ⟨sa, sc, hrow⟩ := hrow
      rw [List.length_nil, hrow] at c1
      clear hrow
      go_wp2
      go_ret
      have hlp : l = pre := by have := Hlq.out; simpa using this
      refine ⟨ret_int (by rw [hlp, Hnf.out]), Lq, ?_⟩
      rw [hlp]; exact HU.out
    | cons x r =>
      have hn : Lq.nil 7 t = false := by
        cases h : Lq.nil 7 t with
        | false => rfl
        | true => have := HU.out.ok.n7 t _ Hwq.out h; cases this
      rw [row_some hn] at c1
      simp only [List.length_cons] at c1
      have hcall := drain_some HU.out.rep h1 h2 h3 h6 h7 Homq.out HU.out.ok hN t Hwq.out
      rw [E1.out] at hcall
      have Hcall := Lib.hid hcall
      have hde : drainE (drainAll m.cells pre).1 x = 0 ∨ drainE (drainAll m.cells pre).1 x = 7 := by unfold drainE; split <;> simp
      clear hn hcall
      rcases hde with hde | hde
      · have hb : (drain1 (drainAll m.cells pre).1 x).2 = false := by
          rw [drain1_bad]
          unfold drainE at hde
          cases h : hereIn (drainAll m.cells pre).1 x.c x.g with
          | true => rfl
          | false => rw [h] at hde; simp at hde
        have Hb := Lib.hid hb
        have Hde := Lib.hid hde
        clear hde hb
        go_wp2_with (go_at_call 116; refine Hcall.out.mono ?_; rintro e w5 ⟨rfl, L5, hU5⟩; rw [show drainE _ x = _ from Hde.out])
        go_roundg r.length
        case measure => have := Hrk.out; simp at this; omega
        case rel =>
          refine ⟨pre ++ [x], r, L5, by rw [Hlq.out]; simp, rfl, ?_, ?_⟩
          · rw [drainAll_snoc, Hb.out, Hnf.out]; rfl
          · rw [drainAll_snoc]
            have := HU.out.trans hU5
            simp only [List.set_set] at this
            exact this
      · have hb : (drain1 (drainAll m.cells pre).1 x).2 = true := by
          rw [drain1_bad]
          unfold drainE at hde
          cases h : hereIn (drainAll m.cells pre).1 x.c x.g with
          | true => rw [h] at hde; simp at hde
          | false => rfl
        have Hb := Lib.hid hb
        have Hde := Lib.hid hde
        clear hde hb
        go_wp2_with (go_at_call 116; refine Hcall.out.mono ?_; rintro e w5 ⟨rfl, L5, hU5⟩; rw [show drainE _ x = _ from Hde.out])
        go_roundg r.length
        case measure => have := Hrk.out; simp at this; omega
        case rel =>
          refine ⟨pre ++ [x], r, L5, by rw [Hlq.out]; simp, rfl, ?_, ?_⟩
          · rw [drainAll_snoc, Hb.out, Hnf.out]; simp
          · rw [drainAll_snoc]
            have := HU.out.trans hU5
            simp only [List.set_set] at this
            exact this
end Go.Proofs.YtamfbfajlfbooaaDoor
end
/- package grace: the maker of code, in memory; take, give. -/
section
namespace Go.Proofs.YtamfbfajlfbooaaDoor
open Go.RowKit Qs Qh
/-- The maker's other fields: what it is of, its labels' first bytes. -/
structure MkAt (w : World) (b : Nat) (br : ByteArray) (fe jo co : Bool) (s : ByteArray) : Prop where
  c0 : w.cell? ⟨b, 0, none⟩ = some (.string br)
  c1 : w.cell? ⟨b, 1, none⟩ = some (.bool fe)
  c2 : w.cell? ⟨b, 2, none⟩ = some (.bool jo)
  c3 : w.cell? ⟨b, 3, none⟩ = some (.bool co)
  c5 : w.cell? ⟨b, 5, none⟩ = some (.string s)
/-- A variable of its own that code beside it reads: no block of the code's. -/
structure Cap (w : World) (b c : Nat) (u : Value) : Prop where
  cell : w.cell? ⟨c, 0, none⟩ = some u
  lt : c < w.heap.size
  ne : c ≠ b
  row : ∀ v, w.cell? ⟨b, 4, none⟩ = some v → v.ownBlock ≠ some c
variable {w0 w w1 : World} {b o : Nat} {v0 : Value} {l : List Instr} {br s : ByteArray} {fe jo co : Bool} {u : Value} {c : Nat}
theorem MkAt.quiet (M : MkAt w b br fe jo co s) (h : Mod noF w w1) : MkAt w1 b br fe jo co s :=
  ⟨h.cell M.c0 (fun e => e), h.cell M.c1 (fun e => e), h.cell M.c2 (fun e => e), h.cell M.c3 (fun e => e), h.cell M.c5 (fun e => e)⟩
theorem Chain.mk (C : Chain w0 b 4 v0 l w) (M : MkAt w0 b br fe jo co s) : MkAt w b br fe jo co s := by
  obtain ⟨hb, v, E, G⟩ := C
  exact ⟨G.cells 0 _ (by omega) M.c0, G.cells 1 _ (by omega) M.c1, G.cells 2 _ (by omega) M.c2, G.cells 3 _ (by omega) M.c3, G.cells 5 _ (by omega) M.c5⟩
theorem Chain.lt (C : Chain w0 b o v0 l w) : b < w.heap.size := by obtain ⟨hb, v, E, G⟩ := C; exact E.lt
/-- The code goes on from here. -/
theorem Chain.re (C : Chain w0 b o v0 l w) (hq : Mod noF w w1) : ∃ v, Chain w1 b o v l w1 ∧ w1.cell? ⟨b, o, none⟩ = some v ∧ (∀ k, w.heap.size ≤ k → v.ownBlock ≠ some k) ∧ ∀ l' w', Chain w1 b o v l' w' → Chain w0 b o v0 l' w' := by
  obtain ⟨hb, v, E, G⟩ := C
  have E1 := E.quiet hq
  have G1 := G.quiet E.lt hq
  refine ⟨v, Chain.start E1, E1.cell, fun k hk e => ?_, fun l' w' h => ?_⟩
  · have := E.row.lt e; omega
  · obtain ⟨_, v', E', G'⟩ := h
    exact ⟨hb, v', E', G1.trans hb G'⟩
theorem Chain.cap (C : Chain w0 b 4 v0 l w) (hq : Mod noF w w1) (hc : w.heap.size ≤ c) (hlt : c < w1.heap.size) (h : w1.cell? ⟨c, 0, none⟩ = some u) : Cap w1 b c u := by
  obtain ⟨v, C1, hv, hf, _⟩ := C.re hq
  refine ⟨h, hlt, ?_, fun v' hv' e => ?_⟩
  · have := C.lt; omega
  · rw [hv] at hv'; obtain rfl := Option.some.inj hv'; exact hf c hc e
theorem Cap.next {v : Value} {l' : List Instr} (K : Cap w b c u) (hv : w.cell? ⟨b, 4, none⟩ = some v) (C : Chain w b 4 v l' w1) : Cap w1 b c u := by
  obtain ⟨hb, v', E, G⟩ := C
  have hne := K.row v hv
  refine ⟨G.mod.cell K.cell (fun e => e.elim K.ne hne), Nat.lt_of_lt_of_le K.lt G.mod.size, K.ne, fun v2 h2 e => ?_⟩
  rw [E.cell] at h2
  obtain rfl := Option.some.inj h2
  rcases G.new c e with h | h
  · exact hne h
  · have := K.lt; omega
theorem Cap.quiet (K : Cap w b c u) (hb : b < w.heap.size) (h : Mod noF w w1) : Cap w1 b c u := by
  refine ⟨h.cell K.cell (fun e => e), Nat.lt_of_lt_of_le K.lt h.size, K.ne, fun v hv => K.row v ?_⟩
  have := h.block b hb (fun e => e)
  unfold World.cell? at hv ⊢
  simp only at hv ⊢
  rw [← this]; exact hv
theorem nameB_one {p : List UInt8} {c : UInt8} (h : nameB p = true) (hl : p.length ≤ 8) (hc : chB c = true) : nameB (p ++ [c]) = true := by
  match p, h with
  | d :: r, h =>
    simp only [nameB, Bool.and_eq_true, decide_eq_true_eq, List.all_cons] at h
    obtain ⟨⟨h1, h2⟩, h3, h4⟩ := h
    simp only [List.cons_append, nameB, Bool.and_eq_true, decide_eq_true_eq, List.all_cons, List.all_append, List.all_nil]
    refine ⟨⟨by simp at hl ⊢; omega, h2⟩, h3, h4, ?_⟩
    simp [hc]
theorem look_plus {c : UInt8} (hn : nameB s.data.toList = true) (hs : s.size ≤ 4) (hc : chB c = true) : LookOk (⟨(s.data.toList ++ [c]).toArray⟩ : ByteArray) 7 1 0 := by
  have hl : s.data.toList.length = s.size := bytes_len s
  refine ⟨nameB_one hn (by omega) hc, ?_, by decide, by decide, by decide, by decide, by decide, by decide, by decide, by decide⟩
  show ((s.data.toList ++ [c]).toArray).size ≤ 8
  simp; simp at hl; omega
theorem take_plus (s : ByteArray) (w : World) (hn : nameB s.data.toList = true) (hs : s.size ≤ 4) (x : ByteArray) (hx : (⟨(s.data.toList ++ [116]).toArray⟩ : ByteArray) = x) :
    Calls Tryd.prog 57 #[.string x, .int .i64 7, .int .i64 1, .int .i64 0] w fun e w' => ∃ v, e = .returned (.tuple #[v, .nilIface]) ∧ Made (takeCode (s.data.toList ++ [116]) 7 1 0) w v w' := by
  subst hx; exact take_ok _ 7 1 0 w (look_plus hn hs (by decide))
theorem give_plus (s : ByteArray) (w : World) (hn : nameB s.data.toList = true) (hs : s.size ≤ 4) (x : ByteArray) (hx : (⟨(s.data.toList ++ [103]).toArray⟩ : ByteArray) = x) :
    Calls Tryd.prog 58 #[.string x, .int .i64 7, .int .i64 1, .int .i64 0] w fun e w' => ∃ v, e = .returned (.tuple #[v, .nilIface]) ∧ Made (giveCode 7 1 0) w v w' := by
  subst hx; exact give_ok _ 7 1 0 w (look_plus hn hs (by decide))
set_option maxHeartbeats 2000000 in
theorem gtake_chain (C : Chain w0 b 4 v0 l w) (M : MkAt w b br fe jo co s) (hlen : l.length ≤ 1000) (hn : nameB s.data.toList = true) (hs : s.size ≤ 4) :
    Calls Tryd.prog 139 #[.pointer (some ⟨b, 0, none⟩)] w fun e w' => e = .returned (.tuple #[]) ∧ Chain w0 b 4 v0 (l ++ takeCode (s.data.toList ++ [116]) 7 1 0) w' := by
  have h5 := M.c5
  have HC := Lib.hid C
  have Hn := Lib.hid hn
  clear C M hn
  go_enter Tryd.func139, Tryd.ntmps139
  go_wp2_with fail
  refine (take_plus s _ Hn.out hs _ (bytes_cat s _)).mono ?_
  rintro e w1 ⟨v1, rfl, hm1⟩
  have HC1 := Lib.hid (HC.out.quiet (Mod.below hm1.2.1))
  obtain ⟨g, c, rfl, hsA⟩ := InsRow.src hm1.1 (by simp [takeCode])
  have HsA := Lib.hid hsA
  clear hm1 hsA HC
  go_wp2_with fail
  refine (more_chain HC1.out (by omega) (takeCode (s.data.toList ++ [116]) 7 1 0) g c HsA.out (by simp [takeCode])).mono ?_
  rintro e w2 ⟨rfl, C2⟩
  have HC2 := Lib.hid C2
  clear C2
  go_wp2
  go_end0
  exact ⟨rfl, HC2.out⟩
set_option maxHeartbeats 2000000 in
theorem ggive_chain (C : Chain w0 b 4 v0 l w) (M : MkAt w b br fe jo co s) (hlen : l.length ≤ 1000) (hn : nameB s.data.toList = true) (hs : s.size ≤ 4) :
    Calls Tryd.prog 141 #[.pointer (some ⟨b, 0, none⟩)] w fun e w' => e = .returned (.tuple #[]) ∧ Chain w0 b 4 v0 (l ++ giveCode 7 1 0) w' := by
  have h5 := M.c5
  have HC := Lib.hid C
  have Hn := Lib.hid hn
  clear C M hn
  go_enter Tryd.func141, Tryd.ntmps141
  go_wp2_with fail
  refine (give_plus s _ Hn.out hs _ (bytes_cat s _)).mono ?_
  rintro e w1 ⟨v1, rfl, hm1⟩
  have HC1 := Lib.hid (HC.out.quiet (Mod.below hm1.2.1))
  obtain ⟨g, c, rfl, hsA⟩ := InsRow.src hm1.1 (by simp [giveCode])
  have HsA := Lib.hid hsA
  clear hm1 hsA HC
  go_wp2_with fail
  refine (more_chain HC1.out (by omega) (giveCode 7 1 0) g c HsA.out (by simp [giveCode])).mono ?_
  rintro e w2 ⟨rfl, C2⟩
  have HC2 := Lib.hid C2
  clear C2
  go_wp2
  go_end0
  exact ⟨rfl, HC2.out⟩
end Go.Proofs.YtamfbfajlfbooaaDoor
end
/- Regions that draw their order, of calls in a row, with slices made ahead of them: whatever order is drawn, the code grows alike. -/
section
namespace Go.Proofs.YtamfbfajlfbooaaDoor
open Go.RowKit Qs Qh
/-- A slice of numbers, made beside the code. -/
structure Row (w : World) (b g : Nat) (l : List Int) : Prop where
  cell : ∀ i x, l[i]? = some x → w.cell? ⟨g, i, none⟩ = some (.int .i64 x)
  lt : g < w.heap.size
  ne : g ≠ b
  row : ∀ v, w.cell? ⟨b, 4, none⟩ = some v → v.ownBlock ≠ some g
def RowV (w : World) (b : Nat) (l : List Int) (u : Value) : Prop := ∃ g, u = .slice (some ⟨g, 0, none⟩) l.length l.length ∧ Row w b g l
variable {w0 w w1 : World} {b o g : Nat} {v0 v : Value} {l : List Instr} {z : List Int}
theorem cell_same {w w1 : World} {b : Nat} (h : Mod noF w w1) (hb : b < w.heap.size) (i : Nat) : w1.cell? ⟨b, i, none⟩ = w.cell? ⟨b, i, none⟩ := by
  have := h.block b hb (fun e => e)
  unfold World.cell?
  simp only
  rw [← this]
theorem Row.next {l' : List Instr} (K : Row w b g z) (hv : w.cell? ⟨b, 4, none⟩ = some v) (C : Chain w b 4 v l' w1) : Row w1 b g z := by
  obtain ⟨hb, v', E, G⟩ := C
  have hne := K.row v hv
  refine ⟨fun i x hx => G.mod.cell (K.cell i x hx) (fun e => e.elim K.ne hne), Nat.lt_of_lt_of_le K.lt G.mod.size, K.ne, fun v2 h2 e => ?_⟩
  rw [E.cell] at h2
  obtain rfl := Option.some.inj h2
  rcases G.new g e with h | h
  · exact hne h
  · have := K.lt; omega
theorem Row.quiet (K : Row w b g z) (hb : b < w.heap.size) (h : Mod noF w w1) : Row w1 b g z :=
  ⟨fun i x hx => h.cell (K.cell i x hx) (fun e => e), Nat.lt_of_lt_of_le K.lt h.size, K.ne, fun v hv => K.row v (by rw [← cell_same h hb]; exact hv)⟩
theorem Row.fresh (C : Chain w0 b 4 v0 l w) (z : List Int) (t : TypeId) : Row (w.alloc (.cells (z.map (Value.int .i64)).toArray t)) b w.heap.size z := by
  obtain ⟨v, C1, hv, hf, _⟩ := C.re ((Mod.refl noF w).alloc (.cells (z.map (Value.int .i64)).toArray t))
  refine ⟨fun i x hx => ?_, by simp, ?_, fun v' hv' e => ?_⟩
  · rw [cell_of_heap ((heap_alloc_new w _).trans rfl)]; simp [hx]
  · have := C.lt; omega
  · rw [hv] at hv'; obtain rfl := Option.some.inj hv'; exact hf _ (Nat.le_refl _) e
/-- A call of the row: the slice ahead of it, its number, its temporary. -/
structure SpI where
  s : Option (Nat × Tmp)
  c : Nat
  q : Tmp
def SpI.idx (x : SpI) : List Nat := (x.s.map (·.1)).toList ++ [x.c]
def SpI.tmps (x : SpI) : List Tmp := (x.s.map (·.2)).toList ++ [x.q]
def spIdx (items : List SpI) : List Nat := items.flatMap SpI.idx
def spTmps (items : List SpI) : List Tmp := items.flatMap SpI.tmps
def opIs (ops : Array Oper) (i : Nat) (d : Tmp) : Bool := match ops[i]? with | some o => o.dst == some d && o.guard.isNone | none => false
def waits (ops : Array Oper) (i on : Nat) : Bool := match ops[i]? with | some o => o.after.any (fun e => Region.binds .any e && e.on == on) | none => false
def SpI.ok (ops : Array Oper) (x : SpI) : Bool := opIs ops x.c x.q && (match x.s with | some (i, t) => opIs ops i t && waits ops x.c i && decide (i ≠ x.c) && decide (t ≠ x.q) | none => true)
def SpI.apart (x y : SpI) : Bool := x.idx.all (fun i => !y.idx.contains i) && x.tmps.all (fun t => !y.tmps.contains t)
def spItems (ops : Array Oper) : List SpI → Bool
  | [] => true
  | x :: r => x.ok ops && r.all (fun y => x.apart y) && (match r with | y :: _ => waits ops y.c x.c | [] => true) && spItems ops r
def spB (ops : Array Oper) (L0 : Array Bool) (items : List SpI) (T : Nat) : Bool :=
  decide (L0.size = ops.size) && (List.range ops.size).all (fun i => L0.getD i true || (spIdx items).contains i) && (spIdx items).all (fun i => !L0.getD i true) && (spTmps items).all (fun t => decide (t < T)) &&
  (List.range ops.size).all (fun i => match ops[i]? with | some o => o.after.all (fun e => decide (e.on < i)) | none => true) && spItems ops items
theorem opIs_spec {ops : Array Oper} {i : Nat} {d : Tmp} (h : opIs ops i d = true) : ∃ o, ops[i]? = some o ∧ o.dst = some d ∧ o.guard = none := by
  unfold opIs at h
  cases ho : ops[i]? with
  | none => rw [ho] at h; cases h
  | some o =>
    rw [ho] at h
    simp only [Bool.and_eq_true, beq_iff_eq, Option.isNone_iff_eq_none] at h
    exact ⟨o, rfl, h⟩
theorem waits_spec {ops : Array Oper} {i on : Nat} (h : waits ops i on = true) {o : Oper} (ho : ops[i]? = some o) : ∃ e ∈ o.after, Region.binds .any e = true ∧ e.on = on := by
  unfold waits at h
  rw [ho] at h
  obtain ⟨e, he, hb⟩ := Array.any_eq_true'.1 h
  simp only [Bool.and_eq_true, beq_iff_eq] at hb
  exact ⟨e, he, hb⟩
theorem spItems_ok {ops : Array Oper} : ∀ {items : List SpI}, spItems ops items = true → ∀ {j : Nat} {x : SpI}, items[j]? = some x → x.ok ops = true
  | [], _, j, x, h => by simp at h
  | y :: r, h, j, x, hx => by
    simp only [spItems, Bool.and_eq_true] at h
    cases j with
    | zero => simp at hx; subst hx; exact h.1.1.1
    | succ j => exact spItems_ok h.2 (by simpa using hx)
theorem spItems_waits {ops : Array Oper} : ∀ {items : List SpI}, spItems ops items = true → ∀ {j : Nat} {x y : SpI}, items[j]? = some x → items[j + 1]? = some y → waits ops y.c x.c = true
  | [], _, j, x, y, h, _ => by simp at h
  | z :: r, h, j, x, y, hx, hy => by
    simp only [spItems, Bool.and_eq_true] at h
    cases j with
    | zero =>
      simp at hx; subst hx
      cases r with
      | nil => simp at hy
      | cons u r => simp at hy; subst hy; exact h.1.2
    | succ j => exact spItems_waits h.2 (by simpa using hx) (by simpa using hy)
theorem spItems_lt {ops : Array Oper} : ∀ {items : List SpI}, spItems ops items = true → ∀ {j k : Nat} {x y : SpI}, j < k → items[j]? = some x → items[k]? = some y → x.apart y = true
  | [], _, j, k, x, y, _, h, _ => by simp at h
  | z :: r, h, j, k, x, y, hjk, hx, hy => by
    simp only [spItems, Bool.and_eq_true, List.all_eq_true] at h
    cases k with
    | zero => omega
    | succ k =>
      cases j with
      | zero =>
        simp at hx; subst hx
        exact h.1.1.2 y (List.mem_of_getElem? (by simpa using hy))
      | succ j => exact spItems_lt h.2 (show j < k by omega) (by simpa using hx) (by simpa using hy)
theorem SpI.apart_idx {x y : SpI} (h : x.apart y = true) {i k : Nat} (hi : i ∈ x.idx) (hk : k ∈ y.idx) : i ≠ k := fun e => by
  simp only [SpI.apart, Bool.and_eq_true, List.all_eq_true] at h
  have := h.1 i hi
  rw [e] at this
  simp [hk] at this
theorem SpI.apart_tmp {x y : SpI} (h : x.apart y = true) {i k : Tmp} (hi : i ∈ x.tmps) (hk : k ∈ y.tmps) : i ≠ k := fun e => by
  simp only [SpI.apart, Bool.and_eq_true, List.all_eq_true] at h
  have := h.2 i hi
  rw [e] at this
  simp [hk] at this
theorem sp_idx_ne {ops : Array Oper} {items : List SpI} (h : spItems ops items = true) {j k : Nat} {x y : SpI} (hx : items[j]? = some x) (hy : items[k]? = some y) (hne : j ≠ k) {i i' : Nat} (hi : i ∈ x.idx) (hi' : i' ∈ y.idx) : i ≠ i' := by
  rcases Nat.lt_or_gt_of_ne hne with hl | hl
  · exact SpI.apart_idx (spItems_lt h hl hx hy) hi hi'
  · exact (SpI.apart_idx (spItems_lt h hl hy hx) hi' hi).symm
theorem sp_tmp_ne {ops : Array Oper} {items : List SpI} (h : spItems ops items = true) {j k : Nat} {x y : SpI} (hx : items[j]? = some x) (hy : items[k]? = some y) (hne : j ≠ k) {i i' : Tmp} (hi : i ∈ x.tmps) (hi' : i' ∈ y.tmps) : i ≠ i' := by
  rcases Nat.lt_or_gt_of_ne hne with hl | hl
  · exact SpI.apart_tmp (spItems_lt h hl hx hy) hi hi'
  · exact (SpI.apart_tmp (spItems_lt h hl hy hx) hi' hi).symm
theorem SpI.c_mem (x : SpI) : x.c ∈ x.idx := by simp [SpI.idx]
theorem SpI.q_mem (x : SpI) : x.q ∈ x.tmps := by simp [SpI.tmps]
theorem SpI.i_mem {x : SpI} {i : Nat} {t : Tmp} (h : x.s = some (i, t)) : i ∈ x.idx := by simp [SpI.idx, h]
theorem SpI.t_mem {x : SpI} {i : Nat} {t : Tmp} (h : x.s = some (i, t)) : t ∈ x.tmps := by simp [SpI.tmps, h]
theorem mem_spIdx {items : List SpI} {i : Nat} : i ∈ spIdx items ↔ ∃ (j : Nat) (x : SpI), items[j]? = some x ∧ i ∈ x.idx := by
  unfold spIdx
  rw [List.mem_flatMap]
  constructor
  · rintro ⟨x, hx, hi⟩
    obtain ⟨j, hj⟩ := List.getElem?_of_mem hx
    exact ⟨j, x, hj, hi⟩
  · rintro ⟨j, x, hj, hi⟩
    exact ⟨x, List.mem_of_getElem? hj, hi⟩
theorem mem_spTmps {items : List SpI} {j : Nat} {x : SpI} (h : items[j]? = some x) {t : Tmp} (ht : t ∈ x.tmps) : t ∈ spTmps items := List.mem_flatMap.2 ⟨x, List.mem_of_getElem? h, ht⟩
theorem SpI.mem_idx {x : SpI} {i : Nat} (h : i ∈ x.idx) : i = x.c ∨ ∃ t, x.s = some (i, t) := by
  unfold SpI.idx at h
  cases hs : x.s with
  | none => rw [hs] at h; simp at h; exact .inl h
  | some p =>
    rw [hs] at h; simp at h
    rcases h with rfl | h
    · exact .inr ⟨p.2, rfl⟩
    · exact .inl h
theorem eval_put_same {a : Act} {d : Tmp} {u : Value} (h : d < a.tmps.size) : (a.put (some d) u).eval (.tmp d) = u := by
  simp [Act.put, Act.eval, h]
theorem eval_put_ne {a : Act} {d t : Tmp} {u : Value} (h : d ≠ t) : (a.put (some d) u).eval (.tmp t) = a.eval (.tmp t) := by
  simp [Act.put, Act.eval, Array.getElem?_setIfInBounds_ne h]
theorem tmps_put_ne {a : Act} {d t : Tmp} {u : Value} (h : d ≠ t) : (a.put (some d) u).tmps[t]? = a.tmps[t]? := by
  simp [Act.put, Array.getElem?_setIfInBounds_ne h]
theorem eval_of {a a0 : Act} {t : Tmp} (h : a.tmps[t]? = a0.tmps[t]?) : a.eval (.tmp t) = a0.eval (.tmp t) := by
  simp only [Act.eval, Array.getD_eq_getD_getElem?, h]
theorem tmps_put_size {a : Act} {d : Tmp} {u : Value} : (a.put (some d) u).tmps.size = a.tmps.size := by simp [Act.put]
section
variable {P : Program} {ops : Array Oper} {Q : Exit → Act → World → Prop} {S : World → Prop}
/-- How far it has come. -/
structure SpInv (ops : Array Oper) (L0 : Array Bool) (a0 : Act) (items : List SpI) (Z : Nat → World → Prop) (B : Nat → Value → World → Prop) (ret : Nat → Value) (listed : Array Bool) (a : Act) (w : World) (k : Nat) : Prop where
  size : listed.size = ops.size
  mono : ∀ i, L0.getD i true = true → listed.getD i true = true
  defers : a.defers = a0.defers
  tsize : a.tmps.size = a0.tmps.size
  out : ∀ t, t ∉ spTmps items → a.tmps[t]? = a0.tmps[t]?
  le : k ≤ items.length
  z : Z k w
  calls : ∀ j x, items[j]? = some x → (listed.getD x.c true = true ↔ j < k)
  rets : ∀ j x, items[j]? = some x → j < k → a.eval (.tmp x.q) = ret j
  rows : ∀ j x i t, items[j]? = some x → x.s = some (i, t) → listed.getD i true = true → B j (a.eval (.tmp t)) w
theorem getD_tf {L : Array Bool} {i : Nat} (h : i < L.size) : L.getD i true = L.getD i false := by simp [h]
theorem getD_set_same {L : Array Bool} {i : Nat} (h : i < L.size) (d : Bool) : (L.setIfInBounds i true).getD i d = true := by simp [h]
theorem spine_go {L0 : Array Bool} {a0 : Act} {items : List SpI} {Z : Nat → World → Prop} {B : Nat → Value → World → Prop} {ret : Nat → Value} (hb : spB ops L0 items a0.tmps.size = true)
    (hsl : ∀ j x i t o k a w (K : Act → World → Prop), items[j]? = some x → x.s = some (i, t) → ops[i]? = some o → Z k w → (∀ u w', Z k w' → S w' → B j u w' → (∀ j' u', B j' u' w → B j' u' w') → K (a.put (some t) u) w') → o.wp P a w K Q)
    (hcl : ∀ j x o a w (K : Act → World → Prop), items[j]? = some x → ops[x.c]? = some o → Z j w → a.defers = a0.defers → (∀ t, t ∉ spTmps items → a.eval (.tmp t) = a0.eval (.tmp t)) → (∀ j' x', j' < j → items[j']? = some x' → a.eval (.tmp x'.q) = ret j') → (∀ i t, x.s = some (i, t) → B j (a.eval (.tmp t)) w) → (∀ w', Z (j + 1) w' → S w' → (∀ j' u', B j' u' w → B j' u' w') → K (a.put (some x.q) (ret j)) w') → o.wp P a w K Q)
    (hend : ∀ a w, Z items.length w → a.defers = a0.defers → a.tmps.size = a0.tmps.size → (∀ t, t ∉ spTmps items → a.tmps[t]? = a0.tmps[t]?) → (∀ j x, items[j]? = some x → a.eval (.tmp x.q) = ret j) → Q .normal a w) :
    ∀ (fuel : Nat) (listed : Array Bool) (a : Act) (w : World) (k : Nat) (rem : List Nat), SpInv ops L0 a0 items Z B ret listed a w k → (∀ i, i < ops.size → listed.getD i true = false → i ∈ rem) → rem.length ≤ fuel → wpAnyH P .any ops Q S fuel listed a w := by
  simp only [spB, Bool.and_eq_true, decide_eq_true_eq, List.all_eq_true, List.mem_range, Bool.or_eq_true] at hb
  obtain ⟨⟨⟨⟨⟨F1, F2⟩, F3⟩, F6⟩, F7⟩, F8⟩ := hb
  have allEnd : ∀ listed a w k, SpInv ops L0 a0 items Z B ret listed a w k → (∀ i, i < ops.size → listed.getD i true = true) → Q .normal a w := fun listed a w k I hall => by
    have hk : k = items.length := by
      rcases Nat.lt_or_ge k items.length with h | h
      · obtain ⟨x, hx⟩ : ∃ x, items[k]? = some x := ⟨_, List.getElem?_eq_getElem h⟩
        have hok := spItems_ok F8 hx
        simp only [SpI.ok, Bool.and_eq_true] at hok
        obtain ⟨o, ho, _⟩ := opIs_spec hok.1
        have := (I.calls k x hx).1 (hall _ (Array.getElem?_eq_some_iff.1 ho).1)
        omega
      · have := I.le; omega
    subst hk
    exact hend a w I.z I.defers I.tsize I.out fun j x hx => I.rets j x hx (List.getElem?_eq_some_iff.1 hx).1
  intro fuel
  induction fuel with
  | zero =>
    intro listed a w k rem I hrem hl
    have hnil : rem = [] := List.length_eq_zero_iff.1 (by omega)
    have hall : ∀ i, i < ops.size → listed.getD i true = true := fun i hi => by
      cases h : listed.getD i true with
      | true => rfl
      | false => have := hrem i hi h; rw [hnil] at this; cases this
    refine ⟨?_, allEnd listed a w k I hall⟩
    refine List.eq_nil_iff_forall_not_mem.2 fun i hi => ?_
    obtain ⟨h1, o, ho, _⟩ := mem_ready.1 hi
    rw [hall i (Array.getElem?_eq_some_iff.1 ho).1] at h1
    cases h1
  | succ fuel ih =>
    intro listed a w k rem I hrem hl
    refine ⟨fun hnil => ?_, fun i hi => ?_⟩
    · refine allEnd listed a w k I fun i => ?_
      induction i using Nat.strongRecOn with
      | _ i ihi =>
        intro hlt
        cases h : listed.getD i true with
        | true => rfl
        | false =>
          obtain ⟨o, ho⟩ : ∃ o, ops[i]? = some o := ⟨_, Array.getElem?_eq_getElem hlt⟩
          have : i ∈ Region.ready .any ops listed := mem_ready.2 ⟨h, o, ho, fun e he hbn => by
            have h7 := F7 i hlt
            rw [ho] at h7
            have hlt2 : e.on < i := by
              have := Array.all_eq_true'.1 h7 e he
              simpa using this
            have := ihi e.on hlt2 (by omega)
            rwa [getD_tf (by rw [I.size]; omega)] at this⟩
          rw [hnil] at this
          cases this
    · obtain ⟨hun, o, ho, haft⟩ := mem_ready.1 hi
      have hlt : i < ops.size := (Array.getElem?_eq_some_iff.1 ho).1
      have hin : i ∈ spIdx items := by
        rcases F2 i hlt with h | h
        · have := I.mono i h; rw [this] at hun; cases hun
        · simpa using h
      obtain ⟨j, x, hx, hix⟩ := mem_spIdx.1 hin
      have hok := spItems_ok F8 hx
      simp only [SpI.ok, Bool.and_eq_true] at hok
      have hlis : i < listed.size := by rw [I.size]; exact hlt
      have hrem2 : ∀ k, k < ops.size → (listed.setIfInBounds i true).getD k true = false → k ∈ rem.erase i := fun k hk hf => by
        by_cases e : i = k
        · subst e; rw [getD_set_same hlis] at hf; cases hf
        · rw [Go.getD_set_ne true e] at hf
          exact (List.mem_erase_of_ne (Ne.symm e)).2 (hrem k hk hf)
      have hlen2 : (rem.erase i).length ≤ fuel := by
        have h1 := List.length_erase_of_mem (hrem i hlt hun)
        omega
      have hmono2 : ∀ k, L0.getD k true = true → (listed.setIfInBounds i true).getD k true = true := fun k hk => by
        by_cases e : i = k
        · subst e; exact getD_set_same hlis true
        · rw [Go.getD_set_ne true e]; exact I.mono k hk
      unfold wpOp
      simp only [ho]
      rcases SpI.mem_idx hix with rfl | ⟨t, hs⟩
      · obtain ⟨o', ho', hdst, hg⟩ := opIs_spec hok.1
        obtain rfl : o = o' := Option.some.inj (ho.symm.trans ho')
        rw [if_pos (by simp [Region.wanted, hg])]
        left
        have hnk : ¬ j < k := fun h => by rw [(I.calls j x hx).2 h] at hun; cases hun
        have hjk : j = k := by
          rcases Nat.lt_or_ge k j with h | h
          · exfalso
            obtain ⟨j', rfl⟩ : ∃ j', j = j' + 1 := ⟨j - 1, by omega⟩
            obtain ⟨y, hy⟩ : ∃ y, items[j']? = some y := ⟨_, List.getElem?_eq_getElem (by have := (List.getElem?_eq_some_iff.1 hx).1; omega)⟩
            obtain ⟨e, he, hbn, hon⟩ := waits_spec (spItems_waits F8 hy hx) ho
            have h1 := haft e he hbn
            have hys := spItems_ok F8 hy
            simp only [SpI.ok, Bool.and_eq_true] at hys
            obtain ⟨oy, hoy, _⟩ := opIs_spec hys.1
            rw [hon, ← getD_tf (by rw [I.size]; exact (Array.getElem?_eq_some_iff.1 hoy).1)] at h1
            have := (I.calls j' y hy).1 h1
            omega
          · omega
        subst hjk
        have hrow : ∀ i t, x.s = some (i, t) → B j (a.eval (.tmp t)) w := fun i t hs => by
          have h2 := hok.2
          rw [hs] at h2
          simp only [Bool.and_eq_true] at h2
          obtain ⟨⟨⟨h21, h22⟩, _⟩, _⟩ := h2
          obtain ⟨e, he, hbn, hon⟩ := waits_spec h22 ho
          have h1 := haft e he hbn
          obtain ⟨oi, hoi, _⟩ := opIs_spec h21
          rw [hon, ← getD_tf (by rw [I.size]; exact (Array.getElem?_eq_some_iff.1 hoi).1)] at h1
          exact I.rows j x i t hx hs h1
        have hqs : x.q < a.tmps.size := by rw [I.tsize]; exact F6 _ (mem_spTmps hx x.q_mem)
        refine hcl j x o a w _ hx ho I.z I.defers (fun t ht => eval_of (I.out t ht)) (fun j' x' hj' hx' => I.rets j' x' hx' hj') hrow fun w' hZ hS hB => ⟨hS, ?_⟩
        refine ih _ _ _ (j + 1) (rem.erase x.c) ⟨by simp [I.size], hmono2, I.defers, tmps_put_size.trans I.tsize, fun t ht => ?_, (List.getElem?_eq_some_iff.1 hx).1, hZ, fun j' y hy => ?_, fun j' y hy hlt' => ?_, fun j' y i t hy hs hli => ?_⟩ hrem2 hlen2
        · rw [tmps_put_ne (fun e => ht (by rw [← e]; exact mem_spTmps hx x.q_mem))]; exact I.out t ht
        · by_cases e : j = j'
          · subst e
            obtain rfl : x = y := Option.some.inj (hx.symm.trans hy)
            rw [getD_set_same hlis]; simp
          · have hne := sp_idx_ne F8 hx hy e x.c_mem y.c_mem
            rw [Go.getD_set_ne true hne, I.calls j' y hy]; omega
        · by_cases e : j = j'
          · subst e
            obtain rfl : x = y := Option.some.inj (hx.symm.trans hy)
            exact eval_put_same hqs
          · rw [eval_put_ne (sp_tmp_ne F8 hx hy e x.q_mem y.q_mem)]
            exact I.rets j' y hy (by omega)
        · have hne : x.c ≠ i ∧ x.q ≠ t := by
            by_cases e : j = j'
            · subst e
              obtain rfl : x = y := Option.some.inj (hx.symm.trans hy)
              have h2 := hok.2
              rw [hs] at h2
              simp only [Bool.and_eq_true, decide_eq_true_eq] at h2
              exact ⟨fun e => h2.1.2 e.symm, fun e => h2.2 e.symm⟩
            · exact ⟨sp_idx_ne F8 hx hy e x.c_mem (SpI.i_mem hs), sp_tmp_ne F8 hx hy e x.q_mem (SpI.t_mem hs)⟩
          rw [Go.getD_set_ne true hne.1] at hli
          rw [eval_put_ne hne.2]
          exact hB _ _ (I.rows j' y i t hy hs hli)
      · have h2 := hok.2
        rw [hs] at h2
        simp only [Bool.and_eq_true, decide_eq_true_eq] at h2
        obtain ⟨⟨⟨h21, h22⟩, hic⟩, htq⟩ := h2
        obtain ⟨o', ho', hdst, hg⟩ := opIs_spec h21
        obtain rfl : o = o' := Option.some.inj (ho.symm.trans ho')
        rw [if_pos (by simp [Region.wanted, hg])]
        left
        have hts : t < a.tmps.size := by rw [I.tsize]; exact F6 _ (mem_spTmps hx (SpI.t_mem hs))
        refine hsl j x i t o k a w _ hx hs ho I.z fun u w' hZ hS hB hF => ⟨hS, ?_⟩
        refine ih _ _ _ k (rem.erase i) ⟨by simp [I.size], hmono2, I.defers, tmps_put_size.trans I.tsize, fun t' ht => ?_, I.le, hZ, fun j' y hy => ?_, fun j' y hy hlt' => ?_, fun j' y i' t' hy hs' hli => ?_⟩ hrem2 hlen2
        · rw [tmps_put_ne (fun e => ht (by rw [← e]; exact mem_spTmps hx (SpI.t_mem hs)))]; exact I.out t' ht
        · have hne : i ≠ y.c := by
            by_cases e : j = j'
            · subst e
              obtain rfl : x = y := Option.some.inj (hx.symm.trans hy)
              exact hic
            · exact sp_idx_ne F8 hx hy e (SpI.i_mem hs) y.c_mem
          rw [Go.getD_set_ne true hne]; exact I.calls j' y hy
        · have hne : t ≠ y.q := by
            by_cases e : j = j'
            · subst e
              obtain rfl : x = y := Option.some.inj (hx.symm.trans hy)
              exact htq
            · exact sp_tmp_ne F8 hx hy e (SpI.t_mem hs) y.q_mem
          rw [eval_put_ne hne]; exact I.rets j' y hy hlt'
        · by_cases e : j = j'
          · subst e
            obtain rfl : x = y := Option.some.inj (hx.symm.trans hy)
            rw [hs] at hs'
            obtain ⟨rfl, rfl⟩ := Prod.mk.inj (Option.some.inj hs')
            rw [eval_put_same hts]; exact hB
          · rw [Go.getD_set_ne true (sp_idx_ne F8 hx hy e (SpI.i_mem hs) (SpI.i_mem hs'))] at hli
            rw [eval_put_ne (sp_tmp_ne F8 hx hy e (SpI.t_mem hs) (SpI.t_mem hs'))]
            exact hF _ _ (I.rows j' y i' t' hy hs' hli)
end
end Go.Proofs.YtamfbfajlfbooaaDoor
end
/- Calls of the code's maker in a row, in a region that draws its order: whatever order comes, the code grows alike. -/
section
namespace Go.Proofs.YtamfbfajlfbooaaDoor
open Go.RowKit Qs Qh
theorem callEmOp (args : Array Value) (w : World) : (callFunc 103 args).run Tryd.prog w = .ok (.enter 103 args) w := by kernel_rfl
theorem callEmTo (args : Array Value) (w : World) : (callFunc 104 args).run Tryd.prog w = .ok (.enter 104 args) w := by kernel_rfl
theorem callEmLabel (args : Array Value) (w : World) : (callFunc 102 args).run Tryd.prog w = .ok (.enter 102 args) w := by kernel_rfl
def callOf (o : Op) : Option (Nat × Array Operand) := match o with
  | .call c => (match c.callee with | .value (.func f) => some (f, c.args) | _ => none)
  | _ => none
theorem wp_callOf {P : Program} {o : Oper} {a : Act} {w : World} {f : FuncId} {A : Array Operand} (hf : ∀ args w, (callFunc f args).run P w = .ok (.enter f args) w) (ho : callOf o.op = some (f, A))
    {Q : Exit → Act → World → Prop} {K : Act → World → Prop} (h : Calls P f (A.map a.eval) w fun e w' => ∃ v, e = .returned v ∧ K (a.put o.dst v) w') : o.wp P a w K Q := by
  have hr : (execOp a.eval o).run P w = .ok (.enter f (A.map a.eval)) w := by
    unfold callOf at ho
    split at ho
    · rename_i c hc
      split at ho
      · rename_i f' hf'
        cases ho
        unfold execOp
        simp only [hc, resolve, hf', Act.eval, Deferred.ofValue, invoke, Sem.run_bind, Sem.run_pure, Result.andThen_ok, Array.append_empty, Array.empty_append, hf]
      · cases ho
    · cases ho
  unfold Oper.wp
  rw [hr, Oper.upon_enter]
  refine h.mono ?_
  rintro e w' ⟨v, rfl, hk⟩
  exact hk
/-- A call of the maker: the op's number, its numbers, its label, which function (0 Op, 1 To, 2 Label, 3 Op whose name lies in a slot), where the label lies. -/
structure EmC where
  n : Nat
  z : List Int
  to : List UInt8
  kind : Nat
  lt : Nat
def EmC.ins (e : EmC) : Instr := ⟨e.n, e.z.getD 0 0, e.z.getD 1 0, e.z.getD 2 0, e.to⟩
def isTmp (x : Operand) (t : Nat) : Bool := match x with | .tmp u => u == t | _ => false
def isStr (x : Operand) (s : ByteArray) : Bool := match x with | .const (.string u) => decide (u.data.toList = s.data.toList) | _ => false
def isNilRow (x : Operand) : Bool := match x with | .const (.slice none 0 0) => true | _ => false
def slOk (x : Operand) (e : EmC) (s : Option (Nat × Tmp)) : Bool := match s with
  | some (_, t) => isTmp x t
  | none => e.z.isEmpty && isNilRow x
def argsOk (A : Array Operand) (r : Nat) (e : EmC) (s : Option (Nat × Tmp)) : Bool := match e.kind, A.toList with
  | 0, [x, y, z] => isTmp x r && isStr y (opStr e.n) && slOk z e s && e.to.isEmpty
  | 1, [x, l, y, z] => isTmp x r && isTmp l e.lt && isStr y (opStr e.n) && slOk z e s
  | 2, [x, l] => isTmp x r && isTmp l e.lt && e.z.isEmpty && e.n == 17 && s.isNone
  | 3, [x, y, z] => isTmp x r && isTmp y e.lt && slOk z e s && e.to.isEmpty
  | _, _ => false
def fnOf (k : Nat) : Nat := match k with | 0 => 103 | 1 => 104 | 2 => 102 | _ => 103
def isInt (x : Operand) (v : Int) : Bool := match x with | .const (.int .i64 u) => u == v | _ => false
def partsOk : List (Nat × Operand) → Nat → List Int → Bool
  | [], _, [] => true
  | p :: r, i, x :: xs => p.1 == i && isInt p.2 x && partsOk r (i + 1) xs
  | _, _, _ => false
def slcOk (ops : Array Oper) (z : List Int) (s : Option (Nat × Tmp)) : Bool := match s with
  | none => true
  | some (i, t) => match ops[i]? with
    | some o => (match o.op with | .buildSlice ty n parts => ty == 23 && n == z.length && decide (0 < z.length) && decide (z.length ≤ 3) && partsOk parts.toList 0 z | _ => false) && o.dst == some t
    | none => false
/-- The row of calls is the list of items, from a receiver on. -/
def emRow (ops : Array Oper) (out : List Nat) : Nat → List SpI → List EmC → Bool
  | _, [], [] => true
  | r, x :: xs, e :: es => (match ops[x.c]? with
      | some o => (match callOf o.op with | some (f, A) => f == fnOf e.kind && argsOk A r e x.s && decide (e.kind ≤ 3) | none => false) && o.dst == some x.q
      | none => false) && slcOk ops e.z x.s && (e.kind == 0 || !out.contains e.lt) && emRow ops out x.q xs es
  | _, _, _ => false
theorem isTmp_spec {x : Operand} {t : Nat} (h : isTmp x t = true) : x = .tmp t := by
  unfold isTmp at h
  split at h
  · rw [beq_iff_eq] at h; rw [h]
  · cases h
theorem isStr_spec {x : Operand} {s : ByteArray} (h : isStr x s = true) : x = .const (.string s) := by
  unfold isStr at h
  split at h
  · rename_i u
    have h := of_decide_eq_true h
    have : u = s := by
      cases u; cases s
      simp only at h
      congr 1
      exact Array.ext' h
    rw [this]
  · cases h
theorem isNilRow_spec {x : Operand} (h : isNilRow x = true) : x = .const (.slice none 0 0) := by
  unfold isNilRow at h
  split at h
  · rfl
  · cases h
theorem isInt_spec {x : Operand} {v : Int} (h : isInt x v = true) : x = .const (.int .i64 v) := by
  unfold isInt at h
  split at h
  · rw [beq_iff_eq] at h; rw [h]
  · cases h
theorem partsOk_spec : ∀ (l : List (Nat × Operand)) (i : Nat) (z : List Int), partsOk l i z = true → l = (z.zipIdx i).map fun x => (x.2, Operand.const (Value.int .i64 x.1))
  | [], _, [], _ => rfl
  | [], _, _ :: _, h => by simp [partsOk] at h
  | (k, o) :: r, i, [], h => by simp [partsOk] at h
  | (k, o) :: r, i, x :: xs, h => by
    simp only [partsOk, Bool.and_eq_true, beq_iff_eq] at h
    obtain ⟨⟨rfl, h2⟩, h3⟩ := h
    rw [isInt_spec h2, partsOk_spec r _ xs h3]; rfl
/-- A slice of numbers as a call takes it: nil where there are none. -/
def SlV (w : World) (b : Nat) (z : List Int) (u : Value) : Prop := (z = [] ∧ u = .slice none 0 0) ∨ ((1 ≤ z.length ∧ z.length ≤ 3) ∧ RowV w b z u)
theorem RowV.cells {w : World} {b : Nat} {z : List Int} {u : Value} (h : RowV w b z u) : ∃ g, u = .slice (some ⟨g, 0, none⟩) z.length z.length ∧ g < w.heap.size ∧ ∀ i x, z[i]? = some x → w.cell? ⟨g, i, none⟩ = some (.int .i64 x) := by
  obtain ⟨g, rfl, R⟩ := h
  exact ⟨g, rfl, R.lt, R.cell⟩
variable {w0 w w1 : World} {b o : Nat} {v0 v : Value} {l : List Instr}
theorem em_op (C : Chain w0 b 4 v0 l w) (hlen : l.length ≤ 1000000) (n : Nat) {z : List Int} {u : Value} (h : SlV w b z u) :
    Calls Tryd.prog 103 #[.pointer (some ⟨b, 4, none⟩), .string (opStr n), u] w fun e w' => e = .returned (.pointer (some ⟨b, 4, none⟩)) ∧ Chain w0 b 4 v0 (l ++ [⟨n, z.getD 0 0, z.getD 1 0, z.getD 2 0, []⟩]) w' := by
  rcases h with ⟨rfl, rfl⟩ | ⟨⟨h1, h3⟩, h⟩
  · exact op0_chain C hlen n _ rfl
  · obtain ⟨g, rfl, hg, hc⟩ := h.cells
    match z, h1, h3 with
    | [x], _, _ => exact op1_chain C hlen n _ rfl g x 1 (hc 0 x rfl) hg
    | [x, y], _, _ => exact op2_chain C hlen n _ rfl g x y 2 (hc 0 x rfl) (hc 1 y rfl) hg
    | [x, y, t], _, _ => exact op3_chain C hlen n _ rfl g x y t 3 (hc 0 x rfl) (hc 1 y rfl) (hc 2 t rfl) hg
    | _ :: _ :: _ :: _ :: _, _, h3 => exact absurd h3 (by simp)
theorem em_to (C : Chain w0 b 4 v0 l w) (hlen : l.length ≤ 1000000) (n : Nat) {z : List Int} {u : Value} (h : SlV w b z u) (hz : z.length ≤ 2) (to : List UInt8) :
    Calls Tryd.prog 104 #[.pointer (some ⟨b, 4, none⟩), .string ⟨to.toArray⟩, .string (opStr n), u] w fun e w' => e = .returned (.pointer (some ⟨b, 4, none⟩)) ∧ Chain w0 b 4 v0 (l ++ [⟨n, z.getD 0 0, z.getD 1 0, z.getD 2 0, to⟩]) w' := by
  rcases h with ⟨rfl, rfl⟩ | ⟨⟨h1, h3⟩, h⟩
  · exact to0_chain C hlen n _ rfl to _ rfl
  · obtain ⟨g, rfl, hg, hc⟩ := h.cells
    match z, h1, hz with
    | [x], _, _ => exact to1_chain C hlen n _ rfl to _ rfl g x 1 (hc 0 x rfl) hg
    | [x, y], _, _ => exact to2_chain C hlen n _ rfl to _ rfl g x y 2 (hc 0 x rfl) (hc 1 y rfl) hg
    | _ :: _ :: _ :: _, _, h3 => exact absurd h3 (by simp)
theorem intsInfo : (Tryd.prog.info? 3).map (·.size) = some 1 ∧ ((Tryd.prog.info? 3).bind (·.zero)).isSome = true := ⟨by kernel_rfl, by kernel_rfl⟩
/-- A slice made: its block is new. -/
theorem wp_slc {x : Oper} {a : Act} {K : Act → World → Prop} {Q : Exit → Act → World → Prop} {z : List Int} {parts : Array (Nat × Operand)} (ho : x.op = .buildSlice 23 z.length parts) (hp : partsOk parts.toList 0 z = true) (h1 : 0 < z.length) (h3 : z.length ≤ 3)
    (h : K (a.put x.dst (.slice (some ⟨w.heap.size, 0, none⟩) z.length z.length)) (w.alloc (.cells (z.map (Value.int .i64)).toArray 3))) : x.wp Tryd.prog a w K Q := by
  obtain ⟨hsz, hz⟩ := intsInfo
  cases hie : Tryd.prog.info? 3 with
  | none => simp [hie] at hsz
  | some ie =>
    simp only [hie, Option.map_some, Option.some.injEq, Option.bind_some] at hsz hz
    obtain ⟨zz, hzz⟩ := Option.isSome_iff_exists.1 hz
    refine wp_buildSlice 23 3 z.length parts ho _ ie zz Tryd.underlying23 hie hzz (by rw [hsz]; omega) (by rw [hsz]; omega) ?_ h
    rw [parts_eval a parts .i64 z (partsOk_spec _ _ _ hp), hsz]
    exact Great.fill_flat _ _ (fun v hv => by obtain ⟨n, _, rfl⟩ := List.mem_map.1 hv; rfl) (by simp)
def patch (ts : List Nat) (U : Nat → Value) (a : Act) : Act := ts.foldl (fun acc t => acc.put (some t) (U t)) a
theorem patch_self : ∀ (ts : List Nat) (a0 a : Act), a.defers = a0.defers → a.tmps.size = a0.tmps.size → (∀ t, t ∉ ts → a.tmps[t]? = a0.tmps[t]?) → patch ts (fun t => a.eval (.tmp t)) a0 = a
  | [], a0, a, hd, hs, h => by
    cases a; cases a0
    simp only [patch, List.foldl] at *
    subst hd
    congr 1
    exact (Array.ext_getElem? fun i => (h i (by simp))).symm
  | t :: ts, a0, a, hd, hs, h => by
    show patch ts _ (a0.put (some t) (a.eval (.tmp t))) = a
    refine patch_self ts _ a hd ?_ fun u hu => ?_
    · rw [tmps_put_size]; exact hs
    · by_cases e : t = u
      · subst e
        by_cases hlt : t < a.tmps.size
        · have hlt0 : t < a0.tmps.size := by omega
          simp [Act.put, Act.eval, hlt, hlt0]
        · have hlt0 : ¬ t < a0.tmps.size := by omega
          simp [Act.put, hlt, hlt0]
      · rw [tmps_put_ne e]; exact h u (by simp [hu, Ne.symm e])
theorem emRow_at {ops : Array Oper} {out : List Nat} : ∀ {items : List SpI} {E : List EmC} {r : Nat}, emRow ops out r items E = true → ∀ {j : Nat} {x : SpI}, items[j]? = some x → ∃ e, E[j]? = some e ∧ ∃ p : Nat, ((j = 0 ∧ p = r) ∨ ∃ j' x', j = j' + 1 ∧ items[j']? = some x' ∧ p = x'.q) ∧
    (∃ o f A, ops[x.c]? = some o ∧ callOf o.op = some (f, A) ∧ f = fnOf e.kind ∧ argsOk A p e x.s = true ∧ e.kind ≤ 3 ∧ o.dst = some x.q) ∧ slcOk ops e.z x.s = true ∧ (e.kind = 0 ∨ e.lt ∉ out)
  | [], _, _, _, j, x, hx => by simp at hx
  | y :: r, [], _, h, j, x, hx => by simp [emRow] at h
  | y :: ys, e :: es, r, h, j, x, hx => by
    simp only [emRow, Bool.and_eq_true] at h
    obtain ⟨⟨⟨h1, h2⟩, h4⟩, h3⟩ := h
    cases j with
    | zero =>
      simp at hx; subst hx
      refine ⟨e, rfl, r, .inl ⟨rfl, rfl⟩, ?_, h2, ?_⟩
      · cases ho : ops[y.c]? with
        | none => rw [ho] at h1; cases h1
        | some o =>
          rw [ho] at h1
          simp only [Bool.and_eq_true, beq_iff_eq] at h1
          obtain ⟨h1, hd⟩ := h1
          cases hc : callOf o.op with
          | none => rw [hc] at h1; cases h1
          | some p =>
            obtain ⟨f, A⟩ := p
            rw [hc] at h1
            simp only [Bool.and_eq_true, beq_iff_eq, decide_eq_true_eq] at h1
            exact ⟨o, f, A, rfl, hc, h1.1.1, h1.1.2, h1.2, hd⟩
      · simpa using h4
    | succ j =>
      obtain ⟨e', he', p, hp, r1, r2, r3⟩ := emRow_at h3 (j := j) (by simpa using hx)
      refine ⟨e', by simpa using he', p, .inr ?_, r1, r2, r3⟩
      rcases hp with ⟨rfl, rfl⟩ | ⟨j', x', rfl, hx', rfl⟩
      · exact ⟨0, y, rfl, rfl, rfl⟩
      · exact ⟨j' + 1, x', rfl, by simpa using hx', rfl⟩
/-- Where it stands: the code made so far. -/
def EmZ (w0 : World) (b : Nat) (v0 : Value) (l : List Instr) (E : List EmC) (k : Nat) (w : World) : Prop := Chain w0 b 4 v0 (l ++ (E.take k).map EmC.ins) w
def EmB (b : Nat) (E : List EmC) (j : Nat) (u : Value) (w : World) : Prop := ∀ e, E[j]? = some e → RowV w b e.z u
theorem em_spine {ops : Array Oper} {Q : Exit → Act → World → Prop} {S : World → Prop} {L0 : Array Bool} {a0 : Act} {items : List SpI} {E : List EmC} {r0 fuel : Nat}
    (hb : spB ops L0 items a0.tmps.size = true) (hrow : emRow ops (spTmps items) r0 items E = true) (hr0 : (spTmps items).contains r0 = false) (hptr : a0.eval (.tmp r0) = .pointer (some ⟨b, 4, none⟩))
    (hlb : ∀ e ∈ E, e.kind ≠ 0 → a0.eval (.tmp e.lt) = .string (if e.kind = 3 then opStr e.n else ⟨e.to.toArray⟩)) (hz2 : (E.all fun e => e.kind == 0 || e.kind == 3 || decide (e.z.length ≤ 2)) = true) (hEl : items.length = E.length) (hl : l.length + E.length ≤ 1000000)
    (hS : ∀ w' l', Chain w0 b 4 v0 l' w' → S w') (C : Chain w0 b 4 v0 l w) (hfuel : decide (((List.range ops.size).filter fun i => !L0.getD i true).length ≤ fuel) = true)
    (hend : ∀ (U : Nat → Value) w', Chain w0 b 4 v0 (l ++ E.map EmC.ins) w' → (∀ (j : Nat) (x : SpI), items[j]? = some x → U x.q = .pointer (some ⟨b, 4, none⟩)) → Q .normal (patch (spTmps items) U a0) w') :
    wpAnyH Tryd.prog .any ops Q S fuel L0 a0 w := by
  have hb' := hb
  simp only [spB, Bool.and_eq_true, decide_eq_true_eq, List.all_eq_true, List.mem_range, Bool.or_eq_true] at hb'
  obtain ⟨⟨⟨⟨⟨F1, F2⟩, F3⟩, F6⟩, F7⟩, F8⟩ := hb'
  have hrl : ∀ (j : Nat) x, items[j]? = some x → j < E.length := fun j x hx => by rw [← hEl]; exact (List.getElem?_eq_some_iff.1 hx).1
  refine spine_go (P := Tryd.prog) (Z := EmZ w0 b v0 l E) (B := EmB b E) (ret := fun _ => .pointer (some ⟨b, 4, none⟩)) hb ?_ ?_ ?_ fuel L0 a0 w 0 ((List.range ops.size).filter fun i => !L0.getD i true) ⟨F1, fun _ h => h, rfl, rfl, fun _ _ => rfl, Nat.zero_le _, by simpa [EmZ] using C, fun j x hx => ⟨fun h => ?_, fun h => absurd h (by omega)⟩, fun j x hx h => absurd h (by omega), fun j x i t hx hs h => ?_⟩ (fun i hi h => ?_) ?_
  · -- slices
    intro j x i t o k a w K hx hs ho hZ hK
    obtain ⟨e, he, p, hp, hc, hsl, hlt⟩ := emRow_at hrow hx
    unfold slcOk at hsl
    rw [hs] at hsl
    simp only [ho, Bool.and_eq_true, beq_iff_eq] at hsl
    obtain ⟨hsl, hd⟩ := hsl
    split at hsl
    · rename_i ty n parts hop
      simp only [Bool.and_eq_true, beq_iff_eq, decide_eq_true_eq] at hsl
      obtain ⟨⟨⟨⟨rfl, rfl⟩, g1⟩, g3⟩, gp⟩ := hsl
      refine wp_slc hop gp g1 g3 ?_
      rw [hd]
      have hZ' : Chain w0 b 4 v0 _ w := hZ
      refine hK _ _ (hZ'.quiet ((Mod.refl _ _).alloc _)) (hS _ _ (hZ'.quiet ((Mod.refl _ _).alloc _))) (fun e' he' => ?_) fun j' u' hB e' he' => ?_
      · obtain rfl : e = e' := Option.some.inj (he.symm.trans he')
        exact ⟨w.heap.size, rfl, Row.fresh hZ' e.z _⟩
      · obtain ⟨g, rfl, R⟩ := hB e' he'
        exact ⟨g, rfl, R.quiet hZ'.lt ((Mod.refl _ _).alloc _)⟩
    · cases hsl
  · -- calls
    intro j x o a w K hx ho hZ hdef hout hret hrw hK
    obtain ⟨e, he, p, hp, ⟨o', f, A, ho', hcall, rfl, hargs, hk2, hd⟩, hsl, hlt⟩ := emRow_at hrow hx
    obtain rfl : o = o' := Option.some.inj (ho.symm.trans ho')
    have hZ' : Chain w0 b 4 v0 _ w := hZ
    have hpv : a.eval (.tmp p) = .pointer (some ⟨b, 4, none⟩) := by
      rcases hp with ⟨rfl, rfl⟩ | ⟨j', x', rfl, hx', rfl⟩
      · rw [hout _ (by intro h; rw [List.contains_iff_mem.2 h] at hr0; cases hr0)]; exact hptr
      · exact hret j' x' (by omega) hx'
    have hlab : e.kind ≠ 0 → a.eval (.tmp e.lt) = .string (if e.kind = 3 then opStr e.n else ⟨e.to.toArray⟩) := fun hk => by
      rw [hout _ (hlt.resolve_left hk)]; exact hlb e (List.mem_of_getElem? he) hk
    have hslv : ∀ z, slOk z e x.s = true → SlV w b e.z (a.eval z) := fun z hz => by
      unfold slOk at hz
      cases hs : x.s with
      | none =>
        rw [hs] at hz
        simp only [Bool.and_eq_true, List.isEmpty_iff] at hz
        rw [isNilRow_spec hz.2]
        exact .inl ⟨hz.1, rfl⟩
      | some it =>
        obtain ⟨i, t⟩ := it
        rw [hs] at hz hsl
        rw [isTmp_spec hz]
        refine .inr ⟨?_, hrw i t hs e he⟩
        unfold slcOk at hsl
        simp only at hsl
        cases ho2 : ops[i]? with
        | none => rw [ho2] at hsl; cases hsl
        | some o2 =>
          rw [ho2] at hsl
          simp only [Bool.and_eq_true, beq_iff_eq] at hsl
          obtain ⟨hsl, _⟩ := hsl
          split at hsl
          · simp only [Bool.and_eq_true, beq_iff_eq, decide_eq_true_eq] at hsl
            exact ⟨hsl.1.1.2, hsl.1.2⟩
          · cases hsl
    have hz2' : e.kind ≠ 0 → e.kind ≠ 3 → e.z.length ≤ 2 := fun hk hk3 => by
      have := List.all_eq_true.1 hz2 e (List.mem_of_getElem? he)
      simp only [Bool.or_eq_true, beq_iff_eq, decide_eq_true_eq] at this
      exact this.resolve_left (fun h => h.elim hk hk3)
    have hjl := hrl j x hx
    have htake : (E.take (j + 1)).map EmC.ins = (E.take j).map EmC.ins ++ [e.ins] := by
      rw [List.take_add_one, he]; simp
    have hll : (l ++ (E.take j).map EmC.ins).length ≤ 1000000 := by simp; omega
    obtain ⟨v1, C1, hv1, -, hk1⟩ := hZ'.re (Mod.refl noF w)
    have fin : ∀ w', Chain w b 4 v1 ((l ++ (E.take j).map EmC.ins) ++ [e.ins]) w' → ∃ v, Ending.returned (.pointer (some ⟨b, 4, none⟩)) = .returned v ∧ K (a.put o.dst v) w' := fun w' hC => by
      refine ⟨_, rfl, ?_⟩
      rw [hd]
      have hC0 := hk1 _ _ hC
      refine hK w' ?_ (hS _ _ hC0) fun j' u' hB e' he' => ?_
      · show Chain w0 b 4 v0 _ w'
        rw [htake, ← List.append_assoc]; exact hC0
      · obtain ⟨g, rfl, R⟩ := hB e' he'
        exact ⟨g, rfl, R.next hv1 hC⟩
    unfold argsOk at hargs
    split at hargs
    · rename_i hk hA
      simp only [Bool.and_eq_true, List.isEmpty_iff] at hargs
      obtain ⟨⟨⟨h1, h2⟩, h3⟩, h4⟩ := hargs
      rw [hk] at hcall
      refine wp_callOf callEmOp hcall ?_
      rename_i y1 y2 y3
      have hA' : A = #[y1, y2, y3] := Array.ext' (by simpa using hA)
      subst hA'
      simp only [List.map_toArray, List.map_cons, List.map_nil, isTmp_spec h1, isStr_spec h2, hpv]
      refine (em_op C1 hll e.n (hslv _ h3)).mono ?_
      rintro e' w' ⟨rfl, hC⟩
      have : e.ins = ⟨e.n, e.z.getD 0 0, e.z.getD 1 0, e.z.getD 2 0, []⟩ := by unfold EmC.ins; rw [h4]
      exact fin w' (by rw [this]; exact hC)
    · rename_i hk hA
      simp only [Bool.and_eq_true] at hargs
      obtain ⟨⟨⟨h1, h2⟩, h3⟩, h4⟩ := hargs
      rw [hk] at hcall
      refine wp_callOf callEmTo hcall ?_
      rename_i y1 y2 y3 y4
      have hA' : A = #[y1, y2, y3, y4] := Array.ext' (by simpa using hA)
      subst hA'
      simp only [List.map_toArray, List.map_cons, List.map_nil, isTmp_spec h1, isTmp_spec h2, isStr_spec h3, hpv, hlab (by omega), if_neg (show ¬ e.kind = 3 by omega)]
      refine (em_to C1 hll e.n (hslv _ h4) (hz2' (by omega) (by omega)) e.to).mono ?_
      rintro e' w' ⟨rfl, hC⟩
      exact fin w' hC
    · rename_i hk hA
      simp only [Bool.and_eq_true, List.isEmpty_iff, beq_iff_eq] at hargs
      obtain ⟨⟨⟨⟨h1, h2⟩, h3⟩, h4⟩, h5⟩ := hargs
      clear h5
      rw [hk] at hcall
      refine wp_callOf callEmLabel hcall ?_
      rename_i y1 y2
      have hA' : A = #[y1, y2] := Array.ext' (by simpa using hA)
      subst hA'
      simp only [List.map_toArray, List.map_cons, List.map_nil, isTmp_spec h1, isTmp_spec h2, hpv, hlab (by omega), if_neg (show ¬ e.kind = 3 by omega)]
      refine (label_chain C1 hll e.to _ rfl).mono ?_
      rintro e' w' ⟨rfl, hC⟩
      have : e.ins = ⟨17, 0, 0, 0, e.to⟩ := by unfold EmC.ins; rw [h3, h4]; rfl
      exact fin w' (by rw [this]; exact hC)
    · rename_i hk hA
      simp only [Bool.and_eq_true, List.isEmpty_iff] at hargs
      obtain ⟨⟨⟨h1, h2⟩, h3⟩, h4⟩ := hargs
      rw [hk] at hcall
      refine wp_callOf callEmOp hcall ?_
      rename_i y1 y2 y3
      have hA' : A = #[y1, y2, y3] := Array.ext' (by simpa using hA)
      subst hA'
      simp only [List.map_toArray, List.map_cons, List.map_nil, isTmp_spec h1, isTmp_spec h2, hpv, hlab (by omega), if_pos hk]
      refine (em_op C1 hll e.n (hslv _ h3)).mono ?_
      rintro e' w' ⟨rfl, hC⟩
      have : e.ins = ⟨e.n, e.z.getD 0 0, e.z.getD 1 0, e.z.getD 2 0, []⟩ := by unfold EmC.ins; rw [h4]
      exact fin w' (by rw [this]; exact hC)
    · cases hargs
  · intro a w hZ hdef hsz hout hret
    have h := hend (fun t => a.eval (.tmp t)) w (by have : EmZ w0 b v0 l E items.length w := hZ; unfold EmZ at this; rw [hEl, List.take_length] at this; exact this) hret
    rw [patch_self _ _ _ hdef hsz hout] at h
    exact h
  · have := F3 x.c (mem_spIdx.2 ⟨j, x, hx, x.c_mem⟩)
    rw [h] at this; cases this
  · have := F3 i (mem_spIdx.2 ⟨j, x, hx, SpI.i_mem hs⟩)
    rw [h] at this; cases this
  · rw [List.mem_filter]; exact ⟨List.mem_range.2 hi, by rw [h]; rfl⟩
  · exact of_decide_eq_true hfuel
end Go.Proofs.YtamfbfajlfbooaaDoor
end
/- What SpinSafe and SpinEnds build: the law. -/
section
namespace Go.Proofs.YtamfbfajlfbooaaDoor
open Go.RowKit Qs Qh
theorem codesInfo : (Tryd.prog.info? 28).map (fun i => (i.zero, i.size, i.bytes)) = some (some (.slice none 0 0), 1, 24) := by kernel_rfl
theorem rowsInfo : (Tryd.prog.info? 23).map (fun i => (i.zero, i.size, i.bytes)) = some (some (.slice none 0 0), 1, 24) := by kernel_rfl
theorem slice_one (a : Option Addr) (b c : Nat) : ∀ u ∈ [Value.slice a b c], u.oneCell' = true := by
  intro u hu; simp at hu; subst hu; rfl
end Go.Proofs.YtamfbfajlfbooaaDoor
end
