/- Texts that belong together, joined. -/
import Derived.Test.YtamfbfajlfbooaaDoorRPLoad
import Derived.Test.YtamfbfajlfbooaaDoorRm7
import Derived.Test.YtamfbfajlfbooaaDoorRStore
import Derived.Test.YtamfbfajlfbooaaDoorRm2
import Derived.Test.YtamfbfajlfbooaaDoorRm6
import Derived.Test.YtamfbfajlfbooaaDoorRPDrain
import Derived.Test.YtamfbfajlfbooaaDoorRm3
import Derived.Test.YtamfbfajlfbooaaDoorRm5
import Derived.Deep.RegionHeld3
import Derived.Deep.RegionWith
import Derived.StillTailTactics
import Derived.Laws.StructEq
import Derived.Outline
set_option linter.unusedVariables false
set_option linter.unusedSimpArgs false
set_option linter.unusedSectionVars false
/- quiescentlaw1.waits. -/
section
namespace Go.Proofs.YtamfbfajlfbooaaDoor
open Go.RowKit Qs Qh
variable {w : World} {B : PB} {l : List Cell} {ws : List (List Wt)} {vs : List Value} {a : Nat → Addr}
/-- One store, by any numbers. -/
theorem pstore_any (h : PMV w B l ws vs) (E : Errs4 w a) (C : CellsOk l) (hn6 : ws.length ≤ 6) {t : Nat} {q : List Wt} (hq : ws[t]? = some q) (hql : q.length ≤ 8) (c r W V : Int) :
    Calls Tryd.prog 30 #[.pointer (some ⟨B.bM, 0, none⟩), .int .i64 t, .agg #[.int .i64 c, .int .i64 r], .int .i64 W, .int .i64 V] w fun e w' => e = .returned (errOf' a (pstE l q c r W V)) ∧ ∃ vs', PUp w B vs w' l (if pstE l q c r W V = 0 then ws.set t (q ++ [⟨c, r, W, V⟩]) else ws) vs' := by
  rcases loadE_cases l c r W with he | he | he
  · cases hv : isWord V with
    | false =>
      have e : pstE l q c r W V = 2 := by simp [pstE, he, hv]
      rw [e, if_neg (by decide)]
      exact (pstore_bound h E C.len C.times hn6 hq hql c r W V _ he hv).mono fun e w' h => ⟨h.1, _, h.2⟩
    | true =>
      by_cases h8 : 8 ≤ q.length
      · have e : pstE l q c r W V = 6 := by simp [pstE, he, hv, h8]
        rw [e, if_neg (by decide)]
        exact (pstore_full h E C.len C.times hn6 hq hql c r W V _ he hv h8).mono fun e w' h => ⟨h.1, _, h.2⟩
      · have e : pstE l q c r W V = 0 := by simp [pstE, he, hv, h8]
        rw [e, if_pos rfl]
        exact pstore_ok h E C.len C.times hn6 hq hql c r W V _ he hv (by omega)
  · have e : pstE l q c r W V = 2 := by simp [pstE, he]
    rw [e, if_neg (by decide)]
    exact (pstore_err2 h E C.len C.times hq c r W V he).mono fun e w' h => ⟨h.1, _, h.2⟩
  · have e : pstE l q c r W V = 7 := by simp [pstE, he]
    rw [e, if_neg (by decide)]
    exact (pstore_err7 h E C.len C.times hq c r W V he).mono fun e w' h => ⟨h.1, _, h.2⟩
/-- One load, by any numbers. -/
def ploadV (l : List Cell) (q : List Wt) (c r W : Int) : Int := if (loadE l c r W).2 = 0 then Qs.look q c r W (loadE l c r W).1 else 0
theorem pload_any (h : PMV w B l ws vs) (E : Errs4 w a) (C : CellsOk l) (hn6 : ws.length ≤ 6) {t : Nat} {q : List Wt} (hq : ws[t]? = some q) (hql : q.length ≤ 8) (c r W : Int) :
    Calls Tryd.prog 34 #[.pointer (some ⟨B.bM, 0, none⟩), .int .i64 t, .agg #[.int .i64 c, .int .i64 r], .int .i64 W] w fun e w' => e = .returned (.tuple #[.int .i64 (ploadV l q c r W), errOf' a (loadE l c r W).2]) ∧ Mod noF w w' := by
  rcases loadE_cases l c r W with he | he | he
  · have e : ploadV l q c r W = Qs.look q c r W (getWord l c.toNat W.toNat) := by simp [ploadV, he]
    rw [e, he]
    exact pload_ok h E C.len C.times hn6 hq hql c r W _ he
  · have e : ploadV l q c r W = 0 := by simp [ploadV, he]
    rw [e, he]
    exact pload_err2 h E C.len C.times hq c r W he
  · have e : ploadV l q c r W = 0 := by simp [ploadV, he]
    rw [e, he]
    exact pload_err7 h E C.len C.times hq c r W he
theorem cells_fresh (n : Nat) (hn : n ≤ 64) : CellsOk (List.replicate n freshCell) :=
  ⟨by simpa using hn, fun i c hc => by obtain rfl := List.eq_of_mem_replicate (List.mem_of_getElem? hc); exact ⟨by decide, by decide⟩, fun i c hc => by obtain rfl := List.eq_of_mem_replicate (List.mem_of_getElem? hc); rfl⟩
set_option maxRecDepth 100000 in
set_option maxHeartbeats 4000000 in
theorem waits_ok (w : World) (a : Nat → Addr) (E : Errs4 w a) : Calls Tryd.prog 27 #[] w fun e w' => e = .returned (.bool true) ∧ Mod noF w w' := by
  have HE := Lib.hid E
  clear E
  go_enter Tryd.func27, Tryd.ntmps27
  go_wp2_with fail
  refine (pmNew_ok 1 2 (by decide) (by decide) (by decide) (by decide) w).mono ?_
  rintro e w1 ⟨B, rfl, P1, hm1, hl1⟩
  have HP1 := Lib.hid P1
  have Hm1 := Lib.hid hm1
  have Hl1 := Lib.hid hl1
  clear P1 hm1 hl1
  go_wp2_with fail
  refine (pmAlloc_ok HP1.out (HE.out.keep Hm1.out) (by decide) (cells_fresh 1 (by decide)).times (t := 0) (by decide)).mono ?_
  rintro e w2 (⟨i, ci, ha, hci, rfl, hu⟩ | ⟨ha, -, -⟩)
  · have e0 : (i, ci.times) = (0, 0) := by rw [show allocAt (List.replicate 1 freshCell) 0 = some (0, 0) from rfl] at ha; exact (Option.some.inj ha).symm
    simp only [Prod.mk.injEq] at e0
    obtain ⟨rfl, hct⟩ := e0
    rw [hct]
    obtain rfl : ci = freshCell := by rw [show (List.replicate 1 freshCell)[0]? = some freshCell from rfl] at hci; exact (Option.some.inj hci).symm
    have Hu := Lib.hid hu
    have L1 : PLow w w1 a B (List.replicate 2 (.slice none 0 0)) := ⟨HE.out, Hm1.out, Hl1.out⟩
    have L2 := (L1.up hu).keep ((Mod.refl noF w2).alloc (refBox 0 0))
    have P2 := hu.rep.keep0 ((Mod.refl noF w2).alloc (refBox 0 0))
    have hb2 := heap_alloc_new w2 (refBox 0 0)
    have hnf : ¬ PFoot B (List.replicate 2 (.slice none 0 0)) w2.heap.size := fun hx => Nat.lt_irrefl _ (hu.rep.lt hx)
    have C2 : CellsOk ((List.replicate 1 freshCell).set 0 (givenCell freshCell)) := ⟨by decide, fun i c hc => by
      rw [show ((List.replicate 1 freshCell).set 0 (givenCell freshCell)) = [givenCell freshCell] from rfl] at hc
      have hi := (List.getElem?_eq_some_iff.1 hc).1
      obtain rfl : i = 0 := by simp at hi; omega
      obtain rfl := Option.some.inj hc; exact ⟨by decide, by decide⟩, fun i c hc => by
      rw [show ((List.replicate 1 freshCell).set 0 (givenCell freshCell)) = [givenCell freshCell] from rfl] at hc
      have hi := (List.getElem?_eq_some_iff.1 hc).1
      obtain rfl : i = 0 := by simp at hi; omega
      obtain rfl := Option.some.inj hc; rfl⟩
    have hst := pstore_ok P2 L2.E C2.len C2.times (by decide) (t := 0) (q := []) rfl (by decide) 0 0 1 5 0 rfl rfl (by decide)
    simp only [errOf', if_true] at hst
    have Hst := Lib.hid hst
    have HL2 := Lib.hid L2
    have HC2 := Lib.hid C2
    have Hb2 := Lib.hid hb2
    have Hnf := Lib.hid hnf
    have Hlt2 := Lib.hid (lt_of_block hb2)
    clear hst L1 L2 P2 C2 hb2 hnf hu ha hci hct
    go_wp2_with fail
    refine Hst.out.mono ?_
    rintro e w3 ⟨rfl, vs3, hu3⟩
    have hx3 := hu3.heap Hnf.out Hb2.out
    have L3 := HL2.out.up hu3
    have r0 : w3.cell? ⟨w2.heap.size, 0, none⟩ = some (.int .i64 0) := (cell_of_heap hx3 0).trans rfl
    have r1 : w3.cell? ⟨w2.heap.size, 1, none⟩ = some (.int .i64 0) := (cell_of_heap hx3 1).trans rfl
    have rb := lt_of_block hx3
    have hld := pload_ok hu3.rep L3.E HC2.out.len HC2.out.times (by decide) (t := 0) (q := [⟨0, 0, 1, 5⟩]) rfl (by decide) 0 0 1 0 rfl
    rw [show Qs.look [⟨0, 0, 1, 5⟩] 0 0 1 0 = 5 from rfl] at hld
    have Hld := Lib.hid hld
    have Hu3 := Lib.hid hu3
    have HL3 := Lib.hid L3
    have Hx3 := Lib.hid hx3
    clear hld hu3 L3 hx3 Hst
    go_wp2_with fail
    refine Hld.out.mono ?_
    rintro e w4 ⟨rfl, hm4⟩
    have hx4 := hm4.heap Hx3.out (fun e => e)
    have P4 := Hu3.out.rep.keep0 hm4
    have L4 := HL3.out.keep hm4
    have r0 : w4.cell? ⟨w2.heap.size, 0, none⟩ = some (.int .i64 0) := (cell_of_heap hx4 0).trans rfl
    have r1 : w4.cell? ⟨w2.heap.size, 1, none⟩ = some (.int .i64 0) := (cell_of_heap hx4 1).trans rfl
    have rb := lt_of_block hx4
    have hld := pload_ok P4 L4.E HC2.out.len HC2.out.times (by decide) (t := 1) (q := []) rfl (by decide) 0 0 1 0 rfl
    rw [show Qs.look [] 0 0 1 0 = 0 from rfl] at hld
    have Hld4 := Lib.hid hld
    have HP4 := Lib.hid P4
    have HL4 := Lib.hid L4
    clear hld P4 L4 hx4 hm4 Hld
    go_wp2_with fail
    refine Hld4.out.mono ?_
    rintro e w5 ⟨rfl, hm5⟩
    have HP5 := Lib.hid (HP4.out.keep0 hm5)
    have HL5 := Lib.hid (HL4.out.keep hm5)
    clear hm5 Hld4
    go_wp2_with fail
    have hwt := pwaiting_ok HP5.out (t := 0) (q := [⟨0, 0, 1, 5⟩]) rfl (by decide)
    refine hwt.mono ?_
    clear hwt
    rintro e w' ⟨rfl, rfl⟩
    go_wp2
    go_ret
    exact ⟨rfl, HL5.out.mod⟩
  · cases ha
end Go.Proofs.YtamfbfajlfbooaaDoor
end
/- The reference memory: Thread; Store, by any numbers. -/
section
namespace Go.Proofs.YtamfbfajlfbooaaDoor
open Go.RowKit Qs Qh
variable {K : Nat → Bool} {w : World} {L : Lay} {m : M} {N : Int}
theorem rthread_any (R : Rep ty K w L m) (h1 : K 1 = true) (om : OkM N m) (ol : OkL L m) (t : Int) :
    Calls Tryd.prog 111 #[.pointer (some ⟨L.blk 1 0, 0, none⟩), .int .i64 t] w fun e w' => e = .returned (.bool (decide (0 ≤ t) && decide (t < m.waits.length))) ∧ w = w' := by
  have c0 := R.waits_at h1 ol
  have hb := R.lt1 h1
  have hw := om.waits
  clear R
  by_cases h0 : 0 ≤ t
  · have d0 : decide (0 ≤ t) = true := by simpa using h0
    cases d1 : decide (t < (m.waits.length : Int)) with
    | true =>
      go_enter Tryd.func111, Tryd.ntmps111
      go_wp2
      go_ret
      exact ⟨by first | rfl | (rw [d0]; rfl), rfl⟩
    | false =>
      go_enter Tryd.func111, Tryd.ntmps111
      go_wp2
      go_ret
      exact ⟨by first | rfl | (rw [d0]; rfl), rfl⟩
  · have d0 : decide (0 ≤ t) = false := by simpa using h0
    go_enter Tryd.func111, Tryd.ntmps111
    go_wp2
    go_ret
    exact ⟨by first | rfl | (rw [d0]; rfl), rfl⟩
set_option maxHeartbeats 2000000 in
theorem rstore_at (R : Rep ty K w L m) (h1 : K 1 = true) (h2 : K 2 = true) (om : OkM N m) (ol : OkL L m) (hN : N ≤ 1000000000000) (t : Nat) (c g wd v : Int) (he : atE m.cells c g wd = 2 ∨ atE m.cells c g wd = 7) :
    Calls Tryd.prog 115 #[.pointer (some ⟨L.blk 1 0, 0, none⟩), .int .i64 t, .agg #[.int .i64 c, .int .i64 g], .int .i64 wd, .int .i64 v] w fun e w' => e = .returned (.int .i64 (atE m.cells c g wd)) ∧ Mod noF w w' := by
  have hcall := at_any (R.frame0 ((Mod.refl noF w).alloc (.cells #[.int .i64 c, .int .i64 g] 58))) h1 h2 om ol hN c g wd
  rcases he with he | he
  all_goals
    rw [he] at hcall ⊢
    have Hcall := Lib.hid hcall
    clear hcall he R om ol
    go_enter Tryd.func115, Tryd.ntmps115
    go_wp2_with fail
    refine Hcall.out.mono ?_
    rintro e w1 ⟨rfl, hm⟩
    have Hm := Lib.hid (((Mod.refl noF w).alloc _).trans0 hm)
    clear hm Hcall
    go_wp2
    go_ret
    exact ⟨rfl, Hm.out⟩
set_option maxHeartbeats 2000000 in
theorem rstore_word (R : Rep ty K w L m) (h1 : K 1 = true) (h2 : K 2 = true) (om : OkM N m) (ol : OkL L m) (hN : N ≤ 1000000000000) (t : Nat) (c g wd v : Int) (he : atE m.cells c g wd = 0) (hv : isWord v = false) :
    Calls Tryd.prog 115 #[.pointer (some ⟨L.blk 1 0, 0, none⟩), .int .i64 t, .agg #[.int .i64 c, .int .i64 g], .int .i64 wd, .int .i64 v] w fun e w' => e = .returned (.int .i64 2) ∧ Mod noF w w' := by
  have hcall := at_any (R.frame0 ((Mod.refl noF w).alloc (.cells #[.int .i64 c, .int .i64 g] 58))) h1 h2 om ol hN c g wd
  rw [he] at hcall
  have Hcall := Lib.hid hcall
  have Hv := Lib.hid hv
  clear hcall he R om ol hv
  go_enter Tryd.func115, Tryd.ntmps115
  go_wp2_with fail
  refine Hcall.out.mono ?_
  rintro e w1 ⟨rfl, hm⟩
  have Hm := Lib.hid (((Mod.refl noF w).alloc _).trans0 hm)
  clear hm Hcall
  go_wp2_with (go_at_call 31; refine (isWord_any _ _).mono ?_; rintro e w' ⟨rfl, rfl⟩; rw [Hv.out])
  go_ret
  exact ⟨rfl, Hm.out⟩
set_option maxHeartbeats 2000000 in
theorem rstore_full (R : Rep ty K w L m) (h1 : K 1 = true) (h2 : K 2 = true) (h3 : K 3 = true) (om : OkM N m) (ol : OkL L m) (hN : N ≤ 1000000000000) (t : Nat) (c g wd v : Int) {q : List Wt} (hq : m.waits[t]? = some q) (h8 : 8 ≤ q.length) (he : atE m.cells c g wd = 0) (hv : isWord v = true) :
    Calls Tryd.prog 115 #[.pointer (some ⟨L.blk 1 0, 0, none⟩), .int .i64 t, .agg #[.int .i64 c, .int .i64 g], .int .i64 wd, .int .i64 v] w fun e w' => e = .returned (.int .i64 6) ∧ Mod noF w w' := by
  have hcall := at_any (R.frame0 ((Mod.refl noF w).alloc (.cells #[.int .i64 c, .int .i64 g] 58))) h1 h2 om ol hN c g wd
  rw [he] at hcall
  have ht : t < m.waits.length := (List.getElem?_eq_some_iff.1 hq).1
  have hwl := om.waits
  have hsp3 := ol.sp3
  have hrow : ∃ sa sb sc, L.row 7 t q.length = .slice sa sb sc ∧ sb = q.length := by
    unfold Lay.row
    cases h : L.nil 7 t with
    | true => exact ⟨none, 0, 0, rfl, by rw [ol.n7 t q hq h]; rfl⟩
    | false => exact ⟨_, _, _, rfl, rfl⟩
  obtain ⟨sa, sb, sc, hrow, rfl⟩ := hrow
  have Hcall := Lib.hid hcall
  have Hv := Lib.hid hv
  have HR := Lib.hid R
  have Hol := Lib.hid ol
  have Hq := Lib.hid hq
  have Hrow := Lib.hid hrow
  have dl : decide ((8 : Int) ≤ (q.length : Int)) = true := by rw [decide_eq_true_eq]; omega
  clear hcall he R om ol hv hq hrow
  go_enter Tryd.func115, Tryd.ntmps115
  go_wp2_with fail
  refine Hcall.out.mono ?_
  rintro e w1 ⟨rfl, hm⟩
  have hm1 := ((Mod.refl noF w).alloc (.cells #[.int .i64 c, .int .i64 g] 58)).trans0 hm
  have R1 := HR.out.frame0 hm1
  have c0 := R1.waits_at h1 Hol.out
  have c1 := waits_row R1 h3 Hol.out Hq.out
  rw [Hrow.out] at c1
  have hb1 := R1.lt1 h1
  have hb3 := R1.lt3 h3 Hol.out
  have pt : (t : Int) < (m.waits.length : Int) := by omega
  have Hm := Lib.hid hm1
  clear hm hm1 Hcall R1
  go_wp2_with (go_at_call 31; refine (isWord_any _ _).mono ?_; rintro e w' ⟨rfl, rfl⟩; rw [Hv.out])
  go_ret
  exact ⟨rfl, Hm.out⟩
end Go.Proofs.YtamfbfajlfbooaaDoor
end
/- The program's memory and the reference's, side by side. -/
section
namespace Go.Proofs.YtamfbfajlfbooaaDoor
open Go.RowKit Qs Qh
/-- Cells' times: up to K; one that is there was given. -/
def TimesK (l : List Cell) (K : Int) : Prop := ∀ (i : Nat) c, l[i]? = some c → c.times ≤ K ∧ (c.here = true → 1 ≤ c.times)
theorem TimesK.up {l : List Cell} {k k' : Nat} (h : TimesK l k) (hk : k ≤ k') : TimesK l k' := fun i c hc => ⟨Int.le_trans (h i c hc).1 (by exact_mod_cast hk), (h i c hc).2⟩
/-- The same cells, the same stores that wait; no block is shared. -/
structure MemRel (b0 : World) (a : Nat → Addr) (B : PB) (tn bm k : Nat) (L : Lay) (m : M) (vs : List Value) (wr : World) : Prop where
  mem : PMV wr B m.cells m.waits vs
  low : PLow b0 wr a B vs
  errs : ErrsAt b0 a
  rep : Rep ty memK wr L m
  om : OkM 1000 m
  ol : OkL L m
  top : L.blk 1 0 = bm
  times : TimesK m.cells k
  apart : ∀ x, Foot ty memK L m x → ¬ PFoot B vs x
  lowR : ∀ x, Foot ty memK L m x → b0.heap.size ≤ x
  thr : m.waits.length = tn
variable {b0 wr w1 w2 : World} {a : Nat → Addr} {B : PB} {tn bm k : Nat} {L : Lay} {m : M} {vs : List Value}
theorem MemRel.E (h : MemRel b0 a B tn bm k L m vs wr) : ErrsAt wr a := h.errs.keep h.low.mod
theorem MemRel.cellsOk (h : MemRel b0 a B tn bm k L m vs wr) : CellsOk m.cells :=
  ⟨h.om.cells, fun i c hc => by obtain ⟨h0, h1⟩ := h.om.times i c hc; omega, fun i c hc => (h.om.words i c hc).1⟩
theorem MemRel.okW (h : MemRel b0 a B tn bm k L m vs wr) {t : Nat} {q : List Wt} (hq : m.waits[t]? = some q) : okW q := fun x hx => by
  obtain ⟨h1, h2, h3, _⟩ := h.om.wval t q hq x hx; exact ⟨h1, h2, h3⟩
theorem MemRel.keep (h : MemRel b0 a B tn bm k L m vs wr) (hM : Mod noF wr w1) : MemRel b0 a B tn bm k L m vs w1 :=
  ⟨h.mem.keep0 hM, h.low.keep hM, h.errs, h.rep.frame0 hM, h.om, h.ol, h.top, h.times, h.apart, h.lowR, h.thr⟩
theorem MemRel.up (h : MemRel b0 a B tn bm k L m vs wr) {k' : Nat} (hk : k ≤ k') : MemRel b0 a B tn bm k' L m vs wr :=
  ⟨h.mem, h.low, h.errs, h.rep, h.om, h.ol, h.top, h.times.up hk, h.apart, h.lowR, h.thr⟩
/-- The reference's memory behind the program's call. -/
theorem MemRel.repP {l' : List Cell} {ws' : List (List Wt)} {vs' : List Value} (h : MemRel b0 a B tn bm k L m vs wr) (u : PUp wr B vs w1 l' ws' vs') : Rep ty memK w1 L m := h.rep.frame u.mod fun x hx e => h.apart x hx e
/-- Both have turned alike: the program's call, then the reference's. -/
theorem MemRel.both {l' : List Cell} {ws' : List (List Wt)} {vs' : List Value} {L' : Lay} {m' : M} {k' : Nat} (h : MemRel b0 a B tn bm k L m vs wr) (u : PUp wr B vs w1 l' ws' vs') (v : Up ty memK w1 L m w2 L' m') (hc : m'.cells = l') (hw : m'.waits = ws') (om : OkM 1000 m') (ht : TimesK m'.cells k') (hn : m'.waits.length = m.waits.length := by simp) :
    MemRel b0 a B tn bm k' L' m' vs' w2 := by
  have hs := u.mod.size
  have hlo := h.low.mod.size
  have hap : ∀ x, Foot ty memK L m x → ¬ PFoot B vs' x := fun x hx e => (u.foot x e).elim (h.apart x hx) (fun e2 => by have := h.rep.lt hx; omega)
  have low1 := h.low.up u
  refine ⟨?_, ⟨h.low.errs, low1.mod.trans v.mod (fun x hx e => by have := h.lowR x e; omega), low1.low⟩, h.errs, v.rep, om, v.ok, ?_, ht, ?_, ?_, hn.trans h.thr⟩
  · rw [hc, hw]; exact u.rep.keep v.mod fun x hx e => hap x e hx
  · rw [(v.ext.same 1 0 (by omega) (by omega)).1]; exact h.top
  · intro x hx e
    rcases v.foot x hx with h1 | h1
    · exact hap x h1 e
    · have := u.rep.lt e; omega
  · intro x hx
    rcases v.foot x hx with h1 | h1
    · exact h.lowR x h1
    · omega
/-- The program's memory behind the reference's call. -/
theorem MemRel.memR {L' : Lay} {m' : M} (h : MemRel b0 a B tn bm k L m vs wr) (v : Up ty memK wr L m w1 L' m') : PMV w1 B m.cells m.waits vs := h.mem.keep v.mod fun x hx e => h.apart x e hx
theorem MemRel.lowR2 {L' : Lay} {m' : M} (h : MemRel b0 a B tn bm k L m vs wr) (v : Up ty memK wr L m w1 L' m') : PLow b0 w1 a B vs := ⟨h.low.errs, h.low.mod.trans v.mod (fun x hx e => by have := h.lowR x e; omega), h.low.low⟩
/-- The reference's call, then the program's. -/
theorem MemRel.both2 {l' : List Cell} {ws' : List (List Wt)} {vs' : List Value} {L' : Lay} {m' : M} {k' : Nat} (h : MemRel b0 a B tn bm k L m vs wr) (v : Up ty memK wr L m w1 L' m') (u : PUp w1 B vs w2 l' ws' vs') (hc : m'.cells = l') (hw : m'.waits = ws') (om : OkM 1000 m') (ht : TimesK m'.cells k') (hn : m'.waits.length = m.waits.length := by simp) :
    MemRel b0 a B tn bm k' L' m' vs' w2 := by
  have hs := v.mod.size
  have hlo := h.low.mod.size
  have hap : ∀ x, Foot ty memK L' m' x → ¬ PFoot B vs x := fun x hx e => (v.foot x hx).elim (fun h1 => h.apart x h1 e) (fun e2 => by have := h.mem.lt e; omega)
  have low1 := h.lowR2 v
  refine ⟨?_, low1.up u, h.errs, v.rep.frame u.mod fun x hx e => hap x hx e, om, v.ok, ?_, ht, ?_, ?_, hn.trans h.thr⟩
  · rw [hc, hw]; exact u.rep
  · rw [(v.ext.same 1 0 (by omega) (by omega)).1]; exact h.top
  · intro x hx e
    rcases u.foot x e with h1 | h1
    · exact hap x hx h1
    · have := v.rep.lt hx; omega
  · intro x hx
    rcases v.foot x hx with h1 | h1
    · exact h.lowR x h1
    · omega
/-- An alloc of the reference's, as a turn. -/
theorem allocUp {i g : Nat} {t : Int} (R : Rep ty memK w1 L m) (ol : OkL L m) (R2 : Rep ty memK w2 (L.words i g) { m with cells := m.cells.set i (zeroCell t) }) (hM : Mod (fun x => x = L.blk 2 0) w1 w2) (hg : w1.heap.size ≤ g) :
    Up ty memK w1 L m w2 (L.words i g) { m with cells := m.cells.set i (zeroCell t) } :=
  ⟨R2, words_ok ol, ⟨fun c j h6 h7 => by
      have hne : ¬ (c = 6 ∧ j = i) := by omega
      exact ⟨words_blk L i g c j hne, words_nil L i g c j hne, by simp [Lay.words, hne], words_junk L i g c j hne⟩, rfl⟩,
    hM.mono fun x _ e => ⟨2, 0, rfl, by rw [obj2 ty m ol.n2]; rfl, e.symm⟩, fun x hx => (words_foot ol hx).imp id (fun e => by omega)⟩
end Go.Proofs.YtamfbfajlfbooaaDoor
end
/- package memory, at a thread that is none. -/
section
namespace Go.Proofs.YtamfbfajlfbooaaDoor
open Go.RowKit Go.Shelf Qs Qh
variable {w : World} {B : PB} {l : List Cell} {ws : List (List Wt)} {vs : List Value} {a : Nat → Addr}
set_option maxHeartbeats 2000000 in
theorem pstore_thread (h : PMV w B l ws vs) (E : Errs4 w a) (t : Int) (ht : t < 0 ∨ (ws.length : Int) ≤ t) (hn : ws.length ≤ 6) (c r W V : Int) :
    Calls Tryd.prog 30 #[.pointer (some ⟨B.bM, 0, none⟩), .int .i64 t, .agg #[.int .i64 c, .int .i64 r], .int .i64 W, .int .i64 V] w fun e w' => e = .returned (errV a 1) ∧ Mod noF w w' := by
  have hq0 := ((Mod.refl noF w).alloc (refBox c r))
  have hcall := pthread_bad (h.keep0 hq0) (E.keep hq0) t ht hn
  unfold errV at hcall
  have Hcall := Lib.hid hcall
  have Hq0 := Lib.hid hq0
  clear hcall h E hq0
  go_enter Tryd.func30, Tryd.ntmps30
  go_wp2_with fail
  refine Hcall.out.mono ?_
  rintro e w1 ⟨rfl, hm1⟩
  have Hm1 := Lib.hid (Hq0.out.trans0 hm1)
  clear hm1 Hcall
  go_wp2
  go_ret
  exact ⟨rfl, Hm1.out⟩
set_option maxHeartbeats 2000000 in
theorem pdrain_thread (h : PMV w B l ws vs) (E : Errs4 w a) (t : Int) (ht : t < 0 ∨ (ws.length : Int) ≤ t) (hn : ws.length ≤ 6)  :
    Calls Tryd.prog 33 #[.pointer (some ⟨B.bM, 0, none⟩), .int .i64 t] w fun e w' => e = .returned (errV a 1) ∧ Mod noF w w' := by
  have hq0 := (Mod.refl noF w)
  have hcall := pthread_bad (h.keep0 hq0) (E.keep hq0) t ht hn
  unfold errV at hcall
  have Hcall := Lib.hid hcall
  have Hq0 := Lib.hid hq0
  clear hcall h E hq0
  go_enter Tryd.func33, Tryd.ntmps33
  go_wp2_with fail
  refine Hcall.out.mono ?_
  rintro e w1 ⟨rfl, hm1⟩
  have Hm1 := Lib.hid (Hq0.out.trans0 hm1)
  clear hm1 Hcall
  go_wp2
  go_ret
  exact ⟨rfl, Hm1.out⟩
set_option maxHeartbeats 2000000 in
theorem pfence_thread (h : PMV w B l ws vs) (E : Errs4 w a) (t : Int) (ht : t < 0 ∨ (ws.length : Int) ≤ t) (hn : ws.length ≤ 6)  :
    Calls Tryd.prog 35 #[.pointer (some ⟨B.bM, 0, none⟩), .int .i64 t] w fun e w' => e = .returned (errV a 1) ∧ Mod noF w w' := by
  have hq0 := (Mod.refl noF w)
  have hcall := pthread_bad (h.keep0 hq0) (E.keep hq0) t ht hn
  unfold errV at hcall
  have Hcall := Lib.hid hcall
  have Hq0 := Lib.hid hq0
  clear hcall h E hq0
  go_enter Tryd.func35, Tryd.ntmps35
  go_wp2_with fail
  refine Hcall.out.mono ?_
  rintro e w1 ⟨rfl, hm1⟩
  have Hm1 := Lib.hid (Hq0.out.trans0 hm1)
  clear hm1 Hcall
  go_wp2
  go_ret
  exact ⟨rfl, Hm1.out⟩
set_option maxHeartbeats 2000000 in
theorem pwhole_thread (h : PMV w B l ws vs) (E : Errs4 w a) (t : Int) (ht : t < 0 ∨ (ws.length : Int) ≤ t) (hn : ws.length ≤ 6) (c r W : Int) (v : Value) :
    Calls Tryd.prog 146 #[.pointer (some ⟨B.bM, 0, none⟩), .int .i64 t, .agg #[.int .i64 c, .int .i64 r], .int .i64 W, v] w fun e w' => e = .returned (errV a 1) ∧ Mod noF w w' := by
  have hq0 := ((Mod.refl noF w).alloc (refBox c r))
  have hcall := pthread_bad (h.keep0 hq0) (E.keep hq0) t ht hn
  unfold errV at hcall
  have Hcall := Lib.hid hcall
  have Hq0 := Lib.hid hq0
  clear hcall h E hq0
  go_enter Tryd.func146, Tryd.ntmps146
  go_wp2_with fail
  refine Hcall.out.mono ?_
  rintro e w1 ⟨rfl, hm1⟩
  have Hm1 := Lib.hid (Hq0.out.trans0 hm1)
  clear hm1 Hcall
  go_wp2
  go_ret
  exact ⟨rfl, Hm1.out⟩
set_option maxHeartbeats 2000000 in
theorem palloc_thread (h : PMV w B l ws vs) (E : Errs4 w a) (t : Int) (ht : t < 0 ∨ (ws.length : Int) ≤ t) (hn : ws.length ≤ 6) :
    Calls Tryd.prog 29 #[.pointer (some ⟨B.bM, 0, none⟩), .int .i64 t] w fun e w' => e = .returned (.tuple #[.agg #[.int .i64 0, .int .i64 0], errV a 1]) ∧ Mod noF w w' := by
  have hq0 := (Mod.refl noF w).alloc (refBox 0 0)
  have hb := heap_alloc_new w (refBox 0 0)
  have hcall := pthread_bad (h.keep0 hq0) (E.keep hq0) t ht hn
  unfold errV at hcall
  have Hcall := Lib.hid hcall
  have Hq0 := Lib.hid hq0
  have Hb := Lib.hid hb
  clear hcall h E hq0 hb
  go_enter Tryd.func29, Tryd.ntmps29
  go_wp2_with fail
  refine Hcall.out.mono ?_
  rintro e w1 ⟨rfl, hm1⟩
  have hx1 := hm1.heap Hb.out (fun e => e)
  have c0 : w1.cell? ⟨w.heap.size, 0, none⟩ = some (.int .i64 0) := (cell_of_heap hx1 0).trans rfl
  have c1 : w1.cell? ⟨w.heap.size, 1, none⟩ = some (.int .i64 0) := (cell_of_heap hx1 1).trans rfl
  have f0 := free_of_heap hx1 0
  have f1 := free_of_heap hx1 1
  have hb1 := lt_of_block hx1
  have Hm1 := Lib.hid (Hq0.out.trans0 hm1)
  clear hm1 Hcall hx1
  go_wp2
  refine bodyPost_ret (v := .tuple #[.agg #[.int .i64 0, .int .i64 0], errV a 1]) (by simp [results, Tryd.results29, go_sem, c0, c1, errV]) rfl ⟨rfl, (Hm1.out.setCell (fun h => absurd h (Nat.lt_irrefl _)) _).setCell (fun h => absurd h (Nat.lt_irrefl _)) _⟩
set_option maxRecDepth 100000 in
set_option maxHeartbeats 2000000 in
theorem pload_thread (h : PMV w B l ws vs) (E : Errs4 w a) (t : Int) (ht : t < 0 ∨ (ws.length : Int) ≤ t) (hn : ws.length ≤ 6) (c r W_ : Int) :
    Calls Tryd.prog 34 #[.pointer (some ⟨B.bM, 0, none⟩), .int .i64 t, .agg #[.int .i64 c, .int .i64 r], .int .i64 W_] w fun e w' => e = .returned (.tuple #[.int .i64 0, errV a 1]) ∧ Mod noF w w' := by
  have hq0 := (((((Mod.refl noF w).alloc (refBox c r)).alloc (intBox W_)).alloc (intBox 0)).alloc (errBox .nilIface))
  obtain ⟨bx0, bx1, bx2, bx3⟩ := heap4 w (refBox c r) (intBox W_) (intBox 0) (errBox .nilIface)
  have hcall := pthread_bad (h.keep0 hq0) (E.keep hq0) t ht hn
  unfold errV at hcall
  have Hcall := Lib.hid hcall
  have Hq0 := Lib.hid hq0
  have Bx2 := Lib.hid bx2
  have Bx3 := Lib.hid bx3
  clear hcall h E hq0 bx0 bx1 bx2 bx3
  refine (callsIn_wide (n := 6)).1 ?_
  refine callsIn_of_wp_marks Tryd.func34 rfl trivial ?_ rfl
  refine wpIn_wide.2 ?_
  simp only [Tryd.ntmps34, List.size_toArray, List.length_cons, List.length_nil, Nat.reduceAdd, Nat.reduceSub, Array.replicate_succ, Array.replicate_zero, List.push_toArray, List.append_toArray, List.nil_append, List.cons_append]
  go_wp2_with fail
  refine Hcall.out.mono ?_
  rintro e w1 ⟨rfl, hm1⟩
  have hx2 := hm1.heap Bx2.out (fun e => e)
  have hx3 := hm1.heap Bx3.out (fun e => e)
  have y2 : w1.cell? ⟨w.heap.size + 1 + 1, 0, none⟩ = some (.int .i64 0) := (cell_of_heap hx2 0).trans rfl
  have y3 : w1.cell? ⟨w.heap.size + 1 + 1 + 1, 0, none⟩ = some .nilIface := (cell_of_heap hx3 0).trans rfl
  have f2 := free_of_heap hx2 0
  have f3 := free_of_heap hx3 0
  have yb2 := lt_of_block hx2
  have yb3 := lt_of_block hx3
  have Hm1 := Lib.hid (Hq0.out.trans0 hm1)
  clear hm1 Hcall hx2 hx3
  go_wp2
  refine leavesM_nil (v := .tuple #[.int .i64 0, errV a 1]) (by simp [results, Tryd.results34, go_sem, errV, y2, y3]) ⟨rfl, (Hm1.out.setCell (fun h => by simp at h; omega) _).setCell (fun h => by simp at h; omega) _⟩
end Go.Proofs.YtamfbfajlfbooaaDoor
end
/- quiescentlaw1.memoryAct: what its walks share. -/
section
namespace Go.Proofs.YtamfbfajlfbooaaDoor
open Go.RowKit Qs Qh
variable {b0 wr : World} {a : Nat → Addr} {B : PB} {tn bm k : Nat} {L : Lay} {m : M} {vs : List Value}
def actOk (b0 : World) (a : Nat → Addr) (B : PB) (tn bm k : Nat) (e : Ending) (w' : World) : Prop := e = .returned (.bool true) ∧ ∃ L m vs, MemRel b0 a B tn bm k L m vs w'
abbrev xBox (kind : ByteArray) (tt cc gg W V O : Int) : Obj := .cells #[.string kind, .int .i64 tt, .int .i64 cc, .int .i64 gg, .int .i64 W, .int .i64 V, .int .i64 O] 63
/-- The world behind the act's own box. -/
def wBox (wr : World) (kind : ByteArray) (tt cc gg W V O : Int) : World := wr.alloc (xBox kind tt cc gg W V O)
theorem coded_own' {w : World} {a : Nat → Addr} (E : ErrsAt w a) (e : Int) (h : 0 ≤ e ∧ e ≤ 9) : Calls Tryd.prog 38 #[errOf' a e, .int .i64 e] w fun r w' => r = .returned (.bool true) ∧ Mod noF w w' := coded_own E e h.1 h.2
/-- A word of the reference's memory, as it lies. -/
theorem wordFacts {w : World} (R : Rep ty memK w L m) (om : OkM 1000 m) (ol : OkL L m) {i j : Nat} {c : Cell} (hc : m.cells[i]? = some c) (hj : j < 4) :
    ∃ bc cap bw wc, w.cell? ⟨L.blk 1 0, 0, none⟩ = some (.slice (some ⟨bc, 0, none⟩) m.cells.length cap) ∧ w.cell? ⟨bc, i * 3, none⟩ = some (.slice (some ⟨bw, 0, none⟩) 4 wc) ∧ w.cell? ⟨bw, j, none⟩ = some (.int .i64 (c.words.getD j 0)) ∧ L.blk 1 0 < w.heap.size ∧ bc < w.heap.size ∧ bw < w.heap.size ∧ bc = L.blk 2 0 ∧ bw = L.blk 6 i := by
  obtain ⟨h1, -, -⟩ := R.cell_at rfl ol hc
  have hlen := (om.words i c hc).1
  rw [hlen] at h1
  exact ⟨_, _, _, _, R.cells_at rfl ol, h1, word_at R rfl ol hc (by omega), R.lt1 rfl, R.lt2 rfl ol, R.lt ⟨6, i, rfl, by rw [obj6 ty (ol.n6 i (List.getElem?_eq_some_iff.1 hc).1) hc]; rfl, rfl⟩, rfl, rfl⟩
/-- The act's program half. -/
def PAns (a : Nat → Addr) (B : PB) (vs : List Value) (wz : World) (l1 : List Cell) (ws1 : List (List Wt)) (v : Value) (e : Ending) (w' : World) : Prop := e = .returned v ∧ ∃ vs', PUp wz B vs w' l1 ws1 vs'
/-- The act's reference half. -/
def RAns (b0 : World) (a : Nat → Addr) (B : PB) (tn bm k : Nat) (vs' : List Value) (v : Value) (e : Ending) (w' : World) : Prop := e = .returned v ∧ ∃ L' m', MemRel b0 a B tn bm k L' m' vs' w'
end Go.Proofs.YtamfbfajlfbooaaDoor
end
/- quiescentlaw1.memoryAct. -/
section
namespace Go.Proofs.YtamfbfajlfbooaaDoor
open Go.RowKit Qs Qh
variable {b0 wr : World} {a : Nat → Addr} {B : PB} {tn bm k : Nat} {L : Lay} {m : M} {vs : List Value}
set_option maxRecDepth 100000 in
set_option maxHeartbeats 4000000 in
theorem act_drain (T : MemRel b0 a B tn bm k L m vs wr) (cc gg W V O : Int) {t : Nat} {q : List Wt} (hq : m.waits[t]? = some q) {code : Int} (hc : 0 ≤ code ∧ code ≤ 9) {l1 : List Cell} {ws1 : List (List Wt)}
    (hp : Calls Tryd.prog 33 #[.pointer (some ⟨B.bM, 0, none⟩), .int .i64 t] (wBox wr ⟨#[100, 114, 97, 105, 110]⟩ t cc gg W V O) (PAns a B vs (wBox wr ⟨#[100, 114, 97, 105, 110]⟩ t cc gg W V O) l1 ws1 (errOf' a code)))
    (hr : ∀ vs' w1, PUp (wBox wr ⟨#[100, 114, 97, 105, 110]⟩ t cc gg W V O) B vs w1 l1 ws1 vs' → Calls Tryd.prog 116 #[.pointer (some ⟨bm, 0, none⟩), .int .i64 t] w1 (RAns b0 a B tn bm (k + 1) vs' (.int .i64 code))) :
    Calls Tryd.prog 78 #[.pointer (some ⟨B.bM, 0, none⟩), .pointer (some ⟨bm, 0, none⟩), .agg #[.string ⟨#[100, 114, 97, 105, 110]⟩, .int .i64 t, .int .i64 cc, .int .i64 gg, .int .i64 W, .int .i64 V, .int .i64 O]] wr (actOk b0 a B tn bm (k + 1)) := by
  have hq0 := (Mod.refl noF wr).alloc (xBox ⟨#[100, 114, 97, 105, 110]⟩ (t : Int) cc gg W V O)
  have hT := T.keep hq0
  have hx := heap_alloc_new wr (xBox ⟨#[100, 114, 97, 105, 110]⟩ (t : Int) cc gg W V O)
  have hnP : ¬ PFoot B vs wr.heap.size := fun h => Nat.lt_irrefl _ (T.mem.lt h)
  have hth := rthread_any hT.rep rfl hT.om hT.ol ((t : Int))
  rw [hT.top] at hth
  unfold wBox at hp hr
  obtain ⟨wz, hwz⟩ : ∃ wz, wz = wr.alloc (xBox ⟨#[100, 114, 97, 105, 110]⟩ (t : Int) cc gg W V O) := ⟨_, rfl⟩
  rw [← hwz] at hT hx hth hp hr
  have dth : (decide ((0 : Int) ≤ ((t : Int))) && decide (((t : Int)) < (m.waits.length : Int))) = true := by
    have := (List.getElem?_eq_some_iff.1 hq).1; simp; omega
  rw [dth] at hth
  have x0 : wz.cell? ⟨wr.heap.size, 0, none⟩ = some (.string ⟨#[100, 114, 97, 105, 110]⟩) := (cell_of_heap hx 0).trans rfl
  have x1 : wz.cell? ⟨wr.heap.size, 1, none⟩ = some (.int .i64 (t : Int)) := (cell_of_heap hx 1).trans rfl
  have x2 : wz.cell? ⟨wr.heap.size, 2, none⟩ = some (.int .i64 cc) := (cell_of_heap hx 2).trans rfl
  have x3 : wz.cell? ⟨wr.heap.size, 3, none⟩ = some (.int .i64 gg) := (cell_of_heap hx 3).trans rfl
  have x4 : wz.cell? ⟨wr.heap.size, 4, none⟩ = some (.int .i64 W) := (cell_of_heap hx 4).trans rfl
  have x5 : wz.cell? ⟨wr.heap.size, 5, none⟩ = some (.int .i64 V) := (cell_of_heap hx 5).trans rfl
  have x6 : wz.cell? ⟨wr.heap.size, 6, none⟩ = some (.int .i64 O) := (cell_of_heap hx 6).trans rfl
  have xb := lt_of_block hx
  have HT := Lib.hid hT
  have Hth := Lib.hid hth
  have Hx := Lib.hid hx
  have HnP := Lib.hid hnP
  clear T hT hq0 hth dth hx hnP
  go_enter Tryd.func78, Tryd.ntmps78
  go_wp2_with fail
  rw [← hwz]
  refine Hth.out.mono ?_
  rintro e w' ⟨rfl, rfl⟩
  clear hwz Hth
  go_wp2_with fail
  refine hp.mono ?_
  clear hp
  rintro e w1 ⟨rfl, vs', hU⟩
  have hx1 := hU.heap HnP.out Hx.out
  have x0 : w1.cell? ⟨wr.heap.size, 0, none⟩ = some (.string ⟨#[100, 114, 97, 105, 110]⟩) := (cell_of_heap hx1 0).trans rfl
  have x1 : w1.cell? ⟨wr.heap.size, 1, none⟩ = some (.int .i64 t) := (cell_of_heap hx1 1).trans rfl
  have x2 : w1.cell? ⟨wr.heap.size, 2, none⟩ = some (.int .i64 cc) := (cell_of_heap hx1 2).trans rfl
  have x3 : w1.cell? ⟨wr.heap.size, 3, none⟩ = some (.int .i64 gg) := (cell_of_heap hx1 3).trans rfl
  have x4 : w1.cell? ⟨wr.heap.size, 4, none⟩ = some (.int .i64 W) := (cell_of_heap hx1 4).trans rfl
  have x5 : w1.cell? ⟨wr.heap.size, 5, none⟩ = some (.int .i64 V) := (cell_of_heap hx1 5).trans rfl
  have x6 : w1.cell? ⟨wr.heap.size, 6, none⟩ = some (.int .i64 O) := (cell_of_heap hx1 6).trans rfl
  have xb := lt_of_block hx1
  have hr1 := hr vs' w1 hU
  clear hr hU hx1
  go_wp2_with fail
  refine hr1.mono ?_
  clear hr1
  rintro e w2 ⟨rfl, L', m', hT2⟩
  have HT2 := Lib.hid hT2
  clear hT2
  go_wp2_with fail
  refine (coded_own' HT2.out.E code hc).mono ?_
  rintro e w3 ⟨rfl, hm3⟩
  have HT3 := Lib.hid (HT2.out.keep hm3)
  clear hm3
  go_wp2
  go_ret
  exact ⟨rfl, _, _, _, HT3.out⟩
end Go.Proofs.YtamfbfajlfbooaaDoor
end
/- quiescentlaw1.memoryAct. -/
section
namespace Go.Proofs.YtamfbfajlfbooaaDoor
open Go.RowKit Qs Qh
variable {b0 wr : World} {a : Nat → Addr} {B : PB} {tn bm k : Nat} {L : Lay} {m : M} {vs : List Value}
set_option maxRecDepth 100000 in
set_option maxHeartbeats 4000000 in
theorem act_store (T : MemRel b0 a B tn bm k L m vs wr) (cc gg W V O : Int) {t : Nat} {q : List Wt} (hq : m.waits[t]? = some q) {code : Int} (hc : 0 ≤ code ∧ code ≤ 9) {l1 : List Cell} {ws1 : List (List Wt)}
    (hp : Calls Tryd.prog 30 #[.pointer (some ⟨B.bM, 0, none⟩), .int .i64 t, .agg #[.int .i64 cc, .int .i64 gg], .int .i64 W, .int .i64 V] (wBox wr ⟨#[115, 116, 111, 114, 101]⟩ t cc gg W V O) (PAns a B vs (wBox wr ⟨#[115, 116, 111, 114, 101]⟩ t cc gg W V O) l1 ws1 (errOf' a code)))
    (hr : ∀ vs' w1, PUp (wBox wr ⟨#[115, 116, 111, 114, 101]⟩ t cc gg W V O) B vs w1 l1 ws1 vs' → Calls Tryd.prog 115 #[.pointer (some ⟨bm, 0, none⟩), .int .i64 t, .agg #[.int .i64 cc, .int .i64 gg], .int .i64 W, .int .i64 V] w1 (RAns b0 a B tn bm (k + 1) vs' (.int .i64 code))) :
    Calls Tryd.prog 78 #[.pointer (some ⟨B.bM, 0, none⟩), .pointer (some ⟨bm, 0, none⟩), .agg #[.string ⟨#[115, 116, 111, 114, 101]⟩, .int .i64 t, .int .i64 cc, .int .i64 gg, .int .i64 W, .int .i64 V, .int .i64 O]] wr (actOk b0 a B tn bm (k + 1)) := by
  have hq0 := (Mod.refl noF wr).alloc (xBox ⟨#[115, 116, 111, 114, 101]⟩ (t : Int) cc gg W V O)
  have hT := T.keep hq0
  have hx := heap_alloc_new wr (xBox ⟨#[115, 116, 111, 114, 101]⟩ (t : Int) cc gg W V O)
  have hnP : ¬ PFoot B vs wr.heap.size := fun h => Nat.lt_irrefl _ (T.mem.lt h)
  have hth := rthread_any hT.rep rfl hT.om hT.ol ((t : Int))
  rw [hT.top] at hth
  unfold wBox at hp hr
  obtain ⟨wz, hwz⟩ : ∃ wz, wz = wr.alloc (xBox ⟨#[115, 116, 111, 114, 101]⟩ (t : Int) cc gg W V O) := ⟨_, rfl⟩
  rw [← hwz] at hT hx hth hp hr
  have dth : (decide ((0 : Int) ≤ ((t : Int))) && decide (((t : Int)) < (m.waits.length : Int))) = true := by
    have := (List.getElem?_eq_some_iff.1 hq).1; simp; omega
  rw [dth] at hth
  have x0 : wz.cell? ⟨wr.heap.size, 0, none⟩ = some (.string ⟨#[115, 116, 111, 114, 101]⟩) := (cell_of_heap hx 0).trans rfl
  have x1 : wz.cell? ⟨wr.heap.size, 1, none⟩ = some (.int .i64 (t : Int)) := (cell_of_heap hx 1).trans rfl
  have x2 : wz.cell? ⟨wr.heap.size, 2, none⟩ = some (.int .i64 cc) := (cell_of_heap hx 2).trans rfl
  have x3 : wz.cell? ⟨wr.heap.size, 3, none⟩ = some (.int .i64 gg) := (cell_of_heap hx 3).trans rfl
  have x4 : wz.cell? ⟨wr.heap.size, 4, none⟩ = some (.int .i64 W) := (cell_of_heap hx 4).trans rfl
  have x5 : wz.cell? ⟨wr.heap.size, 5, none⟩ = some (.int .i64 V) := (cell_of_heap hx 5).trans rfl
  have x6 : wz.cell? ⟨wr.heap.size, 6, none⟩ = some (.int .i64 O) := (cell_of_heap hx 6).trans rfl
  have xb := lt_of_block hx
  have HT := Lib.hid hT
  have Hth := Lib.hid hth
  have Hx := Lib.hid hx
  have HnP := Lib.hid hnP
  clear T hT hq0 hth dth hx hnP
  go_enter Tryd.func78, Tryd.ntmps78
  go_wp2_with fail
  rw [← hwz]
  refine Hth.out.mono ?_
  rintro e w' ⟨rfl, rfl⟩
  clear hwz Hth
  go_wp2_with fail
  refine hp.mono ?_
  clear hp
  rintro e w1 ⟨rfl, vs', hU⟩
  have hx1 := hU.heap HnP.out Hx.out
  have x0 : w1.cell? ⟨wr.heap.size, 0, none⟩ = some (.string ⟨#[115, 116, 111, 114, 101]⟩) := (cell_of_heap hx1 0).trans rfl
  have x1 : w1.cell? ⟨wr.heap.size, 1, none⟩ = some (.int .i64 t) := (cell_of_heap hx1 1).trans rfl
  have x2 : w1.cell? ⟨wr.heap.size, 2, none⟩ = some (.int .i64 cc) := (cell_of_heap hx1 2).trans rfl
  have x3 : w1.cell? ⟨wr.heap.size, 3, none⟩ = some (.int .i64 gg) := (cell_of_heap hx1 3).trans rfl
  have x4 : w1.cell? ⟨wr.heap.size, 4, none⟩ = some (.int .i64 W) := (cell_of_heap hx1 4).trans rfl
  have x5 : w1.cell? ⟨wr.heap.size, 5, none⟩ = some (.int .i64 V) := (cell_of_heap hx1 5).trans rfl
  have x6 : w1.cell? ⟨wr.heap.size, 6, none⟩ = some (.int .i64 O) := (cell_of_heap hx1 6).trans rfl
  have xb := lt_of_block hx1
  have hr1 := hr vs' w1 hU
  clear hr hU hx1
  go_wp2_with fail
  refine hr1.mono ?_
  clear hr1
  rintro e w2 ⟨rfl, L', m', hT2⟩
  have HT2 := Lib.hid hT2
  clear hT2
  go_wp2_with fail
  refine (coded_own' HT2.out.E code hc).mono ?_
  rintro e w3 ⟨rfl, hm3⟩
  have HT3 := Lib.hid (HT2.out.keep hm3)
  clear hm3
  go_wp2
  go_ret
  exact ⟨rfl, _, _, _, HT3.out⟩
end Go.Proofs.YtamfbfajlfbooaaDoor
end
/- quiescentlaw1.memoryAct. -/
section
namespace Go.Proofs.YtamfbfajlfbooaaDoor
open Go.RowKit Qs Qh
variable {b0 wr : World} {a : Nat → Addr} {B : PB} {tn bm k : Nat} {L : Lay} {m : M} {vs : List Value}
set_option maxRecDepth 100000 in
set_option maxHeartbeats 4000000 in
theorem act_drain_thread (T : MemRel b0 a B tn bm k L m vs wr) (cc gg W V O : Int) {t : Int} (ht : t < 0 ∨ (m.waits.length : Int) ≤ t)
    (hp : Calls Tryd.prog 33 #[.pointer (some ⟨B.bM, 0, none⟩), .int .i64 t] (wBox wr ⟨#[100, 114, 97, 105, 110]⟩ t cc gg W V O) fun e w' => e = .returned (errOf' a 2) ∧ Mod noF (wBox wr ⟨#[100, 114, 97, 105, 110]⟩ t cc gg W V O) w') :
    Calls Tryd.prog 78 #[.pointer (some ⟨B.bM, 0, none⟩), .pointer (some ⟨bm, 0, none⟩), .agg #[.string ⟨#[100, 114, 97, 105, 110]⟩, .int .i64 t, .int .i64 cc, .int .i64 gg, .int .i64 W, .int .i64 V, .int .i64 O]] wr (actOk b0 a B tn bm (k + 1)) := by
  have hq0 := (Mod.refl noF wr).alloc (xBox ⟨#[100, 114, 97, 105, 110]⟩ t cc gg W V O)
  have hT := T.keep hq0
  have hx := heap_alloc_new wr (xBox ⟨#[100, 114, 97, 105, 110]⟩ t cc gg W V O)
  have hnP : ¬ PFoot B vs wr.heap.size := fun h => Nat.lt_irrefl _ (T.mem.lt h)
  have hth := rthread_any hT.rep rfl hT.om hT.ol (t)
  rw [hT.top] at hth
  unfold wBox at hp
  obtain ⟨wz, hwz⟩ : ∃ wz, wz = wr.alloc (xBox ⟨#[100, 114, 97, 105, 110]⟩ t cc gg W V O) := ⟨_, rfl⟩
  rw [← hwz] at hT hx hth hp
  have dth : (decide ((0 : Int) ≤ (t)) && decide ((t) < (m.waits.length : Int))) = false := by
    simp; omega
  rw [dth] at hth
  have x0 : wz.cell? ⟨wr.heap.size, 0, none⟩ = some (.string ⟨#[100, 114, 97, 105, 110]⟩) := (cell_of_heap hx 0).trans rfl
  have x1 : wz.cell? ⟨wr.heap.size, 1, none⟩ = some (.int .i64 t) := (cell_of_heap hx 1).trans rfl
  have x2 : wz.cell? ⟨wr.heap.size, 2, none⟩ = some (.int .i64 cc) := (cell_of_heap hx 2).trans rfl
  have x3 : wz.cell? ⟨wr.heap.size, 3, none⟩ = some (.int .i64 gg) := (cell_of_heap hx 3).trans rfl
  have x4 : wz.cell? ⟨wr.heap.size, 4, none⟩ = some (.int .i64 W) := (cell_of_heap hx 4).trans rfl
  have x5 : wz.cell? ⟨wr.heap.size, 5, none⟩ = some (.int .i64 V) := (cell_of_heap hx 5).trans rfl
  have x6 : wz.cell? ⟨wr.heap.size, 6, none⟩ = some (.int .i64 O) := (cell_of_heap hx 6).trans rfl
  have xb := lt_of_block hx
  have HT := Lib.hid hT
  have Hth := Lib.hid hth
  have Hx := Lib.hid hx
  have HnP := Lib.hid hnP
  clear T hT hq0 hth dth hx hnP
  go_enter Tryd.func78, Tryd.ntmps78
  go_wp2_with fail
  rw [← hwz]
  refine Hth.out.mono ?_
  rintro e w' ⟨rfl, rfl⟩
  clear hwz Hth
  go_wp2_with fail
  refine hp.mono ?_
  clear hp
  rintro e w1 ⟨rfl, hm1⟩
  have hx1 := hm1.heap Hx.out (fun e => e)
  have x0 : w1.cell? ⟨wr.heap.size, 0, none⟩ = some (.string ⟨#[100, 114, 97, 105, 110]⟩) := (cell_of_heap hx1 0).trans rfl
  have x1 : w1.cell? ⟨wr.heap.size, 1, none⟩ = some (.int .i64 t) := (cell_of_heap hx1 1).trans rfl
  have x2 : w1.cell? ⟨wr.heap.size, 2, none⟩ = some (.int .i64 cc) := (cell_of_heap hx1 2).trans rfl
  have x3 : w1.cell? ⟨wr.heap.size, 3, none⟩ = some (.int .i64 gg) := (cell_of_heap hx1 3).trans rfl
  have x4 : w1.cell? ⟨wr.heap.size, 4, none⟩ = some (.int .i64 W) := (cell_of_heap hx1 4).trans rfl
  have x5 : w1.cell? ⟨wr.heap.size, 5, none⟩ = some (.int .i64 V) := (cell_of_heap hx1 5).trans rfl
  have x6 : w1.cell? ⟨wr.heap.size, 6, none⟩ = some (.int .i64 O) := (cell_of_heap hx1 6).trans rfl
  have xb := lt_of_block hx1
  have HT2 := Lib.hid (HT.out.keep hm1)
  clear hx1 hm1
  go_wp2_with fail
  refine (coded_own' HT2.out.E 2 (by omega)).mono ?_
  rintro e w3 ⟨rfl, hm3⟩
  have HT3 := Lib.hid ((HT2.out.keep hm3).up (Nat.le_succ k))
  clear hm3
  go_wp2
  go_ret
  exact ⟨rfl, _, _, _, HT3.out⟩
end Go.Proofs.YtamfbfajlfbooaaDoor
end
/- quiescentlaw1.memoryAct. -/
section
namespace Go.Proofs.YtamfbfajlfbooaaDoor
open Go.RowKit Qs Qh
variable {b0 wr : World} {a : Nat → Addr} {B : PB} {tn bm k : Nat} {L : Lay} {m : M} {vs : List Value}
set_option maxRecDepth 100000 in
set_option maxHeartbeats 4000000 in
theorem act_store_thread (T : MemRel b0 a B tn bm k L m vs wr) (cc gg W V O : Int) {t : Int} (ht : t < 0 ∨ (m.waits.length : Int) ≤ t)
    (hp : Calls Tryd.prog 30 #[.pointer (some ⟨B.bM, 0, none⟩), .int .i64 t, .agg #[.int .i64 cc, .int .i64 gg], .int .i64 W, .int .i64 V] (wBox wr ⟨#[115, 116, 111, 114, 101]⟩ t cc gg W V O) fun e w' => e = .returned (errOf' a 2) ∧ Mod noF (wBox wr ⟨#[115, 116, 111, 114, 101]⟩ t cc gg W V O) w') :
    Calls Tryd.prog 78 #[.pointer (some ⟨B.bM, 0, none⟩), .pointer (some ⟨bm, 0, none⟩), .agg #[.string ⟨#[115, 116, 111, 114, 101]⟩, .int .i64 t, .int .i64 cc, .int .i64 gg, .int .i64 W, .int .i64 V, .int .i64 O]] wr (actOk b0 a B tn bm (k + 1)) := by
  have hq0 := (Mod.refl noF wr).alloc (xBox ⟨#[115, 116, 111, 114, 101]⟩ t cc gg W V O)
  have hT := T.keep hq0
  have hx := heap_alloc_new wr (xBox ⟨#[115, 116, 111, 114, 101]⟩ t cc gg W V O)
  have hnP : ¬ PFoot B vs wr.heap.size := fun h => Nat.lt_irrefl _ (T.mem.lt h)
  have hth := rthread_any hT.rep rfl hT.om hT.ol (t)
  rw [hT.top] at hth
  unfold wBox at hp
  obtain ⟨wz, hwz⟩ : ∃ wz, wz = wr.alloc (xBox ⟨#[115, 116, 111, 114, 101]⟩ t cc gg W V O) := ⟨_, rfl⟩
  rw [← hwz] at hT hx hth hp
  have dth : (decide ((0 : Int) ≤ (t)) && decide ((t) < (m.waits.length : Int))) = false := by
    simp; omega
  rw [dth] at hth
  have x0 : wz.cell? ⟨wr.heap.size, 0, none⟩ = some (.string ⟨#[115, 116, 111, 114, 101]⟩) := (cell_of_heap hx 0).trans rfl
  have x1 : wz.cell? ⟨wr.heap.size, 1, none⟩ = some (.int .i64 t) := (cell_of_heap hx 1).trans rfl
  have x2 : wz.cell? ⟨wr.heap.size, 2, none⟩ = some (.int .i64 cc) := (cell_of_heap hx 2).trans rfl
  have x3 : wz.cell? ⟨wr.heap.size, 3, none⟩ = some (.int .i64 gg) := (cell_of_heap hx 3).trans rfl
  have x4 : wz.cell? ⟨wr.heap.size, 4, none⟩ = some (.int .i64 W) := (cell_of_heap hx 4).trans rfl
  have x5 : wz.cell? ⟨wr.heap.size, 5, none⟩ = some (.int .i64 V) := (cell_of_heap hx 5).trans rfl
  have x6 : wz.cell? ⟨wr.heap.size, 6, none⟩ = some (.int .i64 O) := (cell_of_heap hx 6).trans rfl
  have xb := lt_of_block hx
  have HT := Lib.hid hT
  have Hth := Lib.hid hth
  have Hx := Lib.hid hx
  have HnP := Lib.hid hnP
  clear T hT hq0 hth dth hx hnP
  go_enter Tryd.func78, Tryd.ntmps78
  go_wp2_with fail
  rw [← hwz]
  refine Hth.out.mono ?_
  rintro e w' ⟨rfl, rfl⟩
  clear hwz Hth
  go_wp2_with fail
  refine hp.mono ?_
  clear hp
  rintro e w1 ⟨rfl, hm1⟩
  have hx1 := hm1.heap Hx.out (fun e => e)
  have x0 : w1.cell? ⟨wr.heap.size, 0, none⟩ = some (.string ⟨#[115, 116, 111, 114, 101]⟩) := (cell_of_heap hx1 0).trans rfl
  have x1 : w1.cell? ⟨wr.heap.size, 1, none⟩ = some (.int .i64 t) := (cell_of_heap hx1 1).trans rfl
  have x2 : w1.cell? ⟨wr.heap.size, 2, none⟩ = some (.int .i64 cc) := (cell_of_heap hx1 2).trans rfl
  have x3 : w1.cell? ⟨wr.heap.size, 3, none⟩ = some (.int .i64 gg) := (cell_of_heap hx1 3).trans rfl
  have x4 : w1.cell? ⟨wr.heap.size, 4, none⟩ = some (.int .i64 W) := (cell_of_heap hx1 4).trans rfl
  have x5 : w1.cell? ⟨wr.heap.size, 5, none⟩ = some (.int .i64 V) := (cell_of_heap hx1 5).trans rfl
  have x6 : w1.cell? ⟨wr.heap.size, 6, none⟩ = some (.int .i64 O) := (cell_of_heap hx1 6).trans rfl
  have xb := lt_of_block hx1
  have HT2 := Lib.hid (HT.out.keep hm1)
  clear hx1 hm1
  go_wp2_with fail
  refine (coded_own' HT2.out.E 2 (by omega)).mono ?_
  rintro e w3 ⟨rfl, hm3⟩
  have HT3 := Lib.hid ((HT2.out.keep hm3).up (Nat.le_succ k))
  clear hm3
  go_wp2
  go_ret
  exact ⟨rfl, _, _, _, HT3.out⟩
end Go.Proofs.YtamfbfajlfbooaaDoor
end
/- quiescentlaw1.memoryAct. -/
section
namespace Go.Proofs.YtamfbfajlfbooaaDoor
open Go.RowKit Qs Qh
variable {b0 wr : World} {a : Nat → Addr} {B : PB} {tn bm k : Nat} {L : Lay} {m : M} {vs : List Value}
set_option maxRecDepth 100000 in
set_option maxHeartbeats 4000000 in
theorem act_load (T : MemRel b0 a B tn bm k L m vs wr) (cc gg W V O : Int) {t : Nat} {q : List Wt} (hq : m.waits[t]? = some q) {code n : Int} (hc : 0 ≤ code ∧ code ≤ 9) {l1 : List Cell} {ws1 : List (List Wt)}
    (hp : Calls Tryd.prog 34 #[.pointer (some ⟨B.bM, 0, none⟩), .int .i64 t, .agg #[.int .i64 cc, .int .i64 gg], .int .i64 W] (wBox wr ⟨#[108, 111, 97, 100]⟩ t cc gg W V O) (PAns a B vs (wBox wr ⟨#[108, 111, 97, 100]⟩ t cc gg W V O) l1 ws1 (.tuple #[.int .i64 n, errOf' a code])))
    (hr : ∀ vs' w1, PUp (wBox wr ⟨#[108, 111, 97, 100]⟩ t cc gg W V O) B vs w1 l1 ws1 vs' → Calls Tryd.prog 71 #[.pointer (some ⟨bm, 0, none⟩), .int .i64 t, .agg #[.int .i64 cc, .int .i64 gg], .int .i64 W] w1 (RAns b0 a B tn bm (k + 1) vs' (.tuple #[.int .i64 n, .int .i64 code]))) :
    Calls Tryd.prog 78 #[.pointer (some ⟨B.bM, 0, none⟩), .pointer (some ⟨bm, 0, none⟩), .agg #[.string ⟨#[108, 111, 97, 100]⟩, .int .i64 t, .int .i64 cc, .int .i64 gg, .int .i64 W, .int .i64 V, .int .i64 O]] wr (actOk b0 a B tn bm (k + 1)) := by
  have hq0 := (Mod.refl noF wr).alloc (xBox ⟨#[108, 111, 97, 100]⟩ (t : Int) cc gg W V O)
  have hT := T.keep hq0
  have hx := heap_alloc_new wr (xBox ⟨#[108, 111, 97, 100]⟩ (t : Int) cc gg W V O)
  have hnP : ¬ PFoot B vs wr.heap.size := fun h => Nat.lt_irrefl _ (T.mem.lt h)
  have hth := rthread_any hT.rep rfl hT.om hT.ol ((t : Int))
  rw [hT.top] at hth
  unfold wBox at hp hr
  obtain ⟨wz, hwz⟩ : ∃ wz, wz = wr.alloc (xBox ⟨#[108, 111, 97, 100]⟩ (t : Int) cc gg W V O) := ⟨_, rfl⟩
  rw [← hwz] at hT hx hth hp hr
  have dth : (decide ((0 : Int) ≤ ((t : Int))) && decide (((t : Int)) < (m.waits.length : Int))) = true := by
    have := (List.getElem?_eq_some_iff.1 hq).1; simp; omega
  rw [dth] at hth
  have x0 : wz.cell? ⟨wr.heap.size, 0, none⟩ = some (.string ⟨#[108, 111, 97, 100]⟩) := (cell_of_heap hx 0).trans rfl
  have x1 : wz.cell? ⟨wr.heap.size, 1, none⟩ = some (.int .i64 (t : Int)) := (cell_of_heap hx 1).trans rfl
  have x2 : wz.cell? ⟨wr.heap.size, 2, none⟩ = some (.int .i64 cc) := (cell_of_heap hx 2).trans rfl
  have x3 : wz.cell? ⟨wr.heap.size, 3, none⟩ = some (.int .i64 gg) := (cell_of_heap hx 3).trans rfl
  have x4 : wz.cell? ⟨wr.heap.size, 4, none⟩ = some (.int .i64 W) := (cell_of_heap hx 4).trans rfl
  have x5 : wz.cell? ⟨wr.heap.size, 5, none⟩ = some (.int .i64 V) := (cell_of_heap hx 5).trans rfl
  have x6 : wz.cell? ⟨wr.heap.size, 6, none⟩ = some (.int .i64 O) := (cell_of_heap hx 6).trans rfl
  have xb := lt_of_block hx
  have HT := Lib.hid hT
  have Hth := Lib.hid hth
  have Hx := Lib.hid hx
  have HnP := Lib.hid hnP
  clear T hT hq0 hth dth hx hnP
  go_enter Tryd.func78, Tryd.ntmps78
  go_wp2_with fail
  rw [← hwz]
  refine Hth.out.mono ?_
  rintro e w' ⟨rfl, rfl⟩
  clear hwz Hth
  go_wp2_with fail
  refine hp.mono ?_
  clear hp
  rintro e w1 ⟨rfl, vs', hU⟩
  have hx1 := hU.heap HnP.out Hx.out
  have x0 : w1.cell? ⟨wr.heap.size, 0, none⟩ = some (.string ⟨#[108, 111, 97, 100]⟩) := (cell_of_heap hx1 0).trans rfl
  have x1 : w1.cell? ⟨wr.heap.size, 1, none⟩ = some (.int .i64 t) := (cell_of_heap hx1 1).trans rfl
  have x2 : w1.cell? ⟨wr.heap.size, 2, none⟩ = some (.int .i64 cc) := (cell_of_heap hx1 2).trans rfl
  have x3 : w1.cell? ⟨wr.heap.size, 3, none⟩ = some (.int .i64 gg) := (cell_of_heap hx1 3).trans rfl
  have x4 : w1.cell? ⟨wr.heap.size, 4, none⟩ = some (.int .i64 W) := (cell_of_heap hx1 4).trans rfl
  have x5 : w1.cell? ⟨wr.heap.size, 5, none⟩ = some (.int .i64 V) := (cell_of_heap hx1 5).trans rfl
  have x6 : w1.cell? ⟨wr.heap.size, 6, none⟩ = some (.int .i64 O) := (cell_of_heap hx1 6).trans rfl
  have xb := lt_of_block hx1
  have hr1 := hr vs' w1 hU
  clear hr hU hx1
  go_wp2_with fail
  refine hr1.mono ?_
  clear hr1
  rintro e w2 ⟨rfl, L', m', hT2⟩
  have HT2 := Lib.hid hT2
  clear hT2
  go_wp2_with fail
  refine (coded_own' HT2.out.E code hc).mono ?_
  rintro e w3 ⟨rfl, hm3⟩
  have HT3 := Lib.hid (HT2.out.keep hm3)
  clear hm3
  have dn : decide (n = n) = true := by simp
  go_wp2
  go_ret
  exact ⟨rfl, _, _, _, HT3.out⟩
end Go.Proofs.YtamfbfajlfbooaaDoor
end
/- quiescentlaw1.memoryAct. -/
section
namespace Go.Proofs.YtamfbfajlfbooaaDoor
open Go.RowKit Qs Qh
variable {b0 wr : World} {a : Nat → Addr} {B : PB} {tn bm k : Nat} {L : Lay} {m : M} {vs : List Value}
set_option maxRecDepth 100000 in
set_option maxHeartbeats 4000000 in
theorem act_load_thread (T : MemRel b0 a B tn bm k L m vs wr) (cc gg W V O : Int) {t : Int} (ht : t < 0 ∨ (m.waits.length : Int) ≤ t)
    (hp : Calls Tryd.prog 34 #[.pointer (some ⟨B.bM, 0, none⟩), .int .i64 t, .agg #[.int .i64 cc, .int .i64 gg], .int .i64 W] (wBox wr ⟨#[108, 111, 97, 100]⟩ t cc gg W V O) fun e w' => e = .returned (.tuple #[.int .i64 0, errOf' a 2]) ∧ Mod noF (wBox wr ⟨#[108, 111, 97, 100]⟩ t cc gg W V O) w') :
    Calls Tryd.prog 78 #[.pointer (some ⟨B.bM, 0, none⟩), .pointer (some ⟨bm, 0, none⟩), .agg #[.string ⟨#[108, 111, 97, 100]⟩, .int .i64 t, .int .i64 cc, .int .i64 gg, .int .i64 W, .int .i64 V, .int .i64 O]] wr (actOk b0 a B tn bm (k + 1)) := by
  have hq0 := (Mod.refl noF wr).alloc (xBox ⟨#[108, 111, 97, 100]⟩ t cc gg W V O)
  have hT := T.keep hq0
  have hx := heap_alloc_new wr (xBox ⟨#[108, 111, 97, 100]⟩ t cc gg W V O)
  have hnP : ¬ PFoot B vs wr.heap.size := fun h => Nat.lt_irrefl _ (T.mem.lt h)
  have hth := rthread_any hT.rep rfl hT.om hT.ol (t)
  rw [hT.top] at hth
  unfold wBox at hp
  obtain ⟨wz, hwz⟩ : ∃ wz, wz = wr.alloc (xBox ⟨#[108, 111, 97, 100]⟩ t cc gg W V O) := ⟨_, rfl⟩
  rw [← hwz] at hT hx hth hp
  have dth : (decide ((0 : Int) ≤ (t)) && decide ((t) < (m.waits.length : Int))) = false := by
    simp; omega
  rw [dth] at hth
  have x0 : wz.cell? ⟨wr.heap.size, 0, none⟩ = some (.string ⟨#[108, 111, 97, 100]⟩) := (cell_of_heap hx 0).trans rfl
  have x1 : wz.cell? ⟨wr.heap.size, 1, none⟩ = some (.int .i64 t) := (cell_of_heap hx 1).trans rfl
  have x2 : wz.cell? ⟨wr.heap.size, 2, none⟩ = some (.int .i64 cc) := (cell_of_heap hx 2).trans rfl
  have x3 : wz.cell? ⟨wr.heap.size, 3, none⟩ = some (.int .i64 gg) := (cell_of_heap hx 3).trans rfl
  have x4 : wz.cell? ⟨wr.heap.size, 4, none⟩ = some (.int .i64 W) := (cell_of_heap hx 4).trans rfl
  have x5 : wz.cell? ⟨wr.heap.size, 5, none⟩ = some (.int .i64 V) := (cell_of_heap hx 5).trans rfl
  have x6 : wz.cell? ⟨wr.heap.size, 6, none⟩ = some (.int .i64 O) := (cell_of_heap hx 6).trans rfl
  have xb := lt_of_block hx
  have HT := Lib.hid hT
  have Hth := Lib.hid hth
  have Hx := Lib.hid hx
  have HnP := Lib.hid hnP
  clear T hT hq0 hth dth hx hnP
  go_enter Tryd.func78, Tryd.ntmps78
  go_wp2_with fail
  rw [← hwz]
  refine Hth.out.mono ?_
  rintro e w' ⟨rfl, rfl⟩
  clear hwz Hth
  go_wp2_with fail
  refine hp.mono ?_
  clear hp
  rintro e w1 ⟨rfl, hm1⟩
  have hx1 := hm1.heap Hx.out (fun e => e)
  have x0 : w1.cell? ⟨wr.heap.size, 0, none⟩ = some (.string ⟨#[108, 111, 97, 100]⟩) := (cell_of_heap hx1 0).trans rfl
  have x1 : w1.cell? ⟨wr.heap.size, 1, none⟩ = some (.int .i64 t) := (cell_of_heap hx1 1).trans rfl
  have x2 : w1.cell? ⟨wr.heap.size, 2, none⟩ = some (.int .i64 cc) := (cell_of_heap hx1 2).trans rfl
  have x3 : w1.cell? ⟨wr.heap.size, 3, none⟩ = some (.int .i64 gg) := (cell_of_heap hx1 3).trans rfl
  have x4 : w1.cell? ⟨wr.heap.size, 4, none⟩ = some (.int .i64 W) := (cell_of_heap hx1 4).trans rfl
  have x5 : w1.cell? ⟨wr.heap.size, 5, none⟩ = some (.int .i64 V) := (cell_of_heap hx1 5).trans rfl
  have x6 : w1.cell? ⟨wr.heap.size, 6, none⟩ = some (.int .i64 O) := (cell_of_heap hx1 6).trans rfl
  have xb := lt_of_block hx1
  have HT2 := Lib.hid (HT.out.keep hm1)
  clear hx1 hm1
  go_wp2_with fail
  refine (coded_own' HT2.out.E 2 (by omega)).mono ?_
  rintro e w3 ⟨rfl, hm3⟩
  have HT3 := Lib.hid ((HT2.out.keep hm3).up (Nat.le_succ k))
  clear hm3
  go_wp2
  go_ret
  exact ⟨rfl, _, _, _, HT3.out⟩
end Go.Proofs.YtamfbfajlfbooaaDoor
end
/- quiescentlaw1.memoryAct. -/
section
namespace Go.Proofs.YtamfbfajlfbooaaDoor
open Go.RowKit Qs Qh
variable {b0 wr : World} {a : Nat → Addr} {B : PB} {tn bm k : Nat} {L : Lay} {m : M} {vs : List Value}
set_option maxRecDepth 100000 in
set_option maxHeartbeats 4000000 in
theorem act_fence (T : MemRel b0 a B tn bm k L m vs wr) (cc gg W V O : Int) {t : Nat} {q : List Wt} (hq : m.waits[t]? = some q) {n : Nat} {l1 : List Cell} {ws1 : List (List Wt)}
    (hp : Calls Tryd.prog 35 #[.pointer (some ⟨B.bM, 0, none⟩), .int .i64 t] (wBox wr ⟨#[102, 101, 110, 99, 101]⟩ t cc gg W V O) (PAns a B vs (wBox wr ⟨#[102, 101, 110, 99, 101]⟩ t cc gg W V O) l1 ws1 (errOf' a (if n = 0 then 0 else 7))))
    (hr : ∀ vs' w1, PUp (wBox wr ⟨#[102, 101, 110, 99, 101]⟩ t cc gg W V O) B vs w1 l1 ws1 vs' → Calls Tryd.prog 112 #[.pointer (some ⟨bm, 0, none⟩), .int .i64 t] w1 (RAns b0 a B tn bm (k + 1) vs' (.int .i64 n))) :
    Calls Tryd.prog 78 #[.pointer (some ⟨B.bM, 0, none⟩), .pointer (some ⟨bm, 0, none⟩), .agg #[.string ⟨#[102, 101, 110, 99, 101]⟩, .int .i64 t, .int .i64 cc, .int .i64 gg, .int .i64 W, .int .i64 V, .int .i64 O]] wr (actOk b0 a B tn bm (k + 1)) := by
  have hq0 := (Mod.refl noF wr).alloc (xBox ⟨#[102, 101, 110, 99, 101]⟩ (t : Int) cc gg W V O)
  have hT := T.keep hq0
  have hx := heap_alloc_new wr (xBox ⟨#[102, 101, 110, 99, 101]⟩ (t : Int) cc gg W V O)
  have hnP : ¬ PFoot B vs wr.heap.size := fun h => Nat.lt_irrefl _ (T.mem.lt h)
  have hth := rthread_any hT.rep rfl hT.om hT.ol ((t : Int))
  rw [hT.top] at hth
  unfold wBox at hp hr
  obtain ⟨wz, hwz⟩ : ∃ wz, wz = wr.alloc (xBox ⟨#[102, 101, 110, 99, 101]⟩ (t : Int) cc gg W V O) := ⟨_, rfl⟩
  rw [← hwz] at hT hx hth hp hr
  have dth : (decide ((0 : Int) ≤ ((t : Int))) && decide (((t : Int)) < (m.waits.length : Int))) = true := by
    have := (List.getElem?_eq_some_iff.1 hq).1; simp; omega
  rw [dth] at hth
  have x0 : wz.cell? ⟨wr.heap.size, 0, none⟩ = some (.string ⟨#[102, 101, 110, 99, 101]⟩) := (cell_of_heap hx 0).trans rfl
  have x1 : wz.cell? ⟨wr.heap.size, 1, none⟩ = some (.int .i64 (t : Int)) := (cell_of_heap hx 1).trans rfl
  have x2 : wz.cell? ⟨wr.heap.size, 2, none⟩ = some (.int .i64 cc) := (cell_of_heap hx 2).trans rfl
  have x3 : wz.cell? ⟨wr.heap.size, 3, none⟩ = some (.int .i64 gg) := (cell_of_heap hx 3).trans rfl
  have x4 : wz.cell? ⟨wr.heap.size, 4, none⟩ = some (.int .i64 W) := (cell_of_heap hx 4).trans rfl
  have x5 : wz.cell? ⟨wr.heap.size, 5, none⟩ = some (.int .i64 V) := (cell_of_heap hx 5).trans rfl
  have x6 : wz.cell? ⟨wr.heap.size, 6, none⟩ = some (.int .i64 O) := (cell_of_heap hx 6).trans rfl
  have xb := lt_of_block hx
  have HT := Lib.hid hT
  have Hth := Lib.hid hth
  have Hx := Lib.hid hx
  have HnP := Lib.hid hnP
  clear T hT hq0 hth dth hx hnP
  go_enter Tryd.func78, Tryd.ntmps78
  go_wp2_with fail
  rw [← hwz]
  refine Hth.out.mono ?_
  rintro e w' ⟨rfl, rfl⟩
  clear hwz Hth
  go_wp2_with fail
  by_cases h0 : n = 0
  · subst h0
    rw [if_pos rfl] at hp
    refine hp.mono ?_
    clear hp
    rintro e w1 ⟨rfl, vs', hU⟩
    have hx1 := hU.heap HnP.out Hx.out
    have x0 : w1.cell? ⟨wr.heap.size, 0, none⟩ = some (.string ⟨#[102, 101, 110, 99, 101]⟩) := (cell_of_heap hx1 0).trans rfl
    have x1 : w1.cell? ⟨wr.heap.size, 1, none⟩ = some (.int .i64 t) := (cell_of_heap hx1 1).trans rfl
    have x2 : w1.cell? ⟨wr.heap.size, 2, none⟩ = some (.int .i64 cc) := (cell_of_heap hx1 2).trans rfl
    have x3 : w1.cell? ⟨wr.heap.size, 3, none⟩ = some (.int .i64 gg) := (cell_of_heap hx1 3).trans rfl
    have x4 : w1.cell? ⟨wr.heap.size, 4, none⟩ = some (.int .i64 W) := (cell_of_heap hx1 4).trans rfl
    have x5 : w1.cell? ⟨wr.heap.size, 5, none⟩ = some (.int .i64 V) := (cell_of_heap hx1 5).trans rfl
    have x6 : w1.cell? ⟨wr.heap.size, 6, none⟩ = some (.int .i64 O) := (cell_of_heap hx1 6).trans rfl
    have xb := lt_of_block hx1
    have hr1 := hr vs' w1 hU
    clear hr hU hx1
    go_wp2_with fail
    refine hr1.mono ?_
    clear hr1
    rintro e w2 ⟨rfl, L', m', hT2⟩
    have HT2 := Lib.hid hT2
    clear hT2
    go_wp2_with fail
    refine (coded_own' HT2.out.E 0 (by omega)).mono ?_
    rintro e w3 ⟨rfl, hm3⟩
    have HT3 := Lib.hid (HT2.out.keep hm3)
    clear hm3
    go_wp2
    go_ret
    exact ⟨rfl, _, _, _, HT3.out⟩
  · rw [if_neg h0] at hp
    have d0 : decide ((0 : Int) < (n : Int)) = true := by simp; omega
    have d0' : (0 : Int) < (n : Int) := by omega
    refine hp.mono ?_
    clear hp
    rintro e w1 ⟨rfl, vs', hU⟩
    have hx1 := hU.heap HnP.out Hx.out
    have x0 : w1.cell? ⟨wr.heap.size, 0, none⟩ = some (.string ⟨#[102, 101, 110, 99, 101]⟩) := (cell_of_heap hx1 0).trans rfl
    have x1 : w1.cell? ⟨wr.heap.size, 1, none⟩ = some (.int .i64 t) := (cell_of_heap hx1 1).trans rfl
    have x2 : w1.cell? ⟨wr.heap.size, 2, none⟩ = some (.int .i64 cc) := (cell_of_heap hx1 2).trans rfl
    have x3 : w1.cell? ⟨wr.heap.size, 3, none⟩ = some (.int .i64 gg) := (cell_of_heap hx1 3).trans rfl
    have x4 : w1.cell? ⟨wr.heap.size, 4, none⟩ = some (.int .i64 W) := (cell_of_heap hx1 4).trans rfl
    have x5 : w1.cell? ⟨wr.heap.size, 5, none⟩ = some (.int .i64 V) := (cell_of_heap hx1 5).trans rfl
    have x6 : w1.cell? ⟨wr.heap.size, 6, none⟩ = some (.int .i64 O) := (cell_of_heap hx1 6).trans rfl
    have xb := lt_of_block hx1
    have hr1 := hr vs' w1 hU
    clear hr hU hx1
    go_wp2_with fail
    refine hr1.mono ?_
    clear hr1
    rintro e w2 ⟨rfl, L', m', hT2⟩
    have HT2 := Lib.hid hT2
    clear hT2
    go_wp2_with fail
    refine (coded_own' HT2.out.E 7 (by omega)).mono ?_
    rintro e w3 ⟨rfl, hm3⟩
    have HT3 := Lib.hid (HT2.out.keep hm3)
    clear hm3
    go_wp2
    go_ret
    exact ⟨rfl, _, _, _, HT3.out⟩
end Go.Proofs.YtamfbfajlfbooaaDoor
end
/- quiescentlaw1.memoryAct. -/
section
namespace Go.Proofs.YtamfbfajlfbooaaDoor
open Go.RowKit Qs Qh
variable {b0 wr : World} {a : Nat → Addr} {B : PB} {tn bm k : Nat} {L : Lay} {m : M} {vs : List Value}
set_option maxRecDepth 100000 in
set_option maxHeartbeats 4000000 in
theorem act_fence_thread (T : MemRel b0 a B tn bm k L m vs wr) (cc gg W V O : Int) {t : Int} (ht : t < 0 ∨ (m.waits.length : Int) ≤ t)
    (hp : Calls Tryd.prog 35 #[.pointer (some ⟨B.bM, 0, none⟩), .int .i64 t] (wBox wr ⟨#[102, 101, 110, 99, 101]⟩ t cc gg W V O) fun e w' => e = .returned (errOf' a 2) ∧ Mod noF (wBox wr ⟨#[102, 101, 110, 99, 101]⟩ t cc gg W V O) w') :
    Calls Tryd.prog 78 #[.pointer (some ⟨B.bM, 0, none⟩), .pointer (some ⟨bm, 0, none⟩), .agg #[.string ⟨#[102, 101, 110, 99, 101]⟩, .int .i64 t, .int .i64 cc, .int .i64 gg, .int .i64 W, .int .i64 V, .int .i64 O]] wr (actOk b0 a B tn bm (k + 1)) := by
  have hq0 := (Mod.refl noF wr).alloc (xBox ⟨#[102, 101, 110, 99, 101]⟩ t cc gg W V O)
  have hT := T.keep hq0
  have hx := heap_alloc_new wr (xBox ⟨#[102, 101, 110, 99, 101]⟩ t cc gg W V O)
  have hnP : ¬ PFoot B vs wr.heap.size := fun h => Nat.lt_irrefl _ (T.mem.lt h)
  have hth := rthread_any hT.rep rfl hT.om hT.ol (t)
  rw [hT.top] at hth
  unfold wBox at hp
  obtain ⟨wz, hwz⟩ : ∃ wz, wz = wr.alloc (xBox ⟨#[102, 101, 110, 99, 101]⟩ t cc gg W V O) := ⟨_, rfl⟩
  rw [← hwz] at hT hx hth hp
  have dth : (decide ((0 : Int) ≤ (t)) && decide ((t) < (m.waits.length : Int))) = false := by
    simp; omega
  rw [dth] at hth
  have x0 : wz.cell? ⟨wr.heap.size, 0, none⟩ = some (.string ⟨#[102, 101, 110, 99, 101]⟩) := (cell_of_heap hx 0).trans rfl
  have x1 : wz.cell? ⟨wr.heap.size, 1, none⟩ = some (.int .i64 t) := (cell_of_heap hx 1).trans rfl
  have x2 : wz.cell? ⟨wr.heap.size, 2, none⟩ = some (.int .i64 cc) := (cell_of_heap hx 2).trans rfl
  have x3 : wz.cell? ⟨wr.heap.size, 3, none⟩ = some (.int .i64 gg) := (cell_of_heap hx 3).trans rfl
  have x4 : wz.cell? ⟨wr.heap.size, 4, none⟩ = some (.int .i64 W) := (cell_of_heap hx 4).trans rfl
  have x5 : wz.cell? ⟨wr.heap.size, 5, none⟩ = some (.int .i64 V) := (cell_of_heap hx 5).trans rfl
  have x6 : wz.cell? ⟨wr.heap.size, 6, none⟩ = some (.int .i64 O) := (cell_of_heap hx 6).trans rfl
  have xb := lt_of_block hx
  have HT := Lib.hid hT
  have Hth := Lib.hid hth
  have Hx := Lib.hid hx
  have HnP := Lib.hid hnP
  clear T hT hq0 hth dth hx hnP
  go_enter Tryd.func78, Tryd.ntmps78
  go_wp2_with fail
  rw [← hwz]
  refine Hth.out.mono ?_
  rintro e w' ⟨rfl, rfl⟩
  clear hwz Hth
  go_wp2_with fail
  refine hp.mono ?_
  clear hp
  rintro e w1 ⟨rfl, hm1⟩
  have hx1 := hm1.heap Hx.out (fun e => e)
  have x0 : w1.cell? ⟨wr.heap.size, 0, none⟩ = some (.string ⟨#[102, 101, 110, 99, 101]⟩) := (cell_of_heap hx1 0).trans rfl
  have x1 : w1.cell? ⟨wr.heap.size, 1, none⟩ = some (.int .i64 t) := (cell_of_heap hx1 1).trans rfl
  have x2 : w1.cell? ⟨wr.heap.size, 2, none⟩ = some (.int .i64 cc) := (cell_of_heap hx1 2).trans rfl
  have x3 : w1.cell? ⟨wr.heap.size, 3, none⟩ = some (.int .i64 gg) := (cell_of_heap hx1 3).trans rfl
  have x4 : w1.cell? ⟨wr.heap.size, 4, none⟩ = some (.int .i64 W) := (cell_of_heap hx1 4).trans rfl
  have x5 : w1.cell? ⟨wr.heap.size, 5, none⟩ = some (.int .i64 V) := (cell_of_heap hx1 5).trans rfl
  have x6 : w1.cell? ⟨wr.heap.size, 6, none⟩ = some (.int .i64 O) := (cell_of_heap hx1 6).trans rfl
  have xb := lt_of_block hx1
  have HT2 := Lib.hid (HT.out.keep hm1)
  clear hx1 hm1
  go_wp2_with fail
  refine (coded_own' HT2.out.E 2 (by omega)).mono ?_
  rintro e w3 ⟨rfl, hm3⟩
  have HT3 := Lib.hid ((HT2.out.keep hm3).up (Nat.le_succ k))
  clear hm3
  go_wp2
  go_ret
  exact ⟨rfl, _, _, _, HT3.out⟩
end Go.Proofs.YtamfbfajlfbooaaDoor
end
/- quiescentlaw1.memoryAct: the program's and the reference's answers, act by act. -/
section
namespace Go.Proofs.YtamfbfajlfbooaaDoor
open Go.RowKit Qs Qh
variable {b0 wr w1 : World} {a : Nat → Addr} {B : PB} {tn bm k : Nat} {L : Lay} {m : M} {vs : List Value}
theorem times_drain1 {l : List Cell} {K : Int} (h : TimesK l K) (x : Wt) : TimesK (Qs.drain1 l x).1 K := fun i c hc => by
  obtain ⟨c0, h0, ht, hh, -⟩ := drain1_get _ _ _ _ hc
  rw [ht, hh]; exact h i c0 h0
theorem times_drainAll : ∀ (q : List Wt) {l : List Cell} {K : Int}, TimesK l K → TimesK (drainAll l q).1 K
  | [], _, _, h => h
  | x :: q, l, K, h => times_drainAll q (times_drain1 h x)
theorem wBox_keep (T : MemRel b0 a B tn bm k L m vs wr) (kind : ByteArray) (tt cc gg W V O : Int) : MemRel b0 a B tn bm k L m vs (wBox wr kind tt cc gg W V O) := T.keep ((Mod.refl noF wr).alloc _)
/-- The program alone was called, and nothing turned. -/
theorem MemRel.prog (h : MemRel b0 a B tn bm k L m vs wr) {vs' : List Value} (u : PUp wr B vs w1 m.cells m.waits vs') : MemRel b0 a B tn bm k L m vs' w1 :=
  h.both u (Up.refl (h.repP u) h.ol) rfl rfl h.om h.times
theorem MemRel.wl (h : MemRel b0 a B tn bm k L m vs wr) : m.waits.length ≤ 6 := h.om.waits
theorem MemRel.q8 (h : MemRel b0 a B tn bm k L m vs wr) {t : Nat} {q : List Wt} (hq : m.waits[t]? = some q) : q.length ≤ 8 := h.om.wlen t q hq
/-- Drain, by a thread. -/
theorem actDrain (T : MemRel b0 a B tn bm k L m vs wr) (cc gg W V O : Int) {t : Nat} {q : List Wt} (hq : m.waits[t]? = some q) :
    Calls Tryd.prog 78 #[.pointer (some ⟨B.bM, 0, none⟩), .pointer (some ⟨bm, 0, none⟩), .agg #[.string ⟨#[100, 114, 97, 105, 110]⟩, .int .i64 t, .int .i64 cc, .int .i64 gg, .int .i64 W, .int .i64 V, .int .i64 O]] wr (actOk b0 a B tn bm (k + 1)) := by
  have H := wBox_keep T ⟨#[100, 114, 97, 105, 110]⟩ t cc gg W V O
  have ok := H.okW hq
  have h8 := H.q8 hq
  have hwl := H.wl
  match q, hq, ok, h8 with
  | [], hq, ok, h8 =>
    refine act_drain T cc gg W V O hq (code := 5) (by omega) ((pdrain_none H.mem H.low.E hq hwl).mono fun e w' h => ⟨h.1, _, PUp.quiet H.mem h.2⟩) fun vs' w1 u => ?_
    have hc := drain_none (H.repP u) rfl rfl H.om H.ol t hq
    rw [H.top] at hc
    refine hc.mono fun e w' h => ?_
    obtain ⟨h1, rfl⟩ := h
    exact ⟨h1, _, _, (H.prog u).up (Nat.le_succ k)⟩
  | x :: r, hq, ok, h8 =>
    obtain ⟨o1, o2, o3⟩ := ok x (by simp)
    have e1 := storeE_ok (l := m.cells) (x := x) ⟨o1, o2, o3⟩
    refine act_drain T cc gg W V O hq (code := drainE m.cells x) (by unfold drainE; split <;> omega) ((pdrain_some H.mem H.low H.om.cells H.cellsOk.times H.cellsOk.words hq hwl (by simp at h8; omega)).mono fun e w' h => ⟨by rw [h.1, e1]; rfl, h.2⟩) fun vs' w1 u => ?_
    have hc := drain_some (H.repP u) rfl rfl rfl rfl rfl H.om H.ol (by omega) t hq
    rw [H.top] at hc
    refine hc.mono fun e w' h => ?_
    obtain ⟨h1, L', hU⟩ := h
    refine ⟨h1, L', _, H.both u hU (drain1_store ⟨o1, o2, o3⟩) rfl ?_ ((times_drain1 H.times x).up (Nat.le_succ k))⟩
    refine (H.om.drain1 o1).setWaits (by simp at h8; omega) fun y hy => ?_
    have := H.om.wval t _ hq y (by simp [hy])
    simpa [drain1_length] using this
/-- Store, by a thread. -/
theorem loadE_two (l : List Cell) (c r W : Int) : (loadE l c r W).2 = atE l c r W := by
  rcases loadE_atE l c r W with ⟨h1, h2⟩ | ⟨h1, h2⟩ | ⟨h1, h2⟩ <;> rw [h1, h2]
theorem atE_range (l : List Cell) (c r W : Int) : 0 ≤ atE l c r W ∧ atE l c r W ≤ 9 := by
  rcases loadE_atE l c r W with ⟨h1, h2⟩ | ⟨h1, h2⟩ | ⟨h1, h2⟩ <;> rw [h1] <;> decide
theorem atE_zero {l : List Cell} {c r W : Int} (h : atE l c r W = 0) : ∃ (i j : Nat) (x : Cell), c = i ∧ W = j ∧ j < 4 ∧ l[i]? = some x ∧ r = x.times - 1 ∧ x.here = true := by
  unfold atE at h
  split at h
  · rename_i hh
    split at h
    · rename_i hw
      obtain ⟨i, x, rfl, _, hx, hhere, hr⟩ := hereIn_at hh
      obtain ⟨j, rfl⟩ := Int.eq_ofNat_of_zero_le hw.1
      exact ⟨i, j, x, rfl, rfl, by omega, hx, hr, hhere⟩
    · cases h
  · cases h
theorem actStore (T : MemRel b0 a B tn bm k L m vs wr) (cc gg W V O : Int) {t : Nat} {q : List Wt} (hq : m.waits[t]? = some q) :
    Calls Tryd.prog 78 #[.pointer (some ⟨B.bM, 0, none⟩), .pointer (some ⟨bm, 0, none⟩), .agg #[.string ⟨#[115, 116, 111, 114, 101]⟩, .int .i64 t, .int .i64 cc, .int .i64 gg, .int .i64 W, .int .i64 V, .int .i64 O]] wr (actOk b0 a B tn bm (k + 1)) := by
  have H := wBox_keep T ⟨#[115, 116, 111, 114, 101]⟩ t cc gg W V O
  have ok := H.okW hq
  have h8 := H.q8 hq
  have hwl := H.wl
  have hp := pstore_any H.mem H.low.E H.cellsOk hwl hq h8 cc gg W V
  have hcode : 0 ≤ pstE m.cells q cc gg W V ∧ pstE m.cells q cc gg W V ≤ 9 := by
    have := atE_range m.cells cc gg W
    unfold pstE; rw [loadE_two]; split
    · split
      · split <;> omega
      · omega
    · omega
  refine act_store T cc gg W V O hq hcode hp fun vs' w1 u => ?_
  have R := H.repP u
  by_cases he : atE m.cells cc gg W = 0
  · cases hv : isWord V with
    | false =>
      have e : pstE m.cells q cc gg W V = 2 := by unfold pstE; rw [loadE_two, if_pos he, hv]; rfl
      rw [e] at u ⊢
      have hc := rstore_word R rfl rfl H.om H.ol (by omega) t cc gg W V he hv
      rw [H.top] at hc
      exact hc.mono fun e w' h => ⟨h.1, _, _, ((H.prog u).keep h.2).up (Nat.le_succ k)⟩
    | true =>
      by_cases hf : 8 ≤ q.length
      · have e : pstE m.cells q cc gg W V = 6 := by unfold pstE; rw [loadE_two, if_pos he, hv, if_pos rfl, if_pos hf]
        rw [e] at u ⊢
        have hc := rstore_full R rfl rfl rfl H.om H.ol (by omega) t cc gg W V hq hf he hv
        rw [H.top] at hc
        exact hc.mono fun e w' h => ⟨h.1, _, _, ((H.prog u).keep h.2).up (Nat.le_succ k)⟩
      · have e : pstE m.cells q cc gg W V = 0 := by unfold pstE; rw [loadE_two, if_pos he, hv, if_pos rfl, if_neg hf]
        rw [e] at u ⊢
        have hc := store_ok R rfl rfl rfl rfl H.om H.ol (by omega) t cc gg W V hq (by omega) he hv
        rw [H.top] at hc
        refine hc.mono fun e w' h => ?_
        obtain ⟨h1, L', hU⟩ := h
        refine ⟨h1, L', _, H.both u hU rfl rfl ?_ (H.times.up (Nat.le_succ k))⟩
        refine H.om.setWaits (by simp; omega) fun y hy => ?_
        simp only [List.mem_append, List.mem_singleton] at hy
        rcases hy with hy | rfl
        · exact H.om.wval t _ hq y hy
        · obtain ⟨i, j, x, rfl, rfl, hj, hx, rfl, hhere⟩ := atE_zero he
          have hil := (List.getElem?_eq_some_iff.1 hx).1
          obtain ⟨t0, t1⟩ := H.om.times i x hx
          have hin : hereIn m.cells i (x.times - 1) = true := by
            unfold atE at he; split at he
            · assumption
            · cases he
          have t2 := (H.times i x hx).2 hhere
          exact ⟨hv, by simp, by simp only; omega, by simp, by simp only; omega, by simp only; omega, by simp only; omega⟩
  · have e : pstE m.cells q cc gg W V = atE m.cells cc gg W := by unfold pstE; rw [loadE_two, if_neg he]
    rw [e, if_neg he] at u
    rw [e]
    have hc := rstore_at R rfl rfl H.om H.ol (by omega) t cc gg W V (by rcases loadE_atE m.cells cc gg W with ⟨h1, h2⟩ | ⟨h1, h2⟩ | ⟨h1, h2⟩ <;> omega)
    rw [H.top] at hc
    exact hc.mono fun e w' h => ⟨h.1, _, _, ((H.prog u).keep h.2).up (Nat.le_succ k)⟩
end Go.Proofs.YtamfbfajlfbooaaDoor
end
/- quiescentlaw1.memoryAct. -/
section
namespace Go.Proofs.YtamfbfajlfbooaaDoor
open Go.RowKit Qs Qh
variable {b0 wr : World} {a : Nat → Addr} {B : PB} {tn bm k : Nat} {L : Lay} {m : M} {vs : List Value}
set_option maxRecDepth 100000 in
set_option maxHeartbeats 4000000 in
theorem act_alloc (T : MemRel b0 a B tn bm k L m vs wr) (cc gg W V O : Int) {t : Nat} {q : List Wt} (hq : m.waits[t]? = some q) {code i g : Int} (hc : 0 ≤ code ∧ code ≤ 9) {l1 : List Cell} {ws1 : List (List Wt)}
    (hp : Calls Tryd.prog 29 #[.pointer (some ⟨B.bM, 0, none⟩), .int .i64 t] (wBox wr ⟨#[97, 108, 108, 111, 99]⟩ t cc gg W V O) (PAns a B vs (wBox wr ⟨#[97, 108, 108, 111, 99]⟩ t cc gg W V O) l1 ws1 (.tuple #[.agg #[.int .i64 i, .int .i64 g], errOf' a code])))
    (hr : ∀ vs' w1 b o, PUp (wBox wr ⟨#[97, 108, 108, 111, 99]⟩ t cc gg W V O) B vs w1 l1 ws1 vs' → (wBox wr ⟨#[97, 108, 108, 111, 99]⟩ t cc gg W V O).heap.size ≤ b → w1.heap[b]? = some o → Calls Tryd.prog 69 #[.pointer (some ⟨bm, 0, none⟩)] w1 fun e w2 => RAns b0 a B tn bm (k + 1) vs' (.tuple #[.agg #[.int .i64 i, .int .i64 g], .int .i64 code]) e w2 ∧ w2.heap[b]? = some o) :
    Calls Tryd.prog 78 #[.pointer (some ⟨B.bM, 0, none⟩), .pointer (some ⟨bm, 0, none⟩), .agg #[.string ⟨#[97, 108, 108, 111, 99]⟩, .int .i64 t, .int .i64 cc, .int .i64 gg, .int .i64 W, .int .i64 V, .int .i64 O]] wr (actOk b0 a B tn bm (k + 1)) := by
  have hq0 := (Mod.refl noF wr).alloc (xBox ⟨#[97, 108, 108, 111, 99]⟩ (t : Int) cc gg W V O)
  have hT := T.keep hq0
  have hx := heap_alloc_new wr (xBox ⟨#[97, 108, 108, 111, 99]⟩ (t : Int) cc gg W V O)
  have hnP : ¬ PFoot B vs wr.heap.size := fun h => Nat.lt_irrefl _ (T.mem.lt h)
  have hth := rthread_any hT.rep rfl hT.om hT.ol ((t : Int))
  rw [hT.top] at hth
  unfold wBox at hp hr
  obtain ⟨wz, hwz⟩ : ∃ wz, wz = wr.alloc (xBox ⟨#[97, 108, 108, 111, 99]⟩ (t : Int) cc gg W V O) := ⟨_, rfl⟩
  rw [← hwz] at hT hx hth hp hr
  have dth : (decide ((0 : Int) ≤ ((t : Int))) && decide (((t : Int)) < (m.waits.length : Int))) = true := by
    have := (List.getElem?_eq_some_iff.1 hq).1; simp; omega
  rw [dth] at hth
  have x0 : wz.cell? ⟨wr.heap.size, 0, none⟩ = some (.string ⟨#[97, 108, 108, 111, 99]⟩) := (cell_of_heap hx 0).trans rfl
  have x1 : wz.cell? ⟨wr.heap.size, 1, none⟩ = some (.int .i64 (t : Int)) := (cell_of_heap hx 1).trans rfl
  have x2 : wz.cell? ⟨wr.heap.size, 2, none⟩ = some (.int .i64 cc) := (cell_of_heap hx 2).trans rfl
  have x3 : wz.cell? ⟨wr.heap.size, 3, none⟩ = some (.int .i64 gg) := (cell_of_heap hx 3).trans rfl
  have x4 : wz.cell? ⟨wr.heap.size, 4, none⟩ = some (.int .i64 W) := (cell_of_heap hx 4).trans rfl
  have x5 : wz.cell? ⟨wr.heap.size, 5, none⟩ = some (.int .i64 V) := (cell_of_heap hx 5).trans rfl
  have x6 : wz.cell? ⟨wr.heap.size, 6, none⟩ = some (.int .i64 O) := (cell_of_heap hx 6).trans rfl
  have xb := lt_of_block hx
  have HT := Lib.hid hT
  have Hth := Lib.hid hth
  have Hx := Lib.hid hx
  have HnP := Lib.hid hnP
  clear T hT hq0 hth dth hx hnP
  go_enter Tryd.func78, Tryd.ntmps78
  go_wp2_with fail
  rw [← hwz]
  refine Hth.out.mono ?_
  rintro e w' ⟨rfl, rfl⟩
  clear hwz Hth
  go_wp2_with fail
  refine hp.mono ?_
  clear hp
  rintro e w1 ⟨rfl, vs', hU⟩
  have hx1 := hU.heap HnP.out Hx.out
  have x0 : w1.cell? ⟨wr.heap.size, 0, none⟩ = some (.string ⟨#[97, 108, 108, 111, 99]⟩) := (cell_of_heap hx1 0).trans rfl
  have x1 : w1.cell? ⟨wr.heap.size, 1, none⟩ = some (.int .i64 t) := (cell_of_heap hx1 1).trans rfl
  have x2 : w1.cell? ⟨wr.heap.size, 2, none⟩ = some (.int .i64 cc) := (cell_of_heap hx1 2).trans rfl
  have x3 : w1.cell? ⟨wr.heap.size, 3, none⟩ = some (.int .i64 gg) := (cell_of_heap hx1 3).trans rfl
  have x4 : w1.cell? ⟨wr.heap.size, 4, none⟩ = some (.int .i64 W) := (cell_of_heap hx1 4).trans rfl
  have x5 : w1.cell? ⟨wr.heap.size, 5, none⟩ = some (.int .i64 V) := (cell_of_heap hx1 5).trans rfl
  have x6 : w1.cell? ⟨wr.heap.size, 6, none⟩ = some (.int .i64 O) := (cell_of_heap hx1 6).trans rfl
  have xb := lt_of_block hx1
  have hr1 := hr vs' (w1.alloc (refBox i g)) w1.heap.size _ (hU.then0 ((Mod.refl noF w1).alloc _)) hU.mod.size (heap_alloc_new w1 (refBox i g))
  clear hr hU hx1
  go_wp2_with fail
  refine hr1.mono ?_
  clear hr1
  rintro e w2 ⟨⟨rfl, L', m', hT2⟩, hb2⟩
  have HT2 := Lib.hid hT2
  have Hb2 := Lib.hid hb2
  clear hT2 hb2
  go_wp2_with fail
  refine (coded_own' (HT2.out.E.keep ((Mod.refl noF w2).alloc (refBox i g))) code hc).mono ?_
  rintro e w3 ⟨rfl, hm3⟩
  have hr5 := (((Mod.refl noF w2).alloc (refBox i g)).trans0 hm3).heap Hb2.out (fun e => e)
  have hq5 := hm3.heap (heap_alloc_new w2 (refBox i g)) (fun e => e)
  have r0 : w3.cell? ⟨w1.heap.size, 0, none⟩ = some (.int .i64 i) := (cell_of_heap hr5 0).trans rfl
  have r1 : w3.cell? ⟨w1.heap.size, 1, none⟩ = some (.int .i64 g) := (cell_of_heap hr5 1).trans rfl
  have rb := lt_of_block hr5
  have q0 : w3.cell? ⟨w2.heap.size, 0, none⟩ = some (.int .i64 i) := (cell_of_heap hq5 0).trans rfl
  have q1 : w3.cell? ⟨w2.heap.size, 1, none⟩ = some (.int .i64 g) := (cell_of_heap hq5 1).trans rfl
  have qb := lt_of_block hq5
  have HT3 := Lib.hid (HT2.out.keep (((Mod.refl noF w2).alloc (refBox i g)).trans0 hm3))
  clear hr5 hq5 hm3
  go_wp2_with fail
  go_ret
  exact ⟨rfl, _, _, _, HT3.out⟩
end Go.Proofs.YtamfbfajlfbooaaDoor
end
/- quiescentlaw1.memoryAct. -/
section
namespace Go.Proofs.YtamfbfajlfbooaaDoor
open Go.RowKit Qs Qh
variable {b0 wr : World} {a : Nat → Addr} {B : PB} {tn bm k : Nat} {L : Lay} {m : M} {vs : List Value}
set_option maxRecDepth 100000 in
set_option maxHeartbeats 4000000 in
theorem act_alloc_thread (T : MemRel b0 a B tn bm k L m vs wr) (cc gg W V O : Int) {t : Int} (ht : t < 0 ∨ (m.waits.length : Int) ≤ t)
    (hp : Calls Tryd.prog 29 #[.pointer (some ⟨B.bM, 0, none⟩), .int .i64 t] (wBox wr ⟨#[97, 108, 108, 111, 99]⟩ t cc gg W V O) fun e w' => e = .returned (.tuple #[.agg #[.int .i64 0, .int .i64 0], errOf' a 2]) ∧ Mod noF (wBox wr ⟨#[97, 108, 108, 111, 99]⟩ t cc gg W V O) w') :
    Calls Tryd.prog 78 #[.pointer (some ⟨B.bM, 0, none⟩), .pointer (some ⟨bm, 0, none⟩), .agg #[.string ⟨#[97, 108, 108, 111, 99]⟩, .int .i64 t, .int .i64 cc, .int .i64 gg, .int .i64 W, .int .i64 V, .int .i64 O]] wr (actOk b0 a B tn bm (k + 1)) := by
  have hq0 := (Mod.refl noF wr).alloc (xBox ⟨#[97, 108, 108, 111, 99]⟩ t cc gg W V O)
  have hT := T.keep hq0
  have hx := heap_alloc_new wr (xBox ⟨#[97, 108, 108, 111, 99]⟩ t cc gg W V O)
  have hnP : ¬ PFoot B vs wr.heap.size := fun h => Nat.lt_irrefl _ (T.mem.lt h)
  have hth := rthread_any hT.rep rfl hT.om hT.ol (t)
  rw [hT.top] at hth
  unfold wBox at hp
  obtain ⟨wz, hwz⟩ : ∃ wz, wz = wr.alloc (xBox ⟨#[97, 108, 108, 111, 99]⟩ t cc gg W V O) := ⟨_, rfl⟩
  rw [← hwz] at hT hx hth hp
  have dth : (decide ((0 : Int) ≤ (t)) && decide ((t) < (m.waits.length : Int))) = false := by
    simp; omega
  rw [dth] at hth
  have x0 : wz.cell? ⟨wr.heap.size, 0, none⟩ = some (.string ⟨#[97, 108, 108, 111, 99]⟩) := (cell_of_heap hx 0).trans rfl
  have x1 : wz.cell? ⟨wr.heap.size, 1, none⟩ = some (.int .i64 t) := (cell_of_heap hx 1).trans rfl
  have x2 : wz.cell? ⟨wr.heap.size, 2, none⟩ = some (.int .i64 cc) := (cell_of_heap hx 2).trans rfl
  have x3 : wz.cell? ⟨wr.heap.size, 3, none⟩ = some (.int .i64 gg) := (cell_of_heap hx 3).trans rfl
  have x4 : wz.cell? ⟨wr.heap.size, 4, none⟩ = some (.int .i64 W) := (cell_of_heap hx 4).trans rfl
  have x5 : wz.cell? ⟨wr.heap.size, 5, none⟩ = some (.int .i64 V) := (cell_of_heap hx 5).trans rfl
  have x6 : wz.cell? ⟨wr.heap.size, 6, none⟩ = some (.int .i64 O) := (cell_of_heap hx 6).trans rfl
  have xb := lt_of_block hx
  have HT := Lib.hid hT
  have Hth := Lib.hid hth
  have Hx := Lib.hid hx
  have HnP := Lib.hid hnP
  clear T hT hq0 hth dth hx hnP
  go_enter Tryd.func78, Tryd.ntmps78
  go_wp2_with fail
  rw [← hwz]
  refine Hth.out.mono ?_
  rintro e w' ⟨rfl, rfl⟩
  clear hwz Hth
  go_wp2_with fail
  refine hp.mono ?_
  clear hp
  rintro e w1 ⟨rfl, hm1⟩
  have hx1 := hm1.heap Hx.out (fun e => e)
  have x0 : w1.cell? ⟨wr.heap.size, 0, none⟩ = some (.string ⟨#[97, 108, 108, 111, 99]⟩) := (cell_of_heap hx1 0).trans rfl
  have x1 : w1.cell? ⟨wr.heap.size, 1, none⟩ = some (.int .i64 t) := (cell_of_heap hx1 1).trans rfl
  have x2 : w1.cell? ⟨wr.heap.size, 2, none⟩ = some (.int .i64 cc) := (cell_of_heap hx1 2).trans rfl
  have x3 : w1.cell? ⟨wr.heap.size, 3, none⟩ = some (.int .i64 gg) := (cell_of_heap hx1 3).trans rfl
  have x4 : w1.cell? ⟨wr.heap.size, 4, none⟩ = some (.int .i64 W) := (cell_of_heap hx1 4).trans rfl
  have x5 : w1.cell? ⟨wr.heap.size, 5, none⟩ = some (.int .i64 V) := (cell_of_heap hx1 5).trans rfl
  have x6 : w1.cell? ⟨wr.heap.size, 6, none⟩ = some (.int .i64 O) := (cell_of_heap hx1 6).trans rfl
  have xb := lt_of_block hx1
  have HT2 := Lib.hid (HT.out.keep hm1)
  clear hx1 hm1
  go_wp2_with fail
  have hb2 := heap_alloc_new w1 (refBox 0 0)
  refine (coded_own' (HT2.out.E.keep ((Mod.refl noF w1).alloc (refBox 0 0))) 2 (by omega)).mono ?_
  rintro e w3 ⟨rfl, hm3⟩
  have hr5 := hm3.heap hb2 (fun e => e)
  have r0 : w3.cell? ⟨w1.heap.size, 0, none⟩ = some (.int .i64 0) := (cell_of_heap hr5 0).trans rfl
  have r1 : w3.cell? ⟨w1.heap.size, 1, none⟩ = some (.int .i64 0) := (cell_of_heap hr5 1).trans rfl
  have rb := lt_of_block hr5
  have HT3 := Lib.hid ((HT2.out.keep (((Mod.refl noF w1).alloc (refBox 0 0)).trans0 hm3)).up (Nat.le_succ k))
  clear hr5 hb2 hm3
  go_wp2_with fail
  go_ret
  exact ⟨rfl, _, _, _, HT3.out⟩
end Go.Proofs.YtamfbfajlfbooaaDoor
end
/- quiescentlaw1.memoryAct. -/
section
namespace Go.Proofs.YtamfbfajlfbooaaDoor
open Go.RowKit Qs Qh
variable {b0 wr : World} {a : Nat → Addr} {B : PB} {tn bm k : Nat} {L : Lay} {m : M} {vs : List Value}
set_option maxRecDepth 100000 in
set_option maxHeartbeats 4000000 in
theorem act_peek_bad (T : MemRel b0 a B tn bm k L m vs wr) (cc gg W V O : Int) (t : Int) {code : Int} (hc : 0 < code ∧ code ≤ 9)
    (hp : Calls Tryd.prog 114 #[.pointer (some ⟨B.bM, 0, none⟩), .agg #[.int .i64 cc, .int .i64 gg], .int .i64 W] (wBox wr ⟨#[112, 101, 101, 107]⟩ t cc gg W V O) fun e w' => e = .returned (.tuple #[.int .i64 0, errOf' a code]) ∧ Mod noF (wBox wr ⟨#[112, 101, 101, 107]⟩ t cc gg W V O) w')
    (hr : ∀ w1, Mod noF (wBox wr ⟨#[112, 101, 101, 107]⟩ t cc gg W V O) w1 → Calls Tryd.prog 72 #[.pointer (some ⟨bm, 0, none⟩), .agg #[.int .i64 cc, .int .i64 gg], .int .i64 W] w1 fun e w' => e = .returned (.int .i64 code) ∧ Mod noF w1 w') :
    Calls Tryd.prog 78 #[.pointer (some ⟨B.bM, 0, none⟩), .pointer (some ⟨bm, 0, none⟩), .agg #[.string ⟨#[112, 101, 101, 107]⟩, .int .i64 t, .int .i64 cc, .int .i64 gg, .int .i64 W, .int .i64 V, .int .i64 O]] wr (actOk b0 a B tn bm (k + 1)) := by
  have hq0 := (Mod.refl noF wr).alloc (xBox ⟨#[112, 101, 101, 107]⟩ t cc gg W V O)
  have hT := T.keep hq0
  have hx := heap_alloc_new wr (xBox ⟨#[112, 101, 101, 107]⟩ t cc gg W V O)
  have hnP : ¬ PFoot B vs wr.heap.size := fun h => Nat.lt_irrefl _ (T.mem.lt h)
  have hth := rthread_any hT.rep rfl hT.om hT.ol (t)
  rw [hT.top] at hth
  unfold wBox at hp hr
  obtain ⟨wz, hwz⟩ : ∃ wz, wz = wr.alloc (xBox ⟨#[112, 101, 101, 107]⟩ t cc gg W V O) := ⟨_, rfl⟩
  rw [← hwz] at hT hx hth hp hr
  obtain ⟨tb, htb⟩ : ∃ tb, (decide ((0 : Int) ≤ (t)) && decide ((t) < (m.waits.length : Int))) = tb := ⟨_, rfl⟩
  rw [htb] at hth
  have x0 : wz.cell? ⟨wr.heap.size, 0, none⟩ = some (.string ⟨#[112, 101, 101, 107]⟩) := (cell_of_heap hx 0).trans rfl
  have x1 : wz.cell? ⟨wr.heap.size, 1, none⟩ = some (.int .i64 t) := (cell_of_heap hx 1).trans rfl
  have x2 : wz.cell? ⟨wr.heap.size, 2, none⟩ = some (.int .i64 cc) := (cell_of_heap hx 2).trans rfl
  have x3 : wz.cell? ⟨wr.heap.size, 3, none⟩ = some (.int .i64 gg) := (cell_of_heap hx 3).trans rfl
  have x4 : wz.cell? ⟨wr.heap.size, 4, none⟩ = some (.int .i64 W) := (cell_of_heap hx 4).trans rfl
  have x5 : wz.cell? ⟨wr.heap.size, 5, none⟩ = some (.int .i64 V) := (cell_of_heap hx 5).trans rfl
  have x6 : wz.cell? ⟨wr.heap.size, 6, none⟩ = some (.int .i64 O) := (cell_of_heap hx 6).trans rfl
  have xb := lt_of_block hx
  have HT := Lib.hid hT
  have Hth := Lib.hid hth
  have Hx := Lib.hid hx
  have HnP := Lib.hid hnP
  clear T hT hq0 hth htb hx hnP
  cases tb
  · go_enter Tryd.func78, Tryd.ntmps78
    go_wp2_with fail
    rw [← hwz]
    refine Hth.out.mono ?_
    rintro e w' ⟨rfl, rfl⟩
    clear hwz Hth
    go_wp2_with fail
    refine hp.mono ?_
    clear hp
    rintro e w1 ⟨rfl, hm1⟩
    have hx1 := hm1.heap Hx.out (fun e => e)
    have x0 : w1.cell? ⟨wr.heap.size, 0, none⟩ = some (.string ⟨#[112, 101, 101, 107]⟩) := (cell_of_heap hx1 0).trans rfl
    have x1 : w1.cell? ⟨wr.heap.size, 1, none⟩ = some (.int .i64 t) := (cell_of_heap hx1 1).trans rfl
    have x2 : w1.cell? ⟨wr.heap.size, 2, none⟩ = some (.int .i64 cc) := (cell_of_heap hx1 2).trans rfl
    have x3 : w1.cell? ⟨wr.heap.size, 3, none⟩ = some (.int .i64 gg) := (cell_of_heap hx1 3).trans rfl
    have x4 : w1.cell? ⟨wr.heap.size, 4, none⟩ = some (.int .i64 W) := (cell_of_heap hx1 4).trans rfl
    have x5 : w1.cell? ⟨wr.heap.size, 5, none⟩ = some (.int .i64 V) := (cell_of_heap hx1 5).trans rfl
    have x6 : w1.cell? ⟨wr.heap.size, 6, none⟩ = some (.int .i64 O) := (cell_of_heap hx1 6).trans rfl
    have xb := lt_of_block hx1
    have hr1 := hr w1 hm1
    have HT1 := Lib.hid (HT.out.keep hm1)
    clear hr hm1 hx1
    have dc : decide ((0 : Int) < code) = true := by simp; omega
    go_wp2_with fail
    refine hr1.mono ?_
    clear hr1
    rintro e w2 ⟨rfl, hm2⟩
    have HT2 := Lib.hid (HT1.out.keep hm2)
    clear hm2
    go_wp2_with fail
    refine (coded_own' HT2.out.E code (by omega)).mono ?_
    rintro e w3 ⟨rfl, hm3⟩
    have HT3 := Lib.hid ((HT2.out.keep hm3).up (Nat.le_succ k))
    clear hm3
    go_wp2
    go_ret
    exact ⟨rfl, _, _, _, HT3.out⟩
  · go_enter Tryd.func78, Tryd.ntmps78
    go_wp2_with fail
    rw [← hwz]
    refine Hth.out.mono ?_
    rintro e w' ⟨rfl, rfl⟩
    clear hwz Hth
    go_wp2_with fail
    refine hp.mono ?_
    clear hp
    rintro e w1 ⟨rfl, hm1⟩
    have hx1 := hm1.heap Hx.out (fun e => e)
    have x0 : w1.cell? ⟨wr.heap.size, 0, none⟩ = some (.string ⟨#[112, 101, 101, 107]⟩) := (cell_of_heap hx1 0).trans rfl
    have x1 : w1.cell? ⟨wr.heap.size, 1, none⟩ = some (.int .i64 t) := (cell_of_heap hx1 1).trans rfl
    have x2 : w1.cell? ⟨wr.heap.size, 2, none⟩ = some (.int .i64 cc) := (cell_of_heap hx1 2).trans rfl
    have x3 : w1.cell? ⟨wr.heap.size, 3, none⟩ = some (.int .i64 gg) := (cell_of_heap hx1 3).trans rfl
    have x4 : w1.cell? ⟨wr.heap.size, 4, none⟩ = some (.int .i64 W) := (cell_of_heap hx1 4).trans rfl
    have x5 : w1.cell? ⟨wr.heap.size, 5, none⟩ = some (.int .i64 V) := (cell_of_heap hx1 5).trans rfl
    have x6 : w1.cell? ⟨wr.heap.size, 6, none⟩ = some (.int .i64 O) := (cell_of_heap hx1 6).trans rfl
    have xb := lt_of_block hx1
    have hr1 := hr w1 hm1
    have HT1 := Lib.hid (HT.out.keep hm1)
    clear hr hm1 hx1
    have dc : decide ((0 : Int) < code) = true := by simp; omega
    go_wp2_with fail
    refine hr1.mono ?_
    clear hr1
    rintro e w2 ⟨rfl, hm2⟩
    have HT2 := Lib.hid (HT1.out.keep hm2)
    clear hm2
    go_wp2_with fail
    refine (coded_own' HT2.out.E code (by omega)).mono ?_
    rintro e w3 ⟨rfl, hm3⟩
    have HT3 := Lib.hid ((HT2.out.keep hm3).up (Nat.le_succ k))
    clear hm3
    go_wp2
    go_ret
    exact ⟨rfl, _, _, _, HT3.out⟩
end Go.Proofs.YtamfbfajlfbooaaDoor
end
/- quiescentlaw1.memoryAct. -/
section
namespace Go.Proofs.YtamfbfajlfbooaaDoor
open Go.RowKit Qs Qh
variable {b0 wr : World} {a : Nat → Addr} {B : PB} {tn bm k : Nat} {L : Lay} {m : M} {vs : List Value}
set_option maxRecDepth 100000 in
set_option maxHeartbeats 4000000 in
theorem act_peek_ok (T : MemRel b0 a B tn bm k L m vs wr) (V O gg : Int) (t : Int) {i j : Nat} {cl : Cell} {cc W v : Int} (hv : cl.words.getD j 0 = v) (hci : m.cells[i]? = some cl) (hj : j < 4) (ec : cc = i) (eW : W = j)
    (hp : Calls Tryd.prog 114 #[.pointer (some ⟨B.bM, 0, none⟩), .agg #[.int .i64 cc, .int .i64 gg], .int .i64 W] (wBox wr ⟨#[112, 101, 101, 107]⟩ t cc gg W V O) fun e w' => e = .returned (.tuple #[.int .i64 v, .nilIface]) ∧ Mod noF (wBox wr ⟨#[112, 101, 101, 107]⟩ t cc gg W V O) w')
    (hr : ∀ w1, Mod noF (wBox wr ⟨#[112, 101, 101, 107]⟩ t cc gg W V O) w1 → Calls Tryd.prog 72 #[.pointer (some ⟨bm, 0, none⟩), .agg #[.int .i64 cc, .int .i64 gg], .int .i64 W] w1 fun e w' => e = .returned (.int .i64 0) ∧ Mod noF w1 w') :
    Calls Tryd.prog 78 #[.pointer (some ⟨B.bM, 0, none⟩), .pointer (some ⟨bm, 0, none⟩), .agg #[.string ⟨#[112, 101, 101, 107]⟩, .int .i64 t, .int .i64 cc, .int .i64 gg, .int .i64 W, .int .i64 V, .int .i64 O]] wr (actOk b0 a B tn bm (k + 1)) := by
  have hil := (List.getElem?_eq_some_iff.1 hci).1
  have hcl := T.om.cells
  subst ec eW
  have hq0 := (Mod.refl noF wr).alloc (xBox ⟨#[112, 101, 101, 107]⟩ t i gg j V O)
  have hT := T.keep hq0
  have hx := heap_alloc_new wr (xBox ⟨#[112, 101, 101, 107]⟩ t i gg j V O)
  have hnP : ¬ PFoot B vs wr.heap.size := fun h => Nat.lt_irrefl _ (T.mem.lt h)
  have hth := rthread_any hT.rep rfl hT.om hT.ol (t)
  rw [hT.top] at hth
  unfold wBox at hp hr
  obtain ⟨wz, hwz⟩ : ∃ wz, wz = wr.alloc (xBox ⟨#[112, 101, 101, 107]⟩ t i gg j V O) := ⟨_, rfl⟩
  rw [← hwz] at hT hx hth hp hr
  obtain ⟨tb, htb⟩ : ∃ tb, (decide ((0 : Int) ≤ (t)) && decide ((t) < (m.waits.length : Int))) = tb := ⟨_, rfl⟩
  rw [htb] at hth
  have x0 : wz.cell? ⟨wr.heap.size, 0, none⟩ = some (.string ⟨#[112, 101, 101, 107]⟩) := (cell_of_heap hx 0).trans rfl
  have x1 : wz.cell? ⟨wr.heap.size, 1, none⟩ = some (.int .i64 t) := (cell_of_heap hx 1).trans rfl
  have x2 : wz.cell? ⟨wr.heap.size, 2, none⟩ = some (.int .i64 (i : Int)) := (cell_of_heap hx 2).trans rfl
  have x3 : wz.cell? ⟨wr.heap.size, 3, none⟩ = some (.int .i64 gg) := (cell_of_heap hx 3).trans rfl
  have x4 : wz.cell? ⟨wr.heap.size, 4, none⟩ = some (.int .i64 (j : Int)) := (cell_of_heap hx 4).trans rfl
  have x5 : wz.cell? ⟨wr.heap.size, 5, none⟩ = some (.int .i64 V) := (cell_of_heap hx 5).trans rfl
  have x6 : wz.cell? ⟨wr.heap.size, 6, none⟩ = some (.int .i64 O) := (cell_of_heap hx 6).trans rfl
  have xb := lt_of_block hx
  have HT := Lib.hid hT
  have Hth := Lib.hid hth
  have Hx := Lib.hid hx
  have HnP := Lib.hid hnP
  clear T hT hq0 hth htb hx hnP
  cases tb
  · go_enter Tryd.func78, Tryd.ntmps78
    go_wp2_with fail
    rw [← hwz]
    refine Hth.out.mono ?_
    rintro e w' ⟨rfl, rfl⟩
    clear hwz Hth
    go_wp2_with fail
    refine hp.mono ?_
    clear hp
    rintro e w1 ⟨rfl, hm1⟩
    have hx1 := hm1.heap Hx.out (fun e => e)
    have x0 : w1.cell? ⟨wr.heap.size, 0, none⟩ = some (.string ⟨#[112, 101, 101, 107]⟩) := (cell_of_heap hx1 0).trans rfl
    have x1 : w1.cell? ⟨wr.heap.size, 1, none⟩ = some (.int .i64 t) := (cell_of_heap hx1 1).trans rfl
    have x2 : w1.cell? ⟨wr.heap.size, 2, none⟩ = some (.int .i64 (i : Int)) := (cell_of_heap hx1 2).trans rfl
    have x3 : w1.cell? ⟨wr.heap.size, 3, none⟩ = some (.int .i64 gg) := (cell_of_heap hx1 3).trans rfl
    have x4 : w1.cell? ⟨wr.heap.size, 4, none⟩ = some (.int .i64 (j : Int)) := (cell_of_heap hx1 4).trans rfl
    have x5 : w1.cell? ⟨wr.heap.size, 5, none⟩ = some (.int .i64 V) := (cell_of_heap hx1 5).trans rfl
    have x6 : w1.cell? ⟨wr.heap.size, 6, none⟩ = some (.int .i64 O) := (cell_of_heap hx1 6).trans rfl
    have xb := lt_of_block hx1
    have hr1 := hr w1 hm1
    have HT1 := Lib.hid (HT.out.keep hm1)
    have Hx1 := Lib.hid hx1
    clear hr hm1 hx1
    go_wp2_with fail
    refine hr1.mono ?_
    clear hr1
    rintro e w2 ⟨rfl, hm2⟩
    have HT2 := Lib.hid (HT1.out.keep hm2)
    have hx2 := hm2.heap Hx1.out (fun e => e)
    have x0 : w2.cell? ⟨wr.heap.size, 0, none⟩ = some (.string ⟨#[112, 101, 101, 107]⟩) := (cell_of_heap hx2 0).trans rfl
    have x1 : w2.cell? ⟨wr.heap.size, 1, none⟩ = some (.int .i64 t) := (cell_of_heap hx2 1).trans rfl
    have x2 : w2.cell? ⟨wr.heap.size, 2, none⟩ = some (.int .i64 (i : Int)) := (cell_of_heap hx2 2).trans rfl
    have x3 : w2.cell? ⟨wr.heap.size, 3, none⟩ = some (.int .i64 gg) := (cell_of_heap hx2 3).trans rfl
    have x4 : w2.cell? ⟨wr.heap.size, 4, none⟩ = some (.int .i64 (j : Int)) := (cell_of_heap hx2 4).trans rfl
    have x5 : w2.cell? ⟨wr.heap.size, 5, none⟩ = some (.int .i64 V) := (cell_of_heap hx2 5).trans rfl
    have x6 : w2.cell? ⟨wr.heap.size, 6, none⟩ = some (.int .i64 O) := (cell_of_heap hx2 6).trans rfl
    have xb := lt_of_block hx2
    obtain ⟨bc, cap, bw, wc, p0, p1, p2, l0, l1, l2, -⟩ := wordFacts HT2.out.rep HT2.out.om HT2.out.ol hci hj
    rw [HT2.out.top] at p0 l0
    have hji : (j : Int) < 4 := by omega
    have hii : (i : Int) < (m.cells.length : Int) := by omega
    rw [hv] at p2
    have dv : decide (v = v) = true := by simp
    clear hm2 hx2
    go_wp2_with fail
    go_quiet (fail)
    go_wp2
    go_ret
    exact ⟨rfl, _, _, _, (HT2.out.keep ((Mod.refl noF _).drewN _)).up (Nat.le_succ k)⟩
  · go_enter Tryd.func78, Tryd.ntmps78
    go_wp2_with fail
    rw [← hwz]
    refine Hth.out.mono ?_
    rintro e w' ⟨rfl, rfl⟩
    clear hwz Hth
    go_wp2_with fail
    refine hp.mono ?_
    clear hp
    rintro e w1 ⟨rfl, hm1⟩
    have hx1 := hm1.heap Hx.out (fun e => e)
    have x0 : w1.cell? ⟨wr.heap.size, 0, none⟩ = some (.string ⟨#[112, 101, 101, 107]⟩) := (cell_of_heap hx1 0).trans rfl
    have x1 : w1.cell? ⟨wr.heap.size, 1, none⟩ = some (.int .i64 t) := (cell_of_heap hx1 1).trans rfl
    have x2 : w1.cell? ⟨wr.heap.size, 2, none⟩ = some (.int .i64 (i : Int)) := (cell_of_heap hx1 2).trans rfl
    have x3 : w1.cell? ⟨wr.heap.size, 3, none⟩ = some (.int .i64 gg) := (cell_of_heap hx1 3).trans rfl
    have x4 : w1.cell? ⟨wr.heap.size, 4, none⟩ = some (.int .i64 (j : Int)) := (cell_of_heap hx1 4).trans rfl
    have x5 : w1.cell? ⟨wr.heap.size, 5, none⟩ = some (.int .i64 V) := (cell_of_heap hx1 5).trans rfl
    have x6 : w1.cell? ⟨wr.heap.size, 6, none⟩ = some (.int .i64 O) := (cell_of_heap hx1 6).trans rfl
    have xb := lt_of_block hx1
    have hr1 := hr w1 hm1
    have HT1 := Lib.hid (HT.out.keep hm1)
    have Hx1 := Lib.hid hx1
    clear hr hm1 hx1
    go_wp2_with fail
    refine hr1.mono ?_
    clear hr1
    rintro e w2 ⟨rfl, hm2⟩
    have HT2 := Lib.hid (HT1.out.keep hm2)
    have hx2 := hm2.heap Hx1.out (fun e => e)
    have x0 : w2.cell? ⟨wr.heap.size, 0, none⟩ = some (.string ⟨#[112, 101, 101, 107]⟩) := (cell_of_heap hx2 0).trans rfl
    have x1 : w2.cell? ⟨wr.heap.size, 1, none⟩ = some (.int .i64 t) := (cell_of_heap hx2 1).trans rfl
    have x2 : w2.cell? ⟨wr.heap.size, 2, none⟩ = some (.int .i64 (i : Int)) := (cell_of_heap hx2 2).trans rfl
    have x3 : w2.cell? ⟨wr.heap.size, 3, none⟩ = some (.int .i64 gg) := (cell_of_heap hx2 3).trans rfl
    have x4 : w2.cell? ⟨wr.heap.size, 4, none⟩ = some (.int .i64 (j : Int)) := (cell_of_heap hx2 4).trans rfl
    have x5 : w2.cell? ⟨wr.heap.size, 5, none⟩ = some (.int .i64 V) := (cell_of_heap hx2 5).trans rfl
    have x6 : w2.cell? ⟨wr.heap.size, 6, none⟩ = some (.int .i64 O) := (cell_of_heap hx2 6).trans rfl
    have xb := lt_of_block hx2
    obtain ⟨bc, cap, bw, wc, p0, p1, p2, l0, l1, l2, -⟩ := wordFacts HT2.out.rep HT2.out.om HT2.out.ol hci hj
    rw [HT2.out.top] at p0 l0
    have hji : (j : Int) < 4 := by omega
    have hii : (i : Int) < (m.cells.length : Int) := by omega
    rw [hv] at p2
    have dv : decide (v = v) = true := by simp
    clear hm2 hx2
    go_wp2_with fail
    go_quiet (fail)
    go_wp2
    go_ret
    exact ⟨rfl, _, _, _, (HT2.out.keep ((Mod.refl noF _).drewN _)).up (Nat.le_succ k)⟩
end Go.Proofs.YtamfbfajlfbooaaDoor
end
/- quiescentlaw1.memoryAct. -/
section
namespace Go.Proofs.YtamfbfajlfbooaaDoor
open Go.RowKit Qs Qh
variable {b0 wr : World} {a : Nat → Addr} {B : PB} {tn bm k : Nat} {L : Lay} {m : M} {vs : List Value}
set_option maxRecDepth 100000 in
set_option maxHeartbeats 4000000 in
theorem act_force (T : MemRel b0 a B tn bm k L m vs wr) (cc gg W V O : Int) (t : Int) {n : Nat} (hn : n ≤ 6) (I : Nat → World → Prop) (S : Nat → Nat) (hS : ∀ j, S j ≤ 1000000) (h00 : S 0 = 0) (h0 : I 0 (wBox wr ⟨#[102, 111, 114, 99, 101]⟩ t cc gg W V O))
    (hw : ∀ j w, I j w → bm < w.heap.size ∧ ∃ b cap, w.cell? ⟨bm, 1, none⟩ = some (.slice (some ⟨b, 0, none⟩) n cap))
    (hr : ∀ j w, j < n → I j w → ∃ c : Nat, S (j + 1) = S j + c ∧ Calls Tryd.prog 112 #[.pointer (some ⟨bm, 0, none⟩), .int .i64 j] w fun e w' => e = .returned (.int .i64 c) ∧ I (j + 1) w')
    (hp : ∀ w, I n w → Calls Tryd.prog 113 #[.pointer (some ⟨B.bM, 0, none⟩)] w (fun e w' => e = .returned (errOf' a (if S n = 0 then 0 else 7)) ∧ ∃ L' m' vs', MemRel b0 a B tn bm (k + 1) L' m' vs' w')) :
    Calls Tryd.prog 78 #[.pointer (some ⟨B.bM, 0, none⟩), .pointer (some ⟨bm, 0, none⟩), .agg #[.string ⟨#[102, 111, 114, 99, 101]⟩, .int .i64 t, .int .i64 cc, .int .i64 gg, .int .i64 W, .int .i64 V, .int .i64 O]] wr (actOk b0 a B tn bm (k + 1)) := by
  have hq0 := (Mod.refl noF wr).alloc (xBox ⟨#[102, 111, 114, 99, 101]⟩ t cc gg W V O)
  have hT := T.keep hq0
  have hx := heap_alloc_new wr (xBox ⟨#[102, 111, 114, 99, 101]⟩ t cc gg W V O)
  have hnP : ¬ PFoot B vs wr.heap.size := fun h => Nat.lt_irrefl _ (T.mem.lt h)
  have hth := rthread_any hT.rep rfl hT.om hT.ol (t)
  rw [hT.top] at hth
  unfold wBox at h0
  obtain ⟨wz, hwz⟩ : ∃ wz, wz = wr.alloc (xBox ⟨#[102, 111, 114, 99, 101]⟩ t cc gg W V O) := ⟨_, rfl⟩
  rw [← hwz] at hT hx hth h0
  obtain ⟨tb, htb⟩ : ∃ tb, (decide ((0 : Int) ≤ (t)) && decide ((t) < (m.waits.length : Int))) = tb := ⟨_, rfl⟩
  rw [htb] at hth
  have x0 : wz.cell? ⟨wr.heap.size, 0, none⟩ = some (.string ⟨#[102, 111, 114, 99, 101]⟩) := (cell_of_heap hx 0).trans rfl
  have x1 : wz.cell? ⟨wr.heap.size, 1, none⟩ = some (.int .i64 t) := (cell_of_heap hx 1).trans rfl
  have x2 : wz.cell? ⟨wr.heap.size, 2, none⟩ = some (.int .i64 cc) := (cell_of_heap hx 2).trans rfl
  have x3 : wz.cell? ⟨wr.heap.size, 3, none⟩ = some (.int .i64 gg) := (cell_of_heap hx 3).trans rfl
  have x4 : wz.cell? ⟨wr.heap.size, 4, none⟩ = some (.int .i64 W) := (cell_of_heap hx 4).trans rfl
  have x5 : wz.cell? ⟨wr.heap.size, 5, none⟩ = some (.int .i64 V) := (cell_of_heap hx 5).trans rfl
  have x6 : wz.cell? ⟨wr.heap.size, 6, none⟩ = some (.int .i64 O) := (cell_of_heap hx 6).trans rfl
  have xb := lt_of_block hx
  have HT := Lib.hid hT
  have Hth := Lib.hid hth
  have Hx := Lib.hid hx
  have HnP := Lib.hid hnP
  clear T hT hq0 hth htb hx hnP
  cases tb
  · go_enter Tryd.func78, Tryd.ntmps78
    go_wp2_with fail
    rw [← hwz]
    refine Hth.out.mono ?_
    rintro e w' ⟨rfl, rfl⟩
    clear hwz Hth
    go_wp2_with fail
    go_loopw [9, 10] (fun nv iv wr2 => ∃ j : Nat, j ≤ n ∧ iv = .int .i64 j ∧ nv = .int .i64 (S j : Nat) ∧ I j wr2) (fun _ iv _ => n - (intOf iv).toNat)
    case atStart => exact ⟨0, Nat.zero_le _, rfl, by rw [h00]; rfl, h0⟩
    case round =>
      obtain ⟨j, hj, rfl, rfl, hI⟩ := hrel
      obtain ⟨hb2, bw, cap, hc2⟩ := hw j wr hI
      by_cases hlt : j < n
      · have hd : decide ((j : Int) < (n : Int)) = true := by simp; omega
        obtain ⟨c, hSc, hr1⟩ := hr j wr hlt hI
        have hSb := hS (j + 1)
        clear hI
        go_wp2_with fail
        refine hr1.mono ?_
        clear hr1
        rintro e w3 ⟨rfl, hI3⟩
        have HI3 := Lib.hid hI3
        clear hI3
        go_wp2_with fail
        refine ⟨⟨j + 1, by omega, by go_num, ?_, HI3.out⟩, by simp [intOf]; omega⟩
        rw [hSc]
        go_num
      · have hd : decide ((j : Int) < (n : Int)) = false := by simp; omega
        have hjn : j = n := by omega
        subst hjn
        have hp1 := hp wr hI
        clear hI
        by_cases hz : S j = 0
        · rw [if_pos hz] at hp1
          rw [hz]
          go_wp2_with fail
          refine hp1.mono ?_
          clear hp1
          rintro e w3 ⟨rfl, L', m', vs', hT3⟩
          have HT3 := Lib.hid hT3
          clear hT3
          go_wp2_with fail
          refine (coded_own' HT3.out.E 0 (by omega)).mono ?_
          rintro e w4 ⟨rfl, hm4⟩
          have HT4 := Lib.hid (HT3.out.keep hm4)
          clear hm4
          go_wp2
          go_ret
          exact ⟨rfl, _, _, _, HT4.out⟩
        · rw [if_neg hz] at hp1
          have hz1 : decide ((0 : Int) < (S j : Int)) = true := by simp; omega
          have hz2 : (0 : Int) < (S j : Int) := by omega
          go_wp2_with fail
          refine hp1.mono ?_
          clear hp1
          rintro e w3 ⟨rfl, L', m', vs', hT3⟩
          have HT3 := Lib.hid hT3
          clear hT3
          go_wp2_with fail
          refine (coded_own' HT3.out.E 7 (by omega)).mono ?_
          rintro e w4 ⟨rfl, hm4⟩
          have HT4 := Lib.hid (HT3.out.keep hm4)
          clear hm4
          go_wp2
          go_ret
          exact ⟨rfl, _, _, _, HT4.out⟩
  · go_enter Tryd.func78, Tryd.ntmps78
    go_wp2_with fail
    rw [← hwz]
    refine Hth.out.mono ?_
    rintro e w' ⟨rfl, rfl⟩
    clear hwz Hth
    go_wp2_with fail
    go_loopw [9, 10] (fun nv iv wr2 => ∃ j : Nat, j ≤ n ∧ iv = .int .i64 j ∧ nv = .int .i64 (S j : Nat) ∧ I j wr2) (fun _ iv _ => n - (intOf iv).toNat)
    case atStart => exact ⟨0, Nat.zero_le _, rfl, by rw [h00]; rfl, h0⟩
    case round =>
      obtain ⟨j, hj, rfl, rfl, hI⟩ := hrel
      obtain ⟨hb2, bw, cap, hc2⟩ := hw j wr hI
      by_cases hlt : j < n
      · have hd : decide ((j : Int) < (n : Int)) = true := by simp; omega
        obtain ⟨c, hSc, hr1⟩ := hr j wr hlt hI
        have hSb := hS (j + 1)
        clear hI
        go_wp2_with fail
        refine hr1.mono ?_
        clear hr1
        rintro e w3 ⟨rfl, hI3⟩
        have HI3 := Lib.hid hI3
        clear hI3
        go_wp2_with fail
        refine ⟨⟨j + 1, by omega, by go_num, ?_, HI3.out⟩, by simp [intOf]; omega⟩
        rw [hSc]
        go_num
      · have hd : decide ((j : Int) < (n : Int)) = false := by simp; omega
        have hjn : j = n := by omega
        subst hjn
        have hp1 := hp wr hI
        clear hI
        by_cases hz : S j = 0
        · rw [if_pos hz] at hp1
          rw [hz]
          go_wp2_with fail
          refine hp1.mono ?_
          clear hp1
          rintro e w3 ⟨rfl, L', m', vs', hT3⟩
          have HT3 := Lib.hid hT3
          clear hT3
          go_wp2_with fail
          refine (coded_own' HT3.out.E 0 (by omega)).mono ?_
          rintro e w4 ⟨rfl, hm4⟩
          have HT4 := Lib.hid (HT3.out.keep hm4)
          clear hm4
          go_wp2
          go_ret
          exact ⟨rfl, _, _, _, HT4.out⟩
        · rw [if_neg hz] at hp1
          have hz1 : decide ((0 : Int) < (S j : Int)) = true := by simp; omega
          have hz2 : (0 : Int) < (S j : Int) := by omega
          go_wp2_with fail
          refine hp1.mono ?_
          clear hp1
          rintro e w3 ⟨rfl, L', m', vs', hT3⟩
          have HT3 := Lib.hid hT3
          clear hT3
          go_wp2_with fail
          refine (coded_own' HT3.out.E 7 (by omega)).mono ?_
          rintro e w4 ⟨rfl, hm4⟩
          have HT4 := Lib.hid (HT3.out.keep hm4)
          clear hm4
          go_wp2
          go_ret
          exact ⟨rfl, _, _, _, HT4.out⟩
end Go.Proofs.YtamfbfajlfbooaaDoor
end
/- quiescentlaw1.memoryAct. -/
section
namespace Go.Proofs.YtamfbfajlfbooaaDoor
open Go.RowKit Qs Qh
variable {b0 wr : World} {a : Nat → Addr} {B : PB} {tn bm k : Nat} {L : Lay} {m : M} {vs : List Value}
set_option maxRecDepth 100000 in
set_option maxHeartbeats 4000000 in
theorem act_free_thread (T : MemRel b0 a B tn bm k L m vs wr) (cc gg W V O : Int) {t : Int} (ht : t < 0 ∨ (m.waits.length : Int) ≤ t)
    (hp : Calls Tryd.prog 117 #[.pointer (some ⟨B.bM, 0, none⟩), .int .i64 t, .agg #[.int .i64 cc, .int .i64 gg]] (wBox wr ⟨#[102, 114, 101, 101]⟩ t cc gg W V O) fun e w' => e = .returned (errOf' a 2) ∧ Mod noF (wBox wr ⟨#[102, 114, 101, 101]⟩ t cc gg W V O) w') :
    Calls Tryd.prog 78 #[.pointer (some ⟨B.bM, 0, none⟩), .pointer (some ⟨bm, 0, none⟩), .agg #[.string ⟨#[102, 114, 101, 101]⟩, .int .i64 t, .int .i64 cc, .int .i64 gg, .int .i64 W, .int .i64 V, .int .i64 O]] wr (actOk b0 a B tn bm (k + 1)) := by
  have hq0 := (Mod.refl noF wr).alloc (xBox ⟨#[102, 114, 101, 101]⟩ t cc gg W V O)
  have hT := T.keep hq0
  have hx := heap_alloc_new wr (xBox ⟨#[102, 114, 101, 101]⟩ t cc gg W V O)
  have hnP : ¬ PFoot B vs wr.heap.size := fun h => Nat.lt_irrefl _ (T.mem.lt h)
  have hth := rthread_any hT.rep rfl hT.om hT.ol (t)
  rw [hT.top] at hth
  unfold wBox at hp
  obtain ⟨wz, hwz⟩ : ∃ wz, wz = wr.alloc (xBox ⟨#[102, 114, 101, 101]⟩ t cc gg W V O) := ⟨_, rfl⟩
  rw [← hwz] at hT hx hth hp
  have dth : (decide ((0 : Int) ≤ (t)) && decide ((t) < (m.waits.length : Int))) = false := by
    simp; omega
  rw [dth] at hth
  have x0 : wz.cell? ⟨wr.heap.size, 0, none⟩ = some (.string ⟨#[102, 114, 101, 101]⟩) := (cell_of_heap hx 0).trans rfl
  have x1 : wz.cell? ⟨wr.heap.size, 1, none⟩ = some (.int .i64 t) := (cell_of_heap hx 1).trans rfl
  have x2 : wz.cell? ⟨wr.heap.size, 2, none⟩ = some (.int .i64 cc) := (cell_of_heap hx 2).trans rfl
  have x3 : wz.cell? ⟨wr.heap.size, 3, none⟩ = some (.int .i64 gg) := (cell_of_heap hx 3).trans rfl
  have x4 : wz.cell? ⟨wr.heap.size, 4, none⟩ = some (.int .i64 W) := (cell_of_heap hx 4).trans rfl
  have x5 : wz.cell? ⟨wr.heap.size, 5, none⟩ = some (.int .i64 V) := (cell_of_heap hx 5).trans rfl
  have x6 : wz.cell? ⟨wr.heap.size, 6, none⟩ = some (.int .i64 O) := (cell_of_heap hx 6).trans rfl
  have xb := lt_of_block hx
  have HT := Lib.hid hT
  have Hth := Lib.hid hth
  have Hx := Lib.hid hx
  have HnP := Lib.hid hnP
  clear T hT hq0 hth dth hx hnP
  go_enter Tryd.func78, Tryd.ntmps78
  go_wp2_with fail
  rw [← hwz]
  refine Hth.out.mono ?_
  rintro e w' ⟨rfl, rfl⟩
  clear hwz Hth
  go_wp2_with fail
  refine hp.mono ?_
  clear hp
  rintro e w1 ⟨rfl, hm1⟩
  have hx1 := hm1.heap Hx.out (fun e => e)
  have x0 : w1.cell? ⟨wr.heap.size, 0, none⟩ = some (.string ⟨#[102, 114, 101, 101]⟩) := (cell_of_heap hx1 0).trans rfl
  have x1 : w1.cell? ⟨wr.heap.size, 1, none⟩ = some (.int .i64 t) := (cell_of_heap hx1 1).trans rfl
  have x2 : w1.cell? ⟨wr.heap.size, 2, none⟩ = some (.int .i64 cc) := (cell_of_heap hx1 2).trans rfl
  have x3 : w1.cell? ⟨wr.heap.size, 3, none⟩ = some (.int .i64 gg) := (cell_of_heap hx1 3).trans rfl
  have x4 : w1.cell? ⟨wr.heap.size, 4, none⟩ = some (.int .i64 W) := (cell_of_heap hx1 4).trans rfl
  have x5 : w1.cell? ⟨wr.heap.size, 5, none⟩ = some (.int .i64 V) := (cell_of_heap hx1 5).trans rfl
  have x6 : w1.cell? ⟨wr.heap.size, 6, none⟩ = some (.int .i64 O) := (cell_of_heap hx1 6).trans rfl
  have xb := lt_of_block hx1
  have HT2 := Lib.hid (HT.out.keep hm1)
  clear hx1 hm1
  go_wp2_with fail
  refine (coded_own' HT2.out.E 2 (by omega)).mono ?_
  rintro e w3 ⟨rfl, hm3⟩
  have HT3 := Lib.hid ((HT2.out.keep hm3).up (Nat.le_succ k))
  clear hm3
  go_wp2
  go_ret
  exact ⟨rfl, _, _, _, HT3.out⟩
end Go.Proofs.YtamfbfajlfbooaaDoor
end
/- quiescentlaw1.memoryAct. -/
section
namespace Go.Proofs.YtamfbfajlfbooaaDoor
open Go.RowKit Qs Qh
variable {b0 wr : World} {a : Nat → Addr} {B : PB} {tn bm k : Nat} {L : Lay} {m : M} {vs : List Value}
set_option maxRecDepth 100000 in
set_option maxHeartbeats 4000000 in
theorem act_free_at (T : MemRel b0 a B tn bm k L m vs wr) (cc gg W V O : Int) {t : Nat} {q : List Wt} (hq : m.waits[t]? = some q) {code : Int} (hc : 0 < code ∧ code ≤ 9) {l1 : List Cell} {ws1 : List (List Wt)}
    (hp : Calls Tryd.prog 117 #[.pointer (some ⟨B.bM, 0, none⟩), .int .i64 t, .agg #[.int .i64 cc, .int .i64 gg]] (wBox wr ⟨#[102, 114, 101, 101]⟩ t cc gg W V O) (PAns a B vs (wBox wr ⟨#[102, 114, 101, 101]⟩ t cc gg W V O) l1 ws1 (errOf' a code)))
    (hr : ∀ vs' w1, PUp (wBox wr ⟨#[102, 114, 101, 101]⟩ t cc gg W V O) B vs w1 l1 ws1 vs' → Calls Tryd.prog 72 #[.pointer (some ⟨bm, 0, none⟩), .agg #[.int .i64 cc, .int .i64 gg], .int .i64 0] w1 (RAns b0 a B tn bm (k + 1) vs' (.int .i64 code))) :
    Calls Tryd.prog 78 #[.pointer (some ⟨B.bM, 0, none⟩), .pointer (some ⟨bm, 0, none⟩), .agg #[.string ⟨#[102, 114, 101, 101]⟩, .int .i64 t, .int .i64 cc, .int .i64 gg, .int .i64 W, .int .i64 V, .int .i64 O]] wr (actOk b0 a B tn bm (k + 1)) := by
  have hq0 := (Mod.refl noF wr).alloc (xBox ⟨#[102, 114, 101, 101]⟩ (t : Int) cc gg W V O)
  have hT := T.keep hq0
  have hx := heap_alloc_new wr (xBox ⟨#[102, 114, 101, 101]⟩ (t : Int) cc gg W V O)
  have hnP : ¬ PFoot B vs wr.heap.size := fun h => Nat.lt_irrefl _ (T.mem.lt h)
  have hth := rthread_any hT.rep rfl hT.om hT.ol ((t : Int))
  rw [hT.top] at hth
  unfold wBox at hp hr
  obtain ⟨wz, hwz⟩ : ∃ wz, wz = wr.alloc (xBox ⟨#[102, 114, 101, 101]⟩ (t : Int) cc gg W V O) := ⟨_, rfl⟩
  rw [← hwz] at hT hx hth hp hr
  have dth : (decide ((0 : Int) ≤ ((t : Int))) && decide (((t : Int)) < (m.waits.length : Int))) = true := by
    have := (List.getElem?_eq_some_iff.1 hq).1; simp; omega
  rw [dth] at hth
  have x0 : wz.cell? ⟨wr.heap.size, 0, none⟩ = some (.string ⟨#[102, 114, 101, 101]⟩) := (cell_of_heap hx 0).trans rfl
  have x1 : wz.cell? ⟨wr.heap.size, 1, none⟩ = some (.int .i64 (t : Int)) := (cell_of_heap hx 1).trans rfl
  have x2 : wz.cell? ⟨wr.heap.size, 2, none⟩ = some (.int .i64 cc) := (cell_of_heap hx 2).trans rfl
  have x3 : wz.cell? ⟨wr.heap.size, 3, none⟩ = some (.int .i64 gg) := (cell_of_heap hx 3).trans rfl
  have x4 : wz.cell? ⟨wr.heap.size, 4, none⟩ = some (.int .i64 W) := (cell_of_heap hx 4).trans rfl
  have x5 : wz.cell? ⟨wr.heap.size, 5, none⟩ = some (.int .i64 V) := (cell_of_heap hx 5).trans rfl
  have x6 : wz.cell? ⟨wr.heap.size, 6, none⟩ = some (.int .i64 O) := (cell_of_heap hx 6).trans rfl
  have xb := lt_of_block hx
  have HT := Lib.hid hT
  have Hth := Lib.hid hth
  have Hx := Lib.hid hx
  have HnP := Lib.hid hnP
  clear T hT hq0 hth dth hx hnP
  go_enter Tryd.func78, Tryd.ntmps78
  go_wp2_with fail
  rw [← hwz]
  refine Hth.out.mono ?_
  rintro e w' ⟨rfl, rfl⟩
  clear hwz Hth
  go_wp2_with fail
  refine hp.mono ?_
  clear hp
  rintro e w1 ⟨rfl, vs', hU⟩
  have hx1 := hU.heap HnP.out Hx.out
  have x0 : w1.cell? ⟨wr.heap.size, 0, none⟩ = some (.string ⟨#[102, 114, 101, 101]⟩) := (cell_of_heap hx1 0).trans rfl
  have x1 : w1.cell? ⟨wr.heap.size, 1, none⟩ = some (.int .i64 t) := (cell_of_heap hx1 1).trans rfl
  have x2 : w1.cell? ⟨wr.heap.size, 2, none⟩ = some (.int .i64 cc) := (cell_of_heap hx1 2).trans rfl
  have x3 : w1.cell? ⟨wr.heap.size, 3, none⟩ = some (.int .i64 gg) := (cell_of_heap hx1 3).trans rfl
  have x4 : w1.cell? ⟨wr.heap.size, 4, none⟩ = some (.int .i64 W) := (cell_of_heap hx1 4).trans rfl
  have x5 : w1.cell? ⟨wr.heap.size, 5, none⟩ = some (.int .i64 V) := (cell_of_heap hx1 5).trans rfl
  have x6 : w1.cell? ⟨wr.heap.size, 6, none⟩ = some (.int .i64 O) := (cell_of_heap hx1 6).trans rfl
  have xb := lt_of_block hx1
  have hr1 := hr vs' w1 hU
  clear hr hU hx1
  have dc : decide (code = 0) = false := by simp; omega
  go_wp2_with fail
  refine hr1.mono ?_
  clear hr1
  rintro e w2 ⟨rfl, L', m', hT2⟩
  have HT2 := Lib.hid hT2
  clear hT2
  go_wp2_with fail
  refine (coded_own' HT2.out.E code (by omega)).mono ?_
  rintro e w3 ⟨rfl, hm3⟩
  have HT3 := Lib.hid (HT2.out.keep hm3)
  clear hm3
  go_wp2
  go_ret
  exact ⟨rfl, _, _, _, HT3.out⟩
end Go.Proofs.YtamfbfajlfbooaaDoor
end
/- quiescentlaw1.memoryAct. -/
section
namespace Go.Proofs.YtamfbfajlfbooaaDoor
open Go.RowKit Qs Qh
variable {b0 wr : World} {a : Nat → Addr} {B : PB} {tn bm k : Nat} {L : Lay} {m : M} {vs : List Value}
set_option maxRecDepth 100000 in
set_option maxHeartbeats 4000000 in
theorem act_free_fence (T : MemRel b0 a B tn bm k L m vs wr) (cc gg W V O : Int) {t : Nat} {q : List Wt} (hq : m.waits[t]? = some q) {n : Nat} (hn : 0 < n) {l1 : List Cell} {ws1 : List (List Wt)}
    (hp : Calls Tryd.prog 117 #[.pointer (some ⟨B.bM, 0, none⟩), .int .i64 t, .agg #[.int .i64 cc, .int .i64 gg]] (wBox wr ⟨#[102, 114, 101, 101]⟩ t cc gg W V O) (PAns a B vs (wBox wr ⟨#[102, 114, 101, 101]⟩ t cc gg W V O) l1 ws1 (errOf' a 7)))
    (hr0 : ∀ vs' w1, PUp (wBox wr ⟨#[102, 114, 101, 101]⟩ t cc gg W V O) B vs w1 l1 ws1 vs' → Calls Tryd.prog 72 #[.pointer (some ⟨bm, 0, none⟩), .agg #[.int .i64 cc, .int .i64 gg], .int .i64 0] w1 fun e w' => e = .returned (.int .i64 0) ∧ Mod noF w1 w')
    (hr : ∀ vs' w1 , PUp (wBox wr ⟨#[102, 114, 101, 101]⟩ t cc gg W V O) B vs w1 l1 ws1 vs' → Calls Tryd.prog 112 #[.pointer (some ⟨bm, 0, none⟩), .int .i64 t] w1 (RAns b0 a B tn bm (k + 1) vs' (.int .i64 n))) :
    Calls Tryd.prog 78 #[.pointer (some ⟨B.bM, 0, none⟩), .pointer (some ⟨bm, 0, none⟩), .agg #[.string ⟨#[102, 114, 101, 101]⟩, .int .i64 t, .int .i64 cc, .int .i64 gg, .int .i64 W, .int .i64 V, .int .i64 O]] wr (actOk b0 a B tn bm (k + 1)) := by
  have hq0 := (Mod.refl noF wr).alloc (xBox ⟨#[102, 114, 101, 101]⟩ (t : Int) cc gg W V O)
  have hT := T.keep hq0
  have hx := heap_alloc_new wr (xBox ⟨#[102, 114, 101, 101]⟩ (t : Int) cc gg W V O)
  have hnP : ¬ PFoot B vs wr.heap.size := fun h => Nat.lt_irrefl _ (T.mem.lt h)
  have hth := rthread_any hT.rep rfl hT.om hT.ol ((t : Int))
  rw [hT.top] at hth
  unfold wBox at hp hr hr0
  obtain ⟨wz, hwz⟩ : ∃ wz, wz = wr.alloc (xBox ⟨#[102, 114, 101, 101]⟩ (t : Int) cc gg W V O) := ⟨_, rfl⟩
  rw [← hwz] at hT hx hth hp hr hr0
  have dth : (decide ((0 : Int) ≤ ((t : Int))) && decide (((t : Int)) < (m.waits.length : Int))) = true := by
    have := (List.getElem?_eq_some_iff.1 hq).1; simp; omega
  rw [dth] at hth
  have x0 : wz.cell? ⟨wr.heap.size, 0, none⟩ = some (.string ⟨#[102, 114, 101, 101]⟩) := (cell_of_heap hx 0).trans rfl
  have x1 : wz.cell? ⟨wr.heap.size, 1, none⟩ = some (.int .i64 (t : Int)) := (cell_of_heap hx 1).trans rfl
  have x2 : wz.cell? ⟨wr.heap.size, 2, none⟩ = some (.int .i64 cc) := (cell_of_heap hx 2).trans rfl
  have x3 : wz.cell? ⟨wr.heap.size, 3, none⟩ = some (.int .i64 gg) := (cell_of_heap hx 3).trans rfl
  have x4 : wz.cell? ⟨wr.heap.size, 4, none⟩ = some (.int .i64 W) := (cell_of_heap hx 4).trans rfl
  have x5 : wz.cell? ⟨wr.heap.size, 5, none⟩ = some (.int .i64 V) := (cell_of_heap hx 5).trans rfl
  have x6 : wz.cell? ⟨wr.heap.size, 6, none⟩ = some (.int .i64 O) := (cell_of_heap hx 6).trans rfl
  have xb := lt_of_block hx
  have HT := Lib.hid hT
  have Hth := Lib.hid hth
  have Hx := Lib.hid hx
  have HnP := Lib.hid hnP
  have hnR : ¬ Foot ty memK L m wr.heap.size := fun h => Nat.lt_irrefl _ (T.rep.lt h)
  have HnR := Lib.hid hnR
  clear hnR
  clear T hT hq0 hth dth hx hnP
  go_enter Tryd.func78, Tryd.ntmps78
  go_wp2_with fail
  rw [← hwz]
  refine Hth.out.mono ?_
  rintro e w' ⟨rfl, rfl⟩
  clear hwz Hth
  go_wp2_with fail
  refine hp.mono ?_
  clear hp
  rintro e w1 ⟨rfl, vs', hU⟩
  have hx1 := hU.heap HnP.out Hx.out
  have x0 : w1.cell? ⟨wr.heap.size, 0, none⟩ = some (.string ⟨#[102, 114, 101, 101]⟩) := (cell_of_heap hx1 0).trans rfl
  have x1 : w1.cell? ⟨wr.heap.size, 1, none⟩ = some (.int .i64 t) := (cell_of_heap hx1 1).trans rfl
  have x2 : w1.cell? ⟨wr.heap.size, 2, none⟩ = some (.int .i64 cc) := (cell_of_heap hx1 2).trans rfl
  have x3 : w1.cell? ⟨wr.heap.size, 3, none⟩ = some (.int .i64 gg) := (cell_of_heap hx1 3).trans rfl
  have x4 : w1.cell? ⟨wr.heap.size, 4, none⟩ = some (.int .i64 W) := (cell_of_heap hx1 4).trans rfl
  have x5 : w1.cell? ⟨wr.heap.size, 5, none⟩ = some (.int .i64 V) := (cell_of_heap hx1 5).trans rfl
  have x6 : w1.cell? ⟨wr.heap.size, 6, none⟩ = some (.int .i64 O) := (cell_of_heap hx1 6).trans rfl
  have xb := lt_of_block hx1
  have Hx1 := Lib.hid hx1
  have HU := Lib.hid hU
  have hr1 := hr0 vs' w1 hU
  clear hr0 hU hx1
  go_wp2_with fail
  refine hr1.mono ?_
  clear hr1
  rintro e w2 ⟨rfl, hm2⟩
  have hx2 := hm2.heap Hx1.out (fun e => e)
  have x0 : w2.cell? ⟨wr.heap.size, 0, none⟩ = some (.string ⟨#[102, 114, 101, 101]⟩) := (cell_of_heap hx2 0).trans rfl
  have x1 : w2.cell? ⟨wr.heap.size, 1, none⟩ = some (.int .i64 t) := (cell_of_heap hx2 1).trans rfl
  have x2 : w2.cell? ⟨wr.heap.size, 2, none⟩ = some (.int .i64 cc) := (cell_of_heap hx2 2).trans rfl
  have x3 : w2.cell? ⟨wr.heap.size, 3, none⟩ = some (.int .i64 gg) := (cell_of_heap hx2 3).trans rfl
  have x4 : w2.cell? ⟨wr.heap.size, 4, none⟩ = some (.int .i64 W) := (cell_of_heap hx2 4).trans rfl
  have x5 : w2.cell? ⟨wr.heap.size, 5, none⟩ = some (.int .i64 V) := (cell_of_heap hx2 5).trans rfl
  have x6 : w2.cell? ⟨wr.heap.size, 6, none⟩ = some (.int .i64 O) := (cell_of_heap hx2 6).trans rfl
  have xb := lt_of_block hx2
  have hr1 := hr vs' w2 (HU.out.then0 hm2)
  clear hr hm2 hx2
  have d0 : decide ((0 : Int) < (n : Int)) = true := by simp; omega
  have d0' : (0 : Int) < (n : Int) := by omega
  go_wp2_with fail
  refine hr1.mono ?_
  clear hr1
  rintro e w3 ⟨rfl, L', m', hT3⟩
  have HT3 := Lib.hid hT3
  clear hT3
  go_wp2_with fail
  refine (coded_own' HT3.out.E 7 (by omega)).mono ?_
  rintro e w4 ⟨rfl, hm4⟩
  have HT4 := Lib.hid (HT3.out.keep hm4)
  clear hm4
  go_wp2
  go_ret
  exact ⟨rfl, _, _, _, HT4.out⟩
end Go.Proofs.YtamfbfajlfbooaaDoor
end
/- quiescentlaw1.memoryAct. -/
section
namespace Go.Proofs.YtamfbfajlfbooaaDoor
open Go.RowKit Qs Qh
variable {b0 wr : World} {a : Nat → Addr} {B : PB} {tn bm k : Nat} {L : Lay} {m : M} {vs : List Value}
set_option maxRecDepth 100000 in
set_option maxHeartbeats 4000000 in
theorem act_swap_word1 (T : MemRel b0 a B tn bm k L m vs wr) (cc gg W V O : Int)  {t : Nat} {q : List Wt} (hq : m.waits[t]? = some q) (hiw : isWord V = false)
    (hr : ∀ w1, MemRel b0 a B tn bm k L m vs w1 → Calls Tryd.prog 72 #[.pointer (some ⟨bm, 0, none⟩), .agg #[.int .i64 cc, .int .i64 gg], .int .i64 W] w1 fun e w' => e = .returned (.int .i64 0) ∧ Mod noF w1 w')
    (hp : ∀ w1, MemRel b0 a B tn bm k L m vs w1 → Calls Tryd.prog 118 #[.pointer (some ⟨B.bM, 0, none⟩), .int .i64 t, .agg #[.int .i64 cc, .int .i64 gg], .int .i64 W, .int .i64 V] w1 fun e w' => e = .returned (.tuple #[.int .i64 0, errOf' a 2]) ∧ ∃ L' m' vs', MemRel b0 a B tn bm (k + 1) L' m' vs' w') :
    Calls Tryd.prog 78 #[.pointer (some ⟨B.bM, 0, none⟩), .pointer (some ⟨bm, 0, none⟩), .agg #[.string ⟨#[115, 119, 97, 112]⟩, .int .i64 t, .int .i64 cc, .int .i64 gg, .int .i64 W, .int .i64 V, .int .i64 O]] wr (actOk b0 a B tn bm (k + 1)) := by
  have hq0 := (Mod.refl noF wr).alloc (xBox ⟨#[115, 119, 97, 112]⟩ (t : Int) cc gg W V O)
  have hT := T.keep hq0
  have hx := heap_alloc_new wr (xBox ⟨#[115, 119, 97, 112]⟩ (t : Int) cc gg W V O)
  have hnP : ¬ PFoot B vs wr.heap.size := fun h => Nat.lt_irrefl _ (T.mem.lt h)
  have hth := rthread_any hT.rep rfl hT.om hT.ol ((t : Int))
  rw [hT.top] at hth
  obtain ⟨wz, hwz⟩ : ∃ wz, wz = wr.alloc (xBox ⟨#[115, 119, 97, 112]⟩ (t : Int) cc gg W V O) := ⟨_, rfl⟩
  rw [← hwz] at hT hx hth
  have dth : (decide ((0 : Int) ≤ ((t : Int))) && decide (((t : Int)) < (m.waits.length : Int))) = true := by
    have := (List.getElem?_eq_some_iff.1 hq).1; simp; omega
  rw [dth] at hth
  have x0 : wz.cell? ⟨wr.heap.size, 0, none⟩ = some (.string ⟨#[115, 119, 97, 112]⟩) := (cell_of_heap hx 0).trans rfl
  have x1 : wz.cell? ⟨wr.heap.size, 1, none⟩ = some (.int .i64 (t : Int)) := (cell_of_heap hx 1).trans rfl
  have x2 : wz.cell? ⟨wr.heap.size, 2, none⟩ = some (.int .i64 cc) := (cell_of_heap hx 2).trans rfl
  have x3 : wz.cell? ⟨wr.heap.size, 3, none⟩ = some (.int .i64 gg) := (cell_of_heap hx 3).trans rfl
  have x4 : wz.cell? ⟨wr.heap.size, 4, none⟩ = some (.int .i64 W) := (cell_of_heap hx 4).trans rfl
  have x5 : wz.cell? ⟨wr.heap.size, 5, none⟩ = some (.int .i64 V) := (cell_of_heap hx 5).trans rfl
  have x6 : wz.cell? ⟨wr.heap.size, 6, none⟩ = some (.int .i64 O) := (cell_of_heap hx 6).trans rfl
  have xb := lt_of_block hx
  have HT := Lib.hid hT
  have Hth := Lib.hid hth
  have Hx := Lib.hid hx
  have HnP := Lib.hid hnP
  have hnR : ¬ Foot ty memK L m wr.heap.size := fun h => Nat.lt_irrefl _ (T.rep.lt h)
  have HnR := Lib.hid hnR
  clear hnR
  clear T hT hq0 hth dth hx hnP
  go_enter Tryd.func78, Tryd.ntmps78
  go_wp2_with fail
  rw [← hwz]
  refine Hth.out.mono ?_
  rintro e w' ⟨rfl, rfl⟩
  clear hwz Hth
  go_wp2_with fail
  refine (hr _ HT.out).mono ?_
  clear hr
  rintro e w2 ⟨rfl, hm2⟩
  have hx2 := hm2.heap Hx.out (fun e => e)
  have x0 : w2.cell? ⟨wr.heap.size, 0, none⟩ = some (.string ⟨#[115, 119, 97, 112]⟩) := (cell_of_heap hx2 0).trans rfl
  have x1 : w2.cell? ⟨wr.heap.size, 1, none⟩ = some (.int .i64 t) := (cell_of_heap hx2 1).trans rfl
  have x2 : w2.cell? ⟨wr.heap.size, 2, none⟩ = some (.int .i64 cc) := (cell_of_heap hx2 2).trans rfl
  have x3 : w2.cell? ⟨wr.heap.size, 3, none⟩ = some (.int .i64 gg) := (cell_of_heap hx2 3).trans rfl
  have x4 : w2.cell? ⟨wr.heap.size, 4, none⟩ = some (.int .i64 W) := (cell_of_heap hx2 4).trans rfl
  have x5 : w2.cell? ⟨wr.heap.size, 5, none⟩ = some (.int .i64 V) := (cell_of_heap hx2 5).trans rfl
  have x6 : w2.cell? ⟨wr.heap.size, 6, none⟩ = some (.int .i64 O) := (cell_of_heap hx2 6).trans rfl
  have xb := lt_of_block hx2
  have HT2 := Lib.hid (HT.out.keep hm2)
  have Hx2 := Lib.hid hx2
  clear hm2 hx2
  have Hiw := Lib.hid hiw
  clear hiw
  go_wp2_with (first | (go_at_call 31; refine (isWord_any _ _).mono ?_; rintro e w' ⟨rfl, rfl⟩; (first | rw [Hiw.out])) | fail)
  refine (hp _ HT2.out).mono ?_
  clear hp
  rintro e w3 ⟨rfl, L', m', vs', hT3⟩
  have HTF := Lib.hid hT3
  clear hT3
  go_wp2_with fail
  refine (coded_own' HTF.out.E 2 (by omega)).mono ?_
  rintro e w9 ⟨rfl, hm9⟩
  have HT9 := Lib.hid ((HTF.out.keep hm9))
  clear hm9
  go_wp2_with fail
  go_ret
  exact ⟨rfl, _, _, _, HT9.out⟩
end Go.Proofs.YtamfbfajlfbooaaDoor
end
/- quiescentlaw1.memoryAct. -/
section
namespace Go.Proofs.YtamfbfajlfbooaaDoor
open Go.RowKit Qs Qh
variable {b0 wr : World} {a : Nat → Addr} {B : PB} {tn bm k : Nat} {L : Lay} {m : M} {vs : List Value}
set_option maxRecDepth 100000 in
set_option maxHeartbeats 4000000 in
theorem act_swap_fence (T : MemRel b0 a B tn bm k L m vs wr) (cc gg W V O : Int)  {t : Nat} {q : List Wt} (hq : m.waits[t]? = some q) (hiw : isWord V = true) {n : Nat} (hn : 0 < n) (J : World → Prop)
    (hr : ∀ w1, MemRel b0 a B tn bm k L m vs w1 → Calls Tryd.prog 72 #[.pointer (some ⟨bm, 0, none⟩), .agg #[.int .i64 cc, .int .i64 gg], .int .i64 W] w1 fun e w' => e = .returned (.int .i64 0) ∧ Mod noF w1 w')
    (hf : ∀ w1 g o, MemRel b0 a B tn bm k L m vs w1 → ¬ Foot ty memK L m g → w1.heap[g]? = some o → Calls Tryd.prog 112 #[.pointer (some ⟨bm, 0, none⟩), .int .i64 t] w1 fun e w2 => e = .returned (.int .i64 n) ∧ w2.heap[g]? = some o ∧ J w2)
    (hp : ∀ w1, J w1 → Calls Tryd.prog 118 #[.pointer (some ⟨B.bM, 0, none⟩), .int .i64 t, .agg #[.int .i64 cc, .int .i64 gg], .int .i64 W, .int .i64 V] w1 fun e w' => e = .returned (.tuple #[.int .i64 0, errOf' a 7]) ∧ ∃ L' m' vs', MemRel b0 a B tn bm (k + 1) L' m' vs' w') :
    Calls Tryd.prog 78 #[.pointer (some ⟨B.bM, 0, none⟩), .pointer (some ⟨bm, 0, none⟩), .agg #[.string ⟨#[115, 119, 97, 112]⟩, .int .i64 t, .int .i64 cc, .int .i64 gg, .int .i64 W, .int .i64 V, .int .i64 O]] wr (actOk b0 a B tn bm (k + 1)) := by
  have hq0 := (Mod.refl noF wr).alloc (xBox ⟨#[115, 119, 97, 112]⟩ (t : Int) cc gg W V O)
  have hT := T.keep hq0
  have hx := heap_alloc_new wr (xBox ⟨#[115, 119, 97, 112]⟩ (t : Int) cc gg W V O)
  have hnP : ¬ PFoot B vs wr.heap.size := fun h => Nat.lt_irrefl _ (T.mem.lt h)
  have hth := rthread_any hT.rep rfl hT.om hT.ol ((t : Int))
  rw [hT.top] at hth
  obtain ⟨wz, hwz⟩ : ∃ wz, wz = wr.alloc (xBox ⟨#[115, 119, 97, 112]⟩ (t : Int) cc gg W V O) := ⟨_, rfl⟩
  rw [← hwz] at hT hx hth
  have dth : (decide ((0 : Int) ≤ ((t : Int))) && decide (((t : Int)) < (m.waits.length : Int))) = true := by
    have := (List.getElem?_eq_some_iff.1 hq).1; simp; omega
  rw [dth] at hth
  have x0 : wz.cell? ⟨wr.heap.size, 0, none⟩ = some (.string ⟨#[115, 119, 97, 112]⟩) := (cell_of_heap hx 0).trans rfl
  have x1 : wz.cell? ⟨wr.heap.size, 1, none⟩ = some (.int .i64 (t : Int)) := (cell_of_heap hx 1).trans rfl
  have x2 : wz.cell? ⟨wr.heap.size, 2, none⟩ = some (.int .i64 cc) := (cell_of_heap hx 2).trans rfl
  have x3 : wz.cell? ⟨wr.heap.size, 3, none⟩ = some (.int .i64 gg) := (cell_of_heap hx 3).trans rfl
  have x4 : wz.cell? ⟨wr.heap.size, 4, none⟩ = some (.int .i64 W) := (cell_of_heap hx 4).trans rfl
  have x5 : wz.cell? ⟨wr.heap.size, 5, none⟩ = some (.int .i64 V) := (cell_of_heap hx 5).trans rfl
  have x6 : wz.cell? ⟨wr.heap.size, 6, none⟩ = some (.int .i64 O) := (cell_of_heap hx 6).trans rfl
  have xb := lt_of_block hx
  have HT := Lib.hid hT
  have Hth := Lib.hid hth
  have Hx := Lib.hid hx
  have HnP := Lib.hid hnP
  have hnR : ¬ Foot ty memK L m wr.heap.size := fun h => Nat.lt_irrefl _ (T.rep.lt h)
  have HnR := Lib.hid hnR
  clear hnR
  clear T hT hq0 hth dth hx hnP
  go_enter Tryd.func78, Tryd.ntmps78
  go_wp2_with fail
  rw [← hwz]
  refine Hth.out.mono ?_
  rintro e w' ⟨rfl, rfl⟩
  clear hwz Hth
  go_wp2_with fail
  refine (hr _ HT.out).mono ?_
  clear hr
  rintro e w2 ⟨rfl, hm2⟩
  have hx2 := hm2.heap Hx.out (fun e => e)
  have x0 : w2.cell? ⟨wr.heap.size, 0, none⟩ = some (.string ⟨#[115, 119, 97, 112]⟩) := (cell_of_heap hx2 0).trans rfl
  have x1 : w2.cell? ⟨wr.heap.size, 1, none⟩ = some (.int .i64 t) := (cell_of_heap hx2 1).trans rfl
  have x2 : w2.cell? ⟨wr.heap.size, 2, none⟩ = some (.int .i64 cc) := (cell_of_heap hx2 2).trans rfl
  have x3 : w2.cell? ⟨wr.heap.size, 3, none⟩ = some (.int .i64 gg) := (cell_of_heap hx2 3).trans rfl
  have x4 : w2.cell? ⟨wr.heap.size, 4, none⟩ = some (.int .i64 W) := (cell_of_heap hx2 4).trans rfl
  have x5 : w2.cell? ⟨wr.heap.size, 5, none⟩ = some (.int .i64 V) := (cell_of_heap hx2 5).trans rfl
  have x6 : w2.cell? ⟨wr.heap.size, 6, none⟩ = some (.int .i64 O) := (cell_of_heap hx2 6).trans rfl
  have xb := lt_of_block hx2
  have HT2 := Lib.hid (HT.out.keep hm2)
  have Hx2 := Lib.hid hx2
  clear hm2 hx2
  have Hiw := Lib.hid hiw
  clear hiw
  go_wp2_with (first | (go_at_call 31; refine (isWord_any _ _).mono ?_; rintro e w' ⟨rfl, rfl⟩; (first | rw [Hiw.out])) | fail)
  have d0 : decide ((0 : Int) < (n : Int)) = true := by simp; omega
  have d0' : (0 : Int) < (n : Int) := by omega
  refine (hf _ _ _ HT2.out HnR.out Hx2.out).mono ?_
  clear hf
  rintro e w3 ⟨rfl, hx3, hJ⟩
  have x0 : w3.cell? ⟨wr.heap.size, 0, none⟩ = some (.string ⟨#[115, 119, 97, 112]⟩) := (cell_of_heap hx3 0).trans rfl
  have x1 : w3.cell? ⟨wr.heap.size, 1, none⟩ = some (.int .i64 t) := (cell_of_heap hx3 1).trans rfl
  have x2 : w3.cell? ⟨wr.heap.size, 2, none⟩ = some (.int .i64 cc) := (cell_of_heap hx3 2).trans rfl
  have x3 : w3.cell? ⟨wr.heap.size, 3, none⟩ = some (.int .i64 gg) := (cell_of_heap hx3 3).trans rfl
  have x4 : w3.cell? ⟨wr.heap.size, 4, none⟩ = some (.int .i64 W) := (cell_of_heap hx3 4).trans rfl
  have x5 : w3.cell? ⟨wr.heap.size, 5, none⟩ = some (.int .i64 V) := (cell_of_heap hx3 5).trans rfl
  have x6 : w3.cell? ⟨wr.heap.size, 6, none⟩ = some (.int .i64 O) := (cell_of_heap hx3 6).trans rfl
  have xb := lt_of_block hx3
  have HJ := Lib.hid hJ
  clear hJ hx3
  go_wp2_with fail
  refine (hp _ HJ.out).mono ?_
  clear hp
  rintro e w4 ⟨rfl, L', m', vs', hT4⟩
  have HTF := Lib.hid hT4
  clear hT4
  go_wp2_with fail
  refine (coded_own' HTF.out.E 7 (by omega)).mono ?_
  rintro e w9 ⟨rfl, hm9⟩
  have HT9 := Lib.hid ((HTF.out.keep hm9))
  clear hm9
  go_wp2_with fail
  go_ret
  exact ⟨rfl, _, _, _, HT9.out⟩
end Go.Proofs.YtamfbfajlfbooaaDoor
end
/- quiescentlaw1.memoryAct. -/
section
namespace Go.Proofs.YtamfbfajlfbooaaDoor
open Go.RowKit Qs Qh
variable {b0 wr : World} {a : Nat → Addr} {B : PB} {tn bm k : Nat} {L : Lay} {m : M} {vs : List Value}
set_option maxRecDepth 100000 in
set_option maxHeartbeats 4000000 in
theorem act_cas_word1 (T : MemRel b0 a B tn bm k L m vs wr) (cc gg W V O : Int) (kind : ByteArray) (k0 : ¬ kind = ⟨#[102, 111, 114, 99, 101]⟩) (k1 : ¬ kind = ⟨#[112, 101, 101, 107]⟩) (k2 : ¬ kind = ⟨#[108, 111, 97, 100]⟩) (k3 : ¬ kind = ⟨#[115, 116, 111, 114, 101]⟩) (k4 : ¬ kind = ⟨#[100, 114, 97, 105, 110]⟩) (k5 : ¬ kind = ⟨#[102, 101, 110, 99, 101]⟩) (k6 : ¬ kind = ⟨#[97, 108, 108, 111, 99]⟩) (k7 : ¬ kind = ⟨#[102, 114, 101, 101]⟩) (k8 : ¬ kind = ⟨#[115, 119, 97, 112]⟩) {t : Nat} {q : List Wt} (hq : m.waits[t]? = some q) (hiw : isWord V = false)
    (hr : ∀ w1, MemRel b0 a B tn bm k L m vs w1 → Calls Tryd.prog 72 #[.pointer (some ⟨bm, 0, none⟩), .agg #[.int .i64 cc, .int .i64 gg], .int .i64 W] w1 fun e w' => e = .returned (.int .i64 0) ∧ Mod noF w1 w')
    (hp : ∀ w1, MemRel b0 a B tn bm k L m vs w1 → Calls Tryd.prog 119 #[.pointer (some ⟨B.bM, 0, none⟩), .int .i64 t, .agg #[.int .i64 cc, .int .i64 gg], .int .i64 W, .int .i64 O, .int .i64 V] w1 fun e w' => e = .returned (.tuple #[.int .i64 0, errOf' a 2]) ∧ ∃ L' m' vs', MemRel b0 a B tn bm (k + 1) L' m' vs' w') :
    Calls Tryd.prog 78 #[.pointer (some ⟨B.bM, 0, none⟩), .pointer (some ⟨bm, 0, none⟩), .agg #[.string kind, .int .i64 t, .int .i64 cc, .int .i64 gg, .int .i64 W, .int .i64 V, .int .i64 O]] wr (actOk b0 a B tn bm (k + 1)) := by
  have nD : True := trivial
  have e0 := notStr kind [102, 111, 114, 99, 101] k0
  have e1 := notStr kind [112, 101, 101, 107] k1
  have e2 := notStr kind [108, 111, 97, 100] k2
  have e3 := notStr kind [115, 116, 111, 114, 101] k3
  have e4 := notStr kind [100, 114, 97, 105, 110] k4
  have e5 := notStr kind [102, 101, 110, 99, 101] k5
  have e6 := notStr kind [97, 108, 108, 111, 99] k6
  have e7 := notStr kind [102, 114, 101, 101] k7
  have e8 := notStr kind [115, 119, 97, 112] k8
  have hq0 := (Mod.refl noF wr).alloc (xBox kind (t : Int) cc gg W V O)
  have hT := T.keep hq0
  have hx := heap_alloc_new wr (xBox kind (t : Int) cc gg W V O)
  have hnP : ¬ PFoot B vs wr.heap.size := fun h => Nat.lt_irrefl _ (T.mem.lt h)
  have hth := rthread_any hT.rep rfl hT.om hT.ol ((t : Int))
  rw [hT.top] at hth
  obtain ⟨wz, hwz⟩ : ∃ wz, wz = wr.alloc (xBox kind (t : Int) cc gg W V O) := ⟨_, rfl⟩
  rw [← hwz] at hT hx hth
  have dth : (decide ((0 : Int) ≤ ((t : Int))) && decide (((t : Int)) < (m.waits.length : Int))) = true := by
    have := (List.getElem?_eq_some_iff.1 hq).1; simp; omega
  rw [dth] at hth
  have x0 : wz.cell? ⟨wr.heap.size, 0, none⟩ = some (.string kind) := (cell_of_heap hx 0).trans rfl
  have x1 : wz.cell? ⟨wr.heap.size, 1, none⟩ = some (.int .i64 (t : Int)) := (cell_of_heap hx 1).trans rfl
  have x2 : wz.cell? ⟨wr.heap.size, 2, none⟩ = some (.int .i64 cc) := (cell_of_heap hx 2).trans rfl
  have x3 : wz.cell? ⟨wr.heap.size, 3, none⟩ = some (.int .i64 gg) := (cell_of_heap hx 3).trans rfl
  have x4 : wz.cell? ⟨wr.heap.size, 4, none⟩ = some (.int .i64 W) := (cell_of_heap hx 4).trans rfl
  have x5 : wz.cell? ⟨wr.heap.size, 5, none⟩ = some (.int .i64 V) := (cell_of_heap hx 5).trans rfl
  have x6 : wz.cell? ⟨wr.heap.size, 6, none⟩ = some (.int .i64 O) := (cell_of_heap hx 6).trans rfl
  have xb := lt_of_block hx
  have HT := Lib.hid hT
  have Hth := Lib.hid hth
  have Hx := Lib.hid hx
  have HnP := Lib.hid hnP
  have hnR : ¬ Foot ty memK L m wr.heap.size := fun h => Nat.lt_irrefl _ (T.rep.lt h)
  have HnR := Lib.hid hnR
  clear hnR
  clear T hT hq0 hth dth hx hnP
  go_enter Tryd.func78, Tryd.ntmps78
  go_wp2_with fail
  rw [← hwz]
  refine Hth.out.mono ?_
  rintro e w' ⟨rfl, rfl⟩
  clear hwz Hth
  go_wp2_with fail
  refine (hr _ HT.out).mono ?_
  clear hr
  rintro e w2 ⟨rfl, hm2⟩
  have hx2 := hm2.heap Hx.out (fun e => e)
  have x0 : w2.cell? ⟨wr.heap.size, 0, none⟩ = some (.string kind) := (cell_of_heap hx2 0).trans rfl
  have x1 : w2.cell? ⟨wr.heap.size, 1, none⟩ = some (.int .i64 t) := (cell_of_heap hx2 1).trans rfl
  have x2 : w2.cell? ⟨wr.heap.size, 2, none⟩ = some (.int .i64 cc) := (cell_of_heap hx2 2).trans rfl
  have x3 : w2.cell? ⟨wr.heap.size, 3, none⟩ = some (.int .i64 gg) := (cell_of_heap hx2 3).trans rfl
  have x4 : w2.cell? ⟨wr.heap.size, 4, none⟩ = some (.int .i64 W) := (cell_of_heap hx2 4).trans rfl
  have x5 : w2.cell? ⟨wr.heap.size, 5, none⟩ = some (.int .i64 V) := (cell_of_heap hx2 5).trans rfl
  have x6 : w2.cell? ⟨wr.heap.size, 6, none⟩ = some (.int .i64 O) := (cell_of_heap hx2 6).trans rfl
  have xb := lt_of_block hx2
  have HT2 := Lib.hid (HT.out.keep hm2)
  have Hx2 := Lib.hid hx2
  clear hm2 hx2
  have Hiw := Lib.hid hiw
  clear hiw
  go_wp2_with (first | (go_at_call 31; refine (isWord_any _ _).mono ?_; rintro e w' ⟨rfl, rfl⟩; (first | rw [Hiw.out])) | fail)
  refine (hp _ HT2.out).mono ?_
  clear hp
  rintro e w3 ⟨rfl, L', m', vs', hT3⟩
  have HTF := Lib.hid hT3
  clear hT3
  go_wp2_with fail
  refine (coded_own' HTF.out.E 2 (by omega)).mono ?_
  rintro e w9 ⟨rfl, hm9⟩
  have HT9 := Lib.hid ((HTF.out.keep hm9))
  clear hm9
  go_wp2_with fail
  go_ret
  exact ⟨rfl, _, _, _, HT9.out⟩
end Go.Proofs.YtamfbfajlfbooaaDoor
end
/- quiescentlaw1.memoryAct. -/
section
namespace Go.Proofs.YtamfbfajlfbooaaDoor
open Go.RowKit Qs Qh
variable {b0 wr : World} {a : Nat → Addr} {B : PB} {tn bm k : Nat} {L : Lay} {m : M} {vs : List Value}
set_option maxRecDepth 100000 in
set_option maxHeartbeats 4000000 in
theorem act_cas_word2 (T : MemRel b0 a B tn bm k L m vs wr) (cc gg W V O : Int) (kind : ByteArray) (k0 : ¬ kind = ⟨#[102, 111, 114, 99, 101]⟩) (k1 : ¬ kind = ⟨#[112, 101, 101, 107]⟩) (k2 : ¬ kind = ⟨#[108, 111, 97, 100]⟩) (k3 : ¬ kind = ⟨#[115, 116, 111, 114, 101]⟩) (k4 : ¬ kind = ⟨#[100, 114, 97, 105, 110]⟩) (k5 : ¬ kind = ⟨#[102, 101, 110, 99, 101]⟩) (k6 : ¬ kind = ⟨#[97, 108, 108, 111, 99]⟩) (k7 : ¬ kind = ⟨#[102, 114, 101, 101]⟩) (k8 : ¬ kind = ⟨#[115, 119, 97, 112]⟩) {t : Nat} {q : List Wt} (hq : m.waits[t]? = some q) (hiw : isWord V = true) (hio : isWord O = false)
    (hr : ∀ w1, MemRel b0 a B tn bm k L m vs w1 → Calls Tryd.prog 72 #[.pointer (some ⟨bm, 0, none⟩), .agg #[.int .i64 cc, .int .i64 gg], .int .i64 W] w1 fun e w' => e = .returned (.int .i64 0) ∧ Mod noF w1 w')
    (hp : ∀ w1, MemRel b0 a B tn bm k L m vs w1 → Calls Tryd.prog 119 #[.pointer (some ⟨B.bM, 0, none⟩), .int .i64 t, .agg #[.int .i64 cc, .int .i64 gg], .int .i64 W, .int .i64 O, .int .i64 V] w1 fun e w' => e = .returned (.tuple #[.int .i64 0, errOf' a 2]) ∧ ∃ L' m' vs', MemRel b0 a B tn bm (k + 1) L' m' vs' w') :
    Calls Tryd.prog 78 #[.pointer (some ⟨B.bM, 0, none⟩), .pointer (some ⟨bm, 0, none⟩), .agg #[.string kind, .int .i64 t, .int .i64 cc, .int .i64 gg, .int .i64 W, .int .i64 V, .int .i64 O]] wr (actOk b0 a B tn bm (k + 1)) := by
  have nD : True := trivial
  have e0 := notStr kind [102, 111, 114, 99, 101] k0
  have e1 := notStr kind [112, 101, 101, 107] k1
  have e2 := notStr kind [108, 111, 97, 100] k2
  have e3 := notStr kind [115, 116, 111, 114, 101] k3
  have e4 := notStr kind [100, 114, 97, 105, 110] k4
  have e5 := notStr kind [102, 101, 110, 99, 101] k5
  have e6 := notStr kind [97, 108, 108, 111, 99] k6
  have e7 := notStr kind [102, 114, 101, 101] k7
  have e8 := notStr kind [115, 119, 97, 112] k8
  have hq0 := (Mod.refl noF wr).alloc (xBox kind (t : Int) cc gg W V O)
  have hT := T.keep hq0
  have hx := heap_alloc_new wr (xBox kind (t : Int) cc gg W V O)
  have hnP : ¬ PFoot B vs wr.heap.size := fun h => Nat.lt_irrefl _ (T.mem.lt h)
  have hth := rthread_any hT.rep rfl hT.om hT.ol ((t : Int))
  rw [hT.top] at hth
  obtain ⟨wz, hwz⟩ : ∃ wz, wz = wr.alloc (xBox kind (t : Int) cc gg W V O) := ⟨_, rfl⟩
  rw [← hwz] at hT hx hth
  have dth : (decide ((0 : Int) ≤ ((t : Int))) && decide (((t : Int)) < (m.waits.length : Int))) = true := by
    have := (List.getElem?_eq_some_iff.1 hq).1; simp; omega
  rw [dth] at hth
  have x0 : wz.cell? ⟨wr.heap.size, 0, none⟩ = some (.string kind) := (cell_of_heap hx 0).trans rfl
  have x1 : wz.cell? ⟨wr.heap.size, 1, none⟩ = some (.int .i64 (t : Int)) := (cell_of_heap hx 1).trans rfl
  have x2 : wz.cell? ⟨wr.heap.size, 2, none⟩ = some (.int .i64 cc) := (cell_of_heap hx 2).trans rfl
  have x3 : wz.cell? ⟨wr.heap.size, 3, none⟩ = some (.int .i64 gg) := (cell_of_heap hx 3).trans rfl
  have x4 : wz.cell? ⟨wr.heap.size, 4, none⟩ = some (.int .i64 W) := (cell_of_heap hx 4).trans rfl
  have x5 : wz.cell? ⟨wr.heap.size, 5, none⟩ = some (.int .i64 V) := (cell_of_heap hx 5).trans rfl
  have x6 : wz.cell? ⟨wr.heap.size, 6, none⟩ = some (.int .i64 O) := (cell_of_heap hx 6).trans rfl
  have xb := lt_of_block hx
  have HT := Lib.hid hT
  have Hth := Lib.hid hth
  have Hx := Lib.hid hx
  have HnP := Lib.hid hnP
  have hnR : ¬ Foot ty memK L m wr.heap.size := fun h => Nat.lt_irrefl _ (T.rep.lt h)
  have HnR := Lib.hid hnR
  clear hnR
  clear T hT hq0 hth dth hx hnP
  go_enter Tryd.func78, Tryd.ntmps78
  go_wp2_with fail
  rw [← hwz]
  refine Hth.out.mono ?_
  rintro e w' ⟨rfl, rfl⟩
  clear hwz Hth
  go_wp2_with fail
  refine (hr _ HT.out).mono ?_
  clear hr
  rintro e w2 ⟨rfl, hm2⟩
  have hx2 := hm2.heap Hx.out (fun e => e)
  have x0 : w2.cell? ⟨wr.heap.size, 0, none⟩ = some (.string kind) := (cell_of_heap hx2 0).trans rfl
  have x1 : w2.cell? ⟨wr.heap.size, 1, none⟩ = some (.int .i64 t) := (cell_of_heap hx2 1).trans rfl
  have x2 : w2.cell? ⟨wr.heap.size, 2, none⟩ = some (.int .i64 cc) := (cell_of_heap hx2 2).trans rfl
  have x3 : w2.cell? ⟨wr.heap.size, 3, none⟩ = some (.int .i64 gg) := (cell_of_heap hx2 3).trans rfl
  have x4 : w2.cell? ⟨wr.heap.size, 4, none⟩ = some (.int .i64 W) := (cell_of_heap hx2 4).trans rfl
  have x5 : w2.cell? ⟨wr.heap.size, 5, none⟩ = some (.int .i64 V) := (cell_of_heap hx2 5).trans rfl
  have x6 : w2.cell? ⟨wr.heap.size, 6, none⟩ = some (.int .i64 O) := (cell_of_heap hx2 6).trans rfl
  have xb := lt_of_block hx2
  have HT2 := Lib.hid (HT.out.keep hm2)
  have Hx2 := Lib.hid hx2
  clear hm2 hx2
  have Hiw := Lib.hid hiw
  clear hiw
  have Hio := Lib.hid hio
  clear hio
  go_wp2_with (first | (go_at_call 31; refine (isWord_any _ _).mono ?_; rintro e w' ⟨rfl, rfl⟩; (first | rw [Hiw.out] | rw [Hio.out])) | fail)
  refine (hp _ HT2.out).mono ?_
  clear hp
  rintro e w3 ⟨rfl, L', m', vs', hT3⟩
  have HTF := Lib.hid hT3
  clear hT3
  go_wp2_with fail
  refine (coded_own' HTF.out.E 2 (by omega)).mono ?_
  rintro e w9 ⟨rfl, hm9⟩
  have HT9 := Lib.hid ((HTF.out.keep hm9))
  clear hm9
  go_wp2_with fail
  go_ret
  exact ⟨rfl, _, _, _, HT9.out⟩
end Go.Proofs.YtamfbfajlfbooaaDoor
end
/- quiescentlaw1.memoryAct. -/
section
namespace Go.Proofs.YtamfbfajlfbooaaDoor
open Go.RowKit Qs Qh
variable {b0 wr : World} {a : Nat → Addr} {B : PB} {tn bm k : Nat} {L : Lay} {m : M} {vs : List Value}
set_option maxRecDepth 100000 in
set_option maxHeartbeats 4000000 in
theorem act_cas_fence (T : MemRel b0 a B tn bm k L m vs wr) (cc gg W V O : Int) (kind : ByteArray) (k0 : ¬ kind = ⟨#[102, 111, 114, 99, 101]⟩) (k1 : ¬ kind = ⟨#[112, 101, 101, 107]⟩) (k2 : ¬ kind = ⟨#[108, 111, 97, 100]⟩) (k3 : ¬ kind = ⟨#[115, 116, 111, 114, 101]⟩) (k4 : ¬ kind = ⟨#[100, 114, 97, 105, 110]⟩) (k5 : ¬ kind = ⟨#[102, 101, 110, 99, 101]⟩) (k6 : ¬ kind = ⟨#[97, 108, 108, 111, 99]⟩) (k7 : ¬ kind = ⟨#[102, 114, 101, 101]⟩) (k8 : ¬ kind = ⟨#[115, 119, 97, 112]⟩) {t : Nat} {q : List Wt} (hq : m.waits[t]? = some q) (hiw : isWord V = true) (hio : isWord O = true) {n : Nat} (hn : 0 < n) (J : World → Prop)
    (hr : ∀ w1, MemRel b0 a B tn bm k L m vs w1 → Calls Tryd.prog 72 #[.pointer (some ⟨bm, 0, none⟩), .agg #[.int .i64 cc, .int .i64 gg], .int .i64 W] w1 fun e w' => e = .returned (.int .i64 0) ∧ Mod noF w1 w')
    (hf : ∀ w1 g o, MemRel b0 a B tn bm k L m vs w1 → ¬ Foot ty memK L m g → w1.heap[g]? = some o → Calls Tryd.prog 112 #[.pointer (some ⟨bm, 0, none⟩), .int .i64 t] w1 fun e w2 => e = .returned (.int .i64 n) ∧ w2.heap[g]? = some o ∧ J w2)
    (hp : ∀ w1, J w1 → Calls Tryd.prog 119 #[.pointer (some ⟨B.bM, 0, none⟩), .int .i64 t, .agg #[.int .i64 cc, .int .i64 gg], .int .i64 W, .int .i64 O, .int .i64 V] w1 fun e w' => e = .returned (.tuple #[.int .i64 0, errOf' a 7]) ∧ ∃ L' m' vs', MemRel b0 a B tn bm (k + 1) L' m' vs' w') :
    Calls Tryd.prog 78 #[.pointer (some ⟨B.bM, 0, none⟩), .pointer (some ⟨bm, 0, none⟩), .agg #[.string kind, .int .i64 t, .int .i64 cc, .int .i64 gg, .int .i64 W, .int .i64 V, .int .i64 O]] wr (actOk b0 a B tn bm (k + 1)) := by
  have nD : True := trivial
  have e0 := notStr kind [102, 111, 114, 99, 101] k0
  have e1 := notStr kind [112, 101, 101, 107] k1
  have e2 := notStr kind [108, 111, 97, 100] k2
  have e3 := notStr kind [115, 116, 111, 114, 101] k3
  have e4 := notStr kind [100, 114, 97, 105, 110] k4
  have e5 := notStr kind [102, 101, 110, 99, 101] k5
  have e6 := notStr kind [97, 108, 108, 111, 99] k6
  have e7 := notStr kind [102, 114, 101, 101] k7
  have e8 := notStr kind [115, 119, 97, 112] k8
  have hq0 := (Mod.refl noF wr).alloc (xBox kind (t : Int) cc gg W V O)
  have hT := T.keep hq0
  have hx := heap_alloc_new wr (xBox kind (t : Int) cc gg W V O)
  have hnP : ¬ PFoot B vs wr.heap.size := fun h => Nat.lt_irrefl _ (T.mem.lt h)
  have hth := rthread_any hT.rep rfl hT.om hT.ol ((t : Int))
  rw [hT.top] at hth
  obtain ⟨wz, hwz⟩ : ∃ wz, wz = wr.alloc (xBox kind (t : Int) cc gg W V O) := ⟨_, rfl⟩
  rw [← hwz] at hT hx hth
  have dth : (decide ((0 : Int) ≤ ((t : Int))) && decide (((t : Int)) < (m.waits.length : Int))) = true := by
    have := (List.getElem?_eq_some_iff.1 hq).1; simp; omega
  rw [dth] at hth
  have x0 : wz.cell? ⟨wr.heap.size, 0, none⟩ = some (.string kind) := (cell_of_heap hx 0).trans rfl
  have x1 : wz.cell? ⟨wr.heap.size, 1, none⟩ = some (.int .i64 (t : Int)) := (cell_of_heap hx 1).trans rfl
  have x2 : wz.cell? ⟨wr.heap.size, 2, none⟩ = some (.int .i64 cc) := (cell_of_heap hx 2).trans rfl
  have x3 : wz.cell? ⟨wr.heap.size, 3, none⟩ = some (.int .i64 gg) := (cell_of_heap hx 3).trans rfl
  have x4 : wz.cell? ⟨wr.heap.size, 4, none⟩ = some (.int .i64 W) := (cell_of_heap hx 4).trans rfl
  have x5 : wz.cell? ⟨wr.heap.size, 5, none⟩ = some (.int .i64 V) := (cell_of_heap hx 5).trans rfl
  have x6 : wz.cell? ⟨wr.heap.size, 6, none⟩ = some (.int .i64 O) := (cell_of_heap hx 6).trans rfl
  have xb := lt_of_block hx
  have HT := Lib.hid hT
  have Hth := Lib.hid hth
  have Hx := Lib.hid hx
  have HnP := Lib.hid hnP
  have hnR : ¬ Foot ty memK L m wr.heap.size := fun h => Nat.lt_irrefl _ (T.rep.lt h)
  have HnR := Lib.hid hnR
  clear hnR
  clear T hT hq0 hth dth hx hnP
  go_enter Tryd.func78, Tryd.ntmps78
  go_wp2_with fail
  rw [← hwz]
  refine Hth.out.mono ?_
  rintro e w' ⟨rfl, rfl⟩
  clear hwz Hth
  go_wp2_with fail
  refine (hr _ HT.out).mono ?_
  clear hr
  rintro e w2 ⟨rfl, hm2⟩
  have hx2 := hm2.heap Hx.out (fun e => e)
  have x0 : w2.cell? ⟨wr.heap.size, 0, none⟩ = some (.string kind) := (cell_of_heap hx2 0).trans rfl
  have x1 : w2.cell? ⟨wr.heap.size, 1, none⟩ = some (.int .i64 t) := (cell_of_heap hx2 1).trans rfl
  have x2 : w2.cell? ⟨wr.heap.size, 2, none⟩ = some (.int .i64 cc) := (cell_of_heap hx2 2).trans rfl
  have x3 : w2.cell? ⟨wr.heap.size, 3, none⟩ = some (.int .i64 gg) := (cell_of_heap hx2 3).trans rfl
  have x4 : w2.cell? ⟨wr.heap.size, 4, none⟩ = some (.int .i64 W) := (cell_of_heap hx2 4).trans rfl
  have x5 : w2.cell? ⟨wr.heap.size, 5, none⟩ = some (.int .i64 V) := (cell_of_heap hx2 5).trans rfl
  have x6 : w2.cell? ⟨wr.heap.size, 6, none⟩ = some (.int .i64 O) := (cell_of_heap hx2 6).trans rfl
  have xb := lt_of_block hx2
  have HT2 := Lib.hid (HT.out.keep hm2)
  have Hx2 := Lib.hid hx2
  clear hm2 hx2
  have Hiw := Lib.hid hiw
  clear hiw
  have Hio := Lib.hid hio
  clear hio
  go_wp2_with (first | (go_at_call 31; refine (isWord_any _ _).mono ?_; rintro e w' ⟨rfl, rfl⟩; (first | rw [Hiw.out] | rw [Hio.out])) | fail)
  have d0 : decide ((0 : Int) < (n : Int)) = true := by simp; omega
  have d0' : (0 : Int) < (n : Int) := by omega
  refine (hf _ _ _ HT2.out HnR.out Hx2.out).mono ?_
  clear hf
  rintro e w3 ⟨rfl, hx3, hJ⟩
  have x0 : w3.cell? ⟨wr.heap.size, 0, none⟩ = some (.string kind) := (cell_of_heap hx3 0).trans rfl
  have x1 : w3.cell? ⟨wr.heap.size, 1, none⟩ = some (.int .i64 t) := (cell_of_heap hx3 1).trans rfl
  have x2 : w3.cell? ⟨wr.heap.size, 2, none⟩ = some (.int .i64 cc) := (cell_of_heap hx3 2).trans rfl
  have x3 : w3.cell? ⟨wr.heap.size, 3, none⟩ = some (.int .i64 gg) := (cell_of_heap hx3 3).trans rfl
  have x4 : w3.cell? ⟨wr.heap.size, 4, none⟩ = some (.int .i64 W) := (cell_of_heap hx3 4).trans rfl
  have x5 : w3.cell? ⟨wr.heap.size, 5, none⟩ = some (.int .i64 V) := (cell_of_heap hx3 5).trans rfl
  have x6 : w3.cell? ⟨wr.heap.size, 6, none⟩ = some (.int .i64 O) := (cell_of_heap hx3 6).trans rfl
  have xb := lt_of_block hx3
  have HJ := Lib.hid hJ
  clear hJ hx3
  go_wp2_with fail
  refine (hp _ HJ.out).mono ?_
  clear hp
  rintro e w4 ⟨rfl, L', m', vs', hT4⟩
  have HTF := Lib.hid hT4
  clear hT4
  go_wp2_with fail
  refine (coded_own' HTF.out.E 7 (by omega)).mono ?_
  rintro e w9 ⟨rfl, hm9⟩
  have HT9 := Lib.hid ((HTF.out.keep hm9))
  clear hm9
  go_wp2_with fail
  go_ret
  exact ⟨rfl, _, _, _, HT9.out⟩
end Go.Proofs.YtamfbfajlfbooaaDoor
end
/- quiescentlaw1.memoryAct. -/
section
namespace Go.Proofs.YtamfbfajlfbooaaDoor
open Go.RowKit Qs Qh
variable {b0 wr : World} {a : Nat → Addr} {B : PB} {tn bm k : Nat} {L : Lay} {m : M} {vs : List Value}
set_option maxRecDepth 100000 in
set_option maxHeartbeats 4000000 in
theorem act_swap_thread (T : MemRel b0 a B tn bm k L m vs wr) (cc gg W V O : Int)  {t : Int} (ht : t < 0 ∨ (m.waits.length : Int) ≤ t) (hp : ∀ w1, MemRel b0 a B tn bm k L m vs w1 → Calls Tryd.prog 118 #[.pointer (some ⟨B.bM, 0, none⟩), .int .i64 t, .agg #[.int .i64 cc, .int .i64 gg], .int .i64 W, .int .i64 V] w1 fun e w' => e = .returned (.tuple #[.int .i64 0, errOf' a 2]) ∧ ∃ L' m' vs', MemRel b0 a B tn bm (k + 1) L' m' vs' w') :
    Calls Tryd.prog 78 #[.pointer (some ⟨B.bM, 0, none⟩), .pointer (some ⟨bm, 0, none⟩), .agg #[.string ⟨#[115, 119, 97, 112]⟩, .int .i64 t, .int .i64 cc, .int .i64 gg, .int .i64 W, .int .i64 V, .int .i64 O]] wr (actOk b0 a B tn bm (k + 1)) := by
  have hq0 := (Mod.refl noF wr).alloc (xBox ⟨#[115, 119, 97, 112]⟩ t cc gg W V O)
  have hT := T.keep hq0
  have hx := heap_alloc_new wr (xBox ⟨#[115, 119, 97, 112]⟩ t cc gg W V O)
  have hnP : ¬ PFoot B vs wr.heap.size := fun h => Nat.lt_irrefl _ (T.mem.lt h)
  have hth := rthread_any hT.rep rfl hT.om hT.ol (t)
  rw [hT.top] at hth
  obtain ⟨wz, hwz⟩ : ∃ wz, wz = wr.alloc (xBox ⟨#[115, 119, 97, 112]⟩ t cc gg W V O) := ⟨_, rfl⟩
  rw [← hwz] at hT hx hth
  have dth : (decide ((0 : Int) ≤ (t)) && decide ((t) < (m.waits.length : Int))) = false := by
    simp; omega
  rw [dth] at hth
  have x0 : wz.cell? ⟨wr.heap.size, 0, none⟩ = some (.string ⟨#[115, 119, 97, 112]⟩) := (cell_of_heap hx 0).trans rfl
  have x1 : wz.cell? ⟨wr.heap.size, 1, none⟩ = some (.int .i64 t) := (cell_of_heap hx 1).trans rfl
  have x2 : wz.cell? ⟨wr.heap.size, 2, none⟩ = some (.int .i64 cc) := (cell_of_heap hx 2).trans rfl
  have x3 : wz.cell? ⟨wr.heap.size, 3, none⟩ = some (.int .i64 gg) := (cell_of_heap hx 3).trans rfl
  have x4 : wz.cell? ⟨wr.heap.size, 4, none⟩ = some (.int .i64 W) := (cell_of_heap hx 4).trans rfl
  have x5 : wz.cell? ⟨wr.heap.size, 5, none⟩ = some (.int .i64 V) := (cell_of_heap hx 5).trans rfl
  have x6 : wz.cell? ⟨wr.heap.size, 6, none⟩ = some (.int .i64 O) := (cell_of_heap hx 6).trans rfl
  have xb := lt_of_block hx
  have HT := Lib.hid hT
  have Hth := Lib.hid hth
  have Hx := Lib.hid hx
  have HnP := Lib.hid hnP
  have hnR : ¬ Foot ty memK L m wr.heap.size := fun h => Nat.lt_irrefl _ (T.rep.lt h)
  have HnR := Lib.hid hnR
  clear hnR
  clear T hT hq0 hth dth hx hnP
  go_enter Tryd.func78, Tryd.ntmps78
  go_wp2_with fail
  rw [← hwz]
  refine Hth.out.mono ?_
  rintro e w' ⟨rfl, rfl⟩
  clear hwz Hth
  go_wp2_with fail
  refine (hp _ HT.out).mono ?_
  rintro e w3 ⟨rfl, L', m', vs', hT3⟩
  have HTF := Lib.hid hT3
  clear hT3
  go_wp2_with fail
  refine (coded_own' HTF.out.E 2 (by omega)).mono ?_
  rintro e w9 ⟨rfl, hm9⟩
  have HT9 := Lib.hid ((HTF.out.keep hm9))
  clear hm9
  go_wp2_with fail
  go_ret
  exact ⟨rfl, _, _, _, HT9.out⟩
end Go.Proofs.YtamfbfajlfbooaaDoor
end
/- quiescentlaw1.memoryAct. -/
section
namespace Go.Proofs.YtamfbfajlfbooaaDoor
open Go.RowKit Qs Qh
variable {b0 wr : World} {a : Nat → Addr} {B : PB} {tn bm k : Nat} {L : Lay} {m : M} {vs : List Value}
set_option maxRecDepth 100000 in
set_option maxHeartbeats 4000000 in
theorem act_cas_thread (T : MemRel b0 a B tn bm k L m vs wr) (cc gg W V O : Int) (kind : ByteArray) (k0 : ¬ kind = ⟨#[102, 111, 114, 99, 101]⟩) (k1 : ¬ kind = ⟨#[112, 101, 101, 107]⟩) (k2 : ¬ kind = ⟨#[108, 111, 97, 100]⟩) (k3 : ¬ kind = ⟨#[115, 116, 111, 114, 101]⟩) (k4 : ¬ kind = ⟨#[100, 114, 97, 105, 110]⟩) (k5 : ¬ kind = ⟨#[102, 101, 110, 99, 101]⟩) (k6 : ¬ kind = ⟨#[97, 108, 108, 111, 99]⟩) (k7 : ¬ kind = ⟨#[102, 114, 101, 101]⟩) (k8 : ¬ kind = ⟨#[115, 119, 97, 112]⟩) {t : Int} (ht : t < 0 ∨ (m.waits.length : Int) ≤ t) (hp : ∀ w1, MemRel b0 a B tn bm k L m vs w1 → Calls Tryd.prog 119 #[.pointer (some ⟨B.bM, 0, none⟩), .int .i64 t, .agg #[.int .i64 cc, .int .i64 gg], .int .i64 W, .int .i64 O, .int .i64 V] w1 fun e w' => e = .returned (.tuple #[.int .i64 0, errOf' a 2]) ∧ ∃ L' m' vs', MemRel b0 a B tn bm (k + 1) L' m' vs' w') :
    Calls Tryd.prog 78 #[.pointer (some ⟨B.bM, 0, none⟩), .pointer (some ⟨bm, 0, none⟩), .agg #[.string kind, .int .i64 t, .int .i64 cc, .int .i64 gg, .int .i64 W, .int .i64 V, .int .i64 O]] wr (actOk b0 a B tn bm (k + 1)) := by
  have nD : True := trivial
  have e0 := notStr kind [102, 111, 114, 99, 101] k0
  have e1 := notStr kind [112, 101, 101, 107] k1
  have e2 := notStr kind [108, 111, 97, 100] k2
  have e3 := notStr kind [115, 116, 111, 114, 101] k3
  have e4 := notStr kind [100, 114, 97, 105, 110] k4
  have e5 := notStr kind [102, 101, 110, 99, 101] k5
  have e6 := notStr kind [97, 108, 108, 111, 99] k6
  have e7 := notStr kind [102, 114, 101, 101] k7
  have e8 := notStr kind [115, 119, 97, 112] k8
  have hq0 := (Mod.refl noF wr).alloc (xBox kind t cc gg W V O)
  have hT := T.keep hq0
  have hx := heap_alloc_new wr (xBox kind t cc gg W V O)
  have hnP : ¬ PFoot B vs wr.heap.size := fun h => Nat.lt_irrefl _ (T.mem.lt h)
  have hth := rthread_any hT.rep rfl hT.om hT.ol (t)
  rw [hT.top] at hth
  obtain ⟨wz, hwz⟩ : ∃ wz, wz = wr.alloc (xBox kind t cc gg W V O) := ⟨_, rfl⟩
  rw [← hwz] at hT hx hth
  have dth : (decide ((0 : Int) ≤ (t)) && decide ((t) < (m.waits.length : Int))) = false := by
    simp; omega
  rw [dth] at hth
  have x0 : wz.cell? ⟨wr.heap.size, 0, none⟩ = some (.string kind) := (cell_of_heap hx 0).trans rfl
  have x1 : wz.cell? ⟨wr.heap.size, 1, none⟩ = some (.int .i64 t) := (cell_of_heap hx 1).trans rfl
  have x2 : wz.cell? ⟨wr.heap.size, 2, none⟩ = some (.int .i64 cc) := (cell_of_heap hx 2).trans rfl
  have x3 : wz.cell? ⟨wr.heap.size, 3, none⟩ = some (.int .i64 gg) := (cell_of_heap hx 3).trans rfl
  have x4 : wz.cell? ⟨wr.heap.size, 4, none⟩ = some (.int .i64 W) := (cell_of_heap hx 4).trans rfl
  have x5 : wz.cell? ⟨wr.heap.size, 5, none⟩ = some (.int .i64 V) := (cell_of_heap hx 5).trans rfl
  have x6 : wz.cell? ⟨wr.heap.size, 6, none⟩ = some (.int .i64 O) := (cell_of_heap hx 6).trans rfl
  have xb := lt_of_block hx
  have HT := Lib.hid hT
  have Hth := Lib.hid hth
  have Hx := Lib.hid hx
  have HnP := Lib.hid hnP
  have hnR : ¬ Foot ty memK L m wr.heap.size := fun h => Nat.lt_irrefl _ (T.rep.lt h)
  have HnR := Lib.hid hnR
  clear hnR
  clear T hT hq0 hth dth hx hnP
  go_enter Tryd.func78, Tryd.ntmps78
  go_wp2_with fail
  rw [← hwz]
  refine Hth.out.mono ?_
  rintro e w' ⟨rfl, rfl⟩
  clear hwz Hth
  go_wp2_with fail
  refine (hp _ HT.out).mono ?_
  rintro e w3 ⟨rfl, L', m', vs', hT3⟩
  have HTF := Lib.hid hT3
  clear hT3
  go_wp2_with fail
  refine (coded_own' HTF.out.E 2 (by omega)).mono ?_
  rintro e w9 ⟨rfl, hm9⟩
  have HT9 := Lib.hid ((HTF.out.keep hm9))
  clear hm9
  go_wp2_with fail
  go_ret
  exact ⟨rfl, _, _, _, HT9.out⟩
end Go.Proofs.YtamfbfajlfbooaaDoor
end
