/- quiescentlaw1.waits. -/
import Derived.Test.YtamfbfajlfbooaaDoorRPLoad
import Derived.Test.YtamfbfajlfbooaaDoorRPFence
set_option linter.unusedVariables false
set_option linter.unusedSimpArgs false
set_option linter.unusedSectionVars false
namespace Go.Proofs.YtamfbfajlfbooaaDoor
open Go.RowKit Qs Qh
variable {w : World} {B : PB} {l : List Cell} {ws : List (List Wt)} {vs : List Value} {a : Nat → Addr}
/-- One store, by any numbers. -/
theorem pstore_any (h : PMV w B l ws vs) (E : Errs4 w a) (C : CellsOk l) (hn6 : ws.length ≤ 6) {t : Nat} {q : List Wt} (hq : ws[t]? = some q) (hql : q.length ≤ 8) (c r W V : Int) :
    Calls Tryd.prog 30 #[.pointer (some ⟨B.bM, 0, none⟩), .int .i64 t, .agg #[.int .i64 c, .int .i64 r], .int .i64 W, .int .i64 V] w fun e w' => e = .returned (errOf' a (pstE l q c r W V)) ∧ ∃ vs', PUp w B vs w' l (if pstE l q c r W V = 0 then ws.set t (q ++ [⟨c, r, W, V⟩]) else ws) vs' := by
  rcases loadE_cases l c r W with he | he | he
  · cases hv : isWord V with
    | false =>
      have e : pstE l q c r W V = 2 := by simp [pstE, he, hv]
      rw [e, if_neg (by decide)]
      exact (pstore_bound h E C.len C.times hn6 hq hql c r W V _ he hv).mono fun e w' h => ⟨h.1, _, h.2⟩
    | true =>
      by_cases h8 : 8 ≤ q.length
      · have e : pstE l q c r W V = 6 := by simp [pstE, he, hv, h8]
        rw [e, if_neg (by decide)]
        exact (pstore_full h E C.len C.times hn6 hq hql c r W V _ he hv h8).mono fun e w' h => ⟨h.1, _, h.2⟩
      · have e : pstE l q c r W V = 0 := by simp [pstE, he, hv, h8]
        rw [e, if_pos rfl]
        exact pstore_ok h E C.len C.times hn6 hq hql c r W V _ he hv (by omega)
  · have e : pstE l q c r W V = 2 := by simp [pstE, he]
    rw [e, if_neg (by decide)]
    exact (pstore_err2 h E C.len C.times hq c r W V he).mono fun e w' h => ⟨h.1, _, h.2⟩
  · have e : pstE l q c r W V = 7 := by simp [pstE, he]
    rw [e, if_neg (by decide)]
    exact (pstore_err7 h E C.len C.times hq c r W V he).mono fun e w' h => ⟨h.1, _, h.2⟩
/-- One load, by any numbers. -/
def ploadV (l : List Cell) (q : List Wt) (c r W : Int) : Int := if (loadE l c r W).2 = 0 then Qs.look q c r W (loadE l c r W).1 else 0
theorem pload_any (h : PMV w B l ws vs) (E : Errs4 w a) (C : CellsOk l) (hn6 : ws.length ≤ 6) {t : Nat} {q : List Wt} (hq : ws[t]? = some q) (hql : q.length ≤ 8) (c r W : Int) :
    Calls Tryd.prog 34 #[.pointer (some ⟨B.bM, 0, none⟩), .int .i64 t, .agg #[.int .i64 c, .int .i64 r], .int .i64 W] w fun e w' => e = .returned (.tuple #[.int .i64 (ploadV l q c r W), errOf' a (loadE l c r W).2]) ∧ Mod noF w w' := by
  rcases loadE_cases l c r W with he | he | he
  · have e : ploadV l q c r W = Qs.look q c r W (getWord l c.toNat W.toNat) := by simp [ploadV, he]
    rw [e, he]
    exact pload_ok h E C.len C.times hn6 hq hql c r W _ he
  · have e : ploadV l q c r W = 0 := by simp [ploadV, he]
    rw [e, he]
    exact pload_err2 h E C.len C.times hq c r W he
  · have e : ploadV l q c r W = 0 := by simp [ploadV, he]
    rw [e, he]
    exact pload_err7 h E C.len C.times hq c r W he
theorem cells_fresh (n : Nat) (hn : n ≤ 64) : CellsOk (List.replicate n freshCell) :=
  ⟨by simpa using hn, fun i c hc => by obtain rfl := List.eq_of_mem_replicate (List.mem_of_getElem? hc); exact ⟨by decide, by decide⟩, fun i c hc => by obtain rfl := List.eq_of_mem_replicate (List.mem_of_getElem? hc); rfl⟩
set_option maxRecDepth 100000 in
set_option maxHeartbeats 4000000 in
theorem waits_ok (w : World) (a : Nat → Addr) (E : Errs4 w a) : Calls Tryd.prog 27 #[] w fun e w' => e = .returned (.bool true) ∧ Mod noF w w' := by
  have HE := Lib.hid E
  clear E
  go_enter Tryd.func27, Tryd.ntmps27
  go_wp2_with fail
  refine (pmNew_ok 1 2 (by decide) (by decide) (by decide) (by decide) w).mono ?_
  rintro e w1 ⟨B, rfl, P1, hm1, hl1⟩
  have HP1 := Lib.hid P1
  have Hm1 := Lib.hid hm1
  have Hl1 := Lib.hid hl1
  clear P1 hm1 hl1
  go_wp2_with fail
  refine (pmAlloc_ok HP1.out (HE.out.keep Hm1.out) (by decide) (cells_fresh 1 (by decide)).times (t := 0) (by decide)).mono ?_
  rintro e w2 (⟨i, ci, ha, hci, rfl, hu⟩ | ⟨ha, -, -⟩)
  · have e0 : (i, ci.times) = (0, 0) := by rw [show allocAt (List.replicate 1 freshCell) 0 = some (0, 0) from rfl] at ha; exact (Option.some.inj ha).symm
    simp only [Prod.mk.injEq] at e0
    obtain ⟨rfl, hct⟩ := e0
    rw [hct]
    obtain rfl : ci = freshCell := by rw [show (List.replicate 1 freshCell)[0]? = some freshCell from rfl] at hci; exact (Option.some.inj hci).symm
    have Hu := Lib.hid hu
    have L1 : PLow w w1 a B (List.replicate 2 (.slice none 0 0)) := ⟨HE.out, Hm1.out, Hl1.out⟩
    have L2 := (L1.up hu).keep ((Mod.refl noF w2).alloc (refBox 0 0))
    have P2 := hu.rep.keep0 ((Mod.refl noF w2).alloc (refBox 0 0))
    have hb2 := heap_alloc_new w2 (refBox 0 0)
    have hnf : ¬ PFoot B (List.replicate 2 (.slice none 0 0)) w2.heap.size := fun hx => Nat.lt_irrefl _ (hu.rep.lt hx)
    have C2 : CellsOk ((List.replicate 1 freshCell).set 0 (givenCell freshCell)) := ⟨by decide, fun i c hc => by
      rw [show ((List.replicate 1 freshCell).set 0 (givenCell freshCell)) = [givenCell freshCell] from rfl] at hc
      have hi := (List.getElem?_eq_some_iff.1 hc).1
      obtain rfl : i = 0 := by simp at hi; omega
      obtain rfl := Option.some.inj hc; exact ⟨by decide, by decide⟩, fun i c hc => by
      rw [show ((List.replicate 1 freshCell).set 0 (givenCell freshCell)) = [givenCell freshCell] from rfl] at hc
      have hi := (List.getElem?_eq_some_iff.1 hc).1
      obtain rfl : i = 0 := by simp at hi; omega
      obtain rfl := Option.some.inj hc; rfl⟩
    have hst := pstore_ok P2 L2.E C2.len C2.times (by decide) (t := 0) (q := []) rfl (by decide) 0 0 1 5 0 rfl rfl (by decide)
    simp only [errOf', if_true] at hst
    have Hst := Lib.hid hst
    have HL2 := Lib.hid L2
    have HC2 := Lib.hid C2
    have Hb2 := Lib.hid hb2
    have Hnf := Lib.hid hnf
    have Hlt2 := Lib.hid (lt_of_block hb2)
    clear hst L1 L2 P2 C2 hb2 hnf hu ha hci hct
    go_wp2_with fail
    refine Hst.out.mono ?_
    rintro e w3 ⟨rfl, vs3, hu3⟩
    have hx3 := hu3.heap Hnf.out Hb2.out
    have L3 := HL2.out.up hu3
    have r0 : w3.cell? ⟨w2.heap.size, 0, none⟩ = some (.int .i64 0) := (cell_of_heap hx3 0).trans rfl
    have r1 : w3.cell? ⟨w2.heap.size, 1, none⟩ = some (.int .i64 0) := (cell_of_heap hx3 1).trans rfl
    have rb := lt_of_block hx3
    have hld := pload_ok hu3.rep L3.E HC2.out.len HC2.out.times (by decide) (t := 0) (q := [⟨0, 0, 1, 5⟩]) rfl (by decide) 0 0 1 0 rfl
    rw [show Qs.look [⟨0, 0, 1, 5⟩] 0 0 1 0 = 5 from rfl] at hld
    have Hld := Lib.hid hld
    have Hu3 := Lib.hid hu3
    have HL3 := Lib.hid L3
    have Hx3 := Lib.hid hx3
    clear hld hu3 L3 hx3 Hst
    go_wp2_with fail
    refine Hld.out.mono ?_
    rintro e w4 ⟨rfl, hm4⟩
    have hx4 := hm4.heap Hx3.out (fun e => e)
    have P4 := Hu3.out.rep.keep0 hm4
    have L4 := HL3.out.keep hm4
    have r0 : w4.cell? ⟨w2.heap.size, 0, none⟩ = some (.int .i64 0) := (cell_of_heap hx4 0).trans rfl
    have r1 : w4.cell? ⟨w2.heap.size, 1, none⟩ = some (.int .i64 0) := (cell_of_heap hx4 1).trans rfl
    have rb := lt_of_block hx4
    have hld := pload_ok P4 L4.E HC2.out.len HC2.out.times (by decide) (t := 1) (q := []) rfl (by decide) 0 0 1 0 rfl
    rw [show Qs.look [] 0 0 1 0 = 0 from rfl] at hld
    have Hld4 := Lib.hid hld
    have HP4 := Lib.hid P4
    have HL4 := Lib.hid L4
    clear hld P4 L4 hx4 hm4 Hld
    go_wp2_with fail
    refine Hld4.out.mono ?_
    rintro e w5 ⟨rfl, hm5⟩
    have HP5 := Lib.hid (HP4.out.keep0 hm5)
    have HL5 := Lib.hid (HL4.out.keep hm5)
    clear hm5 Hld4
    go_wp2_with fail
    have hwt := pwaiting_ok HP5.out (t := 0) (q := [⟨0, 0, 1, 5⟩]) rfl (by decide)
    refine hwt.mono ?_
    clear hwt
    rintro e w' ⟨rfl, rfl⟩
    go_wp2
    go_ret
    exact ⟨rfl, HL5.out.mod⟩
  · cases ha
end Go.Proofs.YtamfbfajlfbooaaDoor
