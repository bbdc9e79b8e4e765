/- Texts that belong together, joined. -/
import Derived.Test.YtamfbfajlfbooaaDoorRArenaAt
import Derived.Test.YtamfbfajlfbooaaDoorRm2
import Derived.Test.YtamfbfajlfbooaaDoorRm5
import Derived.Lib.SliceRun
import Derived.Test.YtamfbfajlfbooaaDoorRm4
import Derived.RangeFuncBox
import Derived.RangeFuncFrom
import Derived.RangeFuncLeaves
import Derived.Shelf.Abstract
import Derived.WalkKit
import Derived.OwnWalkIn
import Derived.TacticsInMore
import Derived.LoopNIn
import Derived.LoopIn
import Derived.Test.YtamfbfajlfbooaaDoorRm3
set_option linter.unusedVariables false
set_option linter.unusedSimpArgs false
set_option linter.unusedSectionVars false
/- (*arena.Arena).word, .Load, .Store, .Free. -/
section
namespace Go.Proofs.YtamfbfajlfbooaaDoor
open Go.RowKit Qs Qh
def timesOk (l : List Cell) : Prop := ∀ (i : Nat) c, l[i]? = some c → 0 ≤ c.times ∧ c.times ≤ 1000000000
variable {w : World} {b g : Nat} {l : List Cell} {a : Nat → Addr}
set_option maxHeartbeats 4000000 in
theorem aword_ok (R : AAt w b g l) (hn : l.length ≤ 64) (ht : timesOk l) {i : Nat} {x : Cell} (hi : l[i]? = some x) (hh : x.here = true) (j : Nat) (hj : j < 4) :
    Calls Tryd.prog 106 #[.pointer (some ⟨b, 0, none⟩), .agg #[.int .i64 i, .int .i64 (x.times - 1)], .int .i64 j] w fun e w' => e = .returned (.tuple #[.pointer (some ⟨g, i * 6 + j, none⟩), .nilIface]) ∧ Mod noF w w' := by
  have hcall := arenaAt_hit (R.keep0 ((Mod.refl noF w).alloc (refBox i (x.times - 1)))) hn hi hh (ht i x hi)
  have d0 : decide ((j : Int) < 0) = false := by simp
  have d1 : decide ((4 : Int) ≤ (j : Int)) = false := by simp; omega
  have d2 : (j : Int) < 4 := by omega
  have Hcall := Lib.hid hcall
  clear hcall R ht hi hh
  go_enter Tryd.func106, Tryd.ntmps106
  go_wp2_with fail
  refine Hcall.out.mono ?_
  rintro e w1 ⟨rfl, hm⟩
  have Hm := Lib.hid (((Mod.refl noF w).alloc _).trans0 hm)
  clear hm Hcall
  go_wp2
  go_ret2
  exact ⟨rfl, Hm.out⟩
set_option maxHeartbeats 4000000 in
theorem aword_stale (R : AAt w b g l) (E : Errs4 w a) (hn : l.length ≤ 64) (ht : timesOk l) (c r : Int) (h : hereIn l c r = false) (j : Int) :
    Calls Tryd.prog 106 #[.pointer (some ⟨b, 0, none⟩), .agg #[.int .i64 c, .int .i64 r], .int .i64 j] w fun e w' => e = .returned (.tuple #[.pointer none, errV a 6]) ∧ Mod noF w w' := by
  have hq := (Mod.refl noF w).alloc (refBox c r)
  have hcall := arenaAt_miss (R.keep0 hq) (E.keep hq) hn ht c r h
  unfold errV at hcall
  have Hcall := Lib.hid hcall
  clear hcall R E ht h hq
  go_enter Tryd.func106, Tryd.ntmps106
  go_wp2_with fail
  refine Hcall.out.mono ?_
  rintro e w1 ⟨rfl, hm⟩
  have Hm := Lib.hid (((Mod.refl noF w).alloc _).trans0 hm)
  clear hm Hcall
  go_wp2
  go_ret2
  exact ⟨rfl, Hm.out⟩
set_option maxHeartbeats 4000000 in
theorem aword_bound (R : AAt w b g l) (E : Errs4 w a) (hn : l.length ≤ 64) (ht : timesOk l) {i : Nat} {x : Cell} (hi : l[i]? = some x) (hh : x.here = true) (j : Int) (hj : j < 0 ∨ 4 ≤ j) :
    Calls Tryd.prog 106 #[.pointer (some ⟨b, 0, none⟩), .agg #[.int .i64 i, .int .i64 (x.times - 1)], .int .i64 j] w fun e w' => e = .returned (.tuple #[.pointer none, errV a 1]) ∧ Mod noF w w' := by
  have hcall := arenaAt_hit (R.keep0 ((Mod.refl noF w).alloc (refBox i (x.times - 1)))) hn hi hh (ht i x hi)
  have HE := Lib.hid E
  have Hcall := Lib.hid hcall
  clear hcall R ht hi hh E
  by_cases j0 : j < 0
  · have d0 : decide (j < 0) = true := by simpa using j0
    go_enter Tryd.func106, Tryd.ntmps106
    go_wp2_with fail
    refine Hcall.out.mono ?_
    rintro e w1 ⟨rfl, hm⟩
    have hm' := ((Mod.refl noF w).alloc _).trans0 hm
    have hv := (HE.out.keep hm').var 1 (by omega)
    have Hm := Lib.hid hm'
    clear hm hm' Hcall
    go_wp2
    go_quiet (fail)
    go_wp2
    go_ret2
    exact ⟨rfl, Hm.out.drewN _⟩
  · have d0 : decide (j < 0) = false := by simpa using j0
    have d1 : decide (4 ≤ j) = true := by simp; omega
    go_enter Tryd.func106, Tryd.ntmps106
    go_wp2_with fail
    refine Hcall.out.mono ?_
    rintro e w1 ⟨rfl, hm⟩
    have hm' := ((Mod.refl noF w).alloc _).trans0 hm
    have hv := (HE.out.keep hm').var 1 (by omega)
    have Hm := Lib.hid hm'
    clear hm hm' Hcall
    go_wp2
    go_quiet (fail)
    go_wp2
    go_ret2
    exact ⟨rfl, Hm.out.drewN _⟩
/-- What a cell's word is, or the error's number. -/
def loadE (l : List Cell) (c r j : Int) : Int × Int := if hereIn l c r then (if 0 ≤ j ∧ j < 4 then (getWord l c.toNat j.toNat, 0) else (0, 2)) else (0, 7)
def errOf' (a : Nat → Addr) (e : Int) : Value := if e = 0 then .nilIface else errV a (e.toNat - 1)
theorem acell_word (c : Cell) (j : Nat) (hj : j < 4) : (acell 0 c)[j]? = some (.int .i64 (c.words.getD j 0)) := by
  rcases (by omega : j = 0 ∨ j = 1 ∨ j = 2 ∨ j = 3) with rfl | rfl | rfl | rfl <;> rfl
set_option maxHeartbeats 4000000 in
theorem aload_any (R : AAt w b g l) (E : Errs4 w a) (hn : l.length ≤ 64) (ht : timesOk l) (c r j : Int) :
    Calls Tryd.prog 66 #[.pointer (some ⟨b, 0, none⟩), .agg #[.int .i64 c, .int .i64 r], .int .i64 j] w fun e w' => e = .returned (.tuple #[.int .i64 (loadE l c r j).1, errOf' a (loadE l c r j).2]) ∧ Mod noF w w' := by
  have hq := (Mod.refl noF w).alloc (refBox c r)
  have HR := Lib.hid R
  have HE := Lib.hid E
  cases hin : hereIn l c r with
  | false =>
    have e : loadE l c r j = (0, 7) := by simp [loadE, hin]
    rw [e]
    have hcall := aword_stale (R.keep0 hq) (E.keep hq) hn ht c r hin j
    unfold errV at hcall
    have Hcall := Lib.hid hcall
    clear hcall R E ht hin hq e
    go_enter Tryd.func66, Tryd.ntmps66
    go_wp2_with fail
    refine Hcall.out.mono ?_
    rintro e w1 ⟨rfl, hm⟩
    have Hm := Lib.hid (((Mod.refl noF w).alloc _).trans0 hm)
    clear hm Hcall
    go_wp2
    go_ret2
    exact ⟨by simp [errOf', errV], Hm.out⟩
  | true =>
    obtain ⟨i, x, rfl, hil, hi, hh, rfl⟩ := hereIn_at hin
    by_cases hj : 0 ≤ j ∧ j < 4
    · obtain ⟨j, rfl⟩ := Int.eq_ofNat_of_zero_le hj.1
      have e : loadE l i (x.times - 1) j = (x.words.getD j 0, 0) := by
        simp only [loadE, hin, if_true, if_pos hj, getWord, Int.toNat_natCast, hi]; rfl
      rw [e]
      have hj4 : j < 4 := by omega
      have hcall := aword_ok (R.keep0 hq) hn ht hi hh j hj4
      have Hcall := Lib.hid hcall
      have Hi := Lib.hid hi
      clear hcall R E ht hin hq e hj hi
      go_enter Tryd.func66, Tryd.ntmps66
      go_wp2_with fail
      refine Hcall.out.mono ?_
      rintro e w1 ⟨rfl, hm⟩
      have hm' := ((Mod.refl noF w).alloc _).trans0 hm
      have hc := ((HR.out.keep0 hm').cell Hi.out (j := j) (by omega)).trans (acell_word x j hj4)
      have hbl := (HR.out.keep0 hm').lt.2
      have Hm := Lib.hid hm'
      clear hm hm' Hcall
      go_wp2
      go_ret2
      exact ⟨by simp [errOf'], Hm.out⟩
    · have e : loadE l i (x.times - 1) j = (0, 2) := by simp only [loadE, hin, if_true, if_neg hj]
      rw [e]
      have hcall := aword_bound (R.keep0 hq) (E.keep hq) hn ht hi hh j (by omega)
      unfold errV at hcall
      have Hcall := Lib.hid hcall
      clear hcall R E ht hin hq e hj hi
      go_enter Tryd.func66, Tryd.ntmps66
      go_wp2_with fail
      refine Hcall.out.mono ?_
      rintro e w1 ⟨rfl, hm⟩
      have Hm := Lib.hid (((Mod.refl noF w).alloc _).trans0 hm)
      clear hm Hcall
      go_wp2
      go_ret2
      exact ⟨by simp [errOf', errV], Hm.out⟩
/-- A store's error's number. -/
def storeE (l : List Cell) (c r j v : Int) : Int := if hereIn l c r then (if 0 ≤ j ∧ j < 4 then (if isWord v then 0 else 2) else 2) else 7
theorem acell_setWord (c : Cell) (hc : c.words.length = 4) (j : Nat) (hj : j < 4) (v : Int) : acell 0 { c with words := c.words.set j v } = (acell 0 c).set j (.int .i64 v) := by
  obtain ⟨ws, t, h⟩ := c
  match ws, hc with
  | [a0, a1, a2, a3], _ =>
    rcases (by omega : j = 0 ∨ j = 1 ∨ j = 2 ∨ j = 3) with rfl | rfl | rfl | rfl <;> rfl
def wordsOk (l : List Cell) : Prop := ∀ (i : Nat) c, l[i]? = some c → c.words.length = 4
theorem modify_at {l : List Cell} {i : Nat} {c : Cell} (hi : l[i]? = some c) (f : Cell → Cell) : l.modify i f = l.set i (f c) := by
  apply List.ext_getElem?
  intro k
  rw [List.getElem?_modify, List.getElem?_set]
  have hlt := (List.getElem?_eq_some_iff.1 hi).1
  by_cases e : i = k
  · subst e
    have := (List.getElem?_eq_some_iff.1 hi).2
    simp [hlt, this]
  · simp [e]
theorem setWord_at {l : List Cell} {i j : Nat} {v : Int} {c : Cell} (hi : l[i]? = some c) : setWord l i j v = l.set i { c with words := c.words.set j v } := by
  unfold setWord
  rw [modify_at hi]
set_option maxHeartbeats 4000000 in
theorem astore_any (R : AAt w b g l) (E : Errs4 w a) (hn : l.length ≤ 64) (ht : timesOk l) (hwo : wordsOk l) (c r j v : Int) :
    Calls Tryd.prog 64 #[.pointer (some ⟨b, 0, none⟩), .agg #[.int .i64 c, .int .i64 r], .int .i64 j, .int .i64 v] w fun e w' => e = .returned (errOf' a (storeE l c r j v)) ∧ Mod (fun x => x = g) w w' ∧
      AAt w' b g (if storeE l c r j v = 0 then setWord l c.toNat j.toNat v else l) := by
  have hq := (Mod.refl noF w).alloc (refBox c r)
  have HR := Lib.hid R
  have HE := Lib.hid E
  cases hin : hereIn l c r with
  | false =>
    have e : storeE l c r j v = 7 := by simp [storeE, hin]
    rw [e]
    have hcall := aword_stale (R.keep0 hq) (E.keep hq) hn ht c r hin j
    unfold errV at hcall
    have Hcall := Lib.hid hcall
    clear hcall R E ht hin hq e
    go_enter Tryd.func64, Tryd.ntmps64
    go_wp2_with fail
    refine Hcall.out.mono ?_
    rintro e w1 ⟨rfl, hm⟩
    have Hm := Lib.hid (((Mod.refl noF w).alloc _).trans0 hm)
    clear hm Hcall
    go_wp2
    go_ret
    exact ⟨by simp [errOf', errV], Hm.out.any, by simpa using HR.out.keep0 Hm.out⟩
  | true =>
    obtain ⟨i, x, rfl, hil, hi, hh, rfl⟩ := hereIn_at hin
    by_cases hj : 0 ≤ j ∧ j < 4
    · obtain ⟨j, rfl⟩ := Int.eq_ofNat_of_zero_le hj.1
      have hj4 : j < 4 := by omega
      have hcall := aword_ok (R.keep0 hq) hn ht hi hh j hj4
      have Hcall := Lib.hid hcall
      have Hi := Lib.hid hi
      have Hwo := Lib.hid hwo
      cases hw : isWord v with
      | true =>
        have e : storeE l i (x.times - 1) j v = 0 := by simp only [storeE, hin, if_true, if_pos hj, hw]
        rw [e, if_pos rfl, setWord_at (by rw [Int.toNat_natCast]; exact hi)]
        have Hw := Lib.hid hw
        clear hcall R E ht hin hq e hj hi hwo hw
        go_enter Tryd.func64, Tryd.ntmps64
        go_wp2_with fail
        refine Hcall.out.mono ?_
        rintro e w1 ⟨rfl, hm⟩
        have hm' := ((Mod.refl noF w).alloc _).trans0 hm
        have R1 := HR.out.keep0 hm'
        have hc := (R1.cell Hi.out (j := j) (by omega)).trans (acell_word x j hj4)
        have hf := R1.free (i * 6 + j)
        have hbl := R1.lt.2
        have Hm := Lib.hid hm'
        have HR1 := Lib.hid R1
        clear hm hm' Hcall R1
        go_wp2_with (go_at_call 93; refine (right_any _ _).mono ?_; rintro e w' ⟨rfl, rfl⟩; rw [Hw.out])
        go_ret
        refine ⟨by simp [errOf'], (Hm.out.any (F := fun x => x = g)).setCell (fun _ => rfl) _, ?_⟩
        rw [Int.toNat_natCast, Int.toNat_natCast]
        exact HR1.out.set Hi.out (by omega) _ (acell_setWord x (Hwo.out i x Hi.out) j hj4 v)
      | false =>
        have e : storeE l i (x.times - 1) j v = 2 := by simp only [storeE, hin, if_true, if_pos hj, hw]; rfl
        rw [e]
        have Hw := Lib.hid hw
        clear hcall R E ht hin hq e hj hi hwo hw
        go_enter Tryd.func64, Tryd.ntmps64
        go_wp2_with fail
        refine Hcall.out.mono ?_
        rintro e w1 ⟨rfl, hm⟩
        have hm' := ((Mod.refl noF w).alloc _).trans0 hm
        have hv := (HE.out.keep hm').var 1 (by omega)
        have Hm := Lib.hid hm'
        clear hm hm' Hcall
        go_wp2_with (go_at_call 93; refine (right_any _ _).mono ?_; rintro e w' ⟨rfl, rfl⟩; rw [Hw.out])
        go_ret
        exact ⟨by simp [errOf', errV], Hm.out.any, by simpa using HR.out.keep0 Hm.out⟩
    · have e : storeE l i (x.times - 1) j v = 2 := by simp only [storeE, hin, if_true, if_neg hj]
      rw [e]
      have hcall := aword_bound (R.keep0 hq) (E.keep hq) hn ht hi hh j (by omega)
      unfold errV at hcall
      have Hcall := Lib.hid hcall
      clear hcall R E ht hin hq e hj hi hwo
      go_enter Tryd.func64, Tryd.ntmps64
      go_wp2_with fail
      refine Hcall.out.mono ?_
      rintro e w1 ⟨rfl, hm⟩
      have Hm := Lib.hid (((Mod.refl noF w).alloc _).trans0 hm)
      clear hm Hcall
      go_wp2
      go_ret
      exact ⟨by simp [errOf', errV], Hm.out.any, by simpa using HR.out.keep0 Hm.out⟩
set_option maxHeartbeats 4000000 in
theorem afree_any (R : AAt w b g l) (E : Errs4 w a) (hn : l.length ≤ 64) (ht : timesOk l) (c r : Int) :
    Calls Tryd.prog 65 #[.pointer (some ⟨b, 0, none⟩), .agg #[.int .i64 c, .int .i64 r]] w fun e w' => e = .returned (errOf' a (if hereIn l c r then 0 else 7)) ∧ Mod (fun x => x = g) w w' ∧
      AAt w' b g (if hereIn l c r then l.modify c.toNat (fun y => { y with here := false }) else l) := by
  have hq := (Mod.refl noF w).alloc (refBox c r)
  have HR := Lib.hid R
  cases hin : hereIn l c r with
  | false =>
    have hcall := arenaAt_miss (R.keep0 hq) (E.keep hq) hn ht c r hin
    unfold errV at hcall
    have Hcall := Lib.hid hcall
    clear hcall R E ht hin hq
    go_enter Tryd.func65, Tryd.ntmps65
    go_wp2_with fail
    refine Hcall.out.mono ?_
    rintro e w1 ⟨rfl, hm⟩
    have Hm := Lib.hid (((Mod.refl noF w).alloc _).trans0 hm)
    clear hm Hcall
    go_wp2
    go_ret
    exact ⟨by simp [errOf', errV], Hm.out.any, by simpa using HR.out.keep0 Hm.out⟩
  | true =>
    obtain ⟨i, x, rfl, hil, hi, hh, rfl⟩ := hereIn_at hin
    have hcall := arenaAt_hit (R.keep0 hq) hn hi hh (ht i x hi)
    have Hcall := Lib.hid hcall
    have Hi := Lib.hid hi
    clear hcall R E ht hin hq hi
    go_enter Tryd.func65, Tryd.ntmps65
    go_wp2_with fail
    refine Hcall.out.mono ?_
    rintro e w1 ⟨rfl, hm⟩
    have hm' := ((Mod.refl noF w).alloc _).trans0 hm
    have R1 := HR.out.keep0 hm'
    have c5 : w1.cell? ⟨g, i * 6 + 5, none⟩ = some (.bool x.here) := (R1.cell Hi.out (j := 5) (by omega)).trans rfl
    have hf := R1.free (i * 6 + 5)
    have hbl := R1.lt.2
    have Hm := Lib.hid hm'
    have HR1 := Lib.hid R1
    clear hm hm' Hcall R1
    go_wp2
    go_ret
    refine ⟨by simp [errOf'], (Hm.out.any (F := fun x => x = g)).setCell (fun _ => rfl) _, ?_⟩
    rw [modify_at Hi.out]
    exact HR1.out.set Hi.out (j := 5) (by omega) (.bool false) rfl
end Go.Proofs.YtamfbfajlfbooaaDoor
end
/- A memory of the program's: its arena, and of each thread what waits. -/
section
namespace Go.Proofs.YtamfbfajlfbooaaDoor
open Go.RowKit Qs Qh
/-- Its blocks: the struct, the arena's struct, the arena's cells, the rows. -/
structure PB where
  bM : Nat
  bA : Nat
  gA : Nat
  bW : Nat
def PFoot (B : PB) (vs : List Value) (x : Nat) : Prop := x = B.bM ∨ x = B.bA ∨ x = B.gA ∨ x = B.bW ∨ ∃ v ∈ vs, v.ownBlock = some x
abbrev waitRow (w : World) (v : Value) (q : List Wt) : Prop := offRow w 145 4 v q.length (flat wtVals 0 q)
structure PMV (w : World) (B : PB) (l : List Cell) (ws : List (List Wt)) (vs : List Value) : Prop where
  top : w.heap[B.bM]? = some (.cells #[.pointer (some ⟨B.bA, 0, none⟩), .slice (some ⟨B.bW, 0, none⟩) ws.length ws.length] 142 (0, 0))
  arena : AAt w B.bA B.gA l
  rows : w.heap[B.bW]? = some (.cells vs.toArray 143 (0, 0))
  len : vs.length = ws.length
  row : ∀ (t : Nat) v q, vs[t]? = some v → ws[t]? = some q → waitRow w v q
  n1 : B.bM ≠ B.bA ∧ B.bM ≠ B.gA ∧ B.bM ≠ B.bW ∧ B.bA ≠ B.bW ∧ B.gA ≠ B.bW
  own : ∀ v ∈ vs, ∀ g, v.ownBlock = some g → g ≠ B.bM ∧ g ≠ B.bA ∧ g ≠ B.gA ∧ g ≠ B.bW
  sep : ∀ (i j : Nat) v u g, vs[i]? = some v → vs[j]? = some u → v.ownBlock = some g → u.ownBlock = some g → i = j
variable {w w1 w2 w' : World} {B : PB} {l l' : List Cell} {ws ws' : List (List Wt)} {vs vs' : List Value}
theorem PMV.keep {F : Nat → Prop} (h : PMV w B l ws vs) (hM : Mod F w w') (hF : ∀ x, PFoot B vs x → ¬ F x) : PMV w' B l ws vs :=
  ⟨hM.heap h.top (hF _ (.inl rfl)), h.arena.keep hM (hF _ (.inr (.inl rfl))) (hF _ (.inr (.inr (.inl rfl)))), hM.heap h.rows (hF _ (.inr (.inr (.inr (.inl rfl))))), h.len,
   fun t v q hv hq => (h.row t v q hv hq).keep hM fun g hg => hF g (.inr (.inr (.inr (.inr ⟨v, List.mem_of_getElem? hv, hg⟩)))), h.n1, h.own, h.sep⟩
theorem PMV.keep0 (h : PMV w B l ws vs) (hM : Mod noF w w') : PMV w' B l ws vs := h.keep hM fun _ _ e => e
theorem PMV.lt (h : PMV w B l ws vs) {x : Nat} (hx : PFoot B vs x) : x < w.heap.size := by
  rcases hx with rfl | rfl | rfl | rfl | ⟨v, hv, hg⟩
  · exact lt_of_block h.top
  · exact h.arena.lt.1
  · exact h.arena.lt.2
  · exact lt_of_block h.rows
  · obtain ⟨t, ht⟩ := List.mem_iff_getElem?.1 hv
    have : t < ws.length := by rw [← h.len]; exact (List.getElem?_eq_some_iff.1 ht).1
    exact (h.row t v _ ht (List.getElem?_eq_getElem this)).lt x hg
/-- What a call makes of it. -/
structure PUp (w : World) (B : PB) (vs : List Value) (w' : World) (l' : List Cell) (ws' : List (List Wt)) (vs' : List Value) : Prop where
  rep : PMV w' B l' ws' vs'
  mod : Mod (PFoot B vs) w w'
  foot : ∀ x, PFoot B vs' x → PFoot B vs x ∨ w.heap.size ≤ x
theorem PUp.quiet (h : PMV w B l ws vs) (hM : Mod noF w w') : PUp w B vs w' l ws vs := ⟨h.keep0 hM, hM.any, fun _ h => .inl h⟩
theorem PUp.trans {l1 l2 : List Cell} {ws1 ws2 : List (List Wt)} {vs1 vs2 : List Value} (h : PUp w B vs w1 l1 ws1 vs1) (k : PUp w1 B vs1 w2 l2 ws2 vs2) : PUp w B vs w2 l2 ws2 vs2 :=
  ⟨k.rep, h.mod.trans k.mod (fun x hx hf => (h.foot x hf).resolve_right (by omega)), fun x hx => (k.foot x hx).elim (fun e => h.foot x e) (fun e => .inr (Nat.le_trans h.mod.size e))⟩
theorem PUp.then0 {l1 : List Cell} {ws1 : List (List Wt)} {vs1 : List Value} (h : PUp w B vs w1 l1 ws1 vs1) (k : Mod noF w1 w2) : PUp w B vs w2 l1 ws1 vs1 := h.trans (PUp.quiet h.rep k)
/-- A block of the call's own has turned. -/
theorem PUp.aside {l1 : List Cell} {ws1 : List (List Wt)} {vs1 : List Value} {g : Nat} (h : PUp w B vs w1 l1 ws1 vs1) (hne : ¬ PFoot B vs1 g) (hg : w.heap.size ≤ g) (hM : Mod (fun x => x = g) w1 w2) : PUp w B vs w2 l1 ws1 vs1 :=
  ⟨h.rep.keep hM (fun x hx e => hne (e ▸ hx)), h.mod.trans hM (fun x hx e => by omega), h.foot⟩
/-- A block aside stays aside, and as it was. -/
theorem PUp.out {l1 : List Cell} {ws1 : List (List Wt)} {vs1 : List Value} {g : Nat} (h : PUp w B vs w1 l1 ws1 vs1) (hne : ¬ PFoot B vs g) (hg : g < w.heap.size) : ¬ PFoot B vs1 g := fun hx => (h.foot g hx).elim hne (fun e => by omega)
theorem PUp.heap {l1 : List Cell} {ws1 : List (List Wt)} {vs1 : List Value} {g : Nat} {o : Obj} (h : PUp w B vs w1 l1 ws1 vs1) (hne : ¬ PFoot B vs g) (hg : w.heap[g]? = some o) : w1.heap[g]? = some o := h.mod.heap hg hne
/-- The arena has turned. -/
theorem PMV.cells (h : PMV w B l ws vs) (hM : Mod (fun x => x = B.gA) w w') (A : AAt w' B.bA B.gA l') : PUp w B vs w' l' ws vs := by
  obtain ⟨n1, n2, n3, n4, n5⟩ := h.n1
  refine ⟨⟨hM.heap h.top n2, A, hM.heap h.rows (fun e => n5 e.symm), h.len, fun t v q hv hq => (h.row t v q hv hq).keep hM fun g hg => (h.own v (List.mem_of_getElem? hv) g hg).2.2.1, h.n1, h.own, h.sep⟩,
    hM.mono fun x _ e => .inr (.inr (.inl e)), fun _ h => .inl h⟩
/-- A row has turned. -/
theorem PMV.setRow (h : PMV w B l ws vs) {t : Nat} {v v' : Value} {q' : List Wt} (hv : vs[t]? = some v) (hM : Mod (fun x => v.ownBlock = some x) w w2) (hrow : waitRow w2 v' q')
    (hnew : ∀ g, v'.ownBlock = some g → v.ownBlock = some g ∨ w.heap.size ≤ g) : PUp w B vs (w2.setCell ⟨B.bW, t, none⟩ v') l (ws.set t q') (vs.set t v') := by
  obtain ⟨n1, n2, n3, n4, n5⟩ := h.n1
  have hvm := List.mem_of_getElem? hv
  have hown := h.own v hvm
  have htl : t < vs.length := (List.getElem?_eq_some_iff.1 hv).1
  have hM2 : Mod (fun x => x = B.bW) w2 (w2.setCell ⟨B.bW, t, none⟩ v') := (Mod.refl (fun x => x = B.bW) w2).setCell (fun _ => rfl) _
  have hlb : ∀ x, PFoot B vs x → x < w.heap.size := fun x hx => h.lt hx
  have hv'own : ∀ g, v'.ownBlock = some g → g ≠ B.bM ∧ g ≠ B.bA ∧ g ≠ B.gA ∧ g ≠ B.bW := fun g hg => by
    rcases hnew g hg with e | e
    · exact hown g e
    · have a1 := hlb _ (.inl rfl)
      have a2 := hlb _ (.inr (.inl rfl))
      have a3 := hlb _ (.inr (.inr (.inl rfl)))
      have a4 := hlb _ (.inr (.inr (.inr (.inl rfl))))
      exact ⟨by omega, by omega, by omega, by omega⟩
  have hkeep : ∀ b, (v.ownBlock = some b → False) → b ≠ B.bW → ∀ o, w.heap[b]? = some o → (w2.setCell ⟨B.bW, t, none⟩ v').heap[b]? = some o := fun b h1 h2 o ho => hM2.heap (hM.heap ho h1) h2
  refine ⟨⟨?_, ?_, ?_, by rw [List.length_set, List.length_set]; exact h.len, ?_, h.n1, ?_, ?_⟩, ?_, ?_⟩
  · rw [List.length_set]
    exact hkeep _ (fun e => (hown _ e).1 rfl) n3 _ h.top
  · exact (h.arena.keep hM (fun e => (hown _ e).2.1 rfl) (fun e => (hown _ e).2.2.1 rfl)).keep hM2 n4 n5
  · have h0 := hM.heap h.rows (fun e => (hown _ e).2.2.2 rfl)
    have := Qh.heap_setCell_same h0 t v'
    simpa using this
  · intro j u q hu hq
    rw [List.getElem?_set] at hu hq
    by_cases e : t = j
    · subst e
      rw [if_pos rfl, if_pos htl] at hu
      rw [if_pos rfl, if_pos (by rw [← h.len]; exact htl)] at hq
      cases hu; cases hq
      exact hrow.keep hM2 fun g hg => (hv'own g hg).2.2.2
    · rw [if_neg e] at hu hq
      refine ((h.row j u q hu hq).keep hM fun g hg hg' => e (h.sep t j v u g hv hu hg' hg)).keep hM2 fun g hg => (h.own u (List.mem_of_getElem? hu) g hg).2.2.2
  · intro u hu g hg
    rcases List.mem_or_eq_of_mem_set hu with h1 | rfl
    · exact h.own u h1 g hg
    · exact hv'own g hg
  · intro i j u x g hu hx hug hxg
    rw [List.getElem?_set] at hu hx
    have low : ∀ (k : Nat) y, vs[k]? = some y → y.ownBlock = some g → g < w.heap.size := fun k y hy hg => hlb g (.inr (.inr (.inr (.inr ⟨y, List.mem_of_getElem? hy, hg⟩))))
    by_cases e1 : t = i
    · subst e1
      rw [if_pos rfl, if_pos htl] at hu
      cases hu
      by_cases e2 : t = j
      · exact e2
      · rw [if_neg e2] at hx
        rcases hnew g hug with e | e
        · exact h.sep t j v x g hv hx e hxg
        · have := low j x hx hxg; omega
    · rw [if_neg e1] at hu
      by_cases e2 : t = j
      · subst e2
        rw [if_pos rfl, if_pos htl] at hx
        cases hx
        rcases hnew g hxg with e | e
        · exact h.sep i t u v g hu hv hug e
        · have := low i u hu hug; omega
      · rw [if_neg e2] at hx
        exact h.sep i j u x g hu hx hug hxg
  · exact (hM.mono fun x _ e => .inr (.inr (.inr (.inr ⟨v, hvm, e⟩)))).trans hM2 (fun x _ e => .inr (.inr (.inr (.inl e))))
  · intro x hx
    rcases hx with rfl | rfl | rfl | rfl | ⟨u, hu, hg⟩
    · exact .inl (.inl rfl)
    · exact .inl (.inr (.inl rfl))
    · exact .inl (.inr (.inr (.inl rfl)))
    · exact .inl (.inr (.inr (.inr (.inl rfl))))
    · rcases List.mem_or_eq_of_mem_set hu with h1 | rfl
      · exact .inl (.inr (.inr (.inr (.inr ⟨u, h1, hg⟩))))
      · rcases hnew x hg with e | e
        · exact .inl (.inr (.inr (.inr (.inr ⟨v, hvm, e⟩))))
        · exact .inr e
/-- Its two cells; a row's cell. -/
theorem PMV.ptr (h : PMV w B l ws vs) : w.cell? ⟨B.bM, 0, none⟩ = some (.pointer (some ⟨B.bA, 0, none⟩)) := (cell_of_heap h.top 0).trans rfl
theorem PMV.slice (h : PMV w B l ws vs) : w.cell? ⟨B.bM, 1, none⟩ = some (.slice (some ⟨B.bW, 0, none⟩) ws.length ws.length) := (cell_of_heap h.top 1).trans rfl
theorem PMV.rowAt (h : PMV w B l ws vs) {t : Nat} {q : List Wt} (hq : ws[t]? = some q) : ∃ v a c, vs[t]? = some v ∧ v = .slice a q.length c ∧ q.length ≤ c ∧ c ≤ maxLen ∧ w.cell? ⟨B.bW, t, none⟩ = some (.slice a q.length c) ∧ waitRow w (.slice a q.length c) q := by
  have htl : t < vs.length := by rw [h.len]; exact (List.getElem?_eq_some_iff.1 hq).1
  have hv := List.getElem?_eq_getElem htl
  have hr := h.row t _ q hv hq
  obtain ⟨a, c, e, h1, h2⟩ := hr.slice
  refine ⟨_, a, c, hv, e, h1, h2, ?_, e ▸ hr⟩
  rw [cell_of_heap h.rows, ← e]
  simp
end Go.Proofs.YtamfbfajlfbooaaDoor
end
/- package memory: thread, New, Waiting, Alloc. -/
section
namespace Go.Proofs.YtamfbfajlfbooaaDoor
open Go.RowKit Qs Qh
variable {w : World} {B : PB} {l : List Cell} {ws : List (List Wt)} {vs : List Value} {a : Nat → Addr}
/-- The errors lie below; the memory's blocks above. -/
structure PLow (b0 w : World) (a : Nat → Addr) (B : PB) (vs : List Value) : Prop where
  errs : Errs4 b0 a
  mod : Mod noF b0 w
  low : ∀ x, PFoot B vs x → b0.heap.size ≤ x
theorem PLow.E {b0 : World} (h : PLow b0 w a B vs) : Errs4 w a := h.errs.keep h.mod
theorem PLow.up {b0 w' : World} {l' : List Cell} {ws' : List (List Wt)} {vs' : List Value} (h : PLow b0 w a B vs) (u : PUp w B vs w' l' ws' vs') : PLow b0 w' a B vs' :=
  ⟨h.errs, h.mod.trans u.mod (fun x hx e => by have := h.low x e; omega), fun x hx => (u.foot x hx).elim (h.low x) (fun e => Nat.le_trans h.mod.size e)⟩
theorem PLow.keep {b0 w' : World} (h : PLow b0 w a B vs) (hM : Mod noF w w') : PLow b0 w' a B vs := ⟨h.errs, h.mod.trans0 hM, h.low⟩
theorem pthread_ok (h : PMV w B l ws vs) (t : Nat) (ht : t < ws.length) :
    Calls Tryd.prog 92 #[.pointer (some ⟨B.bM, 0, none⟩), .int .i64 t] w fun e w' => e = .returned .nilIface ∧ w = w' := by
  have d0 : decide ((t : Int) < 0) = false := by simp
  have d1 : decide ((ws.length : Int) ≤ (t : Int)) = false := by simp; omega
  have hm := h.slice
  have hb := h.lt (x := B.bM) (.inl rfl)
  clear h
  go_enter Tryd.func92, Tryd.ntmps92
  go_wp2
  go_ret
  exact ⟨rfl, rfl⟩
theorem pthread_bad (h : PMV w B l ws vs) (E : Errs4 w a) (t : Int) (ht : t < 0 ∨ (ws.length : Int) ≤ t) (hn : ws.length ≤ 6) :
    Calls Tryd.prog 92 #[.pointer (some ⟨B.bM, 0, none⟩), .int .i64 t] w fun e w' => e = .returned (errV a 1) ∧ Mod noF w w' := by
  have hm := h.slice
  have hb := h.lt (x := B.bM) (.inl rfl)
  have hv := E.var 1 (by omega)
  clear h E
  by_cases h0 : t < 0
  · have d0 : decide (t < 0) = true := by simpa using h0
    go_enter Tryd.func92, Tryd.ntmps92
    go_wp2
    go_ret
    exact ⟨rfl, Mod.refl _ _⟩
  · have d0 : decide (t < 0) = false := by simpa using h0
    have d1 : decide ((ws.length : Int) ≤ t) = true := by simp; omega
    go_enter Tryd.func92, Tryd.ntmps92
    go_wp2
    go_ret
    exact ⟨rfl, Mod.refl _ _⟩
theorem pwaiting_ok (h : PMV w B l ws vs) {t : Nat} {q : List Wt} (hq : ws[t]? = some q) (hn : ws.length ≤ 6) :
    Calls Tryd.prog 32 #[.pointer (some ⟨B.bM, 0, none⟩), .int .i64 t] w fun e w' => e = .returned (.int .i64 q.length) ∧ w = w' := by
  have ht := (List.getElem?_eq_some_iff.1 hq).1
  have hm := h.slice
  have hb := h.lt (x := B.bM) (.inl rfl)
  have hb2 := h.lt (x := B.bW) (.inr (.inr (.inr (.inl rfl))))
  obtain ⟨v, a, c, _, _, h1, h2, h3, _⟩ := h.rowAt hq
  have htn : (t : Int) < (ws.length : Int) := by omega
  have H := Lib.hid h
  clear h hq
  go_enter Tryd.func32, Tryd.ntmps32
  go_wp2_with fail
  refine (pthread_ok H.out t ht).mono ?_
  rintro e w' ⟨rfl, rfl⟩
  go_wp2
  go_ret
  exact ⟨rfl, rfl⟩
theorem pwaiting_bad (h : PMV w B l ws vs) (E : Errs4 w a) (t : Int) (ht : t < 0 ∨ (ws.length : Int) ≤ t) (hn : ws.length ≤ 6) :
    Calls Tryd.prog 32 #[.pointer (some ⟨B.bM, 0, none⟩), .int .i64 t] w fun e w' => e = .returned (.int .i64 0) ∧ Mod noF w w' := by
  have hcall := pthread_bad h E t ht hn
  unfold errV at hcall
  have Hcall := Lib.hid hcall
  clear h E hcall
  go_enter Tryd.func32, Tryd.ntmps32
  go_wp2_with fail
  refine Hcall.out.mono ?_
  rintro e w1 ⟨rfl, hm⟩
  have Hm := Lib.hid hm
  clear hm
  go_wp2
  go_ret
  exact ⟨rfl, Hm.out⟩
end Go.Proofs.YtamfbfajlfbooaaDoor
end
/- package memory: New, Alloc. -/
section
namespace Go.Proofs.YtamfbfajlfbooaaDoor
open Go.RowKit Qs Qh
variable {w : World} {B : PB} {l : List Cell} {ws : List (List Wt)} {vs : List Value} {a : Nat → Addr}
theorem pwaitRowInfo : (Tryd.prog.info? 143).map (fun i => (i.zero, i.size, i.bytes)) = some (some (.slice none 0 0), 1, 24) := by kernel_rfl
theorem make_prows (n : Nat) (hn : n ≤ 64) (w : World) : (Instr.makeSlice 140 (.int .i64 n) (.int .i64 n)).run Tryd.prog w = .ok (.slice (some ⟨w.heap.size, 0, none⟩) n n) (w.alloc (.cells (List.replicate n (.slice none 0 0)).toArray 143)) := by
  obtain ⟨i, hi, hz0, hz1, hz2⟩ := info_parts pwaitRowInfo
  have := run_makeSlice (P := Tryd.prog) w 140 143 i _ Tryd.underlying140 hi hz0 .i64 .i64 n n (by omega) (by omega) (by rw [hz1]; simp; omega) (by rw [hz2]; omega) (by omega)
  rw [this, hz1]
  have e : (madeCells (Value.slice none 0 0).cells (n * 1)) = (List.replicate n (.slice none 0 0)).toArray := by
    rw [← toList_madeCells_one]; simp [Value.cells]
  simp only [Int.toNat_natCast]
  rw [e]
theorem pmNew_ok (n t : Nat) (h1 : 1 ≤ n) (hn : n ≤ 64) (t1 : 1 ≤ t) (t6 : t ≤ 6) (w : World) :
    Calls Tryd.prog 28 #[.int .i64 n, .int .i64 t] w fun e w' => ∃ B : PB, e = .returned (.tuple #[.pointer (some ⟨B.bM, 0, none⟩), .nilIface]) ∧ PMV w' B (List.replicate n freshCell) (List.replicate t []) (List.replicate t (.slice none 0 0)) ∧ Mod noF w w' ∧ ∀ x, PFoot B (List.replicate t (.slice none 0 0)) x → w.heap.size ≤ x := by
  have d0 : decide ((t : Int) < 1) = false := by simp; omega
  have d1 : decide ((6 : Int) < (t : Int)) = false := by simp; omega
  have hmk := make_prows t (by omega)
  go_enter Tryd.func28, Tryd.ntmps28
  go_wp2_with fail
  refine (arenaNew_ok n h1 hn w).mono ?_
  rintro e w1 ⟨rfl, A1, hm1⟩
  have HA1 := Lib.hid A1
  have Hm1 := Lib.hid hm1
  clear A1 hm1
  go_wp2
  have hs1 := Hm1.out.size
  have hlt := HA1.out.lt
  have hx0 := heap_alloc_new w1 (.cells (Array.replicate t (.slice none 0 0)) 143)
  have hx1 := heap_alloc_new (w1.alloc (.cells (Array.replicate t (.slice none 0 0)) 143)) (.cells #[.pointer (some ⟨w.heap.size + 1, 0, none⟩), .slice (some ⟨w1.heap.size, 0, none⟩) t t] 142)
  have hM := ((Mod.refl noF w1).alloc (.cells (Array.replicate t (.slice none 0 0)) 143)).alloc (.cells #[.pointer (some ⟨w.heap.size + 1, 0, none⟩), .slice (some ⟨w1.heap.size, 0, none⟩) t t] 142)
  have hM1 := (Mod.refl noF (w1.alloc (.cells (Array.replicate t (.slice none 0 0)) 143))).alloc (.cells #[.pointer (some ⟨w.heap.size + 1, 0, none⟩), .slice (some ⟨w1.heap.size, 0, none⟩) t t] 142)
  rw [World.size_alloc] at hx1
  go_ret2
  refine ⟨⟨w1.heap.size + 1, w.heap.size + 1, w.heap.size, w1.heap.size⟩, rfl, ⟨?_, HA1.out.keep0 hM, ?_, by simp, ?_, ?_, ?_, ?_⟩, Hm1.out.trans0 hM, ?_⟩
  · rw [List.length_replicate]; exact hx1
  · rw [List.toArray_replicate]; exact hM1.heap hx0 (fun e => e)
  · intro i v q hv hq
    obtain rfl := List.eq_of_mem_replicate (List.mem_of_getElem? hv)
    obtain rfl := List.eq_of_mem_replicate (List.mem_of_getElem? hq)
    exact offRow_nil _ _ _
  · exact ⟨by simp only; omega, by simp only; omega, by simp only; omega, by simp only; omega, by simp only; omega⟩
  · intro v hv g hg
    obtain rfl := List.eq_of_mem_replicate hv
    simp [Value.ownBlock] at hg
  · intro i j v u g hv _ hg
    obtain rfl := List.eq_of_mem_replicate (List.mem_of_getElem? hv)
    simp [Value.ownBlock] at hg
  · rintro x (rfl | rfl | rfl | rfl | ⟨v, hv, hg⟩)
    · simp only; omega
    · simp only; omega
    · exact Nat.le_refl _
    · exact hs1
    · obtain rfl := List.eq_of_mem_replicate hv
      simp [Value.ownBlock] at hg
theorem pmNew_cells (n t : Int) (h : n < 1 ∨ 64 < n) (w : World) (E : Errs4 w a) :
    Calls Tryd.prog 28 #[.int .i64 n, .int .i64 t] w fun e w' => e = .returned (.tuple #[.pointer none, errV a 1]) ∧ Mod noF w w' := by
  have hcall := arenaNew_bad n h w a E
  unfold errV at hcall
  have Hcall := Lib.hid hcall
  clear hcall h E
  go_enter Tryd.func28, Tryd.ntmps28
  go_wp2_with fail
  refine Hcall.out.mono ?_
  rintro e w1 ⟨rfl, hm1⟩
  have Hm1 := Lib.hid hm1
  clear hm1
  go_wp2
  go_ret2
  exact ⟨rfl, Hm1.out⟩
theorem pmNew_threads (n : Nat) (t : Int) (h1 : 1 ≤ n) (hn : n ≤ 64) (h : t < 1 ∨ 6 < t) (w : World) (E : Errs4 w a) :
    Calls Tryd.prog 28 #[.int .i64 n, .int .i64 t] w fun e w' => e = .returned (.tuple #[.pointer none, errV a 1]) ∧ Mod noF w w' := by
  have HE := Lib.hid E
  clear E
  by_cases h0 : t < 1
  · have d0 : decide (t < 1) = true := by simpa using h0
    clear h
    go_enter Tryd.func28, Tryd.ntmps28
    go_wp2_with fail
    refine (arenaNew_ok n h1 hn w).mono ?_
    rintro e w1 ⟨rfl, A1, hm1⟩
    have hv := (HE.out.keep hm1).var 1 (by omega)
    have Hm1 := Lib.hid hm1
    clear A1 hm1
    go_wp2
    go_quiet (fail)
    go_wp2
    go_ret2
    exact ⟨rfl, Hm1.out.drewN _⟩
  · have d0 : decide (t < 1) = false := by simpa using h0
    have d1 : decide (6 < t) = true := by simp; omega
    clear h
    go_enter Tryd.func28, Tryd.ntmps28
    go_wp2_with fail
    refine (arenaNew_ok n h1 hn w).mono ?_
    rintro e w1 ⟨rfl, A1, hm1⟩
    have hv := (HE.out.keep hm1).var 1 (by omega)
    have Hm1 := Lib.hid hm1
    clear A1 hm1
    go_wp2
    go_quiet (fail)
    go_wp2
    go_ret2
    exact ⟨rfl, Hm1.out.drewN _⟩
theorem pmAlloc_ok (h : PMV w B l ws vs) (E : Errs4 w a) (hn : l.length ≤ 64) (ht : timesOk l) {t : Nat} (htl : t < ws.length) :
    Calls Tryd.prog 29 #[.pointer (some ⟨B.bM, 0, none⟩), .int .i64 t] w fun e w' =>
      (∃ i c, allocAt l 0 = some (i, c.times) ∧ l[i]? = some c ∧ e = .returned (.tuple #[.agg #[.int .i64 i, .int .i64 c.times], .nilIface]) ∧ PUp w B vs w' (l.set i (givenCell c)) ws vs) ∨
      (allocAt l 0 = none ∧ e = .returned (.tuple #[.agg #[.int .i64 0, .int .i64 0], errV a 5]) ∧ PUp w B vs w' l ws vs) := by
  have hq := (Mod.refl noF w).alloc (refBox 0 0)
  have h2 := h.keep0 hq
  have hu := PUp.quiet h hq
  have hp := h2.ptr
  have hb := h2.lt (x := B.bM) (.inl rfl)
  have hcall := arenaAlloc h2.arena (E.keep hq) hn ht
  unfold errV at hcall
  have Hcall := Lib.hid hcall
  have H := Lib.hid h2
  have Hu := Lib.hid hu
  have hnew := heap_alloc_new w (refBox 0 0)
  have hnf : ¬ PFoot B vs w.heap.size := fun hx => Nat.lt_irrefl _ (h.lt hx)
  have hgA := h.lt (x := B.gA) (.inr (.inr (.inl rfl)))
  have Hnew := Lib.hid hnew
  have Hnf := Lib.hid hnf
  clear h h2 hu hq E ht hcall hnew hnf
  go_enter Tryd.func29, Tryd.ntmps29
  go_wp2_with fail
  refine (pthread_ok H.out t htl).mono ?_
  rintro e w' ⟨rfl, rfl⟩
  go_wp2_with fail
  refine Hcall.out.mono ?_
  rintro e w1 (⟨i, c, ha, hc, rfl, A1, hm1⟩ | ⟨ha, rfl, hm1⟩)
  · have hx1 := hm1.heap Hnew.out (by omega)
    have c0 : w1.cell? ⟨w.heap.size, 0, none⟩ = some (.int .i64 0) := (cell_of_heap hx1 0).trans rfl
    have c1 : w1.cell? ⟨w.heap.size, 1, none⟩ = some (.int .i64 0) := (cell_of_heap hx1 1).trans rfl
    have f0 := free_of_heap hx1 0
    have f1 := free_of_heap hx1 1
    have hb1 := lt_of_block hx1
    have hup := Hu.out.trans (H.out.cells hm1 A1)
    have Hup := Lib.hid hup
    clear A1 hm1 hup hx1 Hcall
    go_wp2
    refine bodyPost_ret (v := .tuple #[.agg #[.int .i64 i, .int .i64 c.times], .nilIface]) (by simp [results, Tryd.results29, go_sem, c0, c1]) rfl (.inl ⟨i, c, ha, hc, rfl, Hup.out.aside Hnf.out (Nat.le_refl _) (((Mod.refl (fun x => x = w.heap.size) w1).setCell (fun _ => rfl) _).setCell (fun _ => rfl) _)⟩)
  · have hx1 := hm1.heap Hnew.out (fun e => e)
    have c0 : w1.cell? ⟨w.heap.size, 0, none⟩ = some (.int .i64 0) := (cell_of_heap hx1 0).trans rfl
    have c1 : w1.cell? ⟨w.heap.size, 1, none⟩ = some (.int .i64 0) := (cell_of_heap hx1 1).trans rfl
    have f0 := free_of_heap hx1 0
    have f1 := free_of_heap hx1 1
    have hb1 := lt_of_block hx1
    have hup := Hu.out.then0 hm1
    have Hup := Lib.hid hup
    clear hm1 hup hx1 Hcall
    go_wp2
    refine bodyPost_ret (v := .tuple #[.agg #[.int .i64 0, .int .i64 0], errV a 5]) (by simp [results, Tryd.results29, go_sem, c0, c1, errV]) rfl (.inr ⟨ha, rfl, Hup.out.aside Hnf.out (Nat.le_refl _) (((Mod.refl (fun x => x = w.heap.size) w1).setCell (fun _ => rfl) _).setCell (fun _ => rfl) _)⟩)
end Go.Proofs.YtamfbfajlfbooaaDoor
end
/- slices.Backward over what waits. -/
section
namespace Go.Proofs.YtamfbfajlfbooaaDoor
open Go.RowKit Go.Shelf Qs Qh
attribute [local go_sem] Oper.semAt_some
set_option maxHeartbeats 1000000 in
theorem back_in (F : Fence) (n : Nat) (h5 : F.fn 94) (hro : F.round = none) (a : Option Addr) (len cap : Nat) (w : World) :
    CallsIn F n Tryd.prog 94 #[.slice a len cap] w fun e w' => e = .returned (.func (.func 131) #[] #[.pointer (some ⟨w.heap.size, 0, none⟩)]) ∧ w' = w.alloc (.cells #[.slice a len cap] 143) := by
  refine callsIn_of_wp Tryd.func94 rfl h5 ?_ hro
  simp only [Tryd.ntmps94, List.size_toArray, List.length_cons, List.length_nil, Nat.reduceAdd, Nat.reduceSub, Array.replicate_succ, Array.replicate_zero, List.push_toArray, List.append_toArray, List.nil_append, List.cons_append]
  gi_wp2
  go_ret
  exact ⟨rfl, rfl⟩
/-- What has come when k rounds are over. -/
def upto {α : Type} (f : Nat → α) (k : Nat) : List α := (List.range k).map f
theorem upto_succ {α : Type} (f : Nat → α) (k : Nat) : upto f (k + 1) = upto f k ++ [f k] := by simp [upto, List.range_succ]
theorem upto_length {α : Type} (f : Nat → α) (k : Nat) : (upto f k).length = k := by simp [upto]
def wt0 : Wt := ⟨0, 0, 0, 0⟩
/-- The k-th that comes: its index, itself. -/
def backF (q : List Wt) (k : Nat) : Nat × Wt := (q.length - 1 - k, (q[q.length - 1 - k]?).getD wt0)
def backE (x : Nat × Wt) : Array Value := #[.int .i64 (x.1 : Int), .agg #[.int .i64 x.2.c, .int .i64 x.2.g, .int .i64 x.2.w, .int .i64 x.2.v]]
set_option maxRecDepth 100000 in
set_option maxHeartbeats 2000000 in
theorem back1_in (F : Fence) (n : Nat) (h7 : F.fn 131) (hro : F.round = none) (hn : 1 ≤ n) (l Bs n₀ g s cap : Nat) (q : List Wt) (hq8 : q.length ≤ 8) (hb : g < n₀) (hBn : Bs < n₀) (J Jx : List (Nat × Wt) → World → Prop)
    (hY : ∀ pre x W, J pre W → pre.length < q.length → YieldAt F (n - 1) Tryd.prog l (backE x) W fun e W' =>
      (e = .returned (.bool true) ∧ J (pre ++ [x]) W' ∧ Below n₀ W W') ∨ (e = .returned (.bool false) ∧ Jx (pre ++ [x]) W'))
    (W : World) (hBs : W.cell? ⟨Bs, 0, none⟩ = some (.slice (some ⟨g, s, none⟩) q.length cap)) (hgW : g < W.heap.size) (hc : ∀ j u, (flat wtVals 0 q)[j]? = some u → W.cell? ⟨g, s + j, none⟩ = some u) (h0 : J [] W) :
    CallsIn F n Tryd.prog 131 #[.func (.yield l) #[] #[], .pointer (some ⟨Bs, 0, none⟩)] W fun e W' => (∃ v, e = .returned v) ∧
      ((∃ ys, ys = upto (backF q) q.length ∧ J ys W') ∨ (∃ pre, (∃ k, k ≤ q.length ∧ pre = upto (backF q) k) ∧ Jx pre W')) := by
  have hBW := World.block_lt_of_cell? _ _ hBs
  refine callsIn_of_wp Tryd.func131 rfl h7 ?_ hro
  simp only [Tryd.ntmps131, List.size_toArray, List.length_cons, List.length_nil, Nat.reduceAdd, Nat.reduceSub, Array.replicate_succ, Array.replicate_zero, List.push_toArray, List.append_toArray, List.nil_append, List.cons_append]
  gi_wp2
  gi_loopw [3] (fun i wr => ∃ k j : Nat, k + j = q.length ∧ i = .int .i64 ((j : Int) - 1) ∧ J (upto (backF q) k) wr ∧ Below n₀ W wr) (fun i _ => (intOf i + 1).toNat)
  case atStart => exact ⟨0, q.length, by omega, rfl, h0, Below.refl _ _⟩
  case round =>
    rename_i wr
    obtain ⟨k, j, hkj, rfl, hJs, hnx⟩ := hrel
    cases j with
    | zero =>
      have hd : decide ((0 : Int) ≤ ((0 : Nat) : Int) - 1) = false := by simp
      obtain rfl : k = q.length := by omega
      gi_wp2
      go_end0
      exact ⟨⟨_, rfl⟩, .inl ⟨_, rfl, hJs⟩⟩
    | succ j =>
      have hjq : j < q.length := by omega
      obtain ⟨x, hx⟩ : ∃ x, q[j]? = some x := ⟨_, List.getElem?_eq_getElem hjq⟩
      have hbk : backF q k = (j, x) := by
        unfold backF
        rw [show q.length - 1 - k = j by omega, hx]; rfl
      have hcell : ∀ i u, (wtVals 0 x)[i]? = some u → wr.cell? ⟨g, s + (j * 4 + i), none⟩ = some u := by
        intro i u hu
        have hi : i < 4 := (List.getElem?_eq_some_iff.1 hu).1
        have := flat_get wtVals 4 (fun _ _ => rfl) hi q 0 j x hx []
        rw [List.append_nil] at this
        exact (hnx.cell (p := ⟨g, s + (j * 4 + i), none⟩) hb).trans (hc _ _ (this.trans hu))
      have c0 : wr.cell? ⟨g, s + j * 4, none⟩ = some (.int .i64 x.c) := hcell 0 _ rfl
      have c1 : wr.cell? ⟨g, s + j * 4 + 1, none⟩ = some (.int .i64 x.g) := hcell 1 _ rfl
      have c2 : wr.cell? ⟨g, s + j * 4 + 2, none⟩ = some (.int .i64 x.w) := hcell 2 _ rfl
      have c3 : wr.cell? ⟨g, s + j * 4 + 3, none⟩ = some (.int .i64 x.v) := hcell 3 _ rfl
      have hbs := (hnx.cell (p := ⟨Bs, 0, none⟩) hBn).trans hBs
      have hgw : g < wr.heap.size := Nat.lt_of_lt_of_le hgW hnx.size
      have hd : decide ((0 : Int) ≤ ((j + 1 : Nat) : Int) - 1) = true := by rw [decide_eq_true_eq]; omega
      have hjn : ((j + 1 : Nat) : Int) - 1 = (j : Int) := by omega
      have hji : (j : Int) < (q.length : Int) := by omega
      rw [hjn] at hd
      rw [hjn]
      obtain ⟨fn, tmps, assign, body, hy, hR⟩ := hY _ (j, x) wr hJs (by rw [upto_length]; omega)
      unfold backE at hy
      dsimp only at hy
      gi_wp2
      refine hR.mono ?_
      rintro e W3 (⟨rfl, hJ3, hk3⟩ | ⟨rfl, hJx3⟩)
      · gi_wp2
        go_roundw
        case rel => exact ⟨k + 1, j, by omega, by simp, by rw [upto_succ, hbk]; exact hJ3, hnx.trans hk3⟩
        case measure => simp [intOf]
      · gi_wp2
        refine bodyPost_ret (results_none rfl _ _ _) rfl ?_
        exact ⟨⟨_, rfl⟩, .inr ⟨_, ⟨k + 1, by omega, by rw [upto_succ, hbk]⟩, hJx3⟩⟩
end Go.Proofs.YtamfbfajlfbooaaDoor
end
/- slices.Backward over what waits: its contract. -/
section
namespace Go.Proofs.YtamfbfajlfbooaaDoor
open Go.RowKit Go.Shelf Qs Qh
attribute [local go_sem] Oper.semAt_some
set_option maxRecDepth 100000 in
set_option maxHeartbeats 1000000 in
theorem back1_nil (F : Fence) (n : Nat) (h7 : F.fn 131) (hro : F.round = none) (l Bs : Nat) (J : List (Nat × Wt) → World → Prop) (W : World) (hBs : W.cell? ⟨Bs, 0, none⟩ = some (.slice none 0 0)) (h0 : J [] W) :
    CallsIn F n Tryd.prog 131 #[.func (.yield l) #[] #[], .pointer (some ⟨Bs, 0, none⟩)] W fun e W' => (∃ v, e = .returned v) ∧ J [] W' := by
  have hBW := World.block_lt_of_cell? _ _ hBs
  refine callsIn_of_wp Tryd.func131 rfl h7 ?_ hro
  simp only [Tryd.ntmps131, List.size_toArray, List.length_cons, List.length_nil, Nat.reduceAdd, Nat.reduceSub, Array.replicate_succ, Array.replicate_zero, List.push_toArray, List.append_toArray, List.nil_append, List.cons_append]
  gi_wp2
  gi_loopw [3] (fun i wr => i = .int .i64 (-1) ∧ J [] wr) (fun _ _ => 0)
  case atStart => exact ⟨rfl, h0⟩
  case round =>
    obtain ⟨rfl, hJs⟩ := hrel
    gi_wp2
    go_end0
    exact ⟨⟨_, rfl⟩, hJs⟩
theorem below_row {w W : World} {v : Value} {q : List Wt} (h : waitRow w v q) (hW : Below w.heap.size w W) : waitRow W v q := h.keep (Mod.below hW) fun _ _ e => e
theorem back_stops (F : Fence) (n : Nat) (h7 : F.fn 131) (hro : F.round = none) (hn : 1 ≤ n) (Bs : Nat) (sv : Value) (q : List Wt) (hq8 : q.length ≤ 8) (w : World) (hBs : Bs < w.heap.size)
    (hc : w.cell? ⟨Bs, 0, none⟩ = some sv) (hI : waitRow w sv q) :
    SeqStopsK F n Tryd.prog 131 #[.pointer (some ⟨Bs, 0, none⟩)] backE (Below w.heap.size) (fun ys => ys = upto (backF q) q.length) (fun pre => ∃ k, k ≤ q.length ∧ pre = upto (backF q) k) q.length w := fun l J Jx W hW _ _ hY h0 => by
  have hc' := (hW.cell (p := ⟨Bs, 0, none⟩) hBs).trans hc
  have hlt := hI.lt
  rcases (below_row hI hW).2 with ⟨rfl, h00⟩ | ⟨g, s, cap, cur, rfl, hg, r1, r2, r3, r4⟩
  · obtain rfl : q = [] := List.eq_nil_of_length_eq_zero h00
    exact (back1_nil F n h7 hro l Bs J W hc' h0).mono fun e W' ⟨he, hj⟩ => ⟨he, .inl ⟨_, rfl, hj⟩⟩
  · have hgl := hlt g rfl
    refine back1_in F n h7 hro hn l Bs w.heap.size g s cap q hq8 hgl hBs J Jx hY W hc' (lt_of_block hg) (fun j u hu => ?_) h0
    rw [cell_of_heap hg]
    rw [← r4, List.getElem?_take] at hu
    split at hu
    · rw [List.getElem?_drop] at hu; simpa using hu
    · cases hu
end Go.Proofs.YtamfbfajlfbooaaDoor
end
/- The last store that waits, found from behind. -/
section
namespace Go.Proofs.YtamfbfajlfbooaaDoor
open Go.RowKit Qs Qh
def hit (c r W : Int) (y : Wt) : Prop := y.c = c ∧ y.g = r ∧ y.w = W
theorem look_none {c r W : Int} : ∀ (q : List Wt) (v : Int), (∀ y ∈ q, ¬ hit c r W y) → Qs.look q c r W v = v
  | [], v, _ => rfl
  | y :: q, v, h => by
    have hy : ¬ (y.c = c ∧ y.g = r ∧ y.w = W) := h y (by simp)
    unfold Qs.look
    simp only [List.foldl_cons]
    rw [if_neg hy]
    exact look_none q v fun z hz => h z (by simp [hz])
theorem look_at {c r W : Int} {q : List Wt} {j : Nat} {y : Wt} (v : Int) (hj : q[j]? = some y) (hy : hit c r W y) (hn : ∀ i z, j < i → q[i]? = some z → ¬ hit c r W z) : Qs.look q c r W v = y.v := by
  obtain ⟨hl, rfl⟩ := List.getElem?_eq_some_iff.1 hj
  have e : q = q.take j ++ (q[j] :: q.drop (j + 1)) := by rw [← List.drop_eq_getElem_cons hl, List.take_append_drop]
  have hy' : q[j].c = c ∧ q[j].g = r ∧ q[j].w = W := hy
  have : ∀ l1 l2 : List Wt, ∀ x : Wt, (x.c = c ∧ x.g = r ∧ x.w = W) → Qs.look (l1 ++ (x :: l2)) c r W v = Qs.look l2 c r W x.v := by
    intro l1 l2 x hx
    unfold Qs.look
    rw [List.foldl_append, List.foldl_cons, if_pos hx]
  conv => lhs; rw [e]
  rw [this _ _ _ hy']
  refine look_none _ _ fun z hz => ?_
  obtain ⟨i, hi⟩ := List.mem_iff_getElem?.1 hz
  rw [List.getElem?_drop] at hi
  exact hn (j + 1 + i) z (by omega) hi
theorem upto_mem {α : Type} {f : Nat → α} {k i : Nat} (h : i < k) : f i ∈ upto f k := by
  unfold upto; exact List.mem_map.2 ⟨i, by simpa using h, rfl⟩
theorem back_get {q : List Wt} {i : Nat} {z : Wt} (h : q[i]? = some z) : i < q.length ∧ backF q (q.length - 1 - i) = (i, z) := by
  have hl := (List.getElem?_eq_some_iff.1 h).1
  refine ⟨hl, ?_⟩
  unfold backF
  rw [show q.length - 1 - (q.length - 1 - i) = i by omega, h]; rfl
theorem look_all {c r W : Int} {q : List Wt} (v : Int) (h : ∀ y ∈ upto (backF q) q.length, ¬ hit c r W y.2) : Qs.look q c r W v = v := by
  refine look_none q v fun y hy => ?_
  obtain ⟨i, hi⟩ := List.mem_iff_getElem?.1 hy
  obtain ⟨hl, hb⟩ := back_get hi
  have := h _ (upto_mem (f := backF q) (k := q.length) (i := q.length - 1 - i) (by omega))
  rwa [hb] at this
theorem look_found {c r W : Int} {q : List Wt} {k : Nat} {pre : List (Nat × Wt)} {y : Nat × Wt} (v : Int) (hk : k ≤ q.length) (e : pre ++ [y] = upto (backF q) k) (hy : hit c r W y.2) (hn : ∀ z ∈ pre, ¬ hit c r W z.2) : Qs.look q c r W v = y.2.v := by
  cases k with
  | zero => have := congrArg List.length e; simp [upto_length] at this
  | succ k =>
    rw [upto_succ] at e
    obtain ⟨rfl, e2⟩ := List.append_inj' e rfl
    obtain rfl : y = backF q k := by simpa using e2
    have hj : q[q.length - 1 - k]? = some (backF q k).2 := by
      unfold backF
      rw [List.getElem?_eq_getElem (show q.length - 1 - k < q.length by omega)]; rfl
    refine look_at v hj hy fun i z hi hz => ?_
    obtain ⟨hl, hb⟩ := back_get hz
    have := hn _ (upto_mem (f := backF q) (k := k) (i := q.length - 1 - i) (by omega))
    rwa [hb] at this
end Go.Proofs.YtamfbfajlfbooaaDoor
end
/- Arena and reference memory, side by side. -/
section
namespace Go.Proofs.YtamfbfajlfbooaaDoor
open Go.RowKit Qs Qh
/-- The arena's cells are the reference memory's; no block is shared. -/
structure ActsRel (w : World) (b g bm k : Nat) (L : Lay) (m : M) (wr : World) : Prop where
  at_ : AAt wr b g m.cells
  rep : Rep ty memK wr L m
  om : OkM 1000 m
  ol : OkL L m
  top : L.blk 1 0 = bm
  times : ∀ (i : Nat) c, m.cells[i]? = some c → c.times ≤ k
  waits : m.waits = [[]]
  foot : ∀ x, Foot ty memK L m x → w.heap.size ≤ x ∧ x ≠ b ∧ x ≠ g
  hb : w.heap.size ≤ b
  hg : w.heap.size ≤ g
  mod : Mod noF w wr
variable {w wr w1 w2 : World} {b g bm k : Nat} {L : Lay} {m : M}
theorem ActsRel.keep (h : ActsRel w b g bm k L m wr) (hM : Mod noF wr w1) : ActsRel w b g bm k L m w1 :=
  ⟨h.at_.keep0 hM, h.rep.frame0 hM, h.om, h.ol, h.top, h.times, h.waits, h.foot, h.hb, h.hg, h.mod.trans0 hM⟩
theorem ActsRel.up (h : ActsRel w b g bm k L m wr) {k' : Nat} (hk : k ≤ k') : ActsRel w b g bm k' L m wr :=
  ⟨h.at_, h.rep, h.om, h.ol, h.top, fun i c hc => Int.le_trans (h.times i c hc) (by exact_mod_cast hk), h.waits, h.foot, h.hb, h.hg, h.mod⟩
theorem ActsRel.timesOk (h : ActsRel w b g bm k L m wr) : timesOk m.cells := fun i c hc => by
  obtain ⟨h0, h1⟩ := h.om.times i c hc; omega
theorem ActsRel.wordsOk (h : ActsRel w b g bm k L m wr) : wordsOk m.cells := fun i c hc => (h.om.words i c hc).1
theorem ActsRel.footb (h : ActsRel w b g bm k L m wr) : ¬ Foot ty memK L m b := fun hf => (h.foot b hf).2.1 rfl
theorem ActsRel.footg (h : ActsRel w b g bm k L m wr) : ¬ Foot ty memK L m g := fun hf => (h.foot g hf).2.2 rfl
theorem okm_set {N : Int} {i : Nat} {c c' : Cell} (om : OkM N m) (hc : m.cells[i]? = some c) (hw : c'.words.length = 4 ∧ ∀ v ∈ c'.words, isWord v = true) (ht : 0 ≤ c'.times ∧ c'.times ≤ N) : OkM N { m with cells := m.cells.set i c' } := by
  refine ⟨by simpa using om.cells1, by simpa using om.cells, fun j x hx => ?_, fun j x hx => ?_, om.waits, om.wlen, fun t l hl x hx => by simpa using om.wval t l hl x hx, om.N0⟩
  · simp only [List.getElem?_set] at hx
    split at hx
    · split at hx
      · cases hx; exact hw
      · cases hx
    · exact om.words j x hx
  · simp only [List.getElem?_set] at hx
    split at hx
    · split at hx
      · cases hx; exact ht
      · cases hx
    · exact om.times j x hx
theorem times_set {i : Nat} {c' : Cell} {K : Int} (h : ∀ (i : Nat) c, m.cells[i]? = some c → c.times ≤ K) (h' : c'.times ≤ K) : ∀ (j : Nat) c, (m.cells.set i c')[j]? = some c → c.times ≤ K := by
  intro j x hx
  simp only [List.getElem?_set] at hx
  split at hx
  · split at hx
    · cases hx; exact h'
    · cases hx
  · exact h j x hx
/-- Behind an alloc of both. -/
theorem ActsRel.alloc (h : ActsRel w b g bm k L m wr) {i B : Nat} {c : Cell} (hk : k < 1000) (hc : m.cells[i]? = some c) (hM1 : Mod (fun x => x = g) wr w1) (A1 : AAt w1 b g (m.cells.set i (givenCell c)))
    (R2 : Rep ty memK w2 (L.words i B) { m with cells := m.cells.set i (zeroCell (c.times + 1)) }) (hM2 : Mod (fun x => x = L.blk 2 0) w1 w2) (hB : w1.heap.size ≤ B) :
    ActsRel w b g bm (k + 1) (L.words i B) { m with cells := m.cells.set i (zeroCell (c.times + 1)) } w2 := by
  have hf2 : Foot ty memK L m (L.blk 2 0) := ⟨2, 0, rfl, by rw [obj2 ty m h.ol.n2]; rfl, rfl⟩
  obtain ⟨f1, f2, f3⟩ := h.foot _ hf2
  have hs := hM1.size
  have hsw := h.mod.size
  have hlt := A1.lt
  have ht := h.times i c hc
  have ht0 := (h.om.times i c hc).1
  refine ⟨A1.keep hM2 (fun e => f2 e.symm) (fun e => f3 e.symm), R2, okm_set h.om hc ⟨rfl, fun v hv => by simp [zeroCell] at hv; subst hv; rfl⟩ ⟨by simp only [zeroCell]; omega, by simp only [zeroCell]; omega⟩, words_ok h.ol, ?_, ?_, h.waits, ?_, h.hb, h.hg,
    (h.mod.trans hM1 (fun x hx e => by have := h.hg; omega)).trans hM2 (fun x hx e => by omega)⟩
  · rw [words_blk _ _ _ _ _ (by omega)]; exact h.top
  · exact times_set (fun j x hx => by have := h.times j x hx; omega) (by simp only [zeroCell]; omega)
  · intro x hx
    rcases words_foot h.ol hx with hx | rfl
    · exact h.foot x hx
    · exact ⟨by omega, by omega, by omega⟩
/-- Behind one cell's turn in both. -/
theorem ActsRel.turned (h : ActsRel w b g bm k L m wr) {i : Nat} {c c' : Cell} (hc : m.cells[i]? = some c) (hM1 : Mod (fun x => x = g) wr w1) (A1 : AAt w1 b g (m.cells.set i c'))
    (R2 : Rep ty memK w2 L { m with cells := m.cells.set i c' }) (hM2 : Mod (Foot ty memK L m) w1 w2) (hw : c'.words.length = 4 ∧ ∀ v ∈ c'.words, isWord v = true) (ht : c'.times = c.times) :
    ActsRel w b g bm k L { m with cells := m.cells.set i c' } w2 := by
  have hs := hM1.size
  have hsw := h.mod.size
  have htc := h.times i c hc
  have htm := h.om.times i c hc
  refine ⟨A1.keep hM2 h.footb h.footg, R2, okm_set h.om hc hw ⟨by omega, by omega⟩, ok_cell (c := c) h.ol, h.top, times_set h.times (by omega), h.waits, fun x hx => h.foot x (foot_cell ty memK L m hc x hx), h.hb, h.hg,
    (h.mod.trans hM1 (fun x hx e => by have := h.hg; omega)).trans hM2 (fun x hx e => by have := (h.foot x e).1; omega)⟩
theorem ActsRel.repg (h : ActsRel w b g bm k L m wr) (hM : Mod (fun x => x = g) wr w1) : Rep ty memK w1 L m := h.rep.frame hM fun x hx e => (h.foot x hx).2.2 e
/-- The start. -/
theorem actsStart {n : Nat} (h1 : 1 ≤ n) (hn : n ≤ 64) {bc bw : Nat} (A : AAt wr b g (List.replicate n freshCell)) (hm : Mod noF w wr) (hb : w.heap.size ≤ b) (hg : w.heap.size ≤ g) (N : NewRel wr n 1 bm bc bw n w1) (h4 : wr.heap.size ≤ bm ∧ wr.heap.size ≤ bc ∧ wr.heap.size ≤ bw ∧ bm < wr.heap.size + 3 ∧ bc < wr.heap.size + 3 ∧ bw < wr.heap.size + 3 ∧ bm ≠ bc ∧ bm ≠ bw ∧ bc ≠ bw) :
    ActsRel w b g bm 0 (newL bm bc bw (wr.heap.size + 3)) (newM n 1) w1 := by
  obtain ⟨g1, g2, g3, g4, g5, g6, g7, g8, g9⟩ := h4
  have hs := hm.size
  have hlt := A.lt
  have om := newM_ok (n := n) (t := 1) h1 hn (by omega)
  have hM1 : Mod noF wr w1 := Mod.below N.below
  refine ⟨A.keep0 hM1, newM_rep N.mem N.cells N.waits N.words (by omega) (by omega) (by omega) g7 g8 g9, ⟨om.cells1, om.cells, om.words, fun i c hc => ⟨(om.times i c hc).1, by have := (om.times i c hc).2; omega⟩, om.waits, om.wlen, fun t l hl x hx => by
      have := om.wval t l hl x hx; exact ⟨this.1, this.2.1, this.2.2.1, this.2.2.2.1, this.2.2.2.2.1, this.2.2.2.2.2.1, by have := this.2.2.2.2.2.2; omega⟩, by omega⟩, newL_ok hn (by omega), rfl, fun i c hc => (om.times i c hc).2, rfl, ?_, hb, hg, hm.trans0 hM1⟩
  intro x hx
  obtain ⟨a, i, hK, _, rfl⟩ := hx
  simp only [memK, Bool.or_eq_true, beq_iff_eq] at hK
  rcases hK with (((rfl | rfl) | rfl) | rfl) | rfl <;> simp only [newL] <;> omega
end Go.Proofs.YtamfbfajlfbooaaDoor
end
/- Errors' numbers, strings: what walks over acts share. -/
section
namespace Go.Proofs.YtamfbfajlfbooaaDoor
open Go.RowKit Qs Qh
theorem loadE_atE (l : List Cell) (c r W : Int) : (atE l c r W = 0 ∧ loadE l c r W = (getWord l c.toNat W.toNat, 0)) ∨ (atE l c r W = 2 ∧ loadE l c r W = (0, 2)) ∨ (atE l c r W = 7 ∧ loadE l c r W = (0, 7)) := by
  unfold atE loadE
  cases hereIn l c r with
  | false => exact .inr (.inr ⟨rfl, rfl⟩)
  | true =>
    by_cases h : 0 ≤ W ∧ W < 4
    · left; simp [h]
    · right; left; simp [h]
theorem notStr (kind : ByteArray) (l : List UInt8) (h : ¬ kind = ⟨l.toArray⟩) : (kind.toList == l) = false := by
  rw [Lib.toList_data, beq_eq_false_iff_ne]
  intro e
  apply h
  cases kind
  rw [← e]
theorem storeE_atE (l : List Cell) (c r W V : Int) : (atE l c r W = 7 ∧ storeE l c r W V = 7) ∨ (atE l c r W = 2 ∧ storeE l c r W V = 2) ∨ (atE l c r W = 0 ∧ isWord V = false ∧ storeE l c r W V = 2) ∨ (atE l c r W = 0 ∧ isWord V = true ∧ storeE l c r W V = 0 ∧ hereIn l c r = true ∧ 0 ≤ W ∧ W < 4) := by
  unfold atE storeE
  cases hereIn l c r with
  | false => exact .inl ⟨rfl, rfl⟩
  | true =>
    by_cases h : 0 ≤ W ∧ W < 4
    · cases isWord V
      · right; right; left; simp [h]
      · right; right; right; simp [h]
    · right; left; simp [h]
end Go.Proofs.YtamfbfajlfbooaaDoor
end
