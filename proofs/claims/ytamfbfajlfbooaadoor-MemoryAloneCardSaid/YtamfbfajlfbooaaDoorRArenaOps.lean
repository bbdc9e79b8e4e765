/- (*arena.Arena).word, .Load, .Store, .Free. -/
import Derived.Test.YtamfbfajlfbooaaDoorRArenaAt
set_option linter.unusedVariables false
set_option linter.unusedSimpArgs false
set_option linter.unusedSectionVars false
namespace Go.Proofs.YtamfbfajlfbooaaDoor
open Go.RowKit Qs Qh
def timesOk (l : List Cell) : Prop := ∀ (i : Nat) c, l[i]? = some c → 0 ≤ c.times ∧ c.times ≤ 1000000000
variable {w : World} {b g : Nat} {l : List Cell} {a : Nat → Addr}
set_option maxHeartbeats 4000000 in
theorem aword_ok (R : AAt w b g l) (hn : l.length ≤ 64) (ht : timesOk l) {i : Nat} {x : Cell} (hi : l[i]? = some x) (hh : x.here = true) (j : Nat) (hj : j < 4) :
    Calls Tryd.prog 106 #[.pointer (some ⟨b, 0, none⟩), .agg #[.int .i64 i, .int .i64 (x.times - 1)], .int .i64 j] w fun e w' => e = .returned (.tuple #[.pointer (some ⟨g, i * 6 + j, none⟩), .nilIface]) ∧ Mod noF w w' := by
  have hcall := arenaAt_hit (R.keep0 ((Mod.refl noF w).alloc (refBox i (x.times - 1)))) hn hi hh (ht i x hi)
  have d0 : decide ((j : Int) < 0) = false := by simp
  have d1 : decide ((4 : Int) ≤ (j : Int)) = false := by simp; omega
  have d2 : (j : Int) < 4 := by omega
  have Hcall := Lib.hid hcall
  clear hcall R ht hi hh
  go_enter Tryd.func106, Tryd.ntmps106
  go_wp2_with fail
  refine Hcall.out.mono ?_
  rintro e w1 ⟨rfl, hm⟩
  have Hm := Lib.hid (((Mod.refl noF w).alloc _).trans0 hm)
  clear hm Hcall
  go_wp2
  go_ret2
  exact ⟨rfl, Hm.out⟩
set_option maxHeartbeats 4000000 in
theorem aword_stale (R : AAt w b g l) (E : Errs4 w a) (hn : l.length ≤ 64) (ht : timesOk l) (c r : Int) (h : hereIn l c r = false) (j : Int) :
    Calls Tryd.prog 106 #[.pointer (some ⟨b, 0, none⟩), .agg #[.int .i64 c, .int .i64 r], .int .i64 j] w fun e w' => e = .returned (.tuple #[.pointer none, errV a 6]) ∧ Mod noF w w' := by
  have hq := (Mod.refl noF w).alloc (refBox c r)
  have hcall := arenaAt_miss (R.keep0 hq) (E.keep hq) hn ht c r h
  unfold errV at hcall
  have Hcall := Lib.hid hcall
  clear hcall R E ht h hq
  go_enter Tryd.func106, Tryd.ntmps106
  go_wp2_with fail
  refine Hcall.out.mono ?_
  rintro e w1 ⟨rfl, hm⟩
  have Hm := Lib.hid (((Mod.refl noF w).alloc _).trans0 hm)
  clear hm Hcall
  go_wp2
  go_ret2
  exact ⟨rfl, Hm.out⟩
set_option maxHeartbeats 4000000 in
theorem aword_bound (R : AAt w b g l) (E : Errs4 w a) (hn : l.length ≤ 64) (ht : timesOk l) {i : Nat} {x : Cell} (hi : l[i]? = some x) (hh : x.here = true) (j : Int) (hj : j < 0 ∨ 4 ≤ j) :
    Calls Tryd.prog 106 #[.pointer (some ⟨b, 0, none⟩), .agg #[.int .i64 i, .int .i64 (x.times - 1)], .int .i64 j] w fun e w' => e = .returned (.tuple #[.pointer none, errV a 1]) ∧ Mod noF w w' := by
  have hcall := arenaAt_hit (R.keep0 ((Mod.refl noF w).alloc (refBox i (x.times - 1)))) hn hi hh (ht i x hi)
  have HE := Lib.hid E
  have Hcall := Lib.hid hcall
  clear hcall R ht hi hh E
  by_cases j0 : j < 0
  · have d0 : decide (j < 0) = true := by simpa using j0
    go_enter Tryd.func106, Tryd.ntmps106
    go_wp2_with fail
    refine Hcall.out.mono ?_
    rintro e w1 ⟨rfl, hm⟩
    have hm' := ((Mod.refl noF w).alloc _).trans0 hm
    have hv := (HE.out.keep hm').var 1 (by omega)
    have Hm := Lib.hid hm'
    clear hm hm' Hcall
    go_wp2
    go_quiet (fail)
    go_wp2
    go_ret2
    exact ⟨rfl, Hm.out.drewN _⟩
  · have d0 : decide (j < 0) = false := by simpa using j0
    have d1 : decide (4 ≤ j) = true := by simp; omega
    go_enter Tryd.func106, Tryd.ntmps106
    go_wp2_with fail
    refine Hcall.out.mono ?_
    rintro e w1 ⟨rfl, hm⟩
    have hm' := ((Mod.refl noF w).alloc _).trans0 hm
    have hv := (HE.out.keep hm').var 1 (by omega)
    have Hm := Lib.hid hm'
    clear hm hm' Hcall
    go_wp2
    go_quiet (fail)
    go_wp2
    go_ret2
    exact ⟨rfl, Hm.out.drewN _⟩
/-- What a cell's word is, or the error's number. -/
def loadE (l : List Cell) (c r j : Int) : Int × Int := if hereIn l c r then (if 0 ≤ j ∧ j < 4 then (getWord l c.toNat j.toNat, 0) else (0, 2)) else (0, 7)
def errOf' (a : Nat → Addr) (e : Int) : Value := if e = 0 then .nilIface else errV a (e.toNat - 1)
theorem acell_word (c : Cell) (j : Nat) (hj : j < 4) : (acell 0 c)[j]? = some (.int .i64 (c.words.getD j 0)) := by
  rcases (by omega : j = 0 ∨ j = 1 ∨ j = 2 ∨ j = 3) with rfl | rfl | rfl | rfl <;> rfl
set_option maxHeartbeats 4000000 in
theorem aload_any (R : AAt w b g l) (E : Errs4 w a) (hn : l.length ≤ 64) (ht : timesOk l) (c r j : Int) :
    Calls Tryd.prog 66 #[.pointer (some ⟨b, 0, none⟩), .agg #[.int .i64 c, .int .i64 r], .int .i64 j] w fun e w' => e = .returned (.tuple #[.int .i64 (loadE l c r j).1, errOf' a (loadE l c r j).2]) ∧ Mod noF w w' := by
  have hq := (Mod.refl noF w).alloc (refBox c r)
  have HR := Lib.hid R
  have HE := Lib.hid E
  cases hin : hereIn l c r with
  | false =>
    have e : loadE l c r j = (0, 7) := by simp [loadE, hin]
    rw [e]
    have hcall := aword_stale (R.keep0 hq) (E.keep hq) hn ht c r hin j
    unfold errV at hcall
    have Hcall := Lib.hid hcall
    clear hcall R E ht hin hq e
    go_enter Tryd.func66, Tryd.ntmps66
    go_wp2_with fail
    refine Hcall.out.mono ?_
    rintro e w1 ⟨rfl, hm⟩
    have Hm := Lib.hid (((Mod.refl noF w).alloc _).trans0 hm)
    clear hm Hcall
    go_wp2
    go_ret2
    exact ⟨by simp [errOf', errV], Hm.out⟩
  | true =>
    obtain ⟨i, x, rfl, hil, hi, hh, rfl⟩ := hereIn_at hin
    by_cases hj : 0 ≤ j ∧ j < 4
    · obtain ⟨j, rfl⟩ := Int.eq_ofNat_of_zero_le hj.1
      have e : loadE l i (x.times - 1) j = (x.words.getD j 0, 0) := by
        simp only [loadE, hin, if_true, if_pos hj, getWord, Int.toNat_natCast, hi]; rfl
      rw [e]
      have hj4 : j < 4 := by omega
      have hcall := aword_ok (R.keep0 hq) hn ht hi hh j hj4
      have Hcall := Lib.hid hcall
      have Hi := Lib.hid hi
      clear hcall R E ht hin hq e hj hi
      go_enter Tryd.func66, Tryd.ntmps66
      go_wp2_with fail
      refine Hcall.out.mono ?_
      rintro e w1 ⟨rfl, hm⟩
      have hm' := ((Mod.refl noF w).alloc _).trans0 hm
      have hc := ((HR.out.keep0 hm').cell Hi.out (j := j) (by omega)).trans (acell_word x j hj4)
      have hbl := (HR.out.keep0 hm').lt.2
      have Hm := Lib.hid hm'
      clear hm hm' Hcall
      go_wp2
      go_ret2
      exact ⟨by simp [errOf'], Hm.out⟩
    · have e : loadE l i (x.times - 1) j = (0, 2) := by simp only [loadE, hin, if_true, if_neg hj]
      rw [e]
      have hcall := aword_bound (R.keep0 hq) (E.keep hq) hn ht hi hh j (by omega)
      unfold errV at hcall
      have Hcall := Lib.hid hcall
      clear hcall R E ht hin hq e hj hi
      go_enter Tryd.func66, Tryd.ntmps66
      go_wp2_with fail
      refine Hcall.out.mono ?_
      rintro e w1 ⟨rfl, hm⟩
      have Hm := Lib.hid (((Mod.refl noF w).alloc _).trans0 hm)
      clear hm Hcall
      go_wp2
      go_ret2
      exact ⟨by simp [errOf', errV], Hm.out⟩
/-- A store's error's number. -/
def storeE (l : List Cell) (c r j v : Int) : Int := if hereIn l c r then (if 0 ≤ j ∧ j < 4 then (if isWord v then 0 else 2) else 2) else 7
theorem acell_setWord (c : Cell) (hc : c.words.length = 4) (j : Nat) (hj : j < 4) (v : Int) : acell 0 { c with words := c.words.set j v } = (acell 0 c).set j (.int .i64 v) := by
  obtain ⟨ws, t, h⟩ := c
  match ws, hc with
  | [a0, a1, a2, a3], _ =>
    rcases (by omega : j = 0 ∨ j = 1 ∨ j = 2 ∨ j = 3) with rfl | rfl | rfl | rfl <;> rfl
def wordsOk (l : List Cell) : Prop := ∀ (i : Nat) c, l[i]? = some c → c.words.length = 4
theorem modify_at {l : List Cell} {i : Nat} {c : Cell} (hi : l[i]? = some c) (f : Cell → Cell) : l.modify i f = l.set i (f c) := by
  apply List.ext_getElem?
  intro k
  rw [List.getElem?_modify, List.getElem?_set]
  have hlt := (List.getElem?_eq_some_iff.1 hi).1
  by_cases e : i = k
  · subst e
    have := (List.getElem?_eq_some_iff.1 hi).2
    simp [hlt, this]
  · simp [e]
theorem setWord_at {l : List Cell} {i j : Nat} {v : Int} {c : Cell} (hi : l[i]? = some c) : setWord l i j v = l.set i { c with words := c.words.set j v } := by
  unfold setWord
  rw [modify_at hi]
set_option maxHeartbeats 4000000 in
theorem astore_any (R : AAt w b g l) (E : Errs4 w a) (hn : l.length ≤ 64) (ht : timesOk l) (hwo : wordsOk l) (c r j v : Int) :
    Calls Tryd.prog 64 #[.pointer (some ⟨b, 0, none⟩), .agg #[.int .i64 c, .int .i64 r], .int .i64 j, .int .i64 v] w fun e w' => e = .returned (errOf' a (storeE l c r j v)) ∧ Mod (fun x => x = g) w w' ∧
      AAt w' b g (if storeE l c r j v = 0 then setWord l c.toNat j.toNat v else l) := by
  have hq := (Mod.refl noF w).alloc (refBox c r)
  have HR := Lib.hid R
  have HE := Lib.hid E
  cases hin : hereIn l c r with
  | false =>
    have e : storeE l c r j v = 7 := by simp [storeE, hin]
    rw [e]
    have hcall := aword_stale (R.keep0 hq) (E.keep hq) hn ht c r hin j
    unfold errV at hcall
    have Hcall := Lib.hid hcall
    clear hcall R E ht hin hq e
    go_enter Tryd.func64, Tryd.ntmps64
    go_wp2_with fail
    refine Hcall.out.mono ?_
    rintro e w1 ⟨rfl, hm⟩
    have Hm := Lib.hid (((Mod.refl noF w).alloc _).trans0 hm)
    clear hm Hcall
    go_wp2
    go_ret
    exact ⟨by simp [errOf', errV], Hm.out.any, by simpa using HR.out.keep0 Hm.out⟩
  | true =>
    obtain ⟨i, x, rfl, hil, hi, hh, rfl⟩ := hereIn_at hin
    by_cases hj : 0 ≤ j ∧ j < 4
    · obtain ⟨j, rfl⟩ := Int.eq_ofNat_of_zero_le hj.1
      have hj4 : j < 4 := by omega
      have hcall := aword_ok (R.keep0 hq) hn ht hi hh j hj4
      have Hcall := Lib.hid hcall
      have Hi := Lib.hid hi
      have Hwo := Lib.hid hwo
      cases hw : isWord v with
      | true =>
        have e : storeE l i (x.times - 1) j v = 0 := by simp only [storeE, hin, if_true, if_pos hj, hw]
        rw [e, if_pos rfl, setWord_at (by rw [Int.toNat_natCast]; exact hi)]
        have Hw := Lib.hid hw
        clear hcall R E ht hin hq e hj hi hwo hw
        go_enter Tryd.func64, Tryd.ntmps64
        go_wp2_with fail
        refine Hcall.out.mono ?_
        rintro e w1 ⟨rfl, hm⟩
        have hm' := ((Mod.refl noF w).alloc _).trans0 hm
        have R1 := HR.out.keep0 hm'
        have hc := (R1.cell Hi.out (j := j) (by omega)).trans (acell_word x j hj4)
        have hf := R1.free (i * 6 + j)
        have hbl := R1.lt.2
        have Hm := Lib.hid hm'
        have HR1 := Lib.hid R1
        clear hm hm' Hcall R1
        go_wp2_with (go_at_call 93; refine (right_any _ _).mono ?_; rintro e w' ⟨rfl, rfl⟩; rw [Hw.out])
        go_ret
        refine ⟨by simp [errOf'], (Hm.out.any (F := fun x => x = g)).setCell (fun _ => rfl) _, ?_⟩
        rw [Int.toNat_natCast, Int.toNat_natCast]
        exact HR1.out.set Hi.out (by omega) _ (acell_setWord x (Hwo.out i x Hi.out) j hj4 v)
      | false =>
        have e : storeE l i (x.times - 1) j v = 2 := by simp only [storeE, hin, if_true, if_pos hj, hw]; rfl
        rw [e]
        have Hw := Lib.hid hw
        clear hcall R E ht hin hq e hj hi hwo hw
        go_enter Tryd.func64, Tryd.ntmps64
        go_wp2_with fail
        refine Hcall.out.mono ?_
        rintro e w1 ⟨rfl, hm⟩
        have hm' := ((Mod.refl noF w).alloc _).trans0 hm
        have hv := (HE.out.keep hm').var 1 (by omega)
        have Hm := Lib.hid hm'
        clear hm hm' Hcall
        go_wp2_with (go_at_call 93; refine (right_any _ _).mono ?_; rintro e w' ⟨rfl, rfl⟩; rw [Hw.out])
        go_ret
        exact ⟨by simp [errOf', errV], Hm.out.any, by simpa using HR.out.keep0 Hm.out⟩
    · have e : storeE l i (x.times - 1) j v = 2 := by simp only [storeE, hin, if_true, if_neg hj]
      rw [e]
      have hcall := aword_bound (R.keep0 hq) (E.keep hq) hn ht hi hh j (by omega)
      unfold errV at hcall
      have Hcall := Lib.hid hcall
      clear hcall R E ht hin hq e hj hi hwo
      go_enter Tryd.func64, Tryd.ntmps64
      go_wp2_with fail
      refine Hcall.out.mono ?_
      rintro e w1 ⟨rfl, hm⟩
      have Hm := Lib.hid (((Mod.refl noF w).alloc _).trans0 hm)
      clear hm Hcall
      go_wp2
      go_ret
      exact ⟨by simp [errOf', errV], Hm.out.any, by simpa using HR.out.keep0 Hm.out⟩
set_option maxHeartbeats 4000000 in
theorem afree_any (R : AAt w b g l) (E : Errs4 w a) (hn : l.length ≤ 64) (ht : timesOk l) (c r : Int) :
    Calls Tryd.prog 65 #[.pointer (some ⟨b, 0, none⟩), .agg #[.int .i64 c, .int .i64 r]] w fun e w' => e = .returned (errOf' a (if hereIn l c r then 0 else 7)) ∧ Mod (fun x => x = g) w w' ∧
      AAt w' b g (if hereIn l c r then l.modify c.toNat (fun y => { y with here := false }) else l) := by
  have hq := (Mod.refl noF w).alloc (refBox c r)
  have HR := Lib.hid R
  cases hin : hereIn l c r with
  | false =>
    have hcall := arenaAt_miss (R.keep0 hq) (E.keep hq) hn ht c r hin
    unfold errV at hcall
    have Hcall := Lib.hid hcall
    clear hcall R E ht hin hq
    go_enter Tryd.func65, Tryd.ntmps65
    go_wp2_with fail
    refine Hcall.out.mono ?_
    rintro e w1 ⟨rfl, hm⟩
    have Hm := Lib.hid (((Mod.refl noF w).alloc _).trans0 hm)
    clear hm Hcall
    go_wp2
    go_ret
    exact ⟨by simp [errOf', errV], Hm.out.any, by simpa using HR.out.keep0 Hm.out⟩
  | true =>
    obtain ⟨i, x, rfl, hil, hi, hh, rfl⟩ := hereIn_at hin
    have hcall := arenaAt_hit (R.keep0 hq) hn hi hh (ht i x hi)
    have Hcall := Lib.hid hcall
    have Hi := Lib.hid hi
    clear hcall R E ht hin hq hi
    go_enter Tryd.func65, Tryd.ntmps65
    go_wp2_with fail
    refine Hcall.out.mono ?_
    rintro e w1 ⟨rfl, hm⟩
    have hm' := ((Mod.refl noF w).alloc _).trans0 hm
    have R1 := HR.out.keep0 hm'
    have c5 : w1.cell? ⟨g, i * 6 + 5, none⟩ = some (.bool x.here) := (R1.cell Hi.out (j := 5) (by omega)).trans rfl
    have hf := R1.free (i * 6 + 5)
    have hbl := R1.lt.2
    have Hm := Lib.hid hm'
    have HR1 := Lib.hid R1
    clear hm hm' Hcall R1
    go_wp2
    go_ret
    refine ⟨by simp [errOf'], (Hm.out.any (F := fun x => x = g)).setCell (fun _ => rfl) _, ?_⟩
    rw [modify_at Hi.out]
    exact HR1.out.set Hi.out (j := 5) (by omega) (.bool false) rfl
end Go.Proofs.YtamfbfajlfbooaaDoor
