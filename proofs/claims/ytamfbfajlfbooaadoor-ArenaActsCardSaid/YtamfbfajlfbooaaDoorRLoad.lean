/- (*quiescentref1.Memory).At, .Load. -/
import Derived.Test.YtamfbfajlfbooaaDoorRm3
import Derived.Test.YtamfbfajlfbooaaDoorRm2
set_option linter.unusedVariables false
set_option linter.unusedSimpArgs false
set_option linter.unusedSectionVars false
namespace Go.Proofs.YtamfbfajlfbooaaDoor
open Go.RowKit Qs Qh
variable {K : Nat → Bool} {w : World} {L : Lay} {m : M} {N : Int}
/-- An error's number at a word. -/
def atE (cells : List Cell) (c g wd : Int) : Int := if hereIn cells c g then (if 0 ≤ wd ∧ wd < 4 then 0 else 2) else 7
theorem atE_cases (cells : List Cell) (c g wd : Int) : atE cells c g wd = 0 ∨ 0 < atE cells c g wd := by
  unfold atE
  by_cases h : hereIn cells c g = true
  · by_cases h' : 0 ≤ wd ∧ wd < 4
    · left; rw [if_pos h, if_pos h']
    · right; rw [if_pos h, if_neg h']; decide
  · right; rw [if_neg h]; decide
theorem at_any (R : Rep ty K w L m) (h1 : K 1 = true) (h2 : K 2 = true) (om : OkM N m) (ol : OkL L m) (hN : N ≤ 1000000000000) (c g wd : Int) :
    Calls Tryd.prog 72 #[.pointer (some ⟨L.blk 1 0, 0, none⟩), .agg #[.int .i64 c, .int .i64 g], .int .i64 wd] w fun e w' => e = .returned (.int .i64 (atE m.cells c g wd)) ∧ Mod noF w w' := by
  have HR := Lib.hid R
  have Hom := Lib.hid om
  have Hol := Lib.hid ol
  clear R om ol
  cases hh : hereIn m.cells c g with
  | false =>
    have e : atE m.cells c g wd = 7 := by simp [atE, hh]
    rw [e]
    have Hh := Lib.hid hh
    clear hh e
    go_enter Tryd.func72, Tryd.ntmps72
    go_wp2_with fail
    refine (here_any (HR.out.frame0 ((Mod.refl _ _).alloc _)) h1 h2 Hom.out Hol.out hN c g).mono ?_
    rintro e w1 ⟨rfl, hm⟩
    rw [Hh.out]
    go_wp2
    go_ret
    exact ⟨rfl, ((Mod.refl _ _).alloc _).trans0 hm⟩
  | true =>
    have Hh := Lib.hid hh
    by_cases h0 : 0 ≤ wd
    · by_cases h4 : wd < 4
      · have e : atE m.cells c g wd = 0 := by simp [atE, hh, h0, h4]
        rw [e]
        have d0 : decide (wd < 0) = false := by simpa using h0
        have d1 : decide (4 ≤ wd) = false := by simpa using h4
        clear hh e
        go_enter Tryd.func72, Tryd.ntmps72
        go_wp2_with fail
        refine (here_any (HR.out.frame0 ((Mod.refl _ _).alloc _)) h1 h2 Hom.out Hol.out hN c g).mono ?_
        rintro e w1 ⟨rfl, hm⟩
        rw [Hh.out]
        go_wp2
        go_ret
        exact ⟨rfl, ((Mod.refl _ _).alloc _).trans0 hm⟩
      · have e : atE m.cells c g wd = 2 := by simp [atE, hh, h0, h4]
        rw [e]
        have d0 : decide (wd < 0) = false := by simpa using h0
        have d1 : decide (4 ≤ wd) = true := by simpa using h4
        clear hh e
        go_enter Tryd.func72, Tryd.ntmps72
        go_wp2_with fail
        refine (here_any (HR.out.frame0 ((Mod.refl _ _).alloc _)) h1 h2 Hom.out Hol.out hN c g).mono ?_
        rintro e w1 ⟨rfl, hm⟩
        rw [Hh.out]
        go_wp2
        go_ret
        exact ⟨rfl, ((Mod.refl _ _).alloc _).trans0 hm⟩
    · have e : atE m.cells c g wd = 2 := by simp [atE, hh, h0]
      rw [e]
      have d0 : decide (wd < 0) = true := by simpa using h0
      clear hh e
      go_enter Tryd.func72, Tryd.ntmps72
      go_wp2_with fail
      refine (here_any (HR.out.frame0 ((Mod.refl _ _).alloc _)) h1 h2 Hom.out Hol.out hN c g).mono ?_
      rintro e w1 ⟨rfl, hm⟩
      rw [Hh.out]
      go_wp2
      go_ret
      exact ⟨rfl, ((Mod.refl _ _).alloc _).trans0 hm⟩
theorem names_at {m : M} {n c g wd : Int} (h : m.names n = some (c, g)) (hw : 0 ≤ wd ∧ wd < 4) : atE m.cells c g wd = 0 := by
  unfold M.names at h
  cases hr : refOf n with
  | none => rw [hr] at h; cases h
  | some p =>
    obtain ⟨a, b⟩ := p
    rw [hr] at h
    simp only at h
    split at h
    · rename_i hh; cases h; unfold atE; rw [if_pos hh, if_pos hw]
    · cases h
theorem load_bad (R : Rep ty K w L m) (h1 : K 1 = true) (h2 : K 2 = true) (om : OkM N m) (ol : OkL L m) (hN : N ≤ 1000000000000) (t c g wd : Int) (he : atE m.cells c g wd ≠ 0) :
    Calls Tryd.prog 71 #[.pointer (some ⟨L.blk 1 0, 0, none⟩), .int .i64 t, .agg #[.int .i64 c, .int .i64 g], .int .i64 wd] w fun e w' => e = .returned (.tuple #[.int .i64 0, .int .i64 (atE m.cells c g wd)]) ∧ Mod noF w w' := by
  have HR := Lib.hid R
  have Hom := Lib.hid om
  have Hol := Lib.hid ol
  have Hp : 0 < atE m.cells c g wd := (atE_cases _ _ _ _).resolve_left he
  clear R om ol
  generalize hx : atE m.cells c g wd = x at *
  have Hx := Lib.hid hx
  clear hx he
  have d0 : decide (0 < x) = true := by simpa using Hp
  go_enter Tryd.func71, Tryd.ntmps71
  go_wp2_with fail
  refine (at_any (HR.out.frame0 ((Mod.refl _ _).alloc _)) h1 h2 Hom.out Hol.out hN c g wd).mono ?_
  rintro e w1 ⟨rfl, hm⟩
  rw [Hx.out]
  go_wp2
  go_ret2
  exact ⟨rfl, ((Mod.refl _ _).alloc _).trans0 hm⟩
theorem look_take {l : List Wt} {q : Nat} {y : Wt} (c g wd v : Int) (h : l[q]? = some y) : Qs.look (l.take (q + 1)) c g wd v = if y.c = c ∧ y.g = g ∧ y.w = wd then y.v else Qs.look (l.take q) c g wd v := by
  obtain ⟨hl, rfl⟩ := List.getElem?_eq_some_iff.1 h
  unfold Qs.look
  rw [List.take_succ_eq_append_getElem hl, List.foldl_append]
  rfl
/-- What waits, element by element, in memory. -/
theorem wait_at (R : Rep ty K w L m) (h7 : K 7 = true) (ol : OkL L m) {t i : Nat} {l : List Wt} {x : Wt} (hl : m.waits[t]? = some l) (hx : l[i]? = some x) :
    L.nil 7 t = false ∧ L.blk 7 t < w.heap.size ∧ w.cell? ⟨L.blk 7 t, i * 4, none⟩ = some (.int .i64 x.c) ∧ w.cell? ⟨L.blk 7 t, i * 4 + 1, none⟩ = some (.int .i64 x.g) ∧ w.cell? ⟨L.blk 7 t, i * 4 + 2, none⟩ = some (.int .i64 x.w) ∧ w.cell? ⟨L.blk 7 t, i * 4 + 3, none⟩ = some (.int .i64 x.v) := by
  have hn : L.nil 7 t = false := by
    cases h : L.nil 7 t with
    | false => rfl
    | true => have := ol.n7 t l hl h; subst this; simp at hx
  have hg := fun j (hj : j < 4) => flat_get wtVals 4 (fun _ _ => rfl) hj l 0 i x hx (L.junk 7 t)
  have ho := obj7 ty hn hl
  refine ⟨hn, R.lt ⟨7, t, h7, by rw [ho]; rfl, rfl⟩, ?_, ?_, ?_, ?_⟩
  · rw [R.cell h7 ho]
    have := hg 0 (by omega)
    rw [Nat.zero_add] at this
    exact this
  · rw [R.cell h7 ho, hg 1 (by omega)]; rfl
  · rw [R.cell h7 ho, hg 2 (by omega)]; rfl
  · rw [R.cell h7 ho, hg 3 (by omega)]; rfl
/-- A thread's list of what waits, in memory. -/
theorem waits_row (R : Rep ty K w L m) (h3 : K 3 = true) (ol : OkL L m) {t : Nat} {l : List Wt} (hl : m.waits[t]? = some l) : w.cell? ⟨L.blk 3 0, t, none⟩ = some (L.row 7 t l.length) := by
  have hg := flat_get (waitsVals L) 1 (fun _ _ => rfl) (j := 0) (by omega) m.waits 0 t l hl (L.junk 3 0)
  rw [R.cell h3 (obj3 ty m ol.n3)]
  have e : t * 1 + 0 = t := by omega
  rw [e] at hg
  rw [hg]
  simp [waitsVals]
/-- A word of a cell, in memory. -/
theorem word_at (R : Rep ty K w L m) (h6 : K 6 = true) (ol : OkL L m) {i j : Nat} {c : Cell} (hc : m.cells[i]? = some c) (hj : j < c.words.length) : w.cell? ⟨L.blk 6 i, j, none⟩ = some (.int .i64 (c.words.getD j 0)) := by
  have hi : i < m.cells.length := (List.getElem?_eq_some_iff.1 hc).1
  rw [R.cell h6 (obj6 ty (ol.n6 i hi) hc), List.getElem?_append_left (by simpa using hj)]
  simp [List.getD, hj, iv]
set_option maxRecDepth 100000 in
set_option maxHeartbeats 1000000 in
theorem load_ok (R : Rep ty K w L m) (h1 : K 1 = true) (h2 : K 2 = true) (h3 : K 3 = true) (h6 : K 6 = true) (h7 : K 7 = true) (om : OkM N m) (ol : OkL L m) (hN : N ≤ 1000000000000) (t : Nat) (ht : t < m.waits.length) (c g wd : Int) (he : atE m.cells c g wd = 0) :
    Calls Tryd.prog 71 #[.pointer (some ⟨L.blk 1 0, 0, none⟩), .int .i64 t, .agg #[.int .i64 c, .int .i64 g], .int .i64 wd] w fun e w' => e = .returned (.tuple #[.int .i64 (Qs.look (m.waitsOf t) c g wd (getWord m.cells c.toNat wd.toNat)), .int .i64 0]) ∧ Mod noF w w' := by
  have hin : hereIn m.cells c g = true := by
    cases h : hereIn m.cells c g with
    | true => rfl
    | false => simp [atE, h] at he
  have hwd : 0 ≤ wd ∧ wd < 4 := by
    refine Classical.byContradiction fun h => ?_
    simp only [atE, hin, if_true, if_neg h] at he
    omega
  obtain ⟨x, hx, hc0⟩ : ∃ x, m.cells[c.toNat]? = some x ∧ 0 ≤ c := by
    unfold hereIn cellAt at hin
    by_cases h : c < 0
    · simp [h] at hin
    · cases h' : m.cells[c.toNat]? with
      | none => simp [h, h'] at hin
      | some x => exact ⟨x, rfl, by omega⟩
  obtain ⟨k, rfl⟩ := Int.eq_ofNat_of_zero_le hc0
  obtain ⟨j, rfl⟩ := Int.eq_ofNat_of_zero_le hwd.1
  rw [Int.toNat_natCast] at hx
  obtain ⟨l, hl⟩ : ∃ l, m.waits[t]? = some l := ⟨_, List.getElem?_eq_getElem ht⟩
  have hlo : m.waitsOf t = l := by simp [M.waitsOf, List.getD, hl]
  have hgw : getWord m.cells k j = x.words.getD j 0 := by simp [getWord, hx]
  rw [hlo, Int.toNat_natCast, Int.toNat_natCast, hgw]
  have hj4 : j < x.words.length := by rw [(om.words k x hx).1]; omega
  have hl8 := om.wlen t l hl
  have hk : k < m.cells.length := (List.getElem?_eq_some_iff.1 hx).1
  have hcl := om.cells
  have hwl := om.waits
  have hsp2 := ol.sp2
  have hsp3 := ol.sp3
  have He := Lib.hid he
  have Hx := Lib.hid hx
  have Hl := Lib.hid hl
  have HR := Lib.hid R
  have Hom := Lib.hid om
  have Hol := Lib.hid ol
  have hx4 : x.words.length = 4 := (om.words k x hx).1
  have Hx4 := Lib.hid hx4
  clear he hx hl R om ol hlo hgw hin hx4
  go_enter Tryd.func71, Tryd.ntmps71
  go_wp2_with fail
  refine (at_any (HR.out.frame0 ((Mod.refl _ _).alloc _)) h1 h2 Hom.out Hol.out hN (k : Int) g (j : Int)).mono ?_
  rintro e w1 ⟨rfl, hm⟩
  rw [He.out]
  have hm1 : Mod noF w w1 := ((Mod.refl _ _).alloc _).trans0 hm
  have hr0 : w1.cell? ⟨w.heap.size, 0, none⟩ = some (.int .i64 k) := hm.cell (by simp) (fun e => e)
  have hr1 : w1.cell? ⟨w.heap.size, 1, none⟩ = some (.int .i64 g) := hm.cell (by simp) (fun e => e)
  have hs1 : w.heap.size < w1.heap.size := by have := hm.size; simp at this; omega
  have Hm1 := Lib.hid hm1
  clear hm hm1
  have R1 := HR.out.frame0 Hm1.out
  have c0 := R1.cells_at h1 Hol.out
  obtain ⟨c1, c2, c3⟩ := R1.cell_at h2 Hol.out Hx.out
  have c4 := word_at R1 h6 Hol.out Hx.out hj4
  generalize hv0 : x.words.getD j 0 = v0 at *
  have Hv0 := Lib.hid hv0
  clear R1 hv0
  go_wp2
  all_goals (try go_quiet (fail))
  go_wp2
  go_loopw [11, 12] (fun v i wr => ∃ q : Nat, q ≤ l.length ∧ i = .int .i64 q ∧ v = .int .i64 (Qs.look (l.take q) k g j v0) ∧ Mod noF w1 wr) (fun _ i _ => l.length - (intOf i).toNat)
  case atStart => exact ⟨0, by omega, rfl, rfl, (Mod.refl _ _).drewN _⟩
  case round =>
    rename_i wr
    obtain ⟨q, hq, rfl, rfl, hmr⟩ := hrel
    have Rr := HR.out.frame0 (Hm1.out.trans0 hmr)
    have d0 := Rr.waits_at h1 Hol.out
    have d1 := waits_row Rr h3 Hol.out Hl.out
    have d2 := hmr.cell hr0 (fun e => e)
    have d3 := hmr.cell hr1 (fun e => e)
    have hsr : w.heap.size < wr.heap.size := by have := hmr.size; omega
    have Hmr := Lib.hid hmr
    clear hmr
    by_cases hlt : q < l.length
    · have hd : decide ((q : Int) < (l.length : Int)) = true := by simp; omega
      obtain ⟨y, hy⟩ : ∃ y, l[q]? = some y := ⟨_, List.getElem?_eq_getElem hlt⟩
      obtain ⟨hn, hb7, g0, g1, g2, g3⟩ := wait_at Rr h7 Hol.out Hl.out hy
      rw [row_some hn] at d1
      have Hy := Lib.hid hy
      clear hy hn Rr
      have hlk := look_take (k : Int) g (j : Int) v0 Hy.out
      have Hlk := Lib.hid hlk
      clear hlk
      go_wp2
      · go_roundw
        case rel => exact ⟨q + 1, by omega, by go_num, by rw [Hlk.out, if_pos ⟨by assumption, by assumption, by rw [← beq_iff_eq]; assumption⟩], Hmr.out.alloc _⟩
        case measure => simp [intOf]; omega
      · go_roundw
        case rel => exact ⟨q + 1, by omega, by go_num, by rw [Hlk.out, if_neg (fun h => WalkArith.int_ne (a := y.w) (b := (j : Int)) (by assumption) h.2.2)], Hmr.out.alloc _⟩
        case measure => simp [intOf]; omega
      · go_roundw
        case rel => exact ⟨q + 1, by omega, by go_num, by rw [Hlk.out, if_neg (fun h => absurd h.2.1 (by assumption))], Hmr.out.alloc _⟩
        case measure => simp [intOf]; omega
      · go_roundw
        case rel => exact ⟨q + 1, by omega, by go_num, by rw [Hlk.out, if_neg (fun h => absurd h.1 (by assumption))], Hmr.out.alloc _⟩
        case measure => simp [intOf]; omega
    · have hd : decide ((q : Int) < (l.length : Int)) = false := by simp; omega
      obtain rfl : q = l.length := by omega
      have htk : l.take l.length = l := List.take_length
      rw [htk]
      have hd1 : ∃ a b c, L.row 7 t l.length = .slice a b c ∧ b = l.length := by
        unfold Lay.row
        cases h : L.nil 7 t with
        | true => exact ⟨none, 0, 0, rfl, by rw [Hol.out.n7 t l Hl.out h]; rfl⟩
        | false => exact ⟨_, _, _, rfl, rfl⟩
      obtain ⟨sa, sb, sc, e1, rfl⟩ := hd1
      rw [e1] at d1
      clear Rr e1 htk
      go_wp2
      go_ret2
      exact ⟨ret_pair (by rw [Hv0.out]), Hm1.out.trans0 Hmr.out⟩
end Go.Proofs.YtamfbfajlfbooaaDoor
