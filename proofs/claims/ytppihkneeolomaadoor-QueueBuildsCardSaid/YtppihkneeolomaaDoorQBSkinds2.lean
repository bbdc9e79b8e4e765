/- quiescentref2.KindsFault: over any lists of ops. -/
import Derived.Test.YtppihkneeolomaaDoorQBm7
import Derived.Deep.QuietTactic
import Derived.BigQuiet
set_option linter.unusedVariables false
set_option linter.unusedSimpArgs false
set_option linter.unusedSectionVars false
namespace Go.Proofs.YtppihkneeolomaaDoor
open Go.RowKit Qs Qh
variable {N : Nat} {w w' : World} {v u : Value} {ll : List (List ROp)} {l : List ROp}
theorem str_ne {a b : ByteArray} (h : a ≠ b) : (a.toList == b.toList) = false := by
  rw [beq_eq_false_iff_ne, ByteArray.toList_eq, ByteArray.toList_eq]
  exact fun e => h (ByteArray.ext (Array.toList_inj.1 e))
theorem str_eq (a : ByteArray) : (a.toList == a.toList) = true := by simp
/-- An op's fault: none, a bound, a shape. -/
def kfOp (x : ROp) : Int := if x.1 = putS then (if x.2 < 1 ∨ 1000 < x.2 then 2 else 0) else if x.1 = takeS ∧ x.2 = 0 then 0 else 3
def rowF (l : List ROp) : Option Int := (l.map kfOp).find? fun c => decide (c ≠ 0)
def allF : Nat → List (List ROp) → Int × Int
  | _, [] => (0, -1)
  | i, l :: r => match rowF l with
    | some c => (c, i)
    | none => allF (i + 1) r
def kf (ll : List (List ROp)) : Int × Int := if manyB ll then allF 0 ll else (2, -1)
theorem rowF_at : ∀ (l : List ROp) (q : Nat) (x : ROp), l[q]? = some x → (∀ (j : Nat) y, j < q → l[j]? = some y → kfOp y = 0) → kfOp x ≠ 0 → rowF l = some (kfOp x)
  | [], q, x, h, _, _ => by simp at h
  | y :: l, 0, x, h, _, h0 => by
    simp at h; subst h
    unfold rowF; simp [h0]
  | y :: l, q + 1, x, h, ha, h0 => by
    have hy := ha 0 y (by omega) rfl
    have := rowF_at l q x (by simpa using h) (fun j z hj hz => ha (j + 1) z (by omega) (by simpa using hz)) h0
    unfold rowF at this ⊢
    rw [List.map_cons, List.find?_cons_of_neg (by simp [hy])]; exact this
theorem rowF_none {l : List ROp} (h : ∀ (j : Nat) y, l[j]? = some y → kfOp y = 0) : rowF l = none := by
  unfold rowF
  rw [List.find?_eq_none]
  intro c hc
  obtain ⟨y, hy, rfl⟩ := List.mem_map.1 hc
  obtain ⟨j, hj⟩ := List.getElem?_of_mem hy
  simp [h j y hj]
theorem allF_at : ∀ (ll : List (List ROp)) (i k : Nat) (l : List ROp) (c : Int), ll[k]? = some l → (∀ (j : Nat) y, j < k → ll[j]? = some y → rowF y = none) → rowF l = some c → allF i ll = (c, ((i + k : Nat) : Int))
  | [], i, k, l, c, h, _, _ => by simp at h
  | y :: ll, i, 0, l, c, h, _, h0 => by
    simp at h; subst h
    unfold allF; rw [h0]; rfl
  | y :: ll, i, k + 1, l, c, h, ha, h0 => by
    have hy := ha 0 y (by omega) rfl
    have := allF_at ll (i + 1) k l c (by simpa using h) (fun j z hj hz => ha (j + 1) z (by omega) (by simpa using hz)) h0
    unfold allF; rw [hy]
    show allF (i + 1) ll = _
    rw [this, show i + 1 + k = i + (k + 1) by omega]
theorem allF_none : ∀ (ll : List (List ROp)) (i : Nat), (∀ (j : Nat) y, ll[j]? = some y → rowF y = none) → allF i ll = (0, -1)
  | [], i, _ => rfl
  | y :: ll, i, h => by
    unfold allF; rw [h 0 y rfl]
    exact allF_none ll (i + 1) fun j z hz => h (j + 1) z (by simpa using hz)
set_option maxHeartbeats 16000000 in
theorem kinds_any (H : RIn N w v ll) (hlen : ll.length ≤ 10) (hrow : ∀ l ∈ ll, l.length ≤ 30) (g : Nat) (hg : w.cell? ⟨g, 0, none⟩ = some (.string takeS)) :
    Calls Tryd.prog 9 #[v, .string putS, .slice (some ⟨g, 0, none⟩) 1 1] w fun e w' => e = .returned (.agg #[.int .i64 (kf ll).1, .int .i64 (kf ll).2]) ∧ Mod noF w w' := by
  have hm := many_any (H.keep ((Mod.refl noF w).alloc (.cells #[.int .i64 0, .int .i64 0] 27)) (fun _ _ e => e)) hlen hrow
  have HM := Lib.hid hm
  have HH := Lib.hid H
  obtain ⟨a, c, rfl, -⟩ := H
  have Hrow := Lib.hid hrow
  have Hg := Lib.hid hg
  clear hrow hg hm
  cases hmany : manyB ll with
  | false =>
    have hk : kf ll = (2, -1) := by unfold kf; rw [hmany]; rfl
    rw [hk]
    rw [hmany] at HM
    go_enter Tryd.func9, Tryd.ntmps9
    go_wp2_with fail
    refine HM.out.mono ?_
    rintro e w1 ⟨rfl, rfl⟩
    go_wp2_with fail
    refine (bare_ok 2 _).mono ?_
    rintro e w2 ⟨rfl, hm2⟩
    have Hm2 := Lib.hid hm2
    have hT := hm2.heap (heap_alloc_new w (.cells #[.int .i64 0, .int .i64 0] 27)) (fun e => e)
    have t0 := cell_of_heap hT 0
    have t1 := cell_of_heap hT 1
    have tf0 := free_of_heap hT 0
    have tf1 := free_of_heap hT 1
    have HT := Lib.hid hT
    clear hT
    replace t0 : w2.cell? ⟨w.heap.size, 0, none⟩ = some (.int .i64 0) := t0
    replace t1 : w2.cell? ⟨w.heap.size, 1, none⟩ = some (.int .i64 0) := t1
    go_wp2
    obtain ⟨wf, hwf⟩ : ∃ wf, wf = (w2.setCell ⟨w.heap.size, 0, none⟩ (.int .i64 2)).setCell ⟨w.heap.size, 1, none⟩ (.int .i64 (-1)) := ⟨_, rfl⟩
    have hh : wf.heap[w.heap.size]? = some (.cells #[.int .i64 2, .int .i64 (-1)] 27 (0, 0)) := by rw [hwf, Qh.heap_setCell_same (Qh.heap_setCell_same HT.out 0 _) 1 _]; rfl
    have z0 : wf.cell? ⟨w.heap.size, 0, none⟩ = some (.int .i64 2) := by rw [cell_of_heap hh]; rfl
    have z1 : wf.cell? ⟨w.heap.size, 1, none⟩ = some (.int .i64 (-1)) := by rw [cell_of_heap hh]; rfl
    have hMf : Mod noF w wf := by rw [hwf]; exact (((Mod.refl noF w).alloc _).trans0 Hm2.out).trans (((Mod.refl (fun x => x = w.heap.size) _).setCell (fun _ => rfl) _).setCell (fun _ => rfl) _) fun x hx e => by omega
    rw [← hwf]
    exact bodyPost_ret (v := .agg #[.int .i64 2, .int .i64 (-1)]) (by simp [results, Tryd.results9, go_sem, z0, z1]) rfl ⟨rfl, hMf⟩
  | true =>
    have hk : kf ll = allF 0 ll := by unfold kf; rw [hmany]; rfl
    rw [hk]
    rw [hmany] at HM
    clear hk hmany
    obtain ⟨rc, ra, hres0⟩ : ∃ rc ra, allF 0 ll = (rc, ra) := ⟨_, _, rfl⟩
    rw [hres0]
    have Hres0 := Lib.hid hres0
    simp only
    clear hres0
    have e1 := put_put
    have e2 := take_put
    have e3 := str_eq takeS
    have e4 : (takeS.toList == putS.toList) = false := take_put
    go_enter Tryd.func9, Tryd.ntmps9
    go_wp2_with fail
    refine HM.out.mono ?_
    rintro e w1 ⟨rfl, rfl⟩
    go_wp2
    go_loopw [8] (fun i wr => ∃ k : Nat, k ≤ ll.length ∧ i = .int .i64 k ∧ Mod noF w wr ∧ wr.heap[w.heap.size]? = some (.cells #[.int .i64 0, .int .i64 0] 27 (0, 0)) ∧ ∀ (j : Nat) y, j < k → ll[j]? = some y → rowF y = none) (fun i _ => ll.length - (intOf i).toNat)
    case atStart => exact ⟨0, Nat.zero_le _, rfl, (Mod.refl _ _).alloc _, heap_alloc_new w _, fun j y h => by omega⟩
    case round =>
      generalize wr = w2 at *
      obtain ⟨k, hk, rfl, hm, hT0, hall⟩ := hrel
      have Hm := Lib.hid hm
      have HT0 := Lib.hid hT0
      have Hall := Lib.hid hall
      clear hT0 hall
      by_cases hlt : k < ll.length
      · have hd : decide ((k : Int) < (ll.length : Int)) = true := by simp; omega
        have hki : (k : Int) < (ll.length : Int) := by omega
        obtain ⟨l, hl⟩ : ∃ l, ll[k]? = some l := ⟨_, List.getElem?_eq_getElem hlt⟩
        obtain ⟨a', c', e', hx⟩ := HH.out
        cases e'
        obtain ⟨b, off, u, rfl, hb, hc, ⟨ua, uc, rfl, hxx⟩⟩ := hx k l hl
        have Hc := Lib.hid hc
        have Hxx := Lib.hid hxx
        have Hl := Lib.hid hl
        have h30 := Hrow.out l (List.mem_of_getElem? hl)
        clear hx hxx hl hc hm
        go_wp2
        go_loopw [9] (fun i wr => ∃ q : Nat, q ≤ l.length ∧ i = .int .i64 q ∧ Mod noF w wr ∧ wr.heap[w.heap.size]? = some (.cells #[.int .i64 0, .int .i64 0] 27 (0, 0)) ∧ ∀ (j : Nat) y, j < q → l[j]? = some y → kfOp y = 0) (fun i _ => l.length - (intOf i).toNat)
        case atStart => exact ⟨0, Nat.zero_le _, rfl, Hm.out, HT0.out, fun j y h => by omega⟩
        case round =>
          generalize wr = w3 at *
          obtain ⟨q, hq, rfl, hm3, hT3, hall3⟩ := hrel
          have hc3 := hm3.cell Hc.out (fun e => e)
          have Hm3 := Lib.hid hm3
          have HT3 := Lib.hid hT3
          have Hall3 := Lib.hid hall3
          clear hT3 hall3
          by_cases hltq : q < l.length
          · have hd2 : decide ((q : Int) < (l.length : Int)) = true := by simp; omega
            have hqi : (q : Int) < (l.length : Int) := by omega
            obtain ⟨x, hxl⟩ : ∃ x, l[q]? = some x := ⟨_, List.getElem?_eq_getElem hltq⟩
            obtain ⟨ub, uoff, rfl, hub, h0, h1⟩ := Hxx.out q x hxl
            have h0 := hm3.cell h0 (fun e => e)
            have h1 := hm3.cell h1 (fun e => e)
            have Hxl := Lib.hid hxl
            clear hxl hm3
            obtain ⟨xs, xn⟩ := x
            simp only at h0 h1
            have hmx : Mod noF w (w3.alloc (.cells #[.string xs, .int .i64 xn] 63)) := Hm3.out.alloc _
            have hg3 := hmx.cell Hg.out (fun e => e)
            have hTx := ((Mod.refl noF w3).alloc (.cells #[.string xs, .int .i64 xn] 63)).heap HT3.out (fun e => e)
            have Hmx := Lib.hid hmx
            have HTx := Lib.hid hTx
            clear hmx hTx
            by_cases hput : xs = putS
            · subst hput
              by_cases hbad : xn < 1 ∨ 1000 < xn
              · have hf : kfOp (putS, xn) = 2 := by unfold kfOp; simp [hbad]
                have hrF := rowF_at l q _ Hxl.out Hall3.out (by rw [hf]; decide)
                rw [hf] at hrF
                have hres := allF_at ll 0 k l 2 Hl.out Hall.out hrF
                rw [Nat.zero_add] at hres
                obtain ⟨rfl, rfl⟩ := Prod.mk.inj (Hres0.out.symm.trans hres)
                clear hres hrF hf
                by_cases hb1 : xn < 1
                · have d1 : decide (xn < 1) = true := by simpa using hb1
                  have hT := HTx.out
                  have t0 := cell_of_heap hT 0
                  have t1 := cell_of_heap hT 1
                  have tf0 := free_of_heap hT 0
                  have tf1 := free_of_heap hT 1
                  have HT := Lib.hid hT
                  clear hT
                  replace t0 : (w3.alloc (.cells #[.string putS, .int .i64 xn] 63)).cell? ⟨w.heap.size, 0, none⟩ = some (.int .i64 0) := t0
                  replace t1 : (w3.alloc (.cells #[.string putS, .int .i64 xn] 63)).cell? ⟨w.heap.size, 1, none⟩ = some (.int .i64 0) := t1
                  go_wp2
                  obtain ⟨wf, hwf⟩ : ∃ wf, wf = ((w3.alloc (.cells #[.string putS, .int .i64 xn] 63)).setCell ⟨w.heap.size, 0, none⟩ (.int .i64 2)).setCell ⟨w.heap.size, 1, none⟩ (.int .i64 k) := ⟨_, rfl⟩
                  have hh : wf.heap[w.heap.size]? = some (.cells #[.int .i64 2, .int .i64 k] 27 (0, 0)) := by rw [hwf, Qh.heap_setCell_same (Qh.heap_setCell_same HT.out 0 _) 1 _]; rfl
                  have z0 : wf.cell? ⟨w.heap.size, 0, none⟩ = some (.int .i64 2) := by rw [cell_of_heap hh]; rfl
                  have z1 : wf.cell? ⟨w.heap.size, 1, none⟩ = some (.int .i64 k) := by rw [cell_of_heap hh]; rfl
                  have hMf : Mod noF w wf := by rw [hwf]; exact (Hmx.out).trans (((Mod.refl (fun x => x = w.heap.size) _).setCell (fun _ => rfl) _).setCell (fun _ => rfl) _) fun x hx e => by omega
                  rw [← hwf]
                  exact bodyPost_ret (v := .agg #[.int .i64 2, .int .i64 k]) (by simp [results, Tryd.results9, go_sem, z0, z1]) rfl ⟨rfl, hMf⟩
                · have d1 : decide (xn < 1) = false := by simpa using hb1
                  have d2 : decide (1000 < xn) = true := by simp; omega
                  have hT := HTx.out
                  have t0 := cell_of_heap hT 0
                  have t1 := cell_of_heap hT 1
                  have tf0 := free_of_heap hT 0
                  have tf1 := free_of_heap hT 1
                  have HT := Lib.hid hT
                  clear hT
                  replace t0 : (w3.alloc (.cells #[.string putS, .int .i64 xn] 63)).cell? ⟨w.heap.size, 0, none⟩ = some (.int .i64 0) := t0
                  replace t1 : (w3.alloc (.cells #[.string putS, .int .i64 xn] 63)).cell? ⟨w.heap.size, 1, none⟩ = some (.int .i64 0) := t1
                  go_wp2
                  obtain ⟨wf, hwf⟩ : ∃ wf, wf = ((w3.alloc (.cells #[.string putS, .int .i64 xn] 63)).setCell ⟨w.heap.size, 0, none⟩ (.int .i64 2)).setCell ⟨w.heap.size, 1, none⟩ (.int .i64 k) := ⟨_, rfl⟩
                  have hh : wf.heap[w.heap.size]? = some (.cells #[.int .i64 2, .int .i64 k] 27 (0, 0)) := by rw [hwf, Qh.heap_setCell_same (Qh.heap_setCell_same HT.out 0 _) 1 _]; rfl
                  have z0 : wf.cell? ⟨w.heap.size, 0, none⟩ = some (.int .i64 2) := by rw [cell_of_heap hh]; rfl
                  have z1 : wf.cell? ⟨w.heap.size, 1, none⟩ = some (.int .i64 k) := by rw [cell_of_heap hh]; rfl
                  have hMf : Mod noF w wf := by rw [hwf]; exact (Hmx.out).trans (((Mod.refl (fun x => x = w.heap.size) _).setCell (fun _ => rfl) _).setCell (fun _ => rfl) _) fun x hx e => by omega
                  rw [← hwf]
                  exact bodyPost_ret (v := .agg #[.int .i64 2, .int .i64 k]) (by simp [results, Tryd.results9, go_sem, z0, z1]) rfl ⟨rfl, hMf⟩
              · have d1 : decide (xn < 1) = false := by simp; omega
                have d2 : decide (1000 < xn) = false := by simp; omega
                have hf : kfOp (putS, xn) = 0 := by unfold kfOp; simp [hbad]
                have Hf := Lib.hid hf
                clear hf
                go_wp2
                go_roundw
                case rel =>
                  refine ⟨q + 1, by omega, by go_num, Hmx.out, HTx.out, fun j y hj hy => ?_⟩
                  by_cases e : j = q
                  · subst e
                    rw [Hxl.out] at hy; cases hy; exact Hf.out
                  · exact Hall3.out j y (by omega) hy
                case measure => simp [intOf]; omega
            · have ep : (xs.toList == putS.toList) = false := str_ne hput
              by_cases htake : xs = takeS
              · subst htake
                go_wp2
                go_loopw [11, 12] (fun b i wr => ((i = .int .i64 0 ∧ b = .bool false) ∨ (i = .int .i64 1 ∧ b = .bool true)) ∧ Mod noF (w3.alloc (.cells #[.string takeS, .int .i64 xn] 63)) wr) (fun _ i _ => 1 - (intOf i).toNat)
                case atStart => exact ⟨.inl ⟨rfl, rfl⟩, Mod.refl _ _⟩
                case round =>
                  generalize wr = w4 at *
                  obtain ⟨hbi, hm4⟩ := hrel
                  have o0 : w4.cell? ⟨w3.heap.size, 0, none⟩ = some (.string takeS) := hm4.cell (show (w3.alloc (.cells #[.string takeS, .int .i64 xn] 63)).cell? ⟨w3.heap.size, 0, none⟩ = some (.string takeS) by simp) (fun e => e)
                  have o1 : w4.cell? ⟨w3.heap.size, 1, none⟩ = some (.int .i64 xn) := hm4.cell (show (w3.alloc (.cells #[.string takeS, .int .i64 xn] 63)).cell? ⟨w3.heap.size, 1, none⟩ = some (.int .i64 xn) by simp) (fun e => e)
                  have hg4 := hm4.cell hg3 (fun e => e)
                  have Hm4 := Lib.hid hm4
                  clear hm4
                  rcases hbi with ⟨rfl, rfl⟩ | ⟨rfl, rfl⟩
                  · go_wp2
                    go_quiet (fail)
                    go_wp2
                    exact ⟨⟨.inr ⟨rfl, rfl⟩, Hm4.out.drewN _⟩, by decide⟩
                  · by_cases hx0 : xn = 0
                    · subst hx0
                      have hf : kfOp (takeS, 0) = 0 := by unfold kfOp; rw [if_neg hput]; simp
                      have Hf := Lib.hid hf
                      clear hf
                      go_wp2
                      go_roundw
                      case rel =>
                        refine ⟨q + 1, by omega, by go_num, Hmx.out.trans0 Hm4.out, Hm4.out.heap HTx.out (fun e => e), fun j y hj hy => ?_⟩
                        by_cases e : j = q
                        · subst e
                          rw [Hxl.out] at hy; cases hy; exact Hf.out
                        · exact Hall3.out j y (by omega) hy
                      case measure => simp [intOf]; omega
                    · have hf : kfOp (takeS, xn) = 3 := by unfold kfOp; rw [if_neg hput]; simp [hx0]
                      have n1 : decide (xn = 0) = false := by simpa using hx0
                      have n2 : (xn == 0) = false := by simpa using hx0
                      have hrF := rowF_at l q _ Hxl.out Hall3.out (by rw [hf]; decide)
                      rw [hf] at hrF
                      have hres := allF_at ll 0 k l 3 Hl.out Hall.out hrF
                      rw [Nat.zero_add] at hres
                      obtain ⟨rfl, rfl⟩ := Prod.mk.inj (Hres0.out.symm.trans hres)
                      clear hres hrF hf
                      have hT := Hm4.out.heap HTx.out (fun e => e)
                      have t0 := cell_of_heap hT 0
                      have t1 := cell_of_heap hT 1
                      have tf0 := free_of_heap hT 0
                      have tf1 := free_of_heap hT 1
                      have HT := Lib.hid hT
                      clear hT
                      replace t0 : w4.cell? ⟨w.heap.size, 0, none⟩ = some (.int .i64 0) := t0
                      replace t1 : w4.cell? ⟨w.heap.size, 1, none⟩ = some (.int .i64 0) := t1
                      go_wp2
                      obtain ⟨wf, hwf⟩ : ∃ wf, wf = (w4.setCell ⟨w.heap.size, 0, none⟩ (.int .i64 3)).setCell ⟨w.heap.size, 1, none⟩ (.int .i64 k) := ⟨_, rfl⟩
                      have hh : wf.heap[w.heap.size]? = some (.cells #[.int .i64 3, .int .i64 k] 27 (0, 0)) := by rw [hwf, Qh.heap_setCell_same (Qh.heap_setCell_same HT.out 0 _) 1 _]; rfl
                      have z0 : wf.cell? ⟨w.heap.size, 0, none⟩ = some (.int .i64 3) := by rw [cell_of_heap hh]; rfl
                      have z1 : wf.cell? ⟨w.heap.size, 1, none⟩ = some (.int .i64 k) := by rw [cell_of_heap hh]; rfl
                      have hMf : Mod noF w wf := by rw [hwf]; exact (Hmx.out.trans0 Hm4.out).trans (((Mod.refl (fun x => x = w.heap.size) _).setCell (fun _ => rfl) _).setCell (fun _ => rfl) _) fun x hx e => by omega
                      rw [← hwf]
                      exact bodyPost_ret (v := .agg #[.int .i64 3, .int .i64 k]) (by simp [results, Tryd.results9, go_sem, z0, z1]) rfl ⟨rfl, hMf⟩
              · have et : (takeS.toList == xs.toList) = false := str_ne fun e => htake e.symm
                go_wp2
                go_loopw [11, 12] (fun b i wr => ((i = .int .i64 0 ∧ b = .bool false) ∨ (i = .int .i64 1 ∧ b = .bool false)) ∧ Mod noF (w3.alloc (.cells #[.string xs, .int .i64 xn] 63)) wr) (fun _ i _ => 1 - (intOf i).toNat)
                case atStart => exact ⟨.inl ⟨rfl, rfl⟩, Mod.refl _ _⟩
                case round =>
                  generalize wr = w4 at *
                  obtain ⟨hbi, hm4⟩ := hrel
                  have o0 : w4.cell? ⟨w3.heap.size, 0, none⟩ = some (.string xs) := hm4.cell (show (w3.alloc (.cells #[.string xs, .int .i64 xn] 63)).cell? ⟨w3.heap.size, 0, none⟩ = some (.string xs) by simp) (fun e => e)
                  have o1 : w4.cell? ⟨w3.heap.size, 1, none⟩ = some (.int .i64 xn) := hm4.cell (show (w3.alloc (.cells #[.string xs, .int .i64 xn] 63)).cell? ⟨w3.heap.size, 1, none⟩ = some (.int .i64 xn) by simp) (fun e => e)
                  have hg4 := hm4.cell hg3 (fun e => e)
                  have Hm4 := Lib.hid hm4
                  clear hm4
                  rcases hbi with ⟨rfl, rfl⟩ | ⟨rfl, rfl⟩
                  · go_wp2
                    go_quiet (fail)
                    go_wp2
                    exact ⟨⟨.inr ⟨rfl, rfl⟩, Hm4.out.drewN _⟩, by decide⟩
                  · have hf : kfOp (xs, xn) = 3 := by unfold kfOp; rw [if_neg hput]; simp [htake]
                    have hrF := rowF_at l q _ Hxl.out Hall3.out (by rw [hf]; decide)
                    rw [hf] at hrF
                    have hres := allF_at ll 0 k l 3 Hl.out Hall.out hrF
                    rw [Nat.zero_add] at hres
                    obtain ⟨rfl, rfl⟩ := Prod.mk.inj (Hres0.out.symm.trans hres)
                    clear hres hrF hf
                    have hT := Hm4.out.heap HTx.out (fun e => e)
                    have t0 := cell_of_heap hT 0
                    have t1 := cell_of_heap hT 1
                    have tf0 := free_of_heap hT 0
                    have tf1 := free_of_heap hT 1
                    have HT := Lib.hid hT
                    clear hT
                    replace t0 : w4.cell? ⟨w.heap.size, 0, none⟩ = some (.int .i64 0) := t0
                    replace t1 : w4.cell? ⟨w.heap.size, 1, none⟩ = some (.int .i64 0) := t1
                    go_wp2
                    obtain ⟨wf, hwf⟩ : ∃ wf, wf = (w4.setCell ⟨w.heap.size, 0, none⟩ (.int .i64 3)).setCell ⟨w.heap.size, 1, none⟩ (.int .i64 k) := ⟨_, rfl⟩
                    have hh : wf.heap[w.heap.size]? = some (.cells #[.int .i64 3, .int .i64 k] 27 (0, 0)) := by rw [hwf, Qh.heap_setCell_same (Qh.heap_setCell_same HT.out 0 _) 1 _]; rfl
                    have z0 : wf.cell? ⟨w.heap.size, 0, none⟩ = some (.int .i64 3) := by rw [cell_of_heap hh]; rfl
                    have z1 : wf.cell? ⟨w.heap.size, 1, none⟩ = some (.int .i64 k) := by rw [cell_of_heap hh]; rfl
                    have hMf : Mod noF w wf := by rw [hwf]; exact (Hmx.out.trans0 Hm4.out).trans (((Mod.refl (fun x => x = w.heap.size) _).setCell (fun _ => rfl) _).setCell (fun _ => rfl) _) fun x hx e => by omega
                    rw [← hwf]
                    exact bodyPost_ret (v := .agg #[.int .i64 3, .int .i64 k]) (by simp [results, Tryd.results9, go_sem, z0, z1]) rfl ⟨rfl, hMf⟩
          · have hd2 : decide ((q : Int) < (l.length : Int)) = false := by simp; omega
            have hrF : rowF l = none := rowF_none fun j y hj => Hall3.out j y (by have := (List.getElem?_eq_some_iff.1 hj).1; omega) hj
            have HrF := Lib.hid hrF
            clear hrF hm3
            go_wp2
            go_roundw
            case rel =>
              refine ⟨k + 1, by omega, by go_num, Hm3.out, HT3.out, fun j y hj hy => ?_⟩
              by_cases e : j = k
              · subst e
                rw [Hl.out] at hy; cases hy; exact HrF.out
              · exact Hall.out j y (by omega) hy
            case measure => simp [intOf]; omega
      · have hd : decide ((k : Int) < (ll.length : Int)) = false := by simp; omega
        have hres := allF_none ll 0 fun j y hj => Hall.out j y (by have := (List.getElem?_eq_some_iff.1 hj).1; omega) hj
        obtain ⟨rfl, rfl⟩ := Prod.mk.inj (Hres0.out.symm.trans hres)
        clear hres hm
        go_wp2_with fail
        refine (fine_ok _).mono ?_
        rintro e w3 ⟨rfl, hm3⟩
        have Hm3 := Lib.hid hm3
        have hT := hm3.heap HT0.out (fun e => e)
        have t0 := cell_of_heap hT 0
        have t1 := cell_of_heap hT 1
        have tf0 := free_of_heap hT 0
        have tf1 := free_of_heap hT 1
        have HT := Lib.hid hT
        clear hT
        replace t0 : w3.cell? ⟨w.heap.size, 0, none⟩ = some (.int .i64 0) := t0
        replace t1 : w3.cell? ⟨w.heap.size, 1, none⟩ = some (.int .i64 0) := t1
        go_wp2
        obtain ⟨wf, hwf⟩ : ∃ wf, wf = (w3.setCell ⟨w.heap.size, 0, none⟩ (.int .i64 0)).setCell ⟨w.heap.size, 1, none⟩ (.int .i64 (-1)) := ⟨_, rfl⟩
        have hh : wf.heap[w.heap.size]? = some (.cells #[.int .i64 0, .int .i64 (-1)] 27 (0, 0)) := by rw [hwf, Qh.heap_setCell_same (Qh.heap_setCell_same HT.out 0 _) 1 _]; rfl
        have z0 : wf.cell? ⟨w.heap.size, 0, none⟩ = some (.int .i64 0) := by rw [cell_of_heap hh]; rfl
        have z1 : wf.cell? ⟨w.heap.size, 1, none⟩ = some (.int .i64 (-1)) := by rw [cell_of_heap hh]; rfl
        have hMf : Mod noF w wf := by rw [hwf]; exact (Hm.out.trans0 Hm3.out).trans (((Mod.refl (fun x => x = w.heap.size) _).setCell (fun _ => rfl) _).setCell (fun _ => rfl) _) fun x hx e => by omega
        rw [← hwf]
        exact bodyPost_ret (v := .agg #[.int .i64 0, .int .i64 (-1)]) (by simp [results, Tryd.results9, go_sem, z0, z1]) rfl ⟨rfl, hMf⟩
end Go.Proofs.YtppihkneeolomaaDoor
