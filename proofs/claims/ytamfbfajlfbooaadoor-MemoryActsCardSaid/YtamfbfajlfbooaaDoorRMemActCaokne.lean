/- quiescentlaw1.memoryAct. -/
import Derived.Test.YtamfbfajlfbooaaDoorRm8
set_option linter.unusedVariables false
set_option linter.unusedSimpArgs false
set_option linter.unusedSectionVars false
namespace Go.Proofs.YtamfbfajlfbooaaDoor
open Go.RowKit Qs Qh
variable {b0 wr : World} {a : Nat → Addr} {B : PB} {tn bm k : Nat} {L : Lay} {m : M} {vs : List Value}
set_option maxRecDepth 100000 in
set_option maxHeartbeats 4000000 in
theorem act_cas_okne (T : MemRel b0 a B tn bm k L m vs wr) {cc W : Int} (gg V O : Int) (kind : ByteArray) (k0 : ¬ kind = ⟨#[102, 111, 114, 99, 101]⟩) (k1 : ¬ kind = ⟨#[112, 101, 101, 107]⟩) (k2 : ¬ kind = ⟨#[108, 111, 97, 100]⟩) (k3 : ¬ kind = ⟨#[115, 116, 111, 114, 101]⟩) (k4 : ¬ kind = ⟨#[100, 114, 97, 105, 110]⟩) (k5 : ¬ kind = ⟨#[102, 101, 110, 99, 101]⟩) (k6 : ¬ kind = ⟨#[97, 108, 108, 111, 99]⟩) (k7 : ¬ kind = ⟨#[102, 114, 101, 101]⟩) (k8 : ¬ kind = ⟨#[115, 119, 97, 112]⟩) {t : Nat} {q : List Wt} (hq : m.waits[t]? = some q) (hiw : isWord V = true) (hio : isWord O = true) {i j : Nat} {v : Int} (hj : j < 4) (ec : cc = i) (eW : W = j) (hvo : ¬ v = O) (J : World → Prop)
    (hr : ∀ w1, MemRel b0 a B tn bm k L m vs w1 → Calls Tryd.prog 72 #[.pointer (some ⟨bm, 0, none⟩), .agg #[.int .i64 cc, .int .i64 gg], .int .i64 W] w1 fun e w' => e = .returned (.int .i64 0) ∧ Mod noF w1 w')
    (hf : ∀ w1 g o, MemRel b0 a B tn bm k L m vs w1 → ¬ Foot ty memK L m g → w1.heap[g]? = some o → Calls Tryd.prog 112 #[.pointer (some ⟨bm, 0, none⟩), .int .i64 t] w1 fun e w2 => e = .returned (.int .i64 0) ∧ w2.heap[g]? = some o ∧ ∃ bc n cap bw wc, i < n ∧ n ≤ 64 ∧ w2.cell? ⟨bm, 0, none⟩ = some (.slice (some ⟨bc, 0, none⟩) n cap) ∧ w2.cell? ⟨bc, i * 3, none⟩ = some (.slice (some ⟨bw, 0, none⟩) 4 wc) ∧ w2.cell? ⟨bw, j, none⟩ = some (.int .i64 v) ∧ w2.frozen? ⟨bw, j, none⟩ = false ∧ bm < w2.heap.size ∧ bc < w2.heap.size ∧ bw < w2.heap.size ∧ ∀ w3, Mod noF w2 w3 → J w3)
    (hp : ∀ w1, J w1 → Calls Tryd.prog 119 #[.pointer (some ⟨B.bM, 0, none⟩), .int .i64 t, .agg #[.int .i64 cc, .int .i64 gg], .int .i64 W, .int .i64 O, .int .i64 V] w1 fun e w' => e = .returned (.tuple #[.int .i64 v, .nilIface]) ∧ ∃ L' m' vs', MemRel b0 a B tn bm (k + 1) L' m' vs' w') :
    Calls Tryd.prog 78 #[.pointer (some ⟨B.bM, 0, none⟩), .pointer (some ⟨bm, 0, none⟩), .agg #[.string kind, .int .i64 t, .int .i64 cc, .int .i64 gg, .int .i64 W, .int .i64 V, .int .i64 O]] wr (actOk b0 a B tn bm (k + 1)) := by
  have nD : True := trivial
  have e0 := notStr kind [102, 111, 114, 99, 101] k0
  have e1 := notStr kind [112, 101, 101, 107] k1
  have e2 := notStr kind [108, 111, 97, 100] k2
  have e3 := notStr kind [115, 116, 111, 114, 101] k3
  have e4 := notStr kind [100, 114, 97, 105, 110] k4
  have e5 := notStr kind [102, 101, 110, 99, 101] k5
  have e6 := notStr kind [97, 108, 108, 111, 99] k6
  have e7 := notStr kind [102, 114, 101, 101] k7
  have e8 := notStr kind [115, 119, 97, 112] k8
  subst ec eW
  have hq0 := (Mod.refl noF wr).alloc (xBox kind (t : Int) i gg j V O)
  have hT := T.keep hq0
  have hx := heap_alloc_new wr (xBox kind (t : Int) i gg j V O)
  have hnP : ¬ PFoot B vs wr.heap.size := fun h => Nat.lt_irrefl _ (T.mem.lt h)
  have hth := rthread_any hT.rep rfl hT.om hT.ol ((t : Int))
  rw [hT.top] at hth
  obtain ⟨wz, hwz⟩ : ∃ wz, wz = wr.alloc (xBox kind (t : Int) i gg j V O) := ⟨_, rfl⟩
  rw [← hwz] at hT hx hth
  have dth : (decide ((0 : Int) ≤ ((t : Int))) && decide (((t : Int)) < (m.waits.length : Int))) = true := by
    have := (List.getElem?_eq_some_iff.1 hq).1; simp; omega
  rw [dth] at hth
  have x0 : wz.cell? ⟨wr.heap.size, 0, none⟩ = some (.string kind) := (cell_of_heap hx 0).trans rfl
  have x1 : wz.cell? ⟨wr.heap.size, 1, none⟩ = some (.int .i64 (t : Int)) := (cell_of_heap hx 1).trans rfl
  have x2 : wz.cell? ⟨wr.heap.size, 2, none⟩ = some (.int .i64 (i : Int)) := (cell_of_heap hx 2).trans rfl
  have x3 : wz.cell? ⟨wr.heap.size, 3, none⟩ = some (.int .i64 gg) := (cell_of_heap hx 3).trans rfl
  have x4 : wz.cell? ⟨wr.heap.size, 4, none⟩ = some (.int .i64 (j : Int)) := (cell_of_heap hx 4).trans rfl
  have x5 : wz.cell? ⟨wr.heap.size, 5, none⟩ = some (.int .i64 V) := (cell_of_heap hx 5).trans rfl
  have x6 : wz.cell? ⟨wr.heap.size, 6, none⟩ = some (.int .i64 O) := (cell_of_heap hx 6).trans rfl
  have xb := lt_of_block hx
  have HT := Lib.hid hT
  have Hth := Lib.hid hth
  have Hx := Lib.hid hx
  have HnP := Lib.hid hnP
  have hnR : ¬ Foot ty memK L m wr.heap.size := fun h => Nat.lt_irrefl _ (T.rep.lt h)
  have HnR := Lib.hid hnR
  clear hnR
  clear T hT hq0 hth dth hx hnP
  go_enter Tryd.func78, Tryd.ntmps78
  go_wp2_with fail
  rw [← hwz]
  refine Hth.out.mono ?_
  rintro e w' ⟨rfl, rfl⟩
  clear hwz Hth
  go_wp2_with fail
  refine (hr _ HT.out).mono ?_
  clear hr
  rintro e w2 ⟨rfl, hm2⟩
  have hx2 := hm2.heap Hx.out (fun e => e)
  have x0 : w2.cell? ⟨wr.heap.size, 0, none⟩ = some (.string kind) := (cell_of_heap hx2 0).trans rfl
  have x1 : w2.cell? ⟨wr.heap.size, 1, none⟩ = some (.int .i64 t) := (cell_of_heap hx2 1).trans rfl
  have x2 : w2.cell? ⟨wr.heap.size, 2, none⟩ = some (.int .i64 (i : Int)) := (cell_of_heap hx2 2).trans rfl
  have x3 : w2.cell? ⟨wr.heap.size, 3, none⟩ = some (.int .i64 gg) := (cell_of_heap hx2 3).trans rfl
  have x4 : w2.cell? ⟨wr.heap.size, 4, none⟩ = some (.int .i64 (j : Int)) := (cell_of_heap hx2 4).trans rfl
  have x5 : w2.cell? ⟨wr.heap.size, 5, none⟩ = some (.int .i64 V) := (cell_of_heap hx2 5).trans rfl
  have x6 : w2.cell? ⟨wr.heap.size, 6, none⟩ = some (.int .i64 O) := (cell_of_heap hx2 6).trans rfl
  have xb := lt_of_block hx2
  have HT2 := Lib.hid (HT.out.keep hm2)
  have Hx2 := Lib.hid hx2
  clear hm2 hx2
  have Hiw := Lib.hid hiw
  clear hiw
  have Hio := Lib.hid hio
  clear hio
  go_wp2_with (first | (go_at_call 31; refine (isWord_any _ _).mono ?_; rintro e w' ⟨rfl, rfl⟩; (first | rw [Hiw.out] | rw [Hio.out])) | fail)
  refine (hf _ _ _ HT2.out HnR.out Hx2.out).mono ?_
  clear hf
  rintro e w3 ⟨rfl, hx3, bc, n, cap, bw, wc, hin, hn, m0, m2, m3, mf, mb, mb2, mb3, hJ⟩
  have x0 : w3.cell? ⟨wr.heap.size, 0, none⟩ = some (.string kind) := (cell_of_heap hx3 0).trans rfl
  have x1 : w3.cell? ⟨wr.heap.size, 1, none⟩ = some (.int .i64 t) := (cell_of_heap hx3 1).trans rfl
  have x2 : w3.cell? ⟨wr.heap.size, 2, none⟩ = some (.int .i64 (i : Int)) := (cell_of_heap hx3 2).trans rfl
  have x3 : w3.cell? ⟨wr.heap.size, 3, none⟩ = some (.int .i64 gg) := (cell_of_heap hx3 3).trans rfl
  have x4 : w3.cell? ⟨wr.heap.size, 4, none⟩ = some (.int .i64 (j : Int)) := (cell_of_heap hx3 4).trans rfl
  have x5 : w3.cell? ⟨wr.heap.size, 5, none⟩ = some (.int .i64 V) := (cell_of_heap hx3 5).trans rfl
  have x6 : w3.cell? ⟨wr.heap.size, 6, none⟩ = some (.int .i64 O) := (cell_of_heap hx3 6).trans rfl
  have xb := lt_of_block hx3
  have HJ := Lib.hid hJ
  have mi : (i : Int) < (n : Int) := by omega
  have mj : (j : Int) < 4 := by omega
  have dvo : decide (v = O) = false := by simpa using hvo
  have Hx3 := Lib.hid hx3
  clear hJ hx3
  go_wp2_with fail
  go_quiet (fail)
  go_wp2_with fail
  refine (hp _ (HJ.out _ ((Mod.refl noF w3).drewN _))).mono ?_
  clear hp
  rintro e w4 ⟨rfl, L', m', vs', hT4⟩
  have HTF := Lib.hid hT4
  clear hT4
  have dv : decide (v = v) = true := by simp
  go_wp2_with fail
  refine (coded_own' HTF.out.E 0 (by omega)).mono ?_
  rintro e w9 ⟨rfl, hm9⟩
  have HT9 := Lib.hid ((HTF.out.keep hm9))
  clear hm9
  go_wp2_with fail
  go_ret
  exact ⟨rfl, _, _, _, HT9.out⟩
end Go.Proofs.YtamfbfajlfbooaaDoor
