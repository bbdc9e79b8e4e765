/- Texts that belong together, joined. -/
import Derived.Test.YtamfbfajlfbooaaDoorRm8
import Derived.Test.YtamfbfajlfbooaaDoorRPOps
import Derived.Test.YtamfbfajlfbooaaDoorRm7
import Derived.Test.YtamfbfajlfbooaaDoorRMemActR
import Derived.Test.YtamfbfajlfbooaaDoorRMemActSwat
import Derived.Test.YtamfbfajlfbooaaDoorRMemActSwokeq
import Derived.Test.YtamfbfajlfbooaaDoorRMemActCaat
import Derived.Test.YtamfbfajlfbooaaDoorRMemActCaokeq
import Derived.Test.YtamfbfajlfbooaaDoorRMemActCaokne
import Derived.Test.YtamfbfajlfbooaaDoorRm6
import Derived.Test.YtamfbfajlfbooaaDoorRm3
import Derived.Laws.Entries
set_option linter.unusedVariables false
set_option linter.unusedSimpArgs false
set_option linter.unusedSectionVars false
/- quiescentlaw1.memoryAct: load, fence, alloc, peek. -/
section
namespace Go.Proofs.YtamfbfajlfbooaaDoor
open Go.RowKit Qs Qh
variable {b0 wr w1 : World} {a : Nat → Addr} {B : PB} {tn bm k : Nat} {L : Lay} {m : M} {vs : List Value}
theorem actLoad (T : MemRel b0 a B tn bm k L m vs wr) (cc gg W V O : Int) {t : Nat} {q : List Wt} (hq : m.waits[t]? = some q) :
    Calls Tryd.prog 78 #[.pointer (some ⟨B.bM, 0, none⟩), .pointer (some ⟨bm, 0, none⟩), .agg #[.string ⟨#[108, 111, 97, 100]⟩, .int .i64 t, .int .i64 cc, .int .i64 gg, .int .i64 W, .int .i64 V, .int .i64 O]] wr (actOk b0 a B tn bm (k + 1)) := by
  have H := wBox_keep T ⟨#[108, 111, 97, 100]⟩ t cc gg W V O
  have h8 := H.q8 hq
  have hwl := H.wl
  have htl := (List.getElem?_eq_some_iff.1 hq).1
  have hp := pload_any H.mem H.low.E H.cellsOk hwl hq h8 cc gg W
  rw [loadE_two] at hp
  refine act_load T cc gg W V O hq (atE_range m.cells cc gg W) (hp.mono fun e w' h => ⟨h.1, _, PUp.quiet H.mem h.2⟩) fun vs' w1 u => ?_
  have R := H.repP u
  by_cases he : atE m.cells cc gg W = 0
  · have hc := load_ok R rfl rfl rfl rfl rfl H.om H.ol (by omega) t htl cc gg W he
    rw [H.top] at hc
    have e : ploadV m.cells q cc gg W = Qs.look (m.waitsOf t) cc gg W (getWord m.cells cc.toNat W.toNat) := by
      unfold ploadV M.waitsOf
      rw [loadE_two, if_pos he, List.getD_eq_getElem?_getD, hq]
      rcases loadE_atE m.cells cc gg W with ⟨h1, h2⟩ | ⟨h1, h2⟩ | ⟨h1, h2⟩
      · rw [h2]; rfl
      · omega
      · omega
    rw [e, he]
    exact hc.mono fun e w' h => ⟨h.1, _, _, ((H.prog u).keep h.2).up (Nat.le_succ k)⟩
  · have hc := load_bad R rfl rfl H.om H.ol (by omega) t cc gg W he
    rw [H.top] at hc
    have e : ploadV m.cells q cc gg W = 0 := by unfold ploadV; rw [loadE_two, if_neg he]
    rw [e]
    exact hc.mono fun e w' h => ⟨h.1, _, _, ((H.prog u).keep h.2).up (Nat.le_succ k)⟩
theorem okm_fence {N : Int} (om : OkM N m) {t : Nat} {q : List Wt} (hq : m.waits[t]? = some q) : OkM N { m with cells := (drainAll m.cells q).1, waits := m.waits.set t [] } :=
  (drainAll_ok q om (fun x hx => (om.wval t q hq x hx).1)).setWaits (by simp) (fun x hx => by simp at hx)
theorem actFence (T : MemRel b0 a B tn bm k L m vs wr) (cc gg W V O : Int) {t : Nat} {q : List Wt} (hq : m.waits[t]? = some q) :
    Calls Tryd.prog 78 #[.pointer (some ⟨B.bM, 0, none⟩), .pointer (some ⟨bm, 0, none⟩), .agg #[.string ⟨#[102, 101, 110, 99, 101]⟩, .int .i64 t, .int .i64 cc, .int .i64 gg, .int .i64 W, .int .i64 V, .int .i64 O]] wr (actOk b0 a B tn bm (k + 1)) := by
  have H := wBox_keep T ⟨#[102, 101, 110, 99, 101]⟩ t cc gg W V O
  refine act_fence T cc gg W V O hq (pfence_any H.mem H.low H.cellsOk hq H.wl (H.q8 hq) (H.okW hq)) fun vs' w1 u => ?_
  have hc := memFence_any (H.repP u) rfl rfl rfl rfl rfl H.om H.ol (by omega) t hq
  rw [H.top] at hc
  refine hc.mono fun e w' h => ?_
  obtain ⟨h1, L', hU⟩ := h
  exact ⟨h1, L', _, H.both u hU rfl rfl (okm_fence H.om hq) ((times_drainAll q H.times).up (Nat.le_succ k))⟩
theorem times_set' {l : List Cell} {i : Nat} {c' : Cell} {K : Int} (h : TimesK l K) (h' : c'.times ≤ K ∧ (c'.here = true → 1 ≤ c'.times)) : TimesK (l.set i c') K := fun j c hc => by
  rw [List.getElem?_set] at hc
  split at hc
  · split at hc
    · cases hc; exact h'
    · cases hc
  · exact h j c hc
theorem allocAt_some : ∀ (l : List Cell) (s i : Nat) (n : Int), allocAt l s = some (i, n) → ∃ j c, i = s + j ∧ l[j]? = some c ∧ c.times = n
  | [], s, i, n, h => by simp [allocAt] at h
  | x :: l, s, i, n, h => by
    unfold allocAt at h
    split at h
    · obtain ⟨j, c, h1, h2, h3⟩ := allocAt_some l (s + 1) i n h
      exact ⟨j + 1, c, by omega, by simpa using h2, h3⟩
    · simp only [Option.some.injEq, Prod.mk.injEq] at h
      exact ⟨0, x, by omega, rfl, h.2⟩
theorem actAlloc (T : MemRel b0 a B tn bm k L m vs wr) (hk : k < 1000) (cc gg W V O : Int) {t : Nat} {q : List Wt} (hq : m.waits[t]? = some q) :
    Calls Tryd.prog 78 #[.pointer (some ⟨B.bM, 0, none⟩), .pointer (some ⟨bm, 0, none⟩), .agg #[.string ⟨#[97, 108, 108, 111, 99]⟩, .int .i64 t, .int .i64 cc, .int .i64 gg, .int .i64 W, .int .i64 V, .int .i64 O]] wr (actOk b0 a B tn bm (k + 1)) := by
  have H := wBox_keep T ⟨#[97, 108, 108, 111, 99]⟩ t cc gg W V O
  have htl := (List.getElem?_eq_some_iff.1 hq).1
  have hp := pmAlloc_ok H.mem H.low.E H.om.cells H.cellsOk.times htl
  cases ha : allocAt m.cells 0 with
  | none =>
    refine act_alloc T cc gg W V O hq (code := 6) (i := 0) (g := 0) (l1 := m.cells) (ws1 := m.waits) (by omega) (hp.mono fun e w' h => ?_) fun vs' w1 b o u hb ho => ?_
    · rcases h with ⟨i, c, h1, -⟩ | ⟨-, h1, h2⟩
      · rw [ha] at h1; cases h1
      · exact ⟨h1, _, h2⟩
    · have hc := alloc_any (H.repP u) rfl rfl rfl H.om H.ol (by omega)
      rw [H.top] at hc
      refine hc.mono fun e w' h => ?_
      rcases h with ⟨i, n, h1, -⟩ | ⟨-, h1, h2⟩
      · rw [ha] at h1; cases h1
      · exact ⟨⟨h1, _, _, ((H.prog u).keep h2).up (Nat.le_succ k)⟩, h2.heap ho (fun e => e)⟩
  | some p =>
    obtain ⟨i0, n⟩ := p
    obtain ⟨i, c, rfl, hci, rfl⟩ := allocAt_some _ _ _ _ ha
    rw [Nat.zero_add] at ha
    refine act_alloc T cc gg W V O hq (code := 0) (i := i) (g := c.times) (l1 := m.cells.set i (givenCell c)) (ws1 := m.waits) (by omega) (hp.mono fun e w' h => ?_) fun vs' w1 b o u hb ho => ?_
    · rcases h with ⟨i', c', h1, h2, h3, h4⟩ | ⟨h1, -⟩
      · rw [ha] at h1
        simp only [Option.some.injEq, Prod.mk.injEq] at h1
        obtain ⟨rfl, h1⟩ := h1
        rw [hci] at h2; cases h2
        exact ⟨h3, _, h4⟩
      · rw [ha] at h1; cases h1
    · have hc := alloc_any (H.repP u) rfl rfl rfl H.om H.ol (by omega)
      rw [H.top] at hc
      refine hc.mono fun e w' h => ?_
      rcases h with ⟨i', n', h1, h2, h3, h4, h5⟩ | ⟨h1, -⟩
      · rw [ha] at h1
        simp only [Option.some.injEq, Prod.mk.injEq] at h1
        obtain ⟨rfl, rfl⟩ := h1
        have ht := H.times i c hci
        have hO := H.om.times i c hci
        have hU := allocUp (H.repP u) H.ol h3 h4 (by omega)
        refine ⟨⟨h2, _, _, H.both u hU rfl rfl ?_ ?_⟩, h4.heap ho ?_⟩
        · exact okm_set H.om hci ⟨rfl, fun v hv => by simp [zeroCell] at hv; subst hv; rfl⟩ ⟨by simp only [zeroCell]; omega, by simp only [zeroCell]; omega⟩
        · exact times_set' (H.times.up (Nat.le_succ k)) ⟨by simp only [zeroCell]; omega, fun _ => by simp only [zeroCell]; omega⟩
        · intro e
          have := H.rep.lt2 rfl H.ol
          omega
      · rw [ha] at h1; cases h1

theorem actPeek (T : MemRel b0 a B tn bm k L m vs wr) (cc gg W V O : Int) (t : Int) :
    Calls Tryd.prog 78 #[.pointer (some ⟨B.bM, 0, none⟩), .pointer (some ⟨bm, 0, none⟩), .agg #[.string ⟨#[112, 101, 101, 107]⟩, .int .i64 t, .int .i64 cc, .int .i64 gg, .int .i64 W, .int .i64 V, .int .i64 O]] wr (actOk b0 a B tn bm (k + 1)) := by
  have H := wBox_keep T ⟨#[112, 101, 101, 107]⟩ t cc gg W V O
  have hp := ppeek_any H.mem H.low.E H.cellsOk cc gg W
  have hr : ∀ w1, Mod noF (wBox wr ⟨#[112, 101, 101, 107]⟩ t cc gg W V O) w1 → Calls Tryd.prog 72 #[.pointer (some ⟨bm, 0, none⟩), .agg #[.int .i64 cc, .int .i64 gg], .int .i64 W] w1 fun e w' => e = .returned (.int .i64 (atE m.cells cc gg W)) ∧ Mod noF w1 w' := fun w1 hm => by
    have hc := at_any (H.rep.frame0 hm) rfl rfl H.om H.ol (by omega) cc gg W
    rw [H.top] at hc
    exact hc
  rcases loadE_atE m.cells cc gg W with ⟨h1, h2⟩ | ⟨h1, h2⟩ | ⟨h1, h2⟩
  · rw [h1] at hr
    rw [h2] at hp
    obtain ⟨i, j, x, ec, eW, hj, hx, -, -⟩ := atE_zero h1
    refine act_peek_ok T V O gg t (v := getWord m.cells cc.toNat W.toNat) ?_ hx hj ec eW hp hr
    subst ec eW
    simp [getWord, hx]
  · rw [h1] at hr; rw [h2] at hp
    exact act_peek_bad T cc gg W V O t (code := 2) (by omega) hp hr
  · rw [h1] at hr; rw [h2] at hp
    exact act_peek_bad T cc gg W V O t (code := 7) (by omega) hp hr
end Go.Proofs.YtamfbfajlfbooaaDoor
end
/- quiescentlaw1.memoryAct: force. -/
section
namespace Go.Proofs.YtamfbfajlfbooaaDoor
open Go.RowKit Qs Qh
variable {b0 wr w1 : World} {a : Nat → Addr} {B : PB} {tn bm k : Nat} {L : Lay} {m : M} {vs : List Value}
/-- Behind the fences of the first j threads. -/
def forceM (m : M) (j : Nat) : M := { m with cells := (forceL m.cells (m.waits.take j)).1, waits := List.replicate j [] ++ m.waits.drop j }
theorem forceM_zero (m : M) : forceM m 0 = m := by simp [forceM, forceL]
theorem take_snoc' {α : Type} {l : List α} {j : Nat} {x : α} (h : l[j]? = some x) : l.take (j + 1) = l.take j ++ [x] := by
  rw [List.take_add_one, h]; rfl
theorem forceM_at (m : M) {j : Nat} {q : List Wt} (h : m.waits[j]? = some q) : (forceM m j).waits[j]? = some q := by
  simp only [forceM]
  rw [List.getElem?_append_right (by simp)]
  simpa using h
theorem forceM_succ (m : M) {j : Nat} {q : List Wt} (h : m.waits[j]? = some q) : { forceM m j with cells := (drainAll (forceM m j).cells q).1, waits := (forceM m j).waits.set j [] } = forceM m (j + 1) := by
  have hj := (List.getElem?_eq_some_iff.1 h).1
  have e1 : (drainAll (forceM m j).cells q).1 = (forceM m (j + 1)).cells := by
    simp only [forceM]; rw [take_snoc' h, forceL_snoc]
  have e2 : (forceM m j).waits.set j [] = (forceM m (j + 1)).waits := by
    simp only [forceM]
    rw [List.set_append_right _ _ (by simp)]
    simp only [List.length_replicate, Nat.sub_self]
    rw [List.drop_eq_getElem_cons hj, List.set_cons_zero, List.replicate_succ']
    simp
  rw [e1, e2]; rfl
theorem forceS_succ (m : M) {j : Nat} {q : List Wt} (h : m.waits[j]? = some q) : (forceL m.cells (m.waits.take (j + 1))).2 = (forceL m.cells (m.waits.take j)).2 + (drainAll (forceM m j).cells q).2 := by
  rw [take_snoc' h, forceL_snoc]; rfl
theorem forceL_le : ∀ (xs : List (List Wt)) (l : List Cell), (∀ q ∈ xs, q.length ≤ 8) → (forceL l xs).2 ≤ 8 * xs.length
  | [], l, _ => by simp [forceL]
  | q :: xs, l, h => by
    have h1 := drainAll_le q l
    have h2 := h q (by simp)
    have h3 := forceL_le xs (drainAll l q).1 (fun x hx => h x (by simp [hx]))
    simp only [forceL, List.length_cons]; omega
theorem okm_force {N : Int} (om : OkM N m) : ∀ j, j ≤ m.waits.length → OkM N (forceM m j)
  | 0, _ => by rw [forceM_zero]; exact om
  | j + 1, h => by
    have hq : m.waits[j]? = some m.waits[j] := List.getElem?_eq_getElem (by omega)
    rw [← forceM_succ m hq]
    exact okm_fence (okm_force om j (by omega)) (forceM_at m hq)
theorem times_force {K : Int} (h : TimesK m.cells K) : ∀ j, j ≤ m.waits.length → TimesK (forceM m j).cells K
  | 0, _ => by rw [forceM_zero]; exact h
  | j + 1, hj => by
    have hq : m.waits[j]? = some m.waits[j] := List.getElem?_eq_getElem (by omega)
    rw [← forceM_succ m hq]
    exact times_drainAll _ (times_force h j (by omega))
theorem forceM_len (m : M) {j : Nat} (h : j ≤ m.waits.length) : (forceM m j).waits.length = m.waits.length := by simp [forceM]; omega
theorem actForce (T : MemRel b0 a B tn bm k L m vs wr) (cc gg W V O : Int) (t : Int) :
    Calls Tryd.prog 78 #[.pointer (some ⟨B.bM, 0, none⟩), .pointer (some ⟨bm, 0, none⟩), .agg #[.string ⟨#[102, 111, 114, 99, 101]⟩, .int .i64 t, .int .i64 cc, .int .i64 gg, .int .i64 W, .int .i64 V, .int .i64 O]] wr (actOk b0 a B tn bm (k + 1)) := by
  have H := wBox_keep T ⟨#[102, 111, 114, 99, 101]⟩ t cc gg W V O
  have hwl := H.wl
  have hall : ∀ q ∈ m.waits, q.length ≤ 8 ∧ okW q := fun q hq => by
    obtain ⟨i, hi⟩ := List.mem_iff_getElem?.1 hq
    exact ⟨H.q8 hi, H.okW hi⟩
  have hpart : ∀ j, (forceL m.cells (m.waits.take j)).2 ≤ 1000000 := fun j => by
    have h1 := forceL_le (m.waits.take j) m.cells (fun q hq => (hall q (List.mem_of_mem_take hq)).1)
    have h2 : (m.waits.take j).length ≤ 6 := by simp; omega
    omega
  refine act_force T cc gg W V O t hwl (fun j w => j ≤ m.waits.length ∧ ∃ L', Up ty memK (wBox wr ⟨#[102, 111, 114, 99, 101]⟩ t cc gg W V O) L m w L' (forceM m j)) (fun j => (forceL m.cells (m.waits.take j)).2) hpart (by simp [forceL]) ⟨Nat.zero_le _, L, by rw [forceM_zero]; exact Up.refl H.rep H.ol⟩ ?_ ?_ ?_
  · rintro j w ⟨hj, L', hU⟩
    have e : L'.blk 1 0 = bm := by rw [(hU.ext.same 1 0 (by omega) (by omega)).1]; exact H.top
    rw [← e]
    have h := hU.rep.waits_at rfl hU.ok
    rw [forceM_len m hj] at h
    exact ⟨hU.rep.lt1 rfl, _, _, h⟩
  · rintro j w hj ⟨hj2, L', hU⟩
    have hq : m.waits[j]? = some m.waits[j] := List.getElem?_eq_getElem (by omega)
    refine ⟨_, forceS_succ m hq, ?_⟩
    have e : L'.blk 1 0 = bm := by rw [(hU.ext.same 1 0 (by omega) (by omega)).1]; exact H.top
    have hc := memFence_any hU.rep rfl rfl rfl rfl rfl (okm_force H.om j hj2) hU.ok (by omega) j (forceM_at m hq)
    rw [e] at hc
    refine hc.mono fun e w' h => ?_
    obtain ⟨h1, L2, hU2⟩ := h
    rw [forceM_succ m hq] at hU2
    exact ⟨h1, by omega, L2, hU.trans hU2⟩
  · rintro w ⟨hj2, L', hU⟩
    refine (pforce_any (H.memR hU) (H.lowR2 hU) H.cellsOk hwl hall).mono fun e w' h => ?_
    obtain ⟨h1, vs', hu⟩ := h
    rw [List.take_length]
    refine ⟨h1, L', _, vs', H.both2 hU hu ?_ ?_ (okm_force H.om _ hj2) ((times_force H.times _ hj2).up (Nat.le_succ k)) (forceM_len m hj2)⟩
    · simp [forceM]
    · simp [forceM]
end Go.Proofs.YtamfbfajlfbooaaDoor
end
/- quiescentlaw1.memoryAct: free. -/
section
namespace Go.Proofs.YtamfbfajlfbooaaDoor
open Go.RowKit Qs Qh
variable {b0 wr w1 w2 : World} {a : Nat → Addr} {B : PB} {tn bm k : Nat} {L : Lay} {m : M} {vs : List Value}
theorem errOf_ne (a : Nat → Addr) {code : Int} (h : ¬ code = 0) : errOf' a code = errV a (code.toNat - 1) := if_neg h
theorem loadE_zero {l : List Cell} {c r W : Int} (h : atE l c r W = 0) : ∃ x, loadE l c r W = (x, 0) := by
  rcases loadE_atE l c r W with ⟨h1, h2⟩ | ⟨h1, h2⟩ | ⟨h1, h2⟩
  · exact ⟨_, h2⟩
  · omega
  · omega
/-- whole, where the word is none. -/
theorem wholeAt (H : MemRel b0 a B tn bm k L m vs wr) {t : Nat} {q : List Wt} (hq : m.waits[t]? = some q) (cc gg W : Int) {v : Value} {l : List Int} (R : intsRow wr v l) (hl : l.length ≤ 8) (he : ¬ atE m.cells cc gg W = 0) :
    Calls Tryd.prog 146 #[.pointer (some ⟨B.bM, 0, none⟩), .int .i64 t, .agg #[.int .i64 cc, .int .i64 gg], .int .i64 W, v] wr fun e w' => e = .returned (errOf' a (atE m.cells cc gg W)) ∧ PUp wr B vs w' m.cells m.waits vs := by
  rcases loadE_atE m.cells cc gg W with ⟨h1, h2⟩ | ⟨h1, h2⟩ | ⟨h1, h2⟩
  · exact absurd h1 he
  · rw [h1]; exact pwhole_err2 H.mem H.low H.cellsOk H.wl hq (H.q8 hq) cc gg W R hl h2
  · rw [h1]; exact pwhole_err7 H.mem H.low H.cellsOk H.wl hq (H.q8 hq) cc gg W R hl h2
theorem badN_pos {l : List Cell} {q : List Wt} (h : ¬ (drainAll l q).2 = 0) : badN l q = 7 := if_neg h
theorem badN_zero {l : List Cell} {q : List Wt} (h : (drainAll l q).2 = 0) : badN l q = 0 := if_pos h
theorem freeFail (H : MemRel b0 a B tn bm k L m vs wr) (t : Int) (cc gg : Int) {code : Int} (hc : ¬ code = 0) {l1 : List Cell} {ws1 : List (List Wt)}
    (hcall : Calls Tryd.prog 146 #[.pointer (some ⟨B.bM, 0, none⟩), .int .i64 t, .agg #[.int .i64 cc, .int .i64 gg], .int .i64 0, .slice none 0 0] (wr.alloc (refBox cc gg)) fun e w' => e = .returned (errOf' a code) ∧ ∃ vs', PUp (wr.alloc (refBox cc gg)) B vs w' l1 ws1 vs') :
    Calls Tryd.prog 117 #[.pointer (some ⟨B.bM, 0, none⟩), .int .i64 t, .agg #[.int .i64 cc, .int .i64 gg]] wr (PAns a B vs wr l1 ws1 (errOf' a code)) := by
  rw [errOf_ne a hc] at hcall ⊢
  refine (pfree_fail wr B.bM t cc gg (Pst := fun w' => ∃ vs', PUp (wr.alloc (refBox cc gg)) B vs w' l1 ws1 vs') hcall).mono fun e w' h => ⟨h.1, ?_⟩
  obtain ⟨vs', hu⟩ := h.2
  exact ⟨vs', (PUp.quiet H.mem ((Mod.refl noF wr).alloc _)).trans hu⟩
theorem nilRow (w : World) : intsRow w (.slice none 0 0) [] := ⟨none, 0, rfl, fun i n h => by simp at h⟩
/-- Behind a fence. -/
def fencedM (m : M) (t : Nat) (q : List Wt) : M := { m with cells := (drainAll m.cells q).1, waits := m.waits.set t [] }
theorem fenced_get {q : List Wt} {t i : Nat} {x : Cell} (hx : m.cells[i]? = some x) : ∃ y, (fencedM m t q).cells[i]? = some y :=
  ⟨_, List.getElem?_eq_getElem (by have := (List.getElem?_eq_some_iff.1 hx).1; simp only [fencedM]; rw [drainAll_length]; exact this)⟩
/-- The reference's fence. -/
theorem rfence_any (R : Rep ty memK w1 L m) (om : OkM 1000 m) (ol : OkL L m) (htop : L.blk 1 0 = bm) {t : Nat} {q : List Wt} (hq : m.waits[t]? = some q) :
    Calls Tryd.prog 112 #[.pointer (some ⟨bm, 0, none⟩), .int .i64 t] w1 fun e w' => e = .returned (.int .i64 ((drainAll m.cells q).2 : Nat)) ∧ ∃ L', Up ty memK w1 L m w' L' (fencedM m t q) ∧ L'.blk 1 0 = bm := by
  have hc := memFence_any R rfl rfl rfl rfl rfl om ol (by omega) t hq
  rw [htop] at hc
  refine hc.mono fun e w' h => ?_
  obtain ⟨h1, L', hU⟩ := h
  exact ⟨h1, L', hU, by rw [(hU.ext.same 1 0 (by omega) (by omega)).1]; exact htop⟩
theorem rat_any (R : Rep ty memK w1 L m) (om : OkM 1000 m) (ol : OkL L m) (htop : L.blk 1 0 = bm) (cc gg W : Int) :
    Calls Tryd.prog 72 #[.pointer (some ⟨bm, 0, none⟩), .agg #[.int .i64 cc, .int .i64 gg], .int .i64 W] w1 fun e w' => e = .returned (.int .i64 (atE m.cells cc gg W)) ∧ Mod noF w1 w' := by
  have hc := at_any R rfl rfl om ol (by omega) cc gg W
  rw [htop] at hc
  exact hc
theorem actFree (T : MemRel b0 a B tn bm k L m vs wr) (cc gg W V O : Int) {t : Nat} {q : List Wt} (hq : m.waits[t]? = some q) :
    Calls Tryd.prog 78 #[.pointer (some ⟨B.bM, 0, none⟩), .pointer (some ⟨bm, 0, none⟩), .agg #[.string ⟨#[102, 114, 101, 101]⟩, .int .i64 t, .int .i64 cc, .int .i64 gg, .int .i64 W, .int .i64 V, .int .i64 O]] wr (actOk b0 a B tn bm (k + 1)) := by
  have H := wBox_keep T ⟨#[102, 114, 101, 101]⟩ t cc gg W V O
  have ok := H.okW hq
  have h8 := H.q8 hq
  have hwl := H.wl
  have HA := H.keep ((Mod.refl noF (wBox wr ⟨#[102, 114, 101, 101]⟩ t cc gg W V O)).alloc (refBox cc gg))
  have om2 := okm_fence H.om hq
  by_cases he : atE m.cells cc gg 0 = 0
  · obtain ⟨x, hl⟩ := loadE_zero he
    have hr0 : ∀ l1 ws1 vs' w1, PUp (wBox wr ⟨#[102, 114, 101, 101]⟩ t cc gg W V O) B vs w1 l1 ws1 vs' → Calls Tryd.prog 72 #[.pointer (some ⟨bm, 0, none⟩), .agg #[.int .i64 cc, .int .i64 gg], .int .i64 0] w1 fun e w' => e = .returned (.int .i64 0) ∧ Mod noF w1 w' := fun l1 ws1 vs' w1 u => by
      have hc := rat_any (H.repP u) H.om H.ol H.top cc gg 0
      rwa [he] at hc
    by_cases hb : (drainAll m.cells q).2 = 0
    · obtain ⟨i, j, c0, ec, -, -, hx, -, -⟩ := atE_zero he
      refine act_free_ok T cc gg W V O hq (i := i) (pfree_ok H.mem H.low H.cellsOk hwl hq h8 ok cc gg x hl (badN_zero hb)) (fun vs' w1 u => hr0 _ _ _ _ u) fun vs' w1 g o u hg ho => ?_
      refine (rfence_any (H.repP u) H.om H.ol H.top hq).mono fun e w2 h => ?_
      obtain ⟨h1, L', hU, e1⟩ := h
      obtain ⟨y, hy⟩ := fenced_get (t := t) (q := q) hx
      have hV := hU.rep.setHere rfl hU.ok hy false
      have hcell := (hU.rep.cell_at rfl hU.ok hy).2.2
      have hcs := hU.rep.cells_at rfl hU.ok
      have hlt := hU.rep.lt1 rfl
      rw [e1] at hcs hlt
      have hlen := (List.getElem?_eq_some_iff.1 hy).1
      refine ⟨by rw [h1, hb]; rfl, hU.mod.heap ho hg, _, _, _, _, ec, hlen, by have := om2.cells; exact this, hcs, hcell, hU.rep.free rfl (obj2 ty _ hU.ok.n2) _, hlt, hU.rep.lt2 rfl hU.ok, L', _, H.both u (hU.trans hV) ?_ rfl ?_ ?_ (by simp [fencedM])⟩
      · subst ec; rfl
      · show OkM 1000 { fencedM m t q with cells := (fencedM m t q).cells.modify i _ }
        rw [modify_get _ hy]
        exact okm_set om2 hy (om2.words i y hy) (om2.times i y hy)
      · show TimesK ((fencedM m t q).cells.modify i _) _
        rw [modify_get _ hy]
        have ht := times_drainAll q H.times
        exact times_set' (ht.up (Nat.le_succ k)) ⟨((ht.up (Nat.le_succ k)) i y hy).1, fun h => by cases h⟩
    · refine act_free_fence T cc gg W V O hq (n := (drainAll m.cells q).2) (by omega) (freeFail (l1 := (drainAll m.cells q).1) (ws1 := m.waits.set t []) H t cc gg (by omega) ?_) (fun vs' w1 u => hr0 _ _ _ _ u) fun vs' w1 u => ?_
      · have hw := pwhole_ok HA.mem HA.low HA.cellsOk hwl hq h8 cc gg 0 (nilRow _) (by simp) ok x hl rfl
        rw [badN_pos hb] at hw
        exact hw
      · refine (rfence_any (H.repP u) H.om H.ol H.top hq).mono fun e w2 h => ?_
        obtain ⟨h1, L', hU, e1⟩ := h
        exact ⟨h1, L', _, H.both u hU rfl rfl om2 ((times_drainAll q H.times).up (Nat.le_succ k)) (by simp [fencedM])⟩
  · have hrg := atE_range m.cells cc gg 0
    refine act_free_at T cc gg W V O hq (code := atE m.cells cc gg 0) (by omega) (freeFail H t cc gg he ((wholeAt HA hq cc gg 0 (nilRow _) (by simp) he).mono fun e w' h => ⟨h.1, _, h.2⟩)) fun vs' w1 u => ?_
    exact (rat_any (H.repP u) H.om H.ol H.top cc gg 0).mono fun e w' h => ⟨h.1, _, _, ((H.prog u).keep h.2).up (Nat.le_succ k)⟩
end Go.Proofs.YtamfbfajlfbooaaDoor
end
/- quiescentlaw1.memoryAct: swap, cas. -/
section
namespace Go.Proofs.YtamfbfajlfbooaaDoor
open Go.RowKit Qs Qh
variable {b0 wr w1 w2 : World} {a : Nat → Addr} {B : PB} {tn bm k : Nat} {L : Lay} {m : M} {vs : List Value}
theorem swapFail (w1 : World) (bM : Nat) (t cc gg W V : Int) {code : Int} (hc : ¬ code = 0) {P : World → Prop}
    (hcall : Calls Tryd.prog 146 #[.pointer (some ⟨bM, 0, none⟩), .int .i64 t, .agg #[.int .i64 cc, .int .i64 gg], .int .i64 W, .slice (some ⟨w1.heap.size + 1, 0, none⟩) 1 1] ((w1.alloc (refBox cc gg)).alloc (.cells #[.int .i64 V] 3)) fun e w' => e = .returned (errOf' a code) ∧ P w') :
    Calls Tryd.prog 118 #[.pointer (some ⟨bM, 0, none⟩), .int .i64 t, .agg #[.int .i64 cc, .int .i64 gg], .int .i64 W, .int .i64 V] w1 fun e w' => e = .returned (.tuple #[.int .i64 0, errOf' a code]) ∧ P w' := by
  rw [errOf_ne a hc] at hcall ⊢
  exact pswap_fail w1 bM t cc gg W V hcall
theorem casFail (w1 : World) (bM : Nat) (t cc gg W O V : Int) {code : Int} (hc : ¬ code = 0) {P : World → Prop}
    (hcall : Calls Tryd.prog 146 #[.pointer (some ⟨bM, 0, none⟩), .int .i64 t, .agg #[.int .i64 cc, .int .i64 gg], .int .i64 W, .slice (some ⟨w1.heap.size + 1, 0, none⟩) 2 2] ((w1.alloc (refBox cc gg)).alloc (.cells #[.int .i64 O, .int .i64 V] 3)) fun e w' => e = .returned (errOf' a code) ∧ P w') :
    Calls Tryd.prog 119 #[.pointer (some ⟨bM, 0, none⟩), .int .i64 t, .agg #[.int .i64 cc, .int .i64 gg], .int .i64 W, .int .i64 O, .int .i64 V] w1 fun e w' => e = .returned (.tuple #[.int .i64 0, errOf' a code]) ∧ P w' := by
  rw [errOf_ne a hc] at hcall ⊢
  exact pcas_fail w1 bM t cc gg W O V hcall
theorem row1 (w1 : World) (cc gg V : Int) : intsRow ((w1.alloc (refBox cc gg)).alloc (.cells #[.int .i64 V] 3)) (.slice (some ⟨w1.heap.size + 1, 0, none⟩) 1 1) [V] := by
  have h := heap_alloc_new (w1.alloc (refBox cc gg)) (.cells #[.int .i64 V] 3)
  rw [World.size_alloc] at h
  exact rowOf h rfl rfl
theorem row2 (w1 : World) (cc gg O V : Int) : intsRow ((w1.alloc (refBox cc gg)).alloc (.cells #[.int .i64 O, .int .i64 V] 3)) (.slice (some ⟨w1.heap.size + 1, 0, none⟩) 2 2) [O, V] := by
  have h := heap_alloc_new (w1.alloc (refBox cc gg)) (.cells #[.int .i64 O, .int .i64 V] 3)
  rw [World.size_alloc] at h
  exact rowOf h rfl rfl
theorem two_alloc (w1 : World) (o p : Obj) : Mod noF w1 ((w1.alloc o).alloc p) := ((Mod.refl noF w1).alloc o).alloc p
/-- Behind the reference's fence, what the program's call starts from. -/
def JM (b0 : World) (a : Nat → Addr) (B : PB) (tn bm k : Nat) (L : Lay) (m : M) (vs : List Value) (m' : M) (w : World) : Prop := ∃ wX L', MemRel b0 a B tn bm k L m vs wX ∧ Up ty memK wX L m w L' m'
theorem JM.join {m' : M} {l' : List Cell} {ws' : List (List Wt)} {vs' : List Value} (h : JM b0 a B tn bm k L m vs m' w1) (u : PUp w1 B vs w2 l' ws' vs') (hc : m'.cells = l') (hw : m'.waits = ws') (om : OkM 1000 m') (ht : TimesK m'.cells (k + 1 : Nat)) (hn : m'.waits.length = m.waits.length) : ∃ L' m' vs', MemRel b0 a B tn bm (k + 1) L' m' vs' w2 := by
  obtain ⟨wX, L', hX, hU⟩ := h
  exact ⟨L', m', vs', hX.both2 hU u hc hw om ht hn⟩
theorem JM.mem {m' : M} (h : JM b0 a B tn bm k L m vs m' w1) : PMV w1 B m.cells m.waits vs ∧ PLow b0 w1 a B vs := by
  obtain ⟨wX, L', hX, hU⟩ := h
  exact ⟨hX.memR hU, hX.lowR2 hU⟩
/-- The reference's fence found no cell gone: the word behind it. -/
theorem hf_any (H : MemRel b0 a B tn bm k L m vs w1) {t : Nat} {q : List Wt} (hq : m.waits[t]? = some q) {i j : Nat} {x : Cell} (hx : m.cells[i]? = some x) (hj : j < 4) (hb : (drainAll m.cells q).2 = 0) {g : Nat} {o : Obj} (hg : ¬ Foot ty memK L m g) (ho : w1.heap[g]? = some o) :
    Calls Tryd.prog 112 #[.pointer (some ⟨bm, 0, none⟩), .int .i64 t] w1 fun e w2 => e = .returned (.int .i64 0) ∧ w2.heap[g]? = some o ∧ ∃ L' c', Up ty memK w1 L m w2 L' (fencedM m t q) ∧ (fencedM m t q).cells[i]? = some c' ∧ j < c'.words.length ∧ ∃ bc n cap bw wc, i < n ∧ n ≤ 64 ∧ w2.cell? ⟨bm, 0, none⟩ = some (.slice (some ⟨bc, 0, none⟩) n cap) ∧ w2.cell? ⟨bc, i * 3, none⟩ = some (.slice (some ⟨bw, 0, none⟩) 4 wc) ∧ w2.cell? ⟨bw, j, none⟩ = some (.int .i64 (getWord (drainAll m.cells q).1 i j)) ∧ w2.frozen? ⟨bw, j, none⟩ = false ∧ bm < w2.heap.size ∧ bc < w2.heap.size ∧ bw < w2.heap.size ∧ ¬ g = bw ∧ bw = L'.blk 6 i := by
  refine (rfence_any H.rep H.om H.ol H.top hq).mono fun e w2 h => ?_
  obtain ⟨h1, L', hU, e1⟩ := h
  have om2 := okm_fence H.om hq
  obtain ⟨y, hy⟩ := fenced_get (t := t) (q := q) hx
  have hil := (List.getElem?_eq_some_iff.1 hy).1
  have hwl := (om2.words i y hy).1
  have hft : Foot ty memK L' (fencedM m t q) (L'.blk 6 i) := ⟨6, i, rfl, by rw [obj6 ty (hU.ok.n6 i hil) hy]; rfl, rfl⟩
  obtain ⟨bc, cap, bw, wc, c1, c2, c3, l1, l2, l3, e2, e3⟩ := wordFacts hU.rep om2 hU.ok hy hj
  rw [e1] at c1 l1
  have hne : ¬ g = bw := fun e => by
    subst e
    rw [e3] at hg ho
    rcases hU.foot _ hft with h | h
    · exact hg h
    · have := (Array.getElem?_eq_some_iff.1 ho).1; omega
  refine ⟨by rw [h1, hb]; rfl, hU.mod.heap ho hg, L', y, hU, hy, by omega, bc, _, cap, bw, wc, hil, om2.cells, c1, c2, ?_, ?_, l1, l2, l3, hne, e3⟩
  · have : getWord (drainAll m.cells q).1 i j = y.words.getD j 0 := by
      have hy' : (drainAll m.cells q).1[i]? = some y := hy
      unfold getWord; rw [hy']; rfl
    rw [this]; exact c3
  · rw [e3]; exact hU.rep.free rfl (obj6 ty (hU.ok.n6 i hil) hy) j
theorem actSwap (T : MemRel b0 a B tn bm k L m vs wr) (cc gg W V O : Int) {t : Nat} {q : List Wt} (hq : m.waits[t]? = some q) :
    Calls Tryd.prog 78 #[.pointer (some ⟨B.bM, 0, none⟩), .pointer (some ⟨bm, 0, none⟩), .agg #[.string ⟨#[115, 119, 97, 112]⟩, .int .i64 t, .int .i64 cc, .int .i64 gg, .int .i64 W, .int .i64 V, .int .i64 O]] wr (actOk b0 a B tn bm (k + 1)) := by
  have ok := T.okW hq
  have h8 := T.q8 hq
  have hwl := T.wl
  have om2 := okm_fence T.om hq
  have ht2 := (times_drainAll q T.times).up (Nat.le_succ k)
  by_cases he : atE m.cells cc gg W = 0
  · obtain ⟨x, hl⟩ := loadE_zero he
    have hr : ∀ w1, MemRel b0 a B tn bm k L m vs w1 → Calls Tryd.prog 72 #[.pointer (some ⟨bm, 0, none⟩), .agg #[.int .i64 cc, .int .i64 gg], .int .i64 W] w1 fun e w' => e = .returned (.int .i64 0) ∧ Mod noF w1 w' := fun w1 H => by
      have hc := rat_any H.rep H.om H.ol H.top cc gg W
      rwa [he] at hc
    cases hv : isWord V with
    | false =>
      refine act_swap_word1 T cc gg W V O hq hv hr fun w1 H => swapFail w1 B.bM t cc gg W V (by omega) ?_
      have H2 := H.keep (two_alloc w1 (refBox cc gg) (.cells #[.int .i64 V] 3))
      exact (pwhole_bad H2.mem H2.low H2.cellsOk hwl hq h8 cc gg W (row1 w1 cc gg V) (by simp) x hl (by simp [hv])).mono fun e w' h => ⟨h.1, _, _, _, (H2.prog h.2).up (Nat.le_succ k)⟩
    | true =>
      by_cases hb : (drainAll m.cells q).2 = 0
      · obtain ⟨i, j, c0, ec, eW, hj, hx, -, -⟩ := atE_zero he
        refine act_swap_okeq T gg V O hq hv hj ec eW (v := getWord (drainAll m.cells q).1 i j) (JM b0 a B tn bm k L m vs { fencedM m t q with cells := Qs.setWord (fencedM m t q).cells i j V }) hr (fun w1 g o H hg ho => ?_) fun w1 hJ => ?_
        · refine (hf_any H hq hx hj hb hg ho).mono fun e w2 h => ?_
          obtain ⟨h1, h2, L', c', hU, hc', hjl, bc, n, cap, bw, wc, f1, f2, f3, f4, f5, f6, f7, f8, f9, f10, f11⟩ := h
          refine ⟨h1, h2, bc, n, cap, bw, wc, f1, f2, f3, f4, f5, f6, f7, f8, f9, f10, fun w3 h3 => ?_⟩
          rw [f11] at h3
          exact ⟨_, L', H, (hU.trans (hU.rep.setWord rfl hU.ok hc' hjl V)).then0 h3⟩
        · have hP := hJ.mem
          refine (pswap_ok hP.1 hP.2 T.cellsOk hwl hq h8 ok cc gg W V x hl (badN_zero hb) hv).mono fun e w' h => ?_
          obtain ⟨h1, vs', hu⟩ := h
          subst ec eW
          refine ⟨h1, hJ.join hu rfl rfl (om2.setWord i j hv) ?_ (by simp [fencedM])⟩
          intro i2 c2 hc2
          obtain ⟨y0, g1, g2, -, g4⟩ := setWord_keep hc2
          rw [g2, g4]; exact ht2 i2 y0 g1
      · refine act_swap_fence T cc gg W V O hq hv (n := (drainAll m.cells q).2) (by omega) (JM b0 a B tn bm k L m vs (fencedM m t q)) hr (fun w1 g o H hg ho => ?_) fun w1 hJ => swapFail w1 B.bM t cc gg W V (by omega) ?_
        · refine (rfence_any H.rep H.om H.ol H.top hq).mono fun e w2 h => ?_
          obtain ⟨h1, L', hU, e1⟩ := h
          exact ⟨h1, hU.mod.heap ho hg, _, L', H, hU⟩
        · have hP := hJ.mem
          have hA := two_alloc w1 (refBox cc gg) (.cells #[.int .i64 V] 3)
          have hw := pwhole_ok (hP.1.keep0 hA) (hP.2.keep hA) T.cellsOk hwl hq h8 cc gg W (row1 w1 cc gg V) (by simp) ok x hl (by simp [hv])
          rw [badN_pos hb] at hw
          refine hw.mono fun e w' h => ?_
          obtain ⟨h1, vs', hu⟩ := h
          exact ⟨h1, hJ.join ((PUp.quiet hP.1 hA).trans hu) rfl rfl om2 ht2 (by simp [fencedM])⟩
  · have hrg := atE_range m.cells cc gg W
    refine act_swap_at T cc gg W V O hq (code := atE m.cells cc gg W) (by omega) (fun w1 H => rat_any H.rep H.om H.ol H.top cc gg W) fun w1 H => swapFail w1 B.bM t cc gg W V he ?_
    have H2 := H.keep (two_alloc w1 (refBox cc gg) (.cells #[.int .i64 V] 3))
    exact (wholeAt H2 hq cc gg W (row1 w1 cc gg V) (by simp) he).mono fun e w' h => ⟨h.1, _, _, _, (H2.prog h.2).up (Nat.le_succ k)⟩
theorem actCas (T : MemRel b0 a B tn bm k L m vs wr) (cc gg W V O : Int) (kind : ByteArray) (k0 : ¬ kind = ⟨#[102, 111, 114, 99, 101]⟩) (k1 : ¬ kind = ⟨#[112, 101, 101, 107]⟩) (k2 : ¬ kind = ⟨#[108, 111, 97, 100]⟩) (k3 : ¬ kind = ⟨#[115, 116, 111, 114, 101]⟩) (k4 : ¬ kind = ⟨#[100, 114, 97, 105, 110]⟩) (k5 : ¬ kind = ⟨#[102, 101, 110, 99, 101]⟩) (k6 : ¬ kind = ⟨#[97, 108, 108, 111, 99]⟩) (k7 : ¬ kind = ⟨#[102, 114, 101, 101]⟩) (k8 : ¬ kind = ⟨#[115, 119, 97, 112]⟩) {t : Nat} {q : List Wt} (hq : m.waits[t]? = some q) :
    Calls Tryd.prog 78 #[.pointer (some ⟨B.bM, 0, none⟩), .pointer (some ⟨bm, 0, none⟩), .agg #[.string kind, .int .i64 t, .int .i64 cc, .int .i64 gg, .int .i64 W, .int .i64 V, .int .i64 O]] wr (actOk b0 a B tn bm (k + 1)) := by
  have ok := T.okW hq
  have h8 := T.q8 hq
  have hwl := T.wl
  have om2 := okm_fence T.om hq
  have ht2 := (times_drainAll q T.times).up (Nat.le_succ k)
  by_cases he : atE m.cells cc gg W = 0
  · obtain ⟨x, hl⟩ := loadE_zero he
    have hr : ∀ w1, MemRel b0 a B tn bm k L m vs w1 → Calls Tryd.prog 72 #[.pointer (some ⟨bm, 0, none⟩), .agg #[.int .i64 cc, .int .i64 gg], .int .i64 W] w1 fun e w' => e = .returned (.int .i64 0) ∧ Mod noF w1 w' := fun w1 H => by
      have hc := rat_any H.rep H.om H.ol H.top cc gg W
      rwa [he] at hc
    have hbad : [O, V].all isWord = false → ∀ w1, MemRel b0 a B tn bm k L m vs w1 → Calls Tryd.prog 119 #[.pointer (some ⟨B.bM, 0, none⟩), .int .i64 t, .agg #[.int .i64 cc, .int .i64 gg], .int .i64 W, .int .i64 O, .int .i64 V] w1 fun e w' => e = .returned (.tuple #[.int .i64 0, errOf' a 2]) ∧ ∃ L' m' vs', MemRel b0 a B tn bm (k + 1) L' m' vs' w' := fun hall w1 H => casFail w1 B.bM t cc gg W O V (by omega) (by
      have H2 := H.keep (two_alloc w1 (refBox cc gg) (.cells #[.int .i64 O, .int .i64 V] 3))
      exact (pwhole_bad H2.mem H2.low H2.cellsOk hwl hq h8 cc gg W (row2 w1 cc gg O V) (by simp) x hl hall).mono fun e w' h => ⟨h.1, _, _, _, (H2.prog h.2).up (Nat.le_succ k)⟩)
    cases hv : isWord V with
    | false => exact act_cas_word1 T cc gg W V O kind k0 k1 k2 k3 k4 k5 k6 k7 k8 hq hv hr (hbad (by simp [hv]))
    | true =>
      cases hvo : isWord O with
      | false => exact act_cas_word2 T cc gg W V O kind k0 k1 k2 k3 k4 k5 k6 k7 k8 hq hv hvo hr (hbad (by simp [hvo]))
      | true =>
      by_cases hb : (drainAll m.cells q).2 = 0
      · obtain ⟨i, j, c0, ec, eW, hj, hx, -, -⟩ := atE_zero he
        by_cases hvw : getWord (drainAll m.cells q).1 i j = O
        · refine act_cas_okeq T gg V O kind k0 k1 k2 k3 k4 k5 k6 k7 k8 hq hv hvo hj ec eW (v := getWord (drainAll m.cells q).1 i j) hvw (JM b0 a B tn bm k L m vs { fencedM m t q with cells := Qs.setWord (fencedM m t q).cells i j V }) hr (fun w1 g o H hg ho => ?_) fun w1 hJ => ?_
          · refine (hf_any H hq hx hj hb hg ho).mono fun e w2 h => ?_
            obtain ⟨h1, h2, L', c', hU, hc', hjl, bc, n, cap, bw, wc, f1, f2, f3, f4, f5, f6, f7, f8, f9, f10, f11⟩ := h
            refine ⟨h1, h2, bc, n, cap, bw, wc, f1, f2, f3, f4, f5, f6, f7, f8, f9, f10, fun w3 h3 => ?_⟩
            rw [f11] at h3
            exact ⟨_, L', H, (hU.trans (hU.rep.setWord rfl hU.ok hc' hjl V)).then0 h3⟩
          · have hP := hJ.mem
            refine (pcas_ok hP.1 hP.2 T.cellsOk hwl hq h8 ok cc gg W O V x hl (badN_zero hb) hv hvo).mono fun e w' h => ?_
            obtain ⟨h1, vs', hu⟩ := h
            subst ec eW
            simp only [Int.toNat_natCast] at h1 hu
            rw [if_pos hvw] at hu
            refine ⟨h1, hJ.join hu rfl rfl (om2.setWord i j hv) ?_ (by simp [fencedM])⟩
            intro i2 c2 hc2
            obtain ⟨y0, g1, g2, -, g4⟩ := setWord_keep hc2
            rw [g2, g4]; exact ht2 i2 y0 g1
        · refine act_cas_okne T gg V O kind k0 k1 k2 k3 k4 k5 k6 k7 k8 hq hv hvo hj ec eW (v := getWord (drainAll m.cells q).1 i j) hvw (JM b0 a B tn bm k L m vs (fencedM m t q)) hr (fun w1 g o H hg ho => ?_) fun w1 hJ => ?_
          · refine (hf_any H hq hx hj hb hg ho).mono fun e w2 h => ?_
            obtain ⟨h1, h2, L', c', hU, hc', hjl, bc, n, cap, bw, wc, f1, f2, f3, f4, f5, f6, f7, f8, f9, f10, f11⟩ := h
            exact ⟨h1, h2, bc, n, cap, bw, wc, f1, f2, f3, f4, f5, f6, f7, f8, f9, fun w3 h3 => ⟨_, L', H, hU.then0 h3⟩⟩
          · have hP := hJ.mem
            refine (pcas_ok hP.1 hP.2 T.cellsOk hwl hq h8 ok cc gg W O V x hl (badN_zero hb) hv hvo).mono fun e w' h => ?_
            obtain ⟨h1, vs', hu⟩ := h
            subst ec eW
            simp only [Int.toNat_natCast] at h1 hu
            rw [if_neg hvw] at hu
            exact ⟨h1, hJ.join hu rfl rfl om2 ht2 (by simp [fencedM])⟩
      · refine act_cas_fence T cc gg W V O kind k0 k1 k2 k3 k4 k5 k6 k7 k8 hq hv hvo (n := (drainAll m.cells q).2) (by omega) (JM b0 a B tn bm k L m vs (fencedM m t q)) hr (fun w1 g o H hg ho => ?_) fun w1 hJ => casFail w1 B.bM t cc gg W O V (by omega) ?_
        · refine (rfence_any H.rep H.om H.ol H.top hq).mono fun e w2 h => ?_
          obtain ⟨h1, L', hU, e1⟩ := h
          exact ⟨h1, hU.mod.heap ho hg, _, L', H, hU⟩
        · have hP := hJ.mem
          have hA := two_alloc w1 (refBox cc gg) (.cells #[.int .i64 O, .int .i64 V] 3)
          have hw := pwhole_ok (hP.1.keep0 hA) (hP.2.keep hA) T.cellsOk hwl hq h8 cc gg W (row2 w1 cc gg O V) (by simp) ok x hl (by simp [hv, hvo])
          rw [badN_pos hb] at hw
          refine hw.mono fun e w' h => ?_
          obtain ⟨h1, vs', hu⟩ := h
          exact ⟨h1, hJ.join ((PUp.quiet hP.1 hA).trans hu) rfl rfl om2 ht2 (by simp [fencedM])⟩
  · have hrg := atE_range m.cells cc gg W
    refine act_cas_at T cc gg W V O kind k0 k1 k2 k3 k4 k5 k6 k7 k8 hq (code := atE m.cells cc gg W) (by omega) (fun w1 H => rat_any H.rep H.om H.ol H.top cc gg W) fun w1 H => casFail w1 B.bM t cc gg W O V he ?_
    have H2 := H.keep (two_alloc w1 (refBox cc gg) (.cells #[.int .i64 O, .int .i64 V] 3))
    exact (wholeAt H2 hq cc gg W (row2 w1 cc gg O V) (by simp) he).mono fun e w' h => ⟨h.1, _, _, _, (H2.prog h.2).up (Nat.le_succ k)⟩
end Go.Proofs.YtamfbfajlfbooaaDoor
end
/- quiescentlaw1.memoryAct: any act. -/
section
namespace Go.Proofs.YtamfbfajlfbooaaDoor
open Go.RowKit Qs Qh
variable {b0 wr w1 w2 : World} {a : Nat → Addr} {B : PB} {tn bm k : Nat} {L : Lay} {m : M} {vs : List Value}
theorem errOf_two (a : Nat → Addr) : errOf' a 2 = errV a 1 := errOf_ne a (by omega)
theorem actBad (T : MemRel b0 a B tn bm k L m vs wr) (cc gg W V O : Int) (kind : ByteArray) (k0 : ¬ kind = ⟨#[102, 111, 114, 99, 101]⟩) (k1 : ¬ kind = ⟨#[112, 101, 101, 107]⟩) {t : Int} (ht : t < 0 ∨ (m.waits.length : Int) ≤ t) :
    Calls Tryd.prog 78 #[.pointer (some ⟨B.bM, 0, none⟩), .pointer (some ⟨bm, 0, none⟩), .agg #[.string kind, .int .i64 t, .int .i64 cc, .int .i64 gg, .int .i64 W, .int .i64 V, .int .i64 O]] wr (actOk b0 a B tn bm (k + 1)) := by
  have hwl := T.wl
  have H := wBox_keep T kind t cc gg W V O
  by_cases k2 : kind = ⟨#[108, 111, 97, 100]⟩
  · subst k2
    refine act_load_thread T cc gg W V O ht ?_
    rw [errOf_two]; exact pload_thread H.mem H.low.E t ht hwl cc gg W
  by_cases k3 : kind = ⟨#[115, 116, 111, 114, 101]⟩
  · subst k3
    refine act_store_thread T cc gg W V O ht ?_
    rw [errOf_two]; exact pstore_thread H.mem H.low.E t ht hwl cc gg W V
  by_cases k4 : kind = ⟨#[100, 114, 97, 105, 110]⟩
  · subst k4
    refine act_drain_thread T cc gg W V O ht ?_
    rw [errOf_two]; exact pdrain_thread H.mem H.low.E t ht hwl
  by_cases k5 : kind = ⟨#[102, 101, 110, 99, 101]⟩
  · subst k5
    refine act_fence_thread T cc gg W V O ht ?_
    rw [errOf_two]; exact pfence_thread H.mem H.low.E t ht hwl
  by_cases k6 : kind = ⟨#[97, 108, 108, 111, 99]⟩
  · subst k6
    refine act_alloc_thread T cc gg W V O ht ?_
    rw [errOf_two]; exact palloc_thread H.mem H.low.E t ht hwl
  by_cases k7 : kind = ⟨#[102, 114, 101, 101]⟩
  · subst k7
    refine act_free_thread T cc gg W V O ht ?_
    have HA := H.keep ((Mod.refl noF (wBox wr ⟨#[102, 114, 101, 101]⟩ t cc gg W V O)).alloc (refBox cc gg))
    rw [errOf_two]
    refine (pfree_fail _ B.bM t cc gg (Pst := Mod noF ((wBox wr ⟨#[102, 114, 101, 101]⟩ t cc gg W V O).alloc (refBox cc gg))) (pwhole_thread HA.mem HA.low.E t ht hwl cc gg 0 _)).mono fun e w' h => ⟨h.1, ?_⟩
    exact ((Mod.refl noF _).alloc _).trans0 h.2
  by_cases k8 : kind = ⟨#[115, 119, 97, 112]⟩
  · subst k8
    refine act_swap_thread T cc gg W V O ht fun w1 H => swapFail w1 B.bM t cc gg W V (by omega) ?_
    have H2 := H.keep (two_alloc w1 (refBox cc gg) (.cells #[.int .i64 V] 3))
    rw [errOf_two]
    exact (pwhole_thread H2.mem H2.low.E t ht hwl cc gg W _).mono fun e w' h => ⟨h.1, _, _, _, (H2.keep h.2).up (Nat.le_succ k)⟩
  · refine act_cas_thread T cc gg W V O kind k0 k1 k2 k3 k4 k5 k6 k7 k8 ht fun w1 H => casFail w1 B.bM t cc gg W O V (by omega) ?_
    have H2 := H.keep (two_alloc w1 (refBox cc gg) (.cells #[.int .i64 O, .int .i64 V] 3))
    rw [errOf_two]
    exact (pwhole_thread H2.mem H2.low.E t ht hwl cc gg W _).mono fun e w' h => ⟨h.1, _, _, _, (H2.keep h.2).up (Nat.le_succ k)⟩
theorem memoryAct_any (T : MemRel b0 a B tn bm k L m vs wr) (hk : k < 1000) (kind : ByteArray) (t cc gg W V O : Int) :
    Calls Tryd.prog 78 #[.pointer (some ⟨B.bM, 0, none⟩), .pointer (some ⟨bm, 0, none⟩), .agg #[.string kind, .int .i64 t, .int .i64 cc, .int .i64 gg, .int .i64 W, .int .i64 V, .int .i64 O]] wr (actOk b0 a B tn bm (k + 1)) := by
  by_cases k0 : kind = ⟨#[102, 111, 114, 99, 101]⟩
  · subst k0; exact actForce T cc gg W V O t
  by_cases k1 : kind = ⟨#[112, 101, 101, 107]⟩
  · subst k1; exact actPeek T cc gg W V O t
  by_cases ht : t < 0 ∨ (m.waits.length : Int) ≤ t
  · exact actBad T cc gg W V O kind k0 k1 ht
  obtain ⟨j, rfl⟩ := Int.eq_ofNat_of_zero_le (show 0 ≤ t by omega)
  have hq : m.waits[j]? = some m.waits[j] := List.getElem?_eq_getElem (by omega)
  by_cases k2 : kind = ⟨#[108, 111, 97, 100]⟩
  · subst k2; exact actLoad T cc gg W V O hq
  by_cases k3 : kind = ⟨#[115, 116, 111, 114, 101]⟩
  · subst k3; exact actStore T cc gg W V O hq
  by_cases k4 : kind = ⟨#[100, 114, 97, 105, 110]⟩
  · subst k4; exact actDrain T cc gg W V O hq
  by_cases k5 : kind = ⟨#[102, 101, 110, 99, 101]⟩
  · subst k5; exact actFence T cc gg W V O hq
  by_cases k6 : kind = ⟨#[97, 108, 108, 111, 99]⟩
  · subst k6; exact actAlloc T hk cc gg W V O hq
  by_cases k7 : kind = ⟨#[102, 114, 101, 101]⟩
  · subst k7; exact actFree T cc gg W V O hq
  by_cases k8 : kind = ⟨#[115, 119, 97, 112]⟩
  · subst k8; exact actSwap T cc gg W V O hq
  · exact actCas T cc gg W V O kind k0 k1 k2 k3 k4 k5 k6 k7 k8 hq
end Go.Proofs.YtamfbfajlfbooaaDoor
end
/- MemoryActs, walked. -/
section
namespace Go.Proofs.YtamfbfajlfbooaaDoor
open Go.RowKit Qs Qh
theorem memStart {b0 w1 w2 : World} {a : Nat → Addr} {B : PB} {n t bm bc bw : Nat} (E : ErrsAt b0 a) (h1 : 1 ≤ n) (hn : n ≤ 64) (ht : t ≤ 6) (P : PMV w1 B (List.replicate n freshCell) (List.replicate t []) (List.replicate t (.slice none 0 0))) (hm : Mod noF b0 w1) (hl : ∀ x, PFoot B (List.replicate t (.slice none 0 0)) x → b0.heap.size ≤ x) (N : NewRel w1 n t bm bc bw n w2)
    (h4 : w1.heap.size ≤ bm ∧ w1.heap.size ≤ bc ∧ w1.heap.size ≤ bw ∧ bm < w1.heap.size + 3 ∧ bc < w1.heap.size + 3 ∧ bw < w1.heap.size + 3 ∧ bm ≠ bc ∧ bm ≠ bw ∧ bc ≠ bw) :
    MemRel b0 a B t bm 0 (newL bm bc bw (w1.heap.size + 3)) (newM n t) (List.replicate t (.slice none 0 0)) w2 := by
  obtain ⟨g1, g2, g3, g4, g5, g6, g7, g8, g9⟩ := h4
  have hs := hm.size
  have om := newM_ok (n := n) (t := t) h1 hn ht
  have hM1 : Mod noF w1 w2 := Mod.below N.below
  have hfoot : ∀ x, Foot ty memK (newL bm bc bw (w1.heap.size + 3)) (newM n t) x → w1.heap.size ≤ x := by
    intro x hx
    obtain ⟨a, i, hK, _, rfl⟩ := hx
    simp only [memK, Bool.or_eq_true, beq_iff_eq] at hK
    rcases hK with (((rfl | rfl) | rfl) | rfl) | rfl <;> simp only [newL] <;> omega
  refine ⟨P.keep0 hM1, ⟨E.four, hm.trans0 hM1, hl⟩, E, newM_rep N.mem N.cells N.waits N.words (by omega) (by omega) (by omega) g7 g8 g9, ⟨om.cells1, om.cells, om.words, fun i c hc => ⟨(om.times i c hc).1, by have := (om.times i c hc).2; omega⟩, om.waits, om.wlen, fun t l hl x hx => by
      have := om.wval t l hl x hx; exact ⟨this.1, this.2.1, this.2.2.1, this.2.2.2.1, this.2.2.2.2.1, this.2.2.2.2.2.1, by have := this.2.2.2.2.2.2; omega⟩, by omega⟩, newL_ok hn ht, rfl, ?_, ?_, fun x hx => Nat.le_trans hs (hfoot x hx), by simp [newM]⟩
  · intro i c hc
    have : c = ⟨[0, 0, 0, 0], 0, false⟩ := List.eq_of_mem_replicate (List.mem_of_getElem? hc)
    subst this
    exact ⟨by simp, fun h => by cases h⟩
  · intro x hx e
    have h2 := hfoot x hx
    have := P.lt e
    omega
set_option maxRecDepth 100000 in
set_option maxHeartbeats 20000000 in
theorem memacts_in (n t : Nat) (h1 : 1 ≤ n) (h64 : n ≤ 64) (t1 : 1 ≤ t) (t6 : t ≤ 6) (v : Value) (l : List MAct) (w : World) (a : Nat → Addr) (E : ErrsAt w a) (R : RowsAt MAct.vals 7 w v l) (hok : ∀ x ∈ l, x.Ok) (hl : l.length ≤ 100) :
    Calls Tryd.prog 18 #[.int .i64 n, .int .i64 t, v] w fun e w' => e = .returned (.bool true) ∧ Mod noF w w' := by
  have d0 : decide ((n : Int) < 1) = false := by simp; omega
  have d1 : decide ((64 : Int) < (n : Int)) = false := by simp; omega
  have d3 : decide ((t : Int) < 1) = false := by simp; omega
  have d4 : decide ((6 : Int) < (t : Int)) = false := by simp; omega
  have d2 : decide ((100 : Int) < (l.length : Int)) = false := by simp; omega
  have HR := Lib.hid R
  have HE := Lib.hid E
  have Hok := Lib.hid hok
  obtain ⟨a0, c0, rfl, hl0, hc0, hn0, hx0⟩ := id R
  clear R E hok hx0 hn0
  go_enter Tryd.func18, Tryd.ntmps18
  go_wp2_with fail
  refine (waits_ok w a HE.out.four).mono ?_
  rintro e w0 ⟨rfl, hm0⟩
  have Hm0 := Lib.hid hm0
  clear hm0
  go_wp2_with fail
  refine (pmNew_ok n t h1 h64 t1 t6 w0).mono ?_
  rintro e w1 ⟨B, rfl, P1, hm1, hl1⟩
  have HP1 := Lib.hid P1
  have Hm1 := Lib.hid (Hm0.out.trans0 hm1)
  have Hl1 := Lib.hid hl1
  have hs0 := Hm0.out.size
  clear P1 hm1 hl1
  go_wp2_with fail
  refine (newMem_any n t w1 h64 (by omega)).mono ?_
  rintro e w2 ⟨bm, bc, bw, rfl, N2, h4⟩
  have hst := memStart HE.out h1 h64 t6 HP1.out Hm1.out (fun x hx => Nat.le_trans hs0 (Hl1.out x hx)) N2 h4
  have Hst := Lib.hid hst
  clear N2 h4 hst
  go_wp2
  go_loopw [11, 12, 13] (fun i _ _ wr => ∃ k : Nat, k ≤ l.length ∧ i = .int .i64 k ∧ ∃ L m vs, MemRel w a B t bm k L m vs wr) (fun i _ _ _ => l.length - (intOf i).toNat)
  case atStart => exact ⟨0, Nat.zero_le _, rfl, _, _, _, Hst.out⟩
  case round =>
    obtain ⟨k, hk, rfl, L, m, vs, T⟩ := hrel
    have HT := Lib.hid T
    by_cases hlt : k < l.length
    · have hd3 : decide ((k : Int) < (l.length : Int)) = true := by simp; omega
      have hki : (k : Int) < (l.length : Int) := by omega
      obtain ⟨x, hx⟩ : ∃ x, l[k]? = some x := ⟨_, List.getElem?_eq_getElem hlt⟩
      obtain ⟨a1, c1, e1, _, _, _, hcell⟩ := HR.out.frame0 T.low.mod
      obtain ⟨b, off, rfl, hb, hj⟩ := hcell k x hx
      simp only [Value.slice.injEq, Option.some.injEq, true_and] at e1
      obtain ⟨rfl, rfl⟩ := e1
      have o0 : wr.cell? ⟨b, off + k * 7, none⟩ = some (.string x.kind) := hj 0 _ rfl
      have o1 : wr.cell? ⟨b, off + k * 7 + 1, none⟩ = some (.int .i64 x.T) := hj 1 _ rfl
      have o2 : wr.cell? ⟨b, off + k * 7 + 2, none⟩ = some (.int .i64 x.cell) := hj 2 _ rfl
      have o3 : wr.cell? ⟨b, off + k * 7 + 3, none⟩ = some (.int .i64 x.gen) := hj 3 _ rfl
      have o4 : wr.cell? ⟨b, off + k * 7 + 4, none⟩ = some (.int .i64 x.W) := hj 4 _ rfl
      have o5 : wr.cell? ⟨b, off + k * 7 + 5, none⟩ = some (.int .i64 x.V) := hj 5 _ rfl
      have o6 : wr.cell? ⟨b, off + k * 7 + 6, none⟩ = some (.int .i64 x.Old) := hj 6 _ rfl
      obtain ⟨kind, tt, cc, gg, W, V, old⟩ := x
      simp only at o0 o1 o2 o3 o4 o5 o6
      clear hcell hj hx T
      go_wp2_with fail
      refine (memoryAct_any HT.out (by omega) kind tt cc gg W V old).mono ?_
      rintro e w3 ⟨rfl, L3, m3, vs3, T3⟩
      have HT3 := Lib.hid T3
      clear T3 o0 o1 o2 o3 o4 o5 o6
      go_wp2
      go_loopw [13] (fun i wr => ∃ j : Nat, j ≤ t ∧ i = .int .i64 j ∧ MemRel w a B t bm (k + 1) L3 m3 vs3 wr) (fun i _ => t - (intOf i).toNat)
      case atStart => exact ⟨0, Nat.zero_le _, rfl, HT3.out⟩
      case round =>
        obtain ⟨j, hj, rfl, Tq⟩ := hrel
        have HTq := Lib.hid Tq
        have htr := Tq.thr
        clear Tq
        by_cases hjt : j < t
        · have hdj : decide ((j : Int) < (t : Int)) = true := by simp; omega
          have hq : m3.waits[j]? = some m3.waits[j] := List.getElem?_eq_getElem (by omega)
          generalize m3.waits[j] = q at hq
          have Hq := Lib.hid hq
          clear hq
          have hpw : ∀ w1, Qh.Mod noF wr w1 → Calls Tryd.prog 32 #[.pointer (some ⟨B.bM, 0, none⟩), .int .i64 j] w1 fun e w' => e = .returned (.int .i64 q.length) ∧ w' = w1 := fun w1 h => (pwaiting_ok (HTq.out.mem.keep0 h) Hq.out HTq.out.wl).mono fun _ _ h => ⟨h.1, h.2.symm⟩
          have pw0 := HTq.out.rep.waits_at rfl HTq.out.ol
          have pw1 := waits_row HTq.out.rep rfl HTq.out.ol Hq.out
          obtain ⟨ra, rcp, hrow⟩ := row_slice HTq.out.ol Hq.out
          rw [hrow] at pw1
          rw [HTq.out.top] at pw0
          have iT : (j : Int) < (m3.waits.length : Int) := by omega
          go_wp2
          go_quiet (first | (go_at_call 32; refine Calls.quiet_of_same (hpw _ ?_); exact (Qh.Mod.refl noF _).drewN _))
          go_wp2
          go_roundw
          case rel => exact ⟨j + 1, by omega, by go_num, HTq.out.keep ((Mod.refl noF _).drewN _)⟩
          case measure => simp [intOf]; omega
        · have hdj : decide ((j : Int) < (t : Int)) = false := by simp; omega
          go_wp2
          go_roundw
          case rel => exact ⟨k + 1, by omega, by go_num, _, _, _, HTq.out⟩
          case measure => simp [intOf]; omega
    · have hd3 : decide ((k : Int) < (l.length : Int)) = false := by simp; omega
      clear T
      have hb1 := pwaiting_bad HT.out.mem HT.out.low.E (-1) (.inl (by omega)) HT.out.wl
      have Hb1 := Lib.hid hb1
      clear hb1
      go_wp2_with fail
      refine Hb1.out.mono ?_
      rintro e w3 ⟨rfl, hm3⟩
      have HT3 := Lib.hid (HT.out.keep hm3)
      clear hm3
      have hb2 := pwaiting_bad HT3.out.mem HT3.out.low.E t (.inr (by rw [HT3.out.thr]; omega)) HT3.out.wl
      have Hb2 := Lib.hid hb2
      clear hb2
      go_wp2_with fail
      refine Hb2.out.mono ?_
      rintro e w4 ⟨rfl, hm4⟩
      have HT4 := Lib.hid (HT3.out.keep hm4)
      clear hm4
      go_wp2
      go_ret
      exact ⟨rfl, HT4.out.low.mod⟩
end Go.Proofs.YtamfbfajlfbooaaDoor
end
