/- package memory: Fence. -/
import Derived.Test.YtamfbfajlfbooaaDoorRPDrain
import Derived.Test.YtamfbfajlfbooaaDoorRm2
import Derived.Deep.LoopGhost
set_option linter.unusedVariables false
set_option linter.unusedSimpArgs false
set_option linter.unusedSectionVars false
namespace Go.Proofs.YtamfbfajlfbooaaDoor
open Go.RowKit Qs Qh
/-- What waits is right. -/
def okW (q : List Wt) : Prop := ∀ x ∈ q, isWord x.v = true ∧ 0 ≤ x.w ∧ x.w < 4
theorem storeE_ok {l : List Cell} {x : Wt} (h : isWord x.v = true ∧ 0 ≤ x.w ∧ x.w < 4) : storeE l x.c x.g x.w x.v = if hereIn l x.c x.g then 0 else 7 := by
  obtain ⟨h1, h2, h3⟩ := h
  unfold storeE
  simp [h1, h2, h3]
theorem drain1_store {l : List Cell} {x : Wt} (h : isWord x.v = true ∧ 0 ≤ x.w ∧ x.w < 4) : (drain1 l x).1 = if storeE l x.c x.g x.w x.v = 0 then setWord l x.c.toNat x.w.toNat x.v else l := by
  rw [storeE_ok h]
  unfold drain1
  cases hereIn l x.c x.g <;> simp
theorem setWord_keep {l : List Cell} {c j : Nat} {v : Int} {i : Nat} {y : Cell} (h : (setWord l c j v)[i]? = some y) : ∃ y0, l[i]? = some y0 ∧ y.times = y0.times ∧ y.words.length = y0.words.length ∧ y.here = y0.here := by
  unfold setWord at h
  rw [List.getElem?_modify] at h
  cases hl : l[i]? with
  | none => rw [hl] at h; simp at h
  | some y0 =>
    rw [hl] at h
    by_cases e : c = i
    · obtain rfl := Option.some.inj h
      exact ⟨y0, rfl, by simp [e], by simp [e], by simp [e]⟩
    · obtain rfl := Option.some.inj h
      exact ⟨y0, rfl, by simp [e], by simp [e], by simp [e]⟩
/-- Cells that are well: their numbers' bounds. -/
structure CellsOk (l : List Cell) : Prop where
  len : l.length ≤ 64
  times : timesOk l
  words : wordsOk l
theorem CellsOk.setWord {l : List Cell} (h : CellsOk l) (c j : Nat) (v : Int) : CellsOk (Qs.setWord l c j v) :=
  ⟨by unfold Qs.setWord; rw [List.length_modify]; exact h.len, fun i y hy => by obtain ⟨y0, h0, e, _⟩ := setWord_keep hy; rw [e]; exact h.times i y0 h0, fun i y hy => by obtain ⟨y0, h0, _, e, _⟩ := setWord_keep hy; rw [e]; exact h.words i y0 h0⟩
theorem CellsOk.drain1 {l : List Cell} (h : CellsOk l) (x : Wt) : CellsOk (Qs.drain1 l x).1 := by
  unfold Qs.drain1
  split
  · exact h.setWord _ _ _
  · exact h
theorem CellsOk.drainAll : ∀ (q : List Wt) {l : List Cell}, CellsOk l → CellsOk (Qs.drainAll l q).1
  | [], _, h => h
  | x :: q, l, h => CellsOk.drainAll q (h.drain1 x)
/-- The number of a fence's error. -/
def badN (l : List Cell) (q : List Wt) : Int := if (drainAll l q).2 = 0 then 0 else 7
theorem badN_snoc (l : List Cell) (pre : List Wt) (x : Wt) : badN l (pre ++ [x]) = if hereIn (drainAll l pre).1 x.c x.g then badN l pre else 7 := by
  unfold badN
  rw [drainAll_snoc]
  have : (drain1 (drainAll l pre).1 x).2 = !hereIn (drainAll l pre).1 x.c x.g := by
    unfold drain1
    cases hereIn (drainAll l pre).1 x.c x.g <;> rfl
  rw [this]
  cases hereIn (drainAll l pre).1 x.c x.g <;> simp
variable {w : World} {B : PB} {l : List Cell} {ws : List (List Wt)} {vs : List Value} {a : Nat → Addr}
/-- Behind some drains of a thread. -/
def PFenced (w : World) (a : Nat → Addr) (B : PB) (l : List Cell) (ws : List (List Wt)) (vs : List Value) (t : Nat) (q : List Wt) (k : Nat) (v : Value) (wr : World) : Prop :=
  ∃ pre r vs', q = pre ++ r ∧ r.length = k ∧ v = errOf' a (badN l pre) ∧ PUp w B vs wr (drainAll l pre).1 (ws.set t r) vs'
set_option maxRecDepth 100000 in
set_option maxHeartbeats 4000000 in
theorem pfence_any {b0 : World} (h : PMV w B l ws vs) (E : PLow b0 w a B vs) (C : CellsOk l) {t : Nat} {q : List Wt} (hq : ws[t]? = some q) (hn6 : ws.length ≤ 6) (hq8 : q.length ≤ 8) (hw : okW q) :
    Calls Tryd.prog 35 #[.pointer (some ⟨B.bM, 0, none⟩), .int .i64 t] w fun e w' => e = .returned (errOf' a (badN l q)) ∧ ∃ vs', PUp w B vs w' (drainAll l q).1 (ws.set t []) vs' := by
  have htl := (List.getElem?_eq_some_iff.1 hq).1
  have hback : ws.set t q = ws := by
    obtain ⟨h1, h2⟩ := List.getElem?_eq_some_iff.1 hq
    subst h2; exact List.set_getElem_self h1
  have H := Lib.hid h
  have HE := Lib.hid E
  have HC := Lib.hid C
  have Hq := Lib.hid hq
  have Hw := Lib.hid hw
  have Hback := Lib.hid hback
  clear h E C hq hw hback
  go_enter Tryd.func35, Tryd.ntmps35
  go_wp2_with fail
  refine (pthread_ok H.out t htl).mono ?_
  rintro e w' ⟨rfl, rfl⟩
  go_wp2
  go_loopg [6, 7] q.length (fun k v _ wr => PFenced w a B l ws vs t q k v wr)
  case atStart =>
    refine ⟨[], q, vs, rfl, rfl, rfl, ?_⟩
    rw [Hback.out]
    exact PUp.quiet H.out (Mod.refl _ _)
  case round =>
    rename_i wr
    obtain ⟨pre, r, vs', hqr, hrk, rfl, hU⟩ := hrel
    have hwq : (ws.set t r)[t]? = some r := by simp [htl]
    have hm := hU.rep.slice
    have hb := hU.rep.lt (x := B.bM) (.inl rfl)
    have hb2 := hU.rep.lt (x := B.bW) (.inr (.inr (.inr (.inl rfl))))
    obtain ⟨v, ra, c, _, _, k1, k2, k3, _⟩ := hU.rep.rowAt hwq
    rw [List.length_set] at hm
    have htn : (t : Int) < (ws.length : Int) := by omega
    have hrl : r.length ≤ 8 := by rw [hqr] at hq8; simp at hq8; omega
    have L1 := HE.out.up hU
    have HU := Lib.hid hU
    have HL := Lib.hid L1
    have Hqr := Lib.hid hqr
    have Hwq := Lib.hid hwq
    have Hrk := Lib.hid hrk
    clear hU L1 hqr hwq hrk
    cases r with
    | nil =>
      simp only [List.length_nil] at k3
      go_wp2
      go_ret
      have hp : q = pre := by have := Hqr.out; simpa using this
      rw [hp]
      exact ⟨rfl, _, HU.out⟩
    | cons x r =>
      have hx := Hw.out x (by rw [Hqr.out]; simp)
      have hcall := pdrain_some HU.out.rep HL.out (HC.out.drainAll pre).len (HC.out.drainAll pre).times (HC.out.drainAll pre).words Hwq.out (by rw [List.length_set]; exact hn6) (by simp at hrl; omega)
      unfold pdrainE at hcall
      rw [← drain1_store hx, storeE_ok hx] at hcall
      simp only [List.length_cons] at k3
      have d1 : decide ((0 : Int) < ((r.length + 1 : Nat) : Int)) = true := by rw [decide_eq_true_eq]; omega
      have d2 : decide ((0 : Int) < (r.length : Int) + 1) = true := by rw [decide_eq_true_eq]; omega
      have hbn := badN_snoc l pre x
      have hda := drainAll_snoc l pre x
      have Hda := Lib.hid (show (drainAll l (pre ++ [x])).1 = (drain1 (drainAll l pre).1 x).1 by rw [hda])
      clear hda
      cases hin : hereIn (drainAll l pre).1 x.c x.g with
      | true =>
        rw [hin, if_pos rfl] at hcall hbn
        simp only [errOf', if_true] at hcall
        have Hcall := Lib.hid hcall
        have Hbn := Lib.hid hbn
        clear hcall hbn hin
        go_wp2_with fail
        refine Hcall.out.mono ?_
        rintro e w5 ⟨rfl, vs5, hU5⟩
        have Hu5 := Lib.hid (HU.out.trans hU5)
        clear hU5 Hcall
        go_wp2
        go_roundg r.length
        case measure => have := Hrk.out; simp at this; omega
        case rel =>
          refine ⟨pre ++ [x], r, vs5, by rw [Hqr.out]; simp, rfl, by rw [Hbn.out], ?_⟩
          have := Hu5.out
          rw [Hda.out]
          simpa only [List.set_set] using this
      | false =>
        rw [hin] at hcall hbn
        simp only [errOf', errV, if_false, Bool.false_eq_true, show ((7 : Int) = 0) = False by decide, show (7 : Int).toNat - 1 = 6 from rfl] at hcall hbn
        have Hcall := Lib.hid hcall
        have Hbn := Lib.hid hbn
        clear hcall hbn hin
        go_wp2_with fail
        refine Hcall.out.mono ?_
        rintro e w5 ⟨rfl, vs5, hU5⟩
        have Hu5 := Lib.hid (HU.out.trans hU5)
        clear hU5 Hcall
        go_wp2
        go_roundg r.length
        case measure => have := Hrk.out; simp at this; omega
        case rel =>
          refine ⟨pre ++ [x], r, vs5, by rw [Hqr.out]; simp, rfl, by rw [Hbn.out]; rfl, ?_⟩
          have := Hu5.out
          rw [Hda.out]
          simpa only [List.set_set] using this
end Go.Proofs.YtamfbfajlfbooaaDoor
