/- Texts that belong together, joined. -/
import Derived.Test.YtamfbfajlfbooaaDoorRPDrain
import Derived.Test.YtamfbfajlfbooaaDoorRm2
import Derived.Deep.LoopGhost
import Derived.Test.YtamfbfajlfbooaaDoorRPStore
import Derived.Deep.RegionHeld3
import Derived.Test.YtamfbfajlfbooaaDoorRDone
import Derived.Test.YtamfbfajlfbooaaDoorRm1
import Derived.Outline
import Derived.Test.YtamfbfajlfbooaaDoorRActsW
set_option linter.unusedVariables false
set_option linter.unusedSimpArgs false
set_option linter.unusedSectionVars false
/- package memory: Fence. -/
section
namespace Go.Proofs.YtamfbfajlfbooaaDoor
open Go.RowKit Qs Qh
/-- What waits is right. -/
def okW (q : List Wt) : Prop := ∀ x ∈ q, isWord x.v = true ∧ 0 ≤ x.w ∧ x.w < 4
theorem storeE_ok {l : List Cell} {x : Wt} (h : isWord x.v = true ∧ 0 ≤ x.w ∧ x.w < 4) : storeE l x.c x.g x.w x.v = if hereIn l x.c x.g then 0 else 7 := by
  obtain ⟨h1, h2, h3⟩ := h
  unfold storeE
  simp [h1, h2, h3]
theorem drain1_store {l : List Cell} {x : Wt} (h : isWord x.v = true ∧ 0 ≤ x.w ∧ x.w < 4) : (drain1 l x).1 = if storeE l x.c x.g x.w x.v = 0 then setWord l x.c.toNat x.w.toNat x.v else l := by
  rw [storeE_ok h]
  unfold drain1
  cases hereIn l x.c x.g <;> simp
theorem setWord_keep {l : List Cell} {c j : Nat} {v : Int} {i : Nat} {y : Cell} (h : (setWord l c j v)[i]? = some y) : ∃ y0, l[i]? = some y0 ∧ y.times = y0.times ∧ y.words.length = y0.words.length ∧ y.here = y0.here := by
  unfold setWord at h
  rw [List.getElem?_modify] at h
  cases hl : l[i]? with
  | none => rw [hl] at h; simp at h
  | some y0 =>
    rw [hl] at h
    by_cases e : c = i
    · obtain rfl := Option.some.inj h
      exact ⟨y0, rfl, by simp [e], by simp [e], by simp [e]⟩
    · obtain rfl := Option.some.inj h
      exact ⟨y0, rfl, by simp [e], by simp [e], by simp [e]⟩
/-- Cells that are well: their numbers' bounds. -/
structure CellsOk (l : List Cell) : Prop where
  len : l.length ≤ 64
  times : timesOk l
  words : wordsOk l
theorem CellsOk.setWord {l : List Cell} (h : CellsOk l) (c j : Nat) (v : Int) : CellsOk (Qs.setWord l c j v) :=
  ⟨by unfold Qs.setWord; rw [List.length_modify]; exact h.len, fun i y hy => by obtain ⟨y0, h0, e, _⟩ := setWord_keep hy; rw [e]; exact h.times i y0 h0, fun i y hy => by obtain ⟨y0, h0, _, e, _⟩ := setWord_keep hy; rw [e]; exact h.words i y0 h0⟩
theorem CellsOk.drain1 {l : List Cell} (h : CellsOk l) (x : Wt) : CellsOk (Qs.drain1 l x).1 := by
  unfold Qs.drain1
  split
  · exact h.setWord _ _ _
  · exact h
theorem CellsOk.drainAll : ∀ (q : List Wt) {l : List Cell}, CellsOk l → CellsOk (Qs.drainAll l q).1
  | [], _, h => h
  | x :: q, l, h => CellsOk.drainAll q (h.drain1 x)
/-- The number of a fence's error. -/
def badN (l : List Cell) (q : List Wt) : Int := if (drainAll l q).2 = 0 then 0 else 7
theorem badN_snoc (l : List Cell) (pre : List Wt) (x : Wt) : badN l (pre ++ [x]) = if hereIn (drainAll l pre).1 x.c x.g then badN l pre else 7 := by
  unfold badN
  rw [drainAll_snoc]
  have : (drain1 (drainAll l pre).1 x).2 = !hereIn (drainAll l pre).1 x.c x.g := by
    unfold drain1
    cases hereIn (drainAll l pre).1 x.c x.g <;> rfl
  rw [this]
  cases hereIn (drainAll l pre).1 x.c x.g <;> simp
variable {w : World} {B : PB} {l : List Cell} {ws : List (List Wt)} {vs : List Value} {a : Nat → Addr}
/-- Behind some drains of a thread. -/
def PFenced (w : World) (a : Nat → Addr) (B : PB) (l : List Cell) (ws : List (List Wt)) (vs : List Value) (t : Nat) (q : List Wt) (k : Nat) (v : Value) (wr : World) : Prop :=
  ∃ pre r vs', q = pre ++ r ∧ r.length = k ∧ v = errOf' a (badN l pre) ∧ PUp w B vs wr (drainAll l pre).1 (ws.set t r) vs'
set_option maxRecDepth 100000 in
set_option maxHeartbeats 4000000 in
theorem pfence_any {b0 : World} (h : PMV w B l ws vs) (E : PLow b0 w a B vs) (C : CellsOk l) {t : Nat} {q : List Wt} (hq : ws[t]? = some q) (hn6 : ws.length ≤ 6) (hq8 : q.length ≤ 8) (hw : okW q) :
    Calls Tryd.prog 35 #[.pointer (some ⟨B.bM, 0, none⟩), .int .i64 t] w fun e w' => e = .returned (errOf' a (badN l q)) ∧ ∃ vs', PUp w B vs w' (drainAll l q).1 (ws.set t []) vs' := by
  have htl := (List.getElem?_eq_some_iff.1 hq).1
  have hback : ws.set t q = ws := by
    obtain ⟨h1, h2⟩ := List.getElem?_eq_some_iff.1 hq
    subst h2; exact List.set_getElem_self h1
  have H := Lib.hid h
  have HE := Lib.hid E
  have HC := Lib.hid C
  have Hq := Lib.hid hq
  have Hw := Lib.hid hw
  have Hback := Lib.hid hback
  clear h E C hq hw hback
  go_enter Tryd.func35, Tryd.ntmps35
  go_wp2_with fail
  refine (pthread_ok H.out t htl).mono ?_
  rintro e w' ⟨rfl, rfl⟩
  go_wp2
  go_loopg [6, 7] q.length (fun k v _ wr => PFenced w a B l ws vs t q k v wr)
  case atStart =>
    refine ⟨[], q, vs, rfl, rfl, rfl, ?_⟩
    rw [Hback.out]
    exact PUp.quiet H.out (Mod.refl _ _)
  case round =>
    rename_i wr
    obtain ⟨pre, r, vs', hqr, hrk, rfl, hU⟩ := hrel
    have hwq : (ws.set t r)[t]? = some r := by simp [htl]
    have hm := hU.rep.slice
    have hb := hU.rep.lt (x := B.bM) (.inl rfl)
    have hb2 := hU.rep.lt (x := B.bW) (.inr (.inr (.inr (.inl rfl))))
    obtain ⟨v, ra, c, _, _, k1, k2, k3, _⟩ := hU.rep.rowAt hwq
    rw [List.length_set] at hm
    have htn : (t : Int) < (ws.length : Int) := by omega
    have hrl : r.length ≤ 8 := by rw [hqr] at hq8; simp at hq8; omega
    have L1 := HE.out.up hU
    have HU := Lib.hid hU
    have HL := Lib.hid L1
    have Hqr := Lib.hid hqr
    have Hwq := Lib.hid hwq
    have Hrk := Lib.hid hrk
    clear hU L1 hqr hwq hrk
    cases r with
    | nil =>
      simp only [List.length_nil] at k3
      go_wp2
      go_ret
      have hp : q = pre := by have := Hqr.out; simpa using this
      rw [hp]
      exact ⟨rfl, _, HU.out⟩
    | cons x r =>
      have hx := Hw.out x (by rw [Hqr.out]; simp)
      have hcall := pdrain_some HU.out.rep HL.out (HC.out.drainAll pre).len (HC.out.drainAll pre).times (HC.out.drainAll pre).words Hwq.out (by rw [List.length_set]; exact hn6) (by simp at hrl; omega)
      unfold pdrainE at hcall
      rw [← drain1_store hx, storeE_ok hx] at hcall
      simp only [List.length_cons] at k3
      have d1 : decide ((0 : Int) < ((r.length + 1 : Nat) : Int)) = true := by rw [decide_eq_true_eq]; omega
      have d2 : decide ((0 : Int) < (r.length : Int) + 1) = true := by rw [decide_eq_true_eq]; omega
      have hbn := badN_snoc l pre x
      have hda := drainAll_snoc l pre x
      have Hda := Lib.hid (show (drainAll l (pre ++ [x])).1 = (drain1 (drainAll l pre).1 x).1 by rw [hda])
      clear hda
      cases hin : hereIn (drainAll l pre).1 x.c x.g with
      | true =>
        rw [hin, if_pos rfl] at hcall hbn
        simp only [errOf', if_true] at hcall
        have Hcall := Lib.hid hcall
        have Hbn := Lib.hid hbn
        clear hcall hbn hin
        go_wp2_with fail
        refine Hcall.out.mono ?_
        rintro e w5 ⟨rfl, vs5, hU5⟩
        have Hu5 := Lib.hid (HU.out.trans hU5)
        clear hU5 Hcall
        go_wp2
        go_roundg r.length
        case measure => have := Hrk.out; simp at this; omega
        case rel =>
          refine ⟨pre ++ [x], r, vs5, by rw [Hqr.out]; simp, rfl, by rw [Hbn.out], ?_⟩
          have := Hu5.out
          rw [Hda.out]
          simpa only [List.set_set] using this
      | false =>
        rw [hin] at hcall hbn
        simp only [errOf', errV, if_false, Bool.false_eq_true, show ((7 : Int) = 0) = False by decide, show (7 : Int).toNat - 1 = 6 from rfl] at hcall hbn
        have Hcall := Lib.hid hcall
        have Hbn := Lib.hid hbn
        clear hcall hbn hin
        go_wp2_with fail
        refine Hcall.out.mono ?_
        rintro e w5 ⟨rfl, vs5, hU5⟩
        have Hu5 := Lib.hid (HU.out.trans hU5)
        clear hU5 Hcall
        go_wp2
        go_roundg r.length
        case measure => have := Hrk.out; simp at this; omega
        case rel =>
          refine ⟨pre ++ [x], r, vs5, by rw [Hqr.out]; simp, rfl, by rw [Hbn.out]; rfl, ?_⟩
          have := Hu5.out
          rw [Hda.out]
          simpa only [List.set_set] using this
end Go.Proofs.YtamfbfajlfbooaaDoor
end
/- package memory: Force. -/
section
namespace Go.Proofs.YtamfbfajlfbooaaDoor
open Go.RowKit Qs Qh
/-- A fence of all: cells, and how many stores found theirs gone. -/
def forceL : List Cell → List (List Wt) → List Cell × Nat
  | l, [] => (l, 0)
  | l, q :: r => ((forceL (drainAll l q).1 r).1, (drainAll l q).2 + (forceL (drainAll l q).1 r).2)
theorem forceL_snoc : ∀ (xs : List (List Wt)) (l : List Cell) (q : List Wt), forceL l (xs ++ [q]) = ((drainAll (forceL l xs).1 q).1, (forceL l xs).2 + (drainAll (forceL l xs).1 q).2)
  | [], l, q => by simp [forceL]
  | x :: xs, l, q => by
    simp only [List.cons_append, forceL]
    rw [forceL_snoc xs (drainAll l x).1 q]
    simp only [Nat.add_assoc]
theorem CellsOk.forced : ∀ (xs : List (List Wt)) {l : List Cell}, CellsOk l → CellsOk (forceL l xs).1
  | [], _, h => h
  | x :: xs, l, h => CellsOk.forced xs (h.drainAll x)
def badF (n : Nat) : Int := if n = 0 then 0 else 7
variable {w : World} {B : PB} {l : List Cell} {ws : List (List Wt)} {vs : List Value} {a : Nat → Addr}
set_option maxRecDepth 100000 in
set_option maxHeartbeats 4000000 in
theorem pforce_any {b0 : World} (h : PMV w B l ws vs) (E : PLow b0 w a B vs) (C : CellsOk l) (hn6 : ws.length ≤ 6) (hw : ∀ q ∈ ws, q.length ≤ 8 ∧ okW q) :
    Calls Tryd.prog 113 #[.pointer (some ⟨B.bM, 0, none⟩)] w fun e w' => e = .returned (errOf' a (badF (forceL l ws).2)) ∧ ∃ vs', PUp w B vs w' (forceL l ws).1 (List.replicate ws.length []) vs' := by
  have hm := h.slice
  have hb := h.lt (x := B.bM) (.inl rfl)
  have H := Lib.hid h
  have HE := Lib.hid E
  have HC := Lib.hid C
  have Hw := Lib.hid hw
  clear h E C hw
  go_enter Tryd.func113, Tryd.ntmps113
  go_wp2_with fail
  go_loopw [3, 4, 5, 11] (fun v _ _ i wr => ∃ k : Nat, k ≤ ws.length ∧ i = .int .i64 k ∧ v = errOf' a (badF (forceL l (ws.take k)).2) ∧ ∃ vs', PUp w B vs wr (forceL l (ws.take k)).1 (List.replicate k [] ++ ws.drop k) vs') (fun _ _ _ i _ => ws.length - (intOf i).toNat)
  case atStart => exact ⟨0, Nat.zero_le _, rfl, rfl, vs, PUp.quiet H.out (Mod.refl _ _)⟩
  case round =>
    obtain ⟨k, hk, rfl, rfl, vs', hU⟩ := hrel
    by_cases hlt : k < ws.length
    · have hd : decide ((k : Int) < (ws.length : Int)) = true := by rw [decide_eq_true_eq]; omega
      have hki : (k : Int) < (ws.length : Int) := by omega
      obtain ⟨q, hq⟩ : ∃ q, ws[k]? = some q := ⟨_, List.getElem?_eq_getElem hlt⟩
      obtain ⟨hq8, hqw⟩ := Hw.out q (List.mem_of_getElem? hq)
      have htk : ws.take (k + 1) = ws.take k ++ [q] := by rw [List.take_succ_eq_append_getElem hlt]; rw [List.getElem?_eq_getElem hlt] at hq; cases hq; rfl
      have hsn := forceL_snoc (ws.take k) l q
      rw [← htk] at hsn
      have hlen : (List.replicate k ([] : List Wt) ++ ws.drop k).length = ws.length := by simp; omega
      have hqk : (List.replicate k ([] : List Wt) ++ ws.drop k)[k]? = some q := by
        rw [List.getElem?_append_right (by simp)]
        simpa using hq
      have hset : (List.replicate k ([] : List Wt) ++ ws.drop k).set k [] = List.replicate (k + 1) [] ++ ws.drop (k + 1) := by
        rw [List.set_append_right _ _ (by simp), List.drop_eq_getElem_cons hlt, List.length_replicate, Nat.sub_self, List.set_cons_zero, List.replicate_succ', List.append_assoc]; rfl
      have hcall := pfence_any hU.rep (HE.out.up hU) (HC.out.forced (ws.take k)) hqk (by rw [hlen]; exact hn6) hq8 hqw
      rw [hset] at hcall
      have HU := Lib.hid hU
      have Hsn := Lib.hid hsn
      have e1 : (forceL l (ws.take (k + 1))).1 = (drainAll (forceL l (ws.take k)).1 q).1 := by rw [hsn]
      have e2 : badF (forceL l (ws.take (k + 1))).2 = if badN (forceL l (ws.take k)).1 q = 0 then badF (forceL l (ws.take k)).2 else 7 := by
        rw [hsn]
        unfold badF badN
        by_cases h1 : (drainAll (forceL l (ws.take k)).1 q).2 = 0
        · simp [h1]
        · simp [h1]
      have hbn : badN (forceL l (ws.take k)).1 q = 0 ∨ badN (forceL l (ws.take k)).1 q = 7 := by
        unfold badN; split
        · exact .inl rfl
        · exact .inr rfl
      have E1 := Lib.hid e1
      have E2 := Lib.hid e2
      clear hU hsn e1 e2 hset hqk htk hlen hq
      generalize hvv : errOf' a (badF (forceL l (ws.take k)).2) = vv
      have Hvv := Lib.hid hvv
      clear hvv
      rcases hbn with hbn | hbn
      · rw [hbn] at hcall
        simp only [errOf', if_true] at hcall
        have Hcall := Lib.hid hcall
        have Hbn := Lib.hid hbn
        clear hcall hbn
        go_wp2_with fail
        refine Hcall.out.mono ?_
        rintro e w2 ⟨rfl, vs2, hu2⟩
        have Hu2 := Lib.hid (HU.out.trans hu2)
        clear hu2 Hcall
        go_wp2_with fail
        exact ⟨⟨k + 1, by omega, by go_num, by rw [E2.out, Hbn.out, if_pos rfl]; exact Hvv.out.symm, _, by rw [E1.out]; exact Hu2.out⟩, by simp [intOf]; omega⟩
      · rw [hbn] at hcall
        simp only [errOf', errV, show ((7 : Int) = 0) = False by decide, if_false, show (7 : Int).toNat - 1 = 6 from rfl] at hcall
        have Hcall := Lib.hid hcall
        have Hbn := Lib.hid hbn
        clear hcall hbn
        go_wp2_with fail
        refine Hcall.out.mono ?_
        rintro e w2 ⟨rfl, vs2, hu2⟩
        have Hu2 := Lib.hid (HU.out.trans hu2)
        clear hu2 Hcall
        go_wp2_with fail
        exact ⟨⟨k + 1, by omega, by go_num, by rw [E2.out, Hbn.out]; rfl, _, by rw [E1.out]; exact Hu2.out⟩, by simp [intOf]; omega⟩
    · have hd : decide ((k : Int) < (ws.length : Int)) = false := by rw [decide_eq_false_iff_not]; omega
      obtain rfl : k = ws.length := by omega
      rw [List.take_length, List.drop_length, List.append_nil] at hU
      rw [List.take_length]
      generalize hvv : errOf' a (badF (forceL l ws).2) = vv
      have Hvv := Lib.hid hvv
      clear hvv
      have HU := Lib.hid hU
      clear hU
      go_wp2
      go_ret
      exact ⟨by rw [Hvv.out]; rfl, _, HU.out⟩
end Go.Proofs.YtamfbfajlfbooaaDoor
end
/- package memory: whole (and slices.ContainsFunc over its closure). -/
section
namespace Go.Proofs.YtamfbfajlfbooaaDoor
open Go.RowKit Qs Qh
variable {w : World} {B : PB} {l : List Cell} {ws : List (List Wt)} {vs : List Value} {a : Nat → Addr}
theorem wrongW (v : Int) (w : World) : Calls Tryd.prog 155 #[.int .i64 v] w fun e w' => e = .returned (.bool (!isWord v)) ∧ w = w' := by
  go_enter Tryd.func155, Tryd.ntmps155
  go_wp2_with fail
  refine (right_any v w).mono ?_
  rintro e w' ⟨rfl, rfl⟩
  go_wp2
  go_ret
  exact ⟨rfl, rfl⟩
/-- Ints that lie at an address. -/
def intsRow (w : World) (v : Value) (l : List Int) : Prop := ∃ a c, v = .slice a l.length c ∧ ∀ (i : Nat) n, l[i]? = some n → ∃ b off, a = some ⟨b, off, none⟩ ∧ b < w.heap.size ∧ w.cell? ⟨b, off + i, none⟩ = some (.int .i64 n)
def firstBad : List Int → Nat → Int
  | [], _ => -1
  | n :: r, i => if isWord n then firstBad r (i + 1) else (i : Int)
theorem firstBad_at {l : List Int} {k : Nat} {n : Int} : ∀ {s : Nat}, l[k]? = some n → (∀ (j : Nat) m, j < k → l[j]? = some m → isWord m = true) → isWord n = false → firstBad l s = ((s + k : Nat) : Int) := by
  induction l generalizing k with
  | nil => intro s h; simp at h
  | cons x r ih =>
    intro s h hj hn
    cases k with
    | zero => simp at h; subst h; simp [firstBad, hn]
    | succ k =>
      have hx := hj 0 x (by omega) rfl
      simp only [firstBad, hx, if_true]
      rw [ih (s := s + 1) (by simpa using h) (fun j m hjk hm => hj (j + 1) m (by omega) (by simpa using hm)) hn]
      congr 1; omega
theorem firstBad_none {l : List Int} : ∀ {s : Nat}, (∀ (j : Nat) m, l[j]? = some m → isWord m = true) → firstBad l s = -1 := by
  induction l with
  | nil => intro s _; rfl
  | cons x r ih =>
    intro s h
    have hx := h 0 x rfl
    simp only [firstBad, hx, if_true]
    exact ih fun j m hm => h (j + 1) m (by simpa using hm)
set_option maxHeartbeats 2000000 in
theorem indexBad (w : World) (v : Value) (l : List Int) (R : intsRow w v l) (hl : l.length ≤ 8) :
    Calls Tryd.prog 156 #[v, .func (.func 155) #[] #[]] w fun e w' => e = .returned (.int .i64 (firstBad l 0)) ∧ w = w' := by
  obtain ⟨ad, c, rfl, hx⟩ := R
  have Hx := Lib.hid hx
  clear hx
  go_enter Tryd.func156, Tryd.ntmps156
  go_wp2
  go_loop [5, 8] (fun _ i => ∃ k : Nat, k ≤ l.length ∧ i = .int .i64 k ∧ ∀ (j : Nat) m, j < k → l[j]? = some m → isWord m = true) (fun _ i => l.length - (intOf i).toNat)
  case atStart => exact ⟨0, Nat.zero_le _, rfl, fun j m hj => absurd hj (by omega)⟩
  case round =>
    obtain ⟨k, hk, rfl, hall⟩ := hrel
    have Hall := Lib.hid hall
    clear hall
    by_cases hlt : k < l.length
    · have hd : decide ((k : Int) < (l.length : Int)) = true := by rw [decide_eq_true_eq]; omega
      have hki : (k : Int) < (l.length : Int) := by omega
      obtain ⟨n, hn⟩ : ∃ n, l[k]? = some n := ⟨_, List.getElem?_eq_getElem hlt⟩
      obtain ⟨b, off, rfl, hb, hc⟩ := Hx.out k n hn
      have Hn := Lib.hid hn
      clear hn
      cases hv : isWord n with
      | true =>
        have Hv := Lib.hid hv
        clear hv
        go_wp2_with fail
        refine (wrongW n w).mono ?_
        rintro e w' ⟨rfl, rfl⟩
        rw [Hv.out]
        go_wp2
        go_round
        case rel =>
          refine ⟨k + 1, by omega, by go_num, fun j m hj hm => ?_⟩
          by_cases e : j = k
          · subst e; rw [Hn.out] at hm; cases hm; exact Hv.out
          · exact Hall.out j m (by omega) hm
        case measure => simp [intOf]; omega
      | false =>
        have Hv := Lib.hid hv
        clear hv
        go_wp2_with fail
        refine (wrongW n w).mono ?_
        rintro e w' ⟨rfl, rfl⟩
        rw [Hv.out]
        go_wp2
        go_ret
        refine ⟨?_, rfl⟩
        rw [firstBad_at Hn.out Hall.out Hv.out]
        simp
    · have hd : decide ((k : Int) < (l.length : Int)) = false := by rw [decide_eq_false_iff_not]; omega
      go_wp2
      go_ret
      refine ⟨?_, rfl⟩
      rw [firstBad_none fun j m hm => Hall.out j m (by have := (List.getElem?_eq_some_iff.1 hm).1; omega) hm]
      rfl
theorem firstBad_neg (l : List Int) (s : Nat) : decide (0 ≤ firstBad l s) = !l.all isWord := by
  induction l generalizing s with
  | nil => rfl
  | cons x r ih =>
    simp only [firstBad, List.all_cons]
    by_cases h : isWord x = true
    · simp only [h, if_true, ih, Bool.true_and]
    · have h' : isWord x = false := by simpa using h
      simp [h']
theorem containsBad (w : World) (v : Value) (l : List Int) (R : intsRow w v l) (hl : l.length ≤ 8) :
    Calls Tryd.prog 154 #[v, .func (.func 155) #[] #[]] w fun e w' => e = .returned (.bool (!l.all isWord)) ∧ w = w' := by
  have hcall := indexBad w v l R hl
  have hfb := firstBad_neg l 0
  have Hcall := Lib.hid hcall
  generalize firstBad l 0 = n at *
  generalize (!l.all isWord) = bb at *
  clear hcall R
  go_enter Tryd.func154, Tryd.ntmps154
  go_wp2_with fail
  refine Hcall.out.mono ?_
  rintro e w' ⟨rfl, rfl⟩
  go_wp2
  go_ret
  exact ⟨rfl, rfl⟩
end Go.Proofs.YtamfbfajlfbooaaDoor
end
/- package memory: whole. -/
section
namespace Go.Proofs.YtamfbfajlfbooaaDoor
open Go.RowKit Qs Qh
variable {w : World} {B : PB} {l : List Cell} {ws : List (List Wt)} {vs : List Value} {a : Nat → Addr}
theorem intsRow.keep {w w' : World} {v : Value} {L : List Int} (h : intsRow w v L) (hM : Mod noF w w') : intsRow w' v L := by
  obtain ⟨a, c, e, hx⟩ := h
  refine ⟨a, c, e, fun i n hi => ?_⟩
  obtain ⟨b, off, e', hb, hc⟩ := hx i n hi
  exact ⟨b, off, e', Nat.lt_of_lt_of_le hb hM.size, hM.cell hc (fun e => e)⟩
set_option maxHeartbeats 2000000 in
theorem pwhole_err2 {b0 : World} (h : PMV w B l ws vs) (E : PLow b0 w a B vs) (C : CellsOk l) (hn6 : ws.length ≤ 6) {t : Nat} {q : List Wt} (hq : ws[t]? = some q) (hql : q.length ≤ 8) (c r W_ : Int) {v : Value} {L : List Int} (R : intsRow w v L) (hL : L.length ≤ 8) (he : loadE l c r W_ = (0, 2)) :
    Calls Tryd.prog 146 #[.pointer (some ⟨B.bM, 0, none⟩), .int .i64 t, .agg #[.int .i64 c, .int .i64 r], .int .i64 W_, v] w fun e w' => e = .returned (errOf' a 2) ∧ PUp w B vs w' l ws vs := by
  simp only [errOf', errV, show ((2 : Int) = 0) = False by decide, if_false, show (2 : Int).toNat - 1 = 1 from rfl]
  have htl := (List.getElem?_eq_some_iff.1 hq).1
  have hq0 := (Mod.refl noF w).alloc (refBox c r)
  have h2 := h.keep0 hq0
  have hu := PUp.quiet h hq0
  have hbx := heap_alloc_new w (refBox c r)
  have E2 := E.keep hq0
  have R2 := R.keep hq0
  obtain ⟨wz, hwz⟩ : ∃ wz, wz = w.alloc (refBox c r) := ⟨_, rfl⟩
  rw [← hwz] at h2 hu hbx E2 R2
  have hS : ∀ W, Mod noF wz.drew W → (Mod noF wz.drew W ∧ W.cell? ⟨B.bM, 0, none⟩ = some (.pointer (some ⟨B.bA, 0, none⟩)) ∧ W.cell? ⟨w.heap.size, 0, none⟩ = some (.int .i64 c) ∧ W.cell? ⟨w.heap.size, 1, none⟩ = some (.int .i64 r)) := by
    intro W hW
    have hz := (Mod.refl noF wz).drew.trans0 hW
    have hx := hz.heap hbx (fun e => e)
    exact ⟨hW, (h2.keep0 hz).ptr, (cell_of_heap hx 0).trans rfl, (cell_of_heap hx 1).trans rfl⟩
  have hcall : ∀ W, Mod noF wz.drew W → Calls Tryd.prog 66 #[.pointer (some ⟨B.bA, 0, none⟩), .agg #[.int .i64 c, .int .i64 r], .int .i64 W_] W fun e w' => e = .returned (.tuple #[.int .i64 (loadE l c r W_).1, errOf' a (loadE l c r W_).2]) ∧ Mod noF wz.drew W ∧ Mod noF wz.drew w' := by
    intro W hW
    have hz := (Mod.refl noF wz).drew.trans0 hW
    exact (aload_any (h2.keep0 hz).arena (E2.E.keep hz) C.len C.times c r W_).mono fun e w' h => ⟨h.1, hW, hW.trans0 h.2⟩
  rw [he] at hcall
  simp only [errOf', errV, show ((2 : Int) = 0) = False by decide, if_false, show (2 : Int).toNat - 1 = 1 from rfl] at hcall
  obtain ⟨-, z0, z1, z2⟩ := hS wz.drew (Mod.refl _ _)
  have zb := h2.lt (x := B.bM) (.inl rfl)
  have zx := lt_of_block hbx
  have HS := Lib.hid hS
  have Hcall := Lib.hid hcall
  have H := Lib.hid h2
  have Hu := Lib.hid hu
  have HE := Lib.hid E2
  have HR := Lib.hid R2
  have Hq := Lib.hid hq
  have HC := Lib.hid C
  obtain ⟨la, lc, rfl, _⟩ := R
  clear hcall h h2 hu hq0 E E2 C R2 hq he hbx hS
  go_enter Tryd.func146, Tryd.ntmps146
  go_wp2_with fail
  rw [← hwz]
  refine (pthread_ok H.out t htl).mono ?_
  rintro e w' ⟨rfl, rfl⟩
  clear hwz
  go_wp2
  go_region_held3 (fun W => Mod noF wz.drew W ∧ W.cell? ⟨B.bM, 0, none⟩ = some (.pointer (some ⟨B.bA, 0, none⟩)) ∧ W.cell? ⟨w.heap.size, 0, none⟩ = some (.int .i64 c) ∧ W.cell? ⟨w.heap.size, 1, none⟩ = some (.int .i64 r)) ((refine HS.out _ ?_; first | assumption | exact Mod.refl _ _)) (first | (go_at_call 66; go_split_ands; refine (Hcall.out _ ?_).mono ?_; assumption; rintro e w1 ⟨rfl, hm0, hm1⟩))
  have hm1 := (Mod.refl noF wz).drew.trans0 hm1
  have Hu1 := Lib.hid (Hu.out.then0 hm1)
  clear hm1 Hcall
  go_wp2
  go_ret
  exact ⟨rfl, Hu1.out⟩
set_option maxHeartbeats 2000000 in
theorem pwhole_err7 {b0 : World} (h : PMV w B l ws vs) (E : PLow b0 w a B vs) (C : CellsOk l) (hn6 : ws.length ≤ 6) {t : Nat} {q : List Wt} (hq : ws[t]? = some q) (hql : q.length ≤ 8) (c r W_ : Int) {v : Value} {L : List Int} (R : intsRow w v L) (hL : L.length ≤ 8) (he : loadE l c r W_ = (0, 7)) :
    Calls Tryd.prog 146 #[.pointer (some ⟨B.bM, 0, none⟩), .int .i64 t, .agg #[.int .i64 c, .int .i64 r], .int .i64 W_, v] w fun e w' => e = .returned (errOf' a 7) ∧ PUp w B vs w' l ws vs := by
  simp only [errOf', errV, show ((7 : Int) = 0) = False by decide, if_false, show (7 : Int).toNat - 1 = 6 from rfl]
  have htl := (List.getElem?_eq_some_iff.1 hq).1
  have hq0 := (Mod.refl noF w).alloc (refBox c r)
  have h2 := h.keep0 hq0
  have hu := PUp.quiet h hq0
  have hbx := heap_alloc_new w (refBox c r)
  have E2 := E.keep hq0
  have R2 := R.keep hq0
  obtain ⟨wz, hwz⟩ : ∃ wz, wz = w.alloc (refBox c r) := ⟨_, rfl⟩
  rw [← hwz] at h2 hu hbx E2 R2
  have hS : ∀ W, Mod noF wz.drew W → (Mod noF wz.drew W ∧ W.cell? ⟨B.bM, 0, none⟩ = some (.pointer (some ⟨B.bA, 0, none⟩)) ∧ W.cell? ⟨w.heap.size, 0, none⟩ = some (.int .i64 c) ∧ W.cell? ⟨w.heap.size, 1, none⟩ = some (.int .i64 r)) := by
    intro W hW
    have hz := (Mod.refl noF wz).drew.trans0 hW
    have hx := hz.heap hbx (fun e => e)
    exact ⟨hW, (h2.keep0 hz).ptr, (cell_of_heap hx 0).trans rfl, (cell_of_heap hx 1).trans rfl⟩
  have hcall : ∀ W, Mod noF wz.drew W → Calls Tryd.prog 66 #[.pointer (some ⟨B.bA, 0, none⟩), .agg #[.int .i64 c, .int .i64 r], .int .i64 W_] W fun e w' => e = .returned (.tuple #[.int .i64 (loadE l c r W_).1, errOf' a (loadE l c r W_).2]) ∧ Mod noF wz.drew W ∧ Mod noF wz.drew w' := by
    intro W hW
    have hz := (Mod.refl noF wz).drew.trans0 hW
    exact (aload_any (h2.keep0 hz).arena (E2.E.keep hz) C.len C.times c r W_).mono fun e w' h => ⟨h.1, hW, hW.trans0 h.2⟩
  rw [he] at hcall
  simp only [errOf', errV, show ((7 : Int) = 0) = False by decide, if_false, show (7 : Int).toNat - 1 = 6 from rfl] at hcall
  obtain ⟨-, z0, z1, z2⟩ := hS wz.drew (Mod.refl _ _)
  have zb := h2.lt (x := B.bM) (.inl rfl)
  have zx := lt_of_block hbx
  have HS := Lib.hid hS
  have Hcall := Lib.hid hcall
  have H := Lib.hid h2
  have Hu := Lib.hid hu
  have HE := Lib.hid E2
  have HR := Lib.hid R2
  have Hq := Lib.hid hq
  have HC := Lib.hid C
  obtain ⟨la, lc, rfl, _⟩ := R
  clear hcall h h2 hu hq0 E E2 C R2 hq he hbx hS
  go_enter Tryd.func146, Tryd.ntmps146
  go_wp2_with fail
  rw [← hwz]
  refine (pthread_ok H.out t htl).mono ?_
  rintro e w' ⟨rfl, rfl⟩
  clear hwz
  go_wp2
  go_region_held3 (fun W => Mod noF wz.drew W ∧ W.cell? ⟨B.bM, 0, none⟩ = some (.pointer (some ⟨B.bA, 0, none⟩)) ∧ W.cell? ⟨w.heap.size, 0, none⟩ = some (.int .i64 c) ∧ W.cell? ⟨w.heap.size, 1, none⟩ = some (.int .i64 r)) ((refine HS.out _ ?_; first | assumption | exact Mod.refl _ _)) (first | (go_at_call 66; go_split_ands; refine (Hcall.out _ ?_).mono ?_; assumption; rintro e w1 ⟨rfl, hm0, hm1⟩))
  have hm1 := (Mod.refl noF wz).drew.trans0 hm1
  have Hu1 := Lib.hid (Hu.out.then0 hm1)
  clear hm1 Hcall
  go_wp2
  go_ret
  exact ⟨rfl, Hu1.out⟩
set_option maxHeartbeats 2000000 in
theorem pwhole_bad {b0 : World} (h : PMV w B l ws vs) (E : PLow b0 w a B vs) (C : CellsOk l) (hn6 : ws.length ≤ 6) {t : Nat} {q : List Wt} (hq : ws[t]? = some q) (hql : q.length ≤ 8) (c r W_ : Int) {v : Value} {L : List Int} (R : intsRow w v L) (hL : L.length ≤ 8) (x : Int) (he : loadE l c r W_ = (x, 0)) (hall : L.all isWord = false) :
    Calls Tryd.prog 146 #[.pointer (some ⟨B.bM, 0, none⟩), .int .i64 t, .agg #[.int .i64 c, .int .i64 r], .int .i64 W_, v] w fun e w' => e = .returned (errOf' a 2) ∧ PUp w B vs w' l ws vs := by
  simp only [errOf', errV, show ((2 : Int) = 0) = False by decide, if_false, show (2 : Int).toNat - 1 = 1 from rfl]
  have Hall := Lib.hid hall
  clear hall
  have htl := (List.getElem?_eq_some_iff.1 hq).1
  have hq0 := (Mod.refl noF w).alloc (refBox c r)
  have h2 := h.keep0 hq0
  have hu := PUp.quiet h hq0
  have hbx := heap_alloc_new w (refBox c r)
  have E2 := E.keep hq0
  have R2 := R.keep hq0
  obtain ⟨wz, hwz⟩ : ∃ wz, wz = w.alloc (refBox c r) := ⟨_, rfl⟩
  rw [← hwz] at h2 hu hbx E2 R2
  have hS : ∀ W, Mod noF wz.drew W → (Mod noF wz.drew W ∧ W.cell? ⟨B.bM, 0, none⟩ = some (.pointer (some ⟨B.bA, 0, none⟩)) ∧ W.cell? ⟨w.heap.size, 0, none⟩ = some (.int .i64 c) ∧ W.cell? ⟨w.heap.size, 1, none⟩ = some (.int .i64 r)) := by
    intro W hW
    have hz := (Mod.refl noF wz).drew.trans0 hW
    have hx := hz.heap hbx (fun e => e)
    exact ⟨hW, (h2.keep0 hz).ptr, (cell_of_heap hx 0).trans rfl, (cell_of_heap hx 1).trans rfl⟩
  have hcall : ∀ W, Mod noF wz.drew W → Calls Tryd.prog 66 #[.pointer (some ⟨B.bA, 0, none⟩), .agg #[.int .i64 c, .int .i64 r], .int .i64 W_] W fun e w' => e = .returned (.tuple #[.int .i64 (loadE l c r W_).1, errOf' a (loadE l c r W_).2]) ∧ Mod noF wz.drew W ∧ Mod noF wz.drew w' := by
    intro W hW
    have hz := (Mod.refl noF wz).drew.trans0 hW
    exact (aload_any (h2.keep0 hz).arena (E2.E.keep hz) C.len C.times c r W_).mono fun e w' h => ⟨h.1, hW, hW.trans0 h.2⟩
  rw [he] at hcall
  simp only [errOf', errV, if_true] at hcall
  obtain ⟨-, z0, z1, z2⟩ := hS wz.drew (Mod.refl _ _)
  have zb := h2.lt (x := B.bM) (.inl rfl)
  have zx := lt_of_block hbx
  have HS := Lib.hid hS
  have Hcall := Lib.hid hcall
  have H := Lib.hid h2
  have Hu := Lib.hid hu
  have HE := Lib.hid E2
  have HR := Lib.hid R2
  have Hq := Lib.hid hq
  have HC := Lib.hid C
  obtain ⟨la, lc, rfl, _⟩ := R
  clear hcall h h2 hu hq0 E E2 C R2 hq he hbx hS
  go_enter Tryd.func146, Tryd.ntmps146
  go_wp2_with fail
  rw [← hwz]
  refine (pthread_ok H.out t htl).mono ?_
  rintro e w' ⟨rfl, rfl⟩
  clear hwz
  go_wp2
  go_region_held3 (fun W => Mod noF wz.drew W ∧ W.cell? ⟨B.bM, 0, none⟩ = some (.pointer (some ⟨B.bA, 0, none⟩)) ∧ W.cell? ⟨w.heap.size, 0, none⟩ = some (.int .i64 c) ∧ W.cell? ⟨w.heap.size, 1, none⟩ = some (.int .i64 r)) ((refine HS.out _ ?_; first | assumption | exact Mod.refl _ _)) (first | (go_at_call 66; go_split_ands; refine (Hcall.out _ ?_).mono ?_; assumption; rintro e w1 ⟨rfl, hm0, hm1⟩))
  have hm1 := (Mod.refl noF wz).drew.trans0 hm1
  have hvar := (HE.out.E.keep hm1).var 1 (by omega)
  have Hu1 := Lib.hid (Hu.out.then0 hm1)
  have HR1 := Lib.hid (HR.out.keep hm1)
  clear hm1 Hcall
  go_wp2_with fail
  refine (containsBad w1 _ L HR1.out hL).mono ?_
  rintro e w' ⟨rfl, rfl⟩
  rw [Hall.out]
  go_wp2
  go_ret
  exact ⟨rfl, Hu1.out⟩
set_option maxHeartbeats 2000000 in
theorem pwhole_ok {b0 : World} (h : PMV w B l ws vs) (E : PLow b0 w a B vs) (C : CellsOk l) (hn6 : ws.length ≤ 6) {t : Nat} {q : List Wt} (hq : ws[t]? = some q) (hql : q.length ≤ 8) (c r W_ : Int) {v : Value} {L : List Int} (R : intsRow w v L) (hL : L.length ≤ 8) (hw : okW q) (x : Int) (he : loadE l c r W_ = (x, 0)) (hall : L.all isWord = true) :
    Calls Tryd.prog 146 #[.pointer (some ⟨B.bM, 0, none⟩), .int .i64 t, .agg #[.int .i64 c, .int .i64 r], .int .i64 W_, v] w fun e w' => e = .returned (errOf' a (badN l q)) ∧ ∃ vs', PUp w B vs w' (drainAll l q).1 (ws.set t []) vs' := by
  have Hall := Lib.hid hall
  have Hw := Lib.hid hw
  clear hall hw
  have htl := (List.getElem?_eq_some_iff.1 hq).1
  have hq0 := (Mod.refl noF w).alloc (refBox c r)
  have h2 := h.keep0 hq0
  have hu := PUp.quiet h hq0
  have hbx := heap_alloc_new w (refBox c r)
  have E2 := E.keep hq0
  have R2 := R.keep hq0
  obtain ⟨wz, hwz⟩ : ∃ wz, wz = w.alloc (refBox c r) := ⟨_, rfl⟩
  rw [← hwz] at h2 hu hbx E2 R2
  have hS : ∀ W, Mod noF wz.drew W → (Mod noF wz.drew W ∧ W.cell? ⟨B.bM, 0, none⟩ = some (.pointer (some ⟨B.bA, 0, none⟩)) ∧ W.cell? ⟨w.heap.size, 0, none⟩ = some (.int .i64 c) ∧ W.cell? ⟨w.heap.size, 1, none⟩ = some (.int .i64 r)) := by
    intro W hW
    have hz := (Mod.refl noF wz).drew.trans0 hW
    have hx := hz.heap hbx (fun e => e)
    exact ⟨hW, (h2.keep0 hz).ptr, (cell_of_heap hx 0).trans rfl, (cell_of_heap hx 1).trans rfl⟩
  have hcall : ∀ W, Mod noF wz.drew W → Calls Tryd.prog 66 #[.pointer (some ⟨B.bA, 0, none⟩), .agg #[.int .i64 c, .int .i64 r], .int .i64 W_] W fun e w' => e = .returned (.tuple #[.int .i64 (loadE l c r W_).1, errOf' a (loadE l c r W_).2]) ∧ Mod noF wz.drew W ∧ Mod noF wz.drew w' := by
    intro W hW
    have hz := (Mod.refl noF wz).drew.trans0 hW
    exact (aload_any (h2.keep0 hz).arena (E2.E.keep hz) C.len C.times c r W_).mono fun e w' h => ⟨h.1, hW, hW.trans0 h.2⟩
  rw [he] at hcall
  simp only [errOf', errV, if_true] at hcall
  obtain ⟨-, z0, z1, z2⟩ := hS wz.drew (Mod.refl _ _)
  have zb := h2.lt (x := B.bM) (.inl rfl)
  have zx := lt_of_block hbx
  have HS := Lib.hid hS
  have Hcall := Lib.hid hcall
  have H := Lib.hid h2
  have Hu := Lib.hid hu
  have HE := Lib.hid E2
  have HR := Lib.hid R2
  have Hq := Lib.hid hq
  have HC := Lib.hid C
  obtain ⟨la, lc, rfl, _⟩ := R
  clear hcall h h2 hu hq0 E E2 C R2 hq he hbx hS
  go_enter Tryd.func146, Tryd.ntmps146
  go_wp2_with fail
  rw [← hwz]
  refine (pthread_ok H.out t htl).mono ?_
  rintro e w' ⟨rfl, rfl⟩
  clear hwz
  go_wp2
  go_region_held3 (fun W => Mod noF wz.drew W ∧ W.cell? ⟨B.bM, 0, none⟩ = some (.pointer (some ⟨B.bA, 0, none⟩)) ∧ W.cell? ⟨w.heap.size, 0, none⟩ = some (.int .i64 c) ∧ W.cell? ⟨w.heap.size, 1, none⟩ = some (.int .i64 r)) ((refine HS.out _ ?_; first | assumption | exact Mod.refl _ _)) (first | (go_at_call 66; go_split_ands; refine (Hcall.out _ ?_).mono ?_; assumption; rintro e w1 ⟨rfl, hm0, hm1⟩))
  have hm1 := (Mod.refl noF wz).drew.trans0 hm1
  have Hu1 := Lib.hid (Hu.out.then0 hm1)
  have H1 := Lib.hid (H.out.keep0 hm1)
  have HE1 := Lib.hid (HE.out.keep hm1)
  have HR1 := Lib.hid (HR.out.keep hm1)
  clear hm1 Hcall
  go_wp2_with fail
  refine (containsBad w1 _ L HR1.out hL).mono ?_
  rintro e w' ⟨rfl, rfl⟩
  rw [Hall.out]
  go_wp2_with fail
  refine (pfence_any H1.out HE1.out HC.out Hq.out hn6 hql Hw.out).mono ?_
  rintro e w2 ⟨rfl, vs2, hu2⟩
  have Hu2 := Lib.hid (Hu1.out.trans hu2)
  clear hu2
  go_wp2
  go_ret
  exact ⟨rfl, _, Hu2.out⟩
end Go.Proofs.YtamfbfajlfbooaaDoor
end
/- (*quiescentref1.Machine).Rest. -/
section
namespace Go.Proofs.YtamfbfajlfbooaaDoor
open Go.RowKit Qs Qh
variable {w : World} {L : Lay} {m : M} {N : Int}
theorem rest_no {m : M} {k : Nat} (hk : k < m.T.length) (h : m.done k = false ∨ m.waitsOf k ≠ []) : m.rest = false := by
  rw [← Bool.not_eq_true, M.rest_iff]
  intro e
  have := e k hk
  rcases h with h | h
  · rw [h] at this; cases this.1
  · exact h this.2
set_option maxHeartbeats 1000000 in
theorem rest_any (X : Mach ty w L m N) :
    Calls Tryd.prog 25 #[.pointer (some ⟨L.blk 0 0, 0, none⟩)] w fun e w' => e = .returned (.bool m.rest) ∧ Mod noF w w' := by
  have ht6 : m.T.length ≤ 6 := by have := X.om.waits; have := X.ot.len; omega
  have hwl := X.ot.len
  have HX := Lib.hid X
  have Hwl := Lib.hid hwl
  clear X hwl
  go_enter Tryd.func25, Tryd.ntmps25
  go_wp2
  go_loopw [3, 4] (fun i d wr => ∃ k : Nat, k ≤ m.T.length ∧ i = .int .i64 k ∧ Mod noF w wr ∧ ∀ j, j < k → m.done j = true ∧ m.waitsOf j = []) (fun i d _ => m.T.length - (intOf i).toNat)
  case atStart => exact ⟨0, Nat.zero_le _, rfl, Mod.refl _ _, fun j hj => absurd hj (by omega)⟩
  case round =>
    rename_i wr
    obtain ⟨k, hk, rfl, hmr, hall⟩ := hrel
    have Hall := Lib.hid hall
    clear hall
    have Xr := HX.out.frame0 hmr
    obtain ⟨t0, t1, t2, t3, t4, t5⟩ := Xr.top
    by_cases hlt : k < m.T.length
    · have hd : decide ((k : Int) < (m.T.length : Int)) = true := by simp; omega
      obtain ⟨l, hl⟩ : ∃ l, m.waits[k]? = some l := ⟨_, List.getElem?_eq_getElem (by rw [Hwl.out]; exact hlt)⟩
      have hwo : m.waitsOf k = l := by simp [M.waitsOf, List.getD, hl]
      have HXr := Lib.hid Xr
      have Hmr := Lib.hid hmr
      have Hl := Lib.hid hl
      have Hwo := Lib.hid hwo
      clear Xr hmr t4 hl hwo
      go_wp2_with fail
      refine (done_any HXr.out k hlt).mono ?_
      rintro e w1 ⟨rfl, hm1⟩
      have X1 := HXr.out.frame0 hm1
      obtain ⟨s0, s1, s2, s3, s4, s5⟩ := X1.top
      have pw0 := X1.rep.waits_at rfl X1.ol
      have pw1 := waits_row X1.rep rfl X1.ol (t := k) (l := l) Hl.out
      obtain ⟨ra, rcp, hrow⟩ := row_slice X1.ol (t := k) (l := l) Hl.out
      rw [hrow] at pw1
      have iT : (k : Int) < (m.waits.length : Int) := by have := Hwl.out; omega
      have Hm1 := Lib.hid hm1
      clear X1 s4 hm1 hrow
      cases hdn : m.done k with
      | false =>
        have hr := rest_no hlt (.inl hdn)
        have Hr := Lib.hid hr
        have Hdn := Lib.hid hdn
        clear hdn hr
        go_wp2
        go_ret
        exact ⟨ret_bool Hr.out.symm, Hmr.out.trans0 Hm1.out⟩
      | true =>
        have Hdn := Lib.hid hdn
        clear hdn
        by_cases hnil : l = []
        · subst hnil
          go_wp2
          go_roundw
          case rel =>
            refine ⟨k + 1, by omega, by go_num, Hmr.out.trans0 Hm1.out, fun j hj => ?_⟩
            by_cases e : j = k
            · subst e; exact ⟨Hdn.out, Hwo.out⟩
            · exact Hall.out j (by omega)
          case measure => simp [intOf]; omega
        · have hr := rest_no hlt (.inr (by rw [Hwo.out]; exact hnil))
          have hpos : 0 < l.length := List.length_pos_iff.2 hnil
          have hdp : decide (0 < (l.length : Int)) = true := by simp; omega
          have Hr := Lib.hid hr
          clear hr hnil
          go_wp2
          go_ret
          exact ⟨ret_bool Hr.out.symm, Hmr.out.trans0 Hm1.out⟩
    · have hd : decide ((k : Int) < (m.T.length : Int)) = false := by simp; omega
      have hr : m.rest = true := M.rest_iff.2 fun j hj => Hall.out j (by omega)
      have Hr := Lib.hid hr
      have Hmr := Lib.hid hmr
      clear Xr hmr t4 hr
      go_wp2
      go_ret
      exact ⟨ret_bool Hr.out.symm, Hmr.out⟩
end Go.Proofs.YtamfbfajlfbooaaDoor
end
/- ArenaActs, walked: any number of cells. -/
section
namespace Go.Proofs.YtamfbfajlfbooaaDoor
open Go.RowKit Qs Qh

set_option maxRecDepth 100000 in
set_option maxHeartbeats 4000000 in
theorem acts_out (n : Int) (h : n < 1 ∨ 64 < n) (v : Value) (l : List CAct) (w : World) (a : Nat → Addr) (E : ErrsAt w a) (R : RowsAt CAct.vals 5 w v l) (hl : l.length ≤ 100) :
    Calls Tryd.prog 15 #[.int .i64 n, v] w fun e w' => e = .returned (.bool true) ∧ Mod noF w w' := by
  have d2 : decide ((100 : Int) < (l.length : Int)) = false := by simp; omega
  have HE := Lib.hid E
  obtain ⟨a0, c0, rfl, hl0, hc0, hn0, hx0⟩ := R
  have hb := arenaNew_bad n h
  have hcd := @coded_at
  simp only [errV] at hb hcd
  have Hb := Lib.hid hb
  clear E hx0 hn0 hb
  by_cases h1 : n < 1
  · have d0 : decide (n < 1) = true := by simpa using h1
    clear h h1
    go_enter Tryd.func15, Tryd.ntmps15
    go_wp2_with fail
    refine (first_ok w a HE.out).mono ?_
    rintro e w0 ⟨rfl, hm0⟩
    have Hm0 := Lib.hid hm0
    clear hm0
    go_wp2_with fail
    refine (Hb.out w0 a (HE.out.keep Hm0.out).four).mono ?_
    rintro e w1 ⟨rfl, hm1⟩
    have Hm1 := Lib.hid (Hm0.out.trans0 hm1)
    clear hm1
    go_wp2_with fail
    refine (hcd (HE.out.keep Hm1.out) 1 (by omega) 2).mono ?_
    rintro e w2 ⟨rfl, hm2⟩
    have Hm2 := Lib.hid (Hm1.out.trans0 hm2)
    clear hm2
    go_wp2
    go_ret
    exact ⟨rfl, Hm2.out⟩
  · have d0 : decide (n < 1) = false := by simpa using h1
    have d1 : decide (64 < n) = true := by simp; omega
    clear h h1
    go_enter Tryd.func15, Tryd.ntmps15
    go_wp2_with fail
    refine (first_ok w a HE.out).mono ?_
    rintro e w0 ⟨rfl, hm0⟩
    have Hm0 := Lib.hid hm0
    clear hm0
    go_wp2_with fail
    refine (Hb.out w0 a (HE.out.keep Hm0.out).four).mono ?_
    rintro e w1 ⟨rfl, hm1⟩
    have Hm1 := Lib.hid (Hm0.out.trans0 hm1)
    clear hm1
    go_wp2_with fail
    refine (hcd (HE.out.keep Hm1.out) 1 (by omega) 2).mono ?_
    rintro e w2 ⟨rfl, hm2⟩
    have Hm2 := Lib.hid (Hm1.out.trans0 hm2)
    clear hm2
    go_wp2
    go_ret
    exact ⟨rfl, Hm2.out⟩
set_option maxRecDepth 100000 in
set_option maxHeartbeats 4000000 in
theorem acts_long (n : Int) (v : Value) (l : List CAct) (w : World) (a : Nat → Addr) (E : ErrsAt w a) (R : RowsAt CAct.vals 5 w v l) (hl : 100 < l.length) :
    Calls Tryd.prog 15 #[.int .i64 n, v] w fun e w' => e = .returned (.bool true) ∧ Mod noF w w' := by
  have d2 : decide ((100 : Int) < (l.length : Int)) = true := by simp; omega
  have HE := Lib.hid E
  obtain ⟨a0, c0, rfl, hl0, hc0, hn0, hx0⟩ := R
  clear E hx0 hn0
  go_enter Tryd.func15, Tryd.ntmps15
  go_wp2_with fail
  refine (first_ok w a HE.out).mono ?_
  rintro e w0 ⟨rfl, hm0⟩
  have Hm0 := Lib.hid hm0
  clear hm0
  go_wp2
  go_ret
  exact ⟨rfl, Hm0.out⟩
theorem arenaActs_any (n : Int) (a : Option Addr) (len cap : Nat) (z : List CAct) (w : World) (hn : (Lit.int .i64 n).wf = true) (hz : IsCAct w a len cap z) (h : ∃ a, ErrsAt w a) :
    Calls Tryd.prog 15 #[.int .i64 n, .slice a len cap] w fun e w' => e = .returned (.bool true) ∧ Below w.heap.size w w' := by
  obtain ⟨e, he⟩ := h
  by_cases hl : z.length ≤ 100
  · by_cases hb : n < 1 ∨ 64 < n
    · exact (acts_out n hb _ z w e he hz.1 hl).mono fun e w' h => ⟨h.1, h.2.toBelow⟩
    · obtain ⟨k, rfl⟩ := Int.eq_ofNat_of_zero_le (show 0 ≤ n by omega)
      exact (acts_in k (by omega) (by omega) _ z w e he hz.1 hz.2 hl).mono fun e w' h => ⟨h.1, h.2.toBelow⟩
  · exact (acts_long n _ z w e he hz.1 (by omega)).mono fun e w' h => ⟨h.1, h.2.toBelow⟩
end Go.Proofs.YtamfbfajlfbooaaDoor
end
