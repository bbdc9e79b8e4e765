/- package memory: thread, New, Waiting, Alloc. -/
import Derived.Test.YtamfbfajlfbooaaDoorRPMem
import Derived.Test.YtamfbfajlfbooaaDoorRArenaWord
import Derived.Lib.SliceRun
set_option linter.unusedVariables false
set_option linter.unusedSimpArgs false
set_option linter.unusedSectionVars false
namespace Go.Proofs.YtamfbfajlfbooaaDoor
open Go.RowKit Qs Qh
variable {w : World} {B : PB} {l : List Cell} {ws : List (List Wt)} {vs : List Value} {a : Nat → Addr}
/-- The errors lie below; the memory's blocks above. -/
structure PLow (b0 w : World) (a : Nat → Addr) (B : PB) (vs : List Value) : Prop where
  errs : Errs4 b0 a
  mod : Mod noF b0 w
  low : ∀ x, PFoot B vs x → b0.heap.size ≤ x
theorem PLow.E {b0 : World} (h : PLow b0 w a B vs) : Errs4 w a := h.errs.keep h.mod
theorem PLow.up {b0 w' : World} {l' : List Cell} {ws' : List (List Wt)} {vs' : List Value} (h : PLow b0 w a B vs) (u : PUp w B vs w' l' ws' vs') : PLow b0 w' a B vs' :=
  ⟨h.errs, h.mod.trans u.mod (fun x hx e => by have := h.low x e; omega), fun x hx => (u.foot x hx).elim (h.low x) (fun e => Nat.le_trans h.mod.size e)⟩
theorem PLow.keep {b0 w' : World} (h : PLow b0 w a B vs) (hM : Mod noF w w') : PLow b0 w' a B vs := ⟨h.errs, h.mod.trans0 hM, h.low⟩
theorem pthread_ok (h : PMV w B l ws vs) (t : Nat) (ht : t < ws.length) :
    Calls Tryd.prog 92 #[.pointer (some ⟨B.bM, 0, none⟩), .int .i64 t] w fun e w' => e = .returned .nilIface ∧ w = w' := by
  have d0 : decide ((t : Int) < 0) = false := by simp
  have d1 : decide ((ws.length : Int) ≤ (t : Int)) = false := by simp; omega
  have hm := h.slice
  have hb := h.lt (x := B.bM) (.inl rfl)
  clear h
  go_enter Tryd.func92, Tryd.ntmps92
  go_wp2
  go_ret
  exact ⟨rfl, rfl⟩
theorem pthread_bad (h : PMV w B l ws vs) (E : Errs4 w a) (t : Int) (ht : t < 0 ∨ (ws.length : Int) ≤ t) (hn : ws.length ≤ 6) :
    Calls Tryd.prog 92 #[.pointer (some ⟨B.bM, 0, none⟩), .int .i64 t] w fun e w' => e = .returned (errV a 1) ∧ Mod noF w w' := by
  have hm := h.slice
  have hb := h.lt (x := B.bM) (.inl rfl)
  have hv := E.var 1 (by omega)
  clear h E
  by_cases h0 : t < 0
  · have d0 : decide (t < 0) = true := by simpa using h0
    go_enter Tryd.func92, Tryd.ntmps92
    go_wp2
    go_ret
    exact ⟨rfl, Mod.refl _ _⟩
  · have d0 : decide (t < 0) = false := by simpa using h0
    have d1 : decide ((ws.length : Int) ≤ t) = true := by simp; omega
    go_enter Tryd.func92, Tryd.ntmps92
    go_wp2
    go_ret
    exact ⟨rfl, Mod.refl _ _⟩
theorem pwaiting_ok (h : PMV w B l ws vs) {t : Nat} {q : List Wt} (hq : ws[t]? = some q) (hn : ws.length ≤ 6) :
    Calls Tryd.prog 32 #[.pointer (some ⟨B.bM, 0, none⟩), .int .i64 t] w fun e w' => e = .returned (.int .i64 q.length) ∧ w = w' := by
  have ht := (List.getElem?_eq_some_iff.1 hq).1
  have hm := h.slice
  have hb := h.lt (x := B.bM) (.inl rfl)
  have hb2 := h.lt (x := B.bW) (.inr (.inr (.inr (.inl rfl))))
  obtain ⟨v, a, c, _, _, h1, h2, h3, _⟩ := h.rowAt hq
  have htn : (t : Int) < (ws.length : Int) := by omega
  have H := Lib.hid h
  clear h hq
  go_enter Tryd.func32, Tryd.ntmps32
  go_wp2_with fail
  refine (pthread_ok H.out t ht).mono ?_
  rintro e w' ⟨rfl, rfl⟩
  go_wp2
  go_ret
  exact ⟨rfl, rfl⟩
theorem pwaiting_bad (h : PMV w B l ws vs) (E : Errs4 w a) (t : Int) (ht : t < 0 ∨ (ws.length : Int) ≤ t) (hn : ws.length ≤ 6) :
    Calls Tryd.prog 32 #[.pointer (some ⟨B.bM, 0, none⟩), .int .i64 t] w fun e w' => e = .returned (.int .i64 0) ∧ Mod noF w w' := by
  have hcall := pthread_bad h E t ht hn
  unfold errV at hcall
  have Hcall := Lib.hid hcall
  clear h E hcall
  go_enter Tryd.func32, Tryd.ntmps32
  go_wp2_with fail
  refine Hcall.out.mono ?_
  rintro e w1 ⟨rfl, hm⟩
  have Hm := Lib.hid hm
  clear hm
  go_wp2
  go_ret
  exact ⟨rfl, Hm.out⟩
end Go.Proofs.YtamfbfajlfbooaaDoor
