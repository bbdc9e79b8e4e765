/- GraceSafe, GraceBursts: the plain law. -/
import Derived.Test.YtamfbfajlfbooaaDoorSm8
import Derived.Test.YtamfbfajlfbooaaDoorSGannP
import Derived.Test.YtamfbfajlfbooaaDoorSWrong
set_option linter.unusedVariables false
set_option linter.unusedSimpArgs false
set_option linter.unusedSectionVars false
namespace Go.Proofs.YtamfbfajlfbooaaDoor
open Go Go.RowKit Qs Qh Qg
def castOf (x : RCast) : Cst := ⟨x.writes, x.times.toNat, x.reads.toNat, x.nested⟩
structure CastsFine (l : List RCast) : Prop where
  l1 : 1 ≤ l.length
  l4 : l.length ≤ 4
  x : ∀ c ∈ l, 0 ≤ c.times ∧ c.times ≤ 3 ∧ 0 ≤ c.reads ∧ c.reads ≤ 5
theorem casts_fine {f : Int} {l : List RCast} (h : wrongB f l = false) : 1 ≤ f ∧ f ≤ 4 ∧ CastsFine l := by
  unfold wrongB at h
  simp only [Bool.or_eq_false_iff, decide_eq_false_iff_not] at h
  obtain ⟨⟨⟨⟨h1, h2⟩, h3⟩, h4⟩, h5⟩ := h
  refine ⟨by omega, by omega, by omega, by omega, fun c hc => ?_⟩
  rw [List.any_eq_false] at h5
  have := h5 c hc
  unfold badC at this
  simp only [Bool.or_eq_true, decide_eq_true_eq, not_or] at this
  omega
theorem castAt_of {w : World} {v : Value} {l : List RCast} (R : RowsAt RCast.vals 4 w v l) (F : CastsFine l) : CastAt w v (l.map castOf) := by
  obtain ⟨a, c, rfl, hlc, hcm, hn, hx⟩ := R
  refine ⟨a, c, by rw [List.length_map], fun i x hi => ?_⟩
  rw [List.getElem?_map] at hi
  obtain ⟨y, hy, rfl⟩ := Option.map_eq_some_iff.1 hi
  obtain ⟨b, off, rfl, hb, hc⟩ := hx i y hy
  have hf := F.x y (List.mem_of_getElem? hy)
  have q0 := hc 0 _ rfl
  have q1 := hc 1 _ rfl
  have q2 := hc 2 _ rfl
  have q3 := hc 3 _ rfl
  simp only [Nat.add_zero] at q0
  refine ⟨b, off, rfl, hb, q0, ?_, ?_, q3⟩
  · rw [q1]
    show some (Value.int .i64 y.times) = some (.int .i64 (y.times.toNat : Int))
    rw [Int.toNat_of_nonneg hf.1]
  · rw [q2]
    show some (Value.int .i64 y.reads) = some (.int .i64 (y.reads.toNat : Int))
    rw [Int.toNat_of_nonneg hf.2.2.1]
theorem casts_small {l : List RCast} (F : CastsFine l) : ∀ x ∈ l.map castOf, x.t ≤ 3 ∧ x.r ≤ 5 := by
  intro x hx
  obtain ⟨y, hy, rfl⟩ := List.mem_map.1 hx
  have := F.x y hy
  unfold castOf
  simp only
  omega
variable {f : Nat} {l : List Cst}
def playM (f : Nat) (l : List Cst) : M := startM 30 (grInit f l.length) (grRegs l.length) (l.map (castCode f true))
theorem play_ok (h1 : 1 ≤ f) (h4 : f ≤ 4) (hl : ∀ x ∈ l, x.t ≤ 3 ∧ x.r ≤ 5) : ∀ x ∈ l, CastOk f x := fun x hx => cast_ok h1 h4 (hl x hx).1 (hl x hx).2
theorem play_easy (h1 : 1 ≤ f) (h4 : f ≤ 4) (hl : ∀ x ∈ l, x.t ≤ 3 ∧ x.r ≤ 5) : Easy (playM f l) := by
  intro t x hx y hy
  obtain ⟨c, hc, rfl⟩ := startM_T' hx
  obtain ⟨z, hz, rfl⟩ := List.mem_map.1 (List.mem_of_getElem? hc)
  exact (play_ok h1 h4 hl z hz).easy y hy
def playAnn (f : Nat) (l : List Cst) (t : Nat) : List Pos := ((l[t]?).map (annOf f)).getD []
theorem play_good (h1 : 1 ≤ f) (h4 : f ≤ 4) (l1 : 1 ≤ l.length) (l4 : l.length ≤ 4) (hl : ∀ x ∈ l, x.t ≤ 3 ∧ x.r ≤ 5) :
    Qg.Good (grX f l.length h1 h4) ((l.length : Int) + 2) (fun t => (l.map (castCode f true)).getD t []) (playAnn f l) 0 (playM f l) := by
  refine gr_good h1 h4 l1 l4 (by simp) (playAnn f l) fun t ht => ?_
  obtain ⟨x, hx⟩ : ∃ x, l[t]? = some x := ⟨_, List.getElem?_eq_getElem ht⟩
  unfold playAnn
  rw [hx]
  exact (play_ok h1 h4 hl x (List.mem_of_getElem? hx)).start
theorem play_ann (h1 : 1 ≤ f) (h4 : f ≤ 4) (hl : ∀ x ∈ l, x.t ≤ 3 ∧ x.r ≤ 5) : ∀ t, t < l.length → annB f ((l.map (castCode f true)).getD t []) (playAnn f l t) = true := fun t ht => by
  obtain ⟨x, hx⟩ : ∃ x, l[t]? = some x := ⟨_, List.getElem?_eq_getElem ht⟩
  unfold playAnn
  rw [List.getD, List.getElem?_map, hx]
  exact (play_ok h1 h4 hl x (List.mem_of_getElem? hx)).ann
theorem gr_own0 (f n : Nat) (h1 : 1 ≤ f) (h4 : f ≤ 4) : ∀ r, r < (grX f n h1 h4).n → (grX f n h1 h4).own r ≠ 0 := fun r _ => by
  show (r : Int) + 2 ≠ 0
  omega
/-- By any script there is no fault. -/
theorem play_safe (h1 : 1 ≤ f) (h4 : f ≤ 4) (l1 : 1 ≤ l.length) (l4 : l.length ≤ 4) (hl : ∀ x ∈ l, x.t ≤ 3 ∧ x.r ≤ 5) (script : List Int) (hs : script.length ≤ 1000000) : ((playM f l).run script).1.faults = 0 := by
  have G := play_good h1 h4 l1 l4 hl
  exact (Good.run (X := grX f l.length h1 h4) (by show 0 < l.length; omega) (gr_own0 _ _ _ _) (play_ann h1 h4 hl) script G (by omega) (by omega)).ft
/-- Machines that turns come to: no fault. -/
def Fine (f : Nat) (l : List Cst) (k : Nat) (m : M) : Prop := ∃ (h1 : 1 ≤ f) (h4 : f ≤ 4), Qg.Good (grX f l.length h1 h4) ((l.length : Int) + 2) (fun t => (l.map (castCode f true)).getD t []) (playAnn f l) k m
theorem Fine.start (h1 : 1 ≤ f) (h4 : f ≤ 4) (l1 : 1 ≤ l.length) (l4 : l.length ≤ 4) (hl : ∀ x ∈ l, x.t ≤ 3 ∧ x.r ≤ 5) : Fine f l 0 (playM f l) := ⟨h1, h4, play_good h1 h4 l1 l4 hl⟩
theorem Fine.turn (l1 : 1 ≤ l.length) (hl : ∀ x ∈ l, x.t ≤ 3 ∧ x.r ≤ 5) {k : Nat} {m : M} (h : Fine f l k m) (hk : k < 1000000) (n : Int) : Fine f l (k + 1) (m.turn n).1 := by
  obtain ⟨h1, h4, G⟩ := h
  have := Good.turn G (by omega) (by omega) (by show 0 < l.length; omega) (gr_own0 _ _ _ _) (play_ann h1 h4 hl) n
  exact ⟨h1, h4, by rw [show ((k + 1 : Nat) : Int) = (k : Int) + 1 by omega]; exact this⟩
theorem Fine.ft {k : Nat} {m : M} (h : Fine f l k m) : m.faults = 0 := by obtain ⟨_, _, G⟩ := h; exact G.ft
end Go.Proofs.YtamfbfajlfbooaaDoor
