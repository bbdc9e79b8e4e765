/- Texts that belong together, joined. -/
import Derived.Test.YtamfbfajlfbooaaDoorSm1
set_option linter.unusedVariables false
set_option linter.unusedSimpArgs false
set_option linter.unusedSectionVars false
/- Grace on the plain machine: a store is drained of who has the lock; of anybody. -/
section
namespace Qg
open Qs
variable {X : Cx} {s s' : A} {p : Nat → Pos} {old old' : Nat → Nat → Prop} {L L' : List Nat} {B : Int} {t u : Nat} {e : En} {r : List En}
theorem Core.drH (C : Core X s p old L B) (ht : t < X.n) (hb : s.buf t = e :: r) {P : Pos} (hp : p t = P) (hH : Has (s.reg t) (s.buf t) P) (he : e.a = X.hub ∨ (e.a = X.own t ∧ e.w ≠ 0)) (L' : List Nat)
    (hL : ∀ u, u ≠ t → (u ∈ L' ↔ u ∈ L)) (hLt : t ∈ L → t ∈ L')
    (hlock : (Has (s.reg t) r P ∧ ¬ (e.a = X.hub ∧ e.w = 1)) ∨ (¬ Has (s.reg t) r P ∧ e.a = X.hub ∧ e.w = 1 ∧ e.v = 0 ∧ r = []))
    (h0 : e.a = X.hub → e.w = 0 → (X.f ≠ 3 → e.v = 1 ∨ e.v = 257) ∧ (X.f = 3 → s.val X.hub 0 ≤ e.v))
    (ch : X.Ch (s.dr t).val ((s.dr t).val X.hub 2) L') (hJ : X.f = 4 → ¬ joining P → (t ∈ L' ↔ (s.dr t).val (X.own t) 2 ≠ 0)) (hok : ¬ ok3 P)
    (hc : ∀ rg v h0 bf, LocC rg v h0 bf (X.own t) P) (hbb : X.LocB (s.reg t) r (s.dr t).val (X.Prot (s.dr t)) (old t) L' t P) : Core X (s.dr t) p old L' B := by
  have T := C.th t ht
  subst hp
  have hreg : (s.dr t).reg = s.reg := A.dr_reg s t
  have hno : ∀ u, u < X.n → u ≠ t → ¬ Has (s.reg u) (s.buf u) (p u) := by
    rcases C.lock with ⟨_, h⟩ | ⟨h, h1, h2, h3, h4⟩
    · exact absurd hH (h t ht)
    · by_cases e1 : h = t
      · subst e1; exact h4
      · exact absurd hH (h4 t ht (fun a => e1 a.symm))
  have hown : ∀ u, u ≠ t → ∀ w, (s.dr t).val (X.own u) w = s.val (X.own u) w := fun u hu w => by
    rw [dr_val hb, if_neg]
    rintro ⟨h1, _⟩
    rcases he with h | ⟨h, _⟩
    · exact X.ne u (h1.trans h)
    · exact hu (X.inj _ _ (h1.trans h))
  have hown0 : (s.dr t).val (X.own t) 0 = s.val (X.own t) 0 := by
    rw [dr_val hb, if_neg]
    rintro ⟨h1, h2⟩
    rcases he with h | ⟨_, h⟩
    · exact X.ne t (h1.trans h)
    · exact h h2.symm
  have hprot : ∀ u φ, X.Prot s u φ → X.Prot (s.dr t) u φ := fun u φ h => by
    by_cases e1 : u = t
    · subst e1; exact Prot.drain hb h
    · exact Prot.same (dr_u e1) (hown u e1 0) h
  have hm3 : X.f = 3 → s.val X.hub 0 ≤ (s.dr t).val X.hub 0 := fun f => by
    rw [dr_val hb]
    split
    · rename_i g; exact (h0 g.1.symm g.2.symm).2 f
    · exact Int.le_refl _
  refine ⟨fun u hu => ?_, ?_, fun f => ?_, fun f => ?_, fun f u hu x hx => C.hb3 f u hu x (A.dr_mem hx), ch, fun f u hu => ?_, fun f u hu hj => ?_, C.old⟩
  · by_cases e1 : u = t
    · subst e1
      refine ⟨by rw [hreg]; exact T.r6, by rw [hreg]; exact T.r7, fun g x hx => ?_, fun f => by rw [dr_vw hb]; exact T.vw f, fun f => Prot.drain hb (T.rng f), fun f g h => ?_, fun f h => hLt (T.il f h), fun f h g x hx => ?_, fun f h => absurd h hok, ?_, fun f => hc _ _ _ _, ?_⟩
      · rw [hreg, dr_t hb] at g
        rw [dr_t hb] at hx
        rcases hlock with ⟨h, _⟩ | ⟨_, _, _, _, h⟩
        · exact absurd h g
        · rw [h] at hx; simp at hx
      · rcases T.sec f g h with h | h
        · exact .inl (Prot.drain hb h)
        · exact .inr (Prot.drain hb h)
      · rw [hreg, dr_t hb] at g
        rw [dr_t hb] at hx
        rcases hlock with ⟨h, _⟩ | ⟨_, _, _, _, h⟩
        · exact absurd h g
        · rw [h] at hx; simp at hx
      · rw [hreg, dr_vw hb, dr_t hb]
        have := T.a
        rw [hb] at this
        exact LocA.drain _ this
      · rw [hreg, dr_t hb]; exact hbb
    · exact (C.th u hu).mono (by rw [hreg]) (dr_u e1) (hown u e1) hm3 (fun h => absurd h (hno u hu e1)) (fun _ _ h => h) (fun q φ hq _ h => hprot q φ h) (hL u e1)
  · rcases hlock with ⟨h1, h2⟩ | ⟨h1, h2, h3, h4, h5⟩
    · right
      refine ⟨t, ht, by rw [hreg, dr_t hb]; exact h1, ?_, fun u hu hne => by rw [hreg, dr_u hne]; exact hno u hu hne⟩
      rw [dr_val hb, if_neg (fun g => h2 ⟨g.1.symm, g.2.symm⟩)]
      rcases C.lock with ⟨_, h⟩ | ⟨_, _, _, h, _⟩
      · exact absurd hH (h t ht)
      · exact h
    · left
      refine ⟨by rw [dr_val hb, if_pos ⟨h2.symm, h3.symm⟩]; exact h4, fun u hu => ?_⟩
      rw [hreg]
      by_cases e1 : u = t
      · subst e1; rw [dr_t hb]; exact h1
      · rw [dr_u e1]; exact hno u hu e1
  · rw [dr_val hb]
    split
    · rename_i g; exact (h0 g.1.symm g.2.symm).1 f
    · exact C.h0 f
  · have h1 := C.h3 f
    have h2 := hm3 f
    refine ⟨by omega, ?_⟩
    rw [dr_val hb]
    split
    · rename_i g; exact C.hb3 f t ht e (by rw [hb]; simp) g.1.symm g.2.symm
    · exact h1.2
  · by_cases e1 : u = t
    · subst e1; exact hLt (C.all f u hu)
    · exact (hL u e1).2 (C.all f u hu)
  · by_cases e1 : u = t
    · subst e1; exact hJ f hj
    · rw [hown u e1, hL u e1]; exact C.j f u hu hj
theorem JS.drain {j : Nat} (C : Core X s p old L B) (ht : t < X.n) (hb : s.buf t = e :: r) (h : X.JS (s.buf t) s.val L t j) (hj : j ≤ 4) :
    ∃ L', X.JS r (s.dr t).val L' t j ∧ (e.a = X.hub ∨ (e.a = X.own t ∧ e.w ≠ 0)) ∧ (∀ u, u ≠ t → (u ∈ L' ↔ u ∈ L)) ∧ (t ∈ L → t ∈ L') ∧ X.Ch (s.dr t).val ((s.dr t).val X.hub 2) L' ∧ (e.a = X.hub → e.w ≠ 0) ∧
      ((¬ (e.a = X.hub ∧ e.w = 1)) ∨ (e.a = X.hub ∧ e.w = 1 ∧ e.v = 0 ∧ r = [] ∧ j = 4)) := by
  obtain ⟨i, F, hi, hbf, j1, j2, j3, j4, j5⟩ := h
  rw [hb] at hbf
  have hval := fun x w => dr_val hb x w
  have hne := X.ne
  have hch : e.a = X.hub ∧ e.w ≠ 2 ∨ e.a = X.own t ∧ e.w ≠ 1 ∧ e.w ≠ 0 → X.Ch (s.dr t).val ((s.dr t).val X.hub 2) L := fun h => by
    have h2 : (s.dr t).val X.hub 2 = s.val X.hub 2 := by
      rw [hval, if_neg]
      rintro ⟨a, b⟩
      rcases h with h | h
      · exact h.2 b.symm
      · exact hne t (h.1.symm.trans a.symm)
    rw [h2]
    refine Ch.mono (fun q hq => ?_) C.ch
    rw [hval, if_neg]
    rintro ⟨a, b⟩
    rcases h with h | h
    · exact hne q (a.trans h.1)
    · exact h.2.1 b.symm
  match i, j, hi, hj, hbf, j1, j2, j3, j4, j5 with
  | 0, 1, _, _, hbf, j1, j2, j3, j4, j5 =>
    obtain ⟨rfl, rfl⟩ : e = ⟨X.own t, 1, F⟩ ∧ r = [] := by simpa [Cx.sq] using hbf
    obtain ⟨k1, k2⟩ := j1 (by omega)
    have v2 : (s.dr t).val X.hub 2 = s.val X.hub 2 := by rw [hval, if_neg (fun g => hne t g.1.symm)]
    refine ⟨L, ⟨1, F, by omega, rfl, fun _ => ⟨k1, by rw [v2]; exact k2⟩, fun _ _ => by rw [hval, if_pos ⟨rfl, rfl⟩], fun a => by omega, fun _ => ?_, fun a => by omega⟩, .inr ⟨rfl, by simp⟩, fun _ _ => Iff.rfl, fun h => h, ?_, fun a => absurd a (hne t), .inl fun a => hne t a.1⟩
    · rw [hval, if_neg (by simp)]; exact j4 (by omega)
    · rw [v2]
      have : ∀ {l : List Nat} {x : Int}, ¬ t ∈ l → X.Ch s.val x l → X.Ch (s.dr t).val x l := by
        intro l
        induction l with
        | nil => exact fun _ h => h
        | cons q l ih =>
          intro x hn h
          simp only [List.mem_cons, not_or] at hn
          refine ⟨h.1, h.2.1, ?_⟩
          have : (s.dr t).val (X.own q) 1 = s.val (X.own q) 1 := by rw [hval, if_neg]; rintro ⟨a, _⟩; exact hn.1 (X.inj _ _ a).symm
          rw [this]
          exact ih hn.2 h.2.2
      exact this k1 C.ch
  | 0, 2, _, _, hbf, j1, j2, j3, j4, j5 => 
    obtain ⟨rfl, rfl⟩ : e = ⟨X.own t, 1, F⟩ ∧ r = [⟨X.hub, 2, X.own t⟩] := by simpa [Cx.sq] using hbf
    obtain ⟨k1, k2⟩ := j1 (by omega)
    have v2 : (s.dr t).val X.hub 2 = s.val X.hub 2 := by rw [hval, if_neg (fun g => hne t g.1.symm)]
    refine ⟨L, ⟨1, F, by omega, rfl, fun _ => ⟨k1, by rw [v2]; exact k2⟩, fun _ _ => by rw [hval, if_pos ⟨rfl, rfl⟩], fun a => by omega, fun _ => ?_, fun a => by omega⟩, .inr ⟨rfl, by simp⟩, fun _ _ => Iff.rfl, fun h => h, ?_, fun a => absurd a (hne t), .inl fun a => hne t a.1⟩
    · rw [hval, if_neg (by simp)]; exact j4 (by omega)
    · rw [v2]
      have : ∀ {l : List Nat} {x : Int}, ¬ t ∈ l → X.Ch s.val x l → X.Ch (s.dr t).val x l := by
        intro l
        induction l with
        | nil => exact fun _ h => h
        | cons q l ih =>
          intro x hn h
          simp only [List.mem_cons, not_or] at hn
          refine ⟨h.1, h.2.1, ?_⟩
          have : (s.dr t).val (X.own q) 1 = s.val (X.own q) 1 := by rw [hval, if_neg]; rintro ⟨a, _⟩; exact hn.1 (X.inj _ _ a).symm
          rw [this]
          exact ih hn.2 h.2.2
      exact this k1 C.ch
  | 0, 3, _, _, hbf, j1, j2, j3, j4, j5 => 
    obtain ⟨rfl, rfl⟩ : e = ⟨X.own t, 1, F⟩ ∧ r = [⟨X.hub, 2, X.own t⟩, ⟨X.own t, 2, 1⟩] := by simpa [Cx.sq] using hbf
    obtain ⟨k1, k2⟩ := j1 (by omega)
    have v2 : (s.dr t).val X.hub 2 = s.val X.hub 2 := by rw [hval, if_neg (fun g => hne t g.1.symm)]
    refine ⟨L, ⟨1, F, by omega, rfl, fun _ => ⟨k1, by rw [v2]; exact k2⟩, fun _ _ => by rw [hval, if_pos ⟨rfl, rfl⟩], fun a => by omega, fun _ => ?_, fun a => by omega⟩, .inr ⟨rfl, by simp⟩, fun _ _ => Iff.rfl, fun h => h, ?_, fun a => absurd a (hne t), .inl fun a => hne t a.1⟩
    · rw [hval, if_neg (by simp)]; exact j4 (by omega)
    · rw [v2]
      have : ∀ {l : List Nat} {x : Int}, ¬ t ∈ l → X.Ch s.val x l → X.Ch (s.dr t).val x l := by
        intro l
        induction l with
        | nil => exact fun _ h => h
        | cons q l ih =>
          intro x hn h
          simp only [List.mem_cons, not_or] at hn
          refine ⟨h.1, h.2.1, ?_⟩
          have : (s.dr t).val (X.own q) 1 = s.val (X.own q) 1 := by rw [hval, if_neg]; rintro ⟨a, _⟩; exact hn.1 (X.inj _ _ a).symm
          rw [this]
          exact ih hn.2 h.2.2
      exact this k1 C.ch
  | 0, 4, _, _, hbf, j1, j2, j3, j4, j5 => 
    obtain ⟨rfl, rfl⟩ : e = ⟨X.own t, 1, F⟩ ∧ r = [⟨X.hub, 2, X.own t⟩, ⟨X.own t, 2, 1⟩, ⟨X.hub, 1, 0⟩] := by simpa [Cx.sq] using hbf
    obtain ⟨k1, k2⟩ := j1 (by omega)
    have v2 : (s.dr t).val X.hub 2 = s.val X.hub 2 := by rw [hval, if_neg (fun g => hne t g.1.symm)]
    refine ⟨L, ⟨1, F, by omega, rfl, fun _ => ⟨k1, by rw [v2]; exact k2⟩, fun _ _ => by rw [hval, if_pos ⟨rfl, rfl⟩], fun a => by omega, fun _ => ?_, fun a => by omega⟩, .inr ⟨rfl, by simp⟩, fun _ _ => Iff.rfl, fun h => h, ?_, fun a => absurd a (hne t), .inl fun a => hne t a.1⟩
    · rw [hval, if_neg (by simp)]; exact j4 (by omega)
    · rw [v2]
      have : ∀ {l : List Nat} {x : Int}, ¬ t ∈ l → X.Ch s.val x l → X.Ch (s.dr t).val x l := by
        intro l
        induction l with
        | nil => exact fun _ h => h
        | cons q l ih =>
          intro x hn h
          simp only [List.mem_cons, not_or] at hn
          refine ⟨h.1, h.2.1, ?_⟩
          have : (s.dr t).val (X.own q) 1 = s.val (X.own q) 1 := by rw [hval, if_neg]; rintro ⟨a, _⟩; exact hn.1 (X.inj _ _ a).symm
          rw [this]
          exact ih hn.2 h.2.2
      exact this k1 C.ch
  | 1, j, hi, hj, hbf, j1, j2, j3, j4, j5 =>
    obtain ⟨k1, k2⟩ := j1 (by omega)
    have k3 := j2 (by omega) (by omega)
    have hq : e = ⟨X.hub, 2, X.own t⟩ ∧ r = ((X.sq t F).take j).drop 2 := by
      rcases (by omega : j = 1 ∨ j = 2 ∨ j = 3 ∨ j = 4) with rfl | rfl | rfl | rfl <;> first | (simp [Cx.sq] at hbf; done) | (simpa [Cx.sq] using hbf)
    have hj2 : 2 ≤ j := by
      refine Classical.byContradiction fun g => ?_
      obtain rfl : j = 1 := by omega
      simp [Cx.sq] at hbf
    obtain ⟨rfl, hr⟩ := hq
    have v2 : (s.dr t).val X.hub 2 = X.own t := by rw [hval, if_pos ⟨rfl, rfl⟩]
    have vo : ∀ u w, (s.dr t).val (X.own u) w = s.val (X.own u) w := fun u w => by rw [hval, if_neg (fun g => hne u g.1)]
    refine ⟨t :: L, ⟨2, F, by omega, hr, fun a => by omega, fun _ a => by omega, fun _ => by simp, fun _ => by rw [vo]; exact j4 (by omega), fun a => by omega⟩, .inl rfl, fun u hu => by simp [hu], fun _ => by simp, ?_, fun _ => by simp, .inl fun a => by simp at a⟩
    rw [v2]
    refine ⟨rfl, ht, ?_⟩
    rw [vo, k3, ← k2]
    exact Ch.mono (fun q _ => vo q 1) C.ch
  | 2, j, hi, hj, hbf, j1, j2, j3, j4, j5 =>
    have hq : e = ⟨X.own t, 2, 1⟩ ∧ r = ((X.sq t F).take j).drop 3 := by
      rcases (by omega : j = 2 ∨ j = 3 ∨ j = 4) with rfl | rfl | rfl <;> first | (simp [Cx.sq] at hbf; done) | (simpa [Cx.sq] using hbf)
    have hj2 : 3 ≤ j := by
      refine Classical.byContradiction fun g => ?_
      obtain rfl : j = 2 := by omega
      simp [Cx.sq] at hbf
    obtain ⟨rfl, hr⟩ := hq
    exact ⟨L, ⟨3, F, by omega, hr, fun a => by omega, fun _ a => by omega, fun _ => j3 (by omega), fun a => by omega, fun _ => by rw [hval, if_pos ⟨rfl, rfl⟩]; show (1 : Int) ≠ 0; omega⟩, .inr ⟨rfl, by simp⟩, fun _ _ => Iff.rfl, fun h => h, hch (.inr ⟨rfl, by simp, by simp⟩), fun a => absurd a (hne t), .inl fun a => hne t a.1⟩
  | 3, j, hi, hj, hbf, j1, j2, j3, j4, j5 =>
    have hj2 : j = 4 := by
      refine Classical.byContradiction fun g => ?_
      obtain rfl : j = 3 := by omega
      simp [Cx.sq] at hbf
    subst hj2
    obtain ⟨rfl, rfl⟩ : e = ⟨X.hub, 1, 0⟩ ∧ r = [] := by simpa [Cx.sq] using hbf
    exact ⟨L, ⟨4, F, by omega, rfl, fun a => by omega, fun _ a => by omega, fun _ => j3 (by omega), fun a => by omega, fun _ => by rw [hval, if_neg (fun g => hne t g.1)]; exact j5 (by omega)⟩, .inl rfl, fun _ _ => Iff.rfl, fun h => h, hch (.inl ⟨rfl, by simp⟩), fun _ => by simp, .inr ⟨rfl, rfl, rfl, rfl, rfl⟩⟩
  | 4, j, hi, hj, hbf, j1, j2, j3, j4, j5 =>
    obtain rfl : j = 4 := by omega
    simp [Cx.sq] at hbf
  | 0, 0, hi, hj, hbf, j1, j2, j3, j4, j5 => simp [Cx.sq] at hbf
  | 0, j + 5, hi, hj, hbf, j1, j2, j3, j4, j5 => omega
  | i + 5, j, hi, hj, hbf, j1, j2, j3, j4, j5 => omega
/-- A store of anybody drained. -/
theorem Core.dr (C : Core X s p old L B) (ht : t < X.n) : ∃ L', Core X (s.dr t) p old L' B := by
  cases hb : s.buf t with
  | nil => exact ⟨L, by unfold A.dr; rw [hb]; exact C⟩
  | cons e r =>
    by_cases hH : Has (s.reg t) (s.buf t) (p t)
    · have T := C.th t ht
      have Ta := T.a
      have Tb := T.b
      have hhub : ∀ w, e = ⟨X.hub, e.w, e.v⟩ → w ≠ e.w → (s.dr t).val X.hub w = s.val X.hub w := fun w h hw => by rw [dr_val hb, if_neg (fun g => hw g.2)]
      have hown : e.a = X.hub → ∀ u w, (s.dr t).val (X.own u) w = s.val (X.own u) w := fun h u w => by rw [dr_val hb, if_neg (fun g => X.ne u (g.1.trans h))]
      have hno : ∀ q, q < X.n → old t q → ∃ c d, p q = .cl c d := fun q hq ho => by
        obtain ⟨c, d, h, _⟩ := C.old t q ht hq ho
        exact ⟨c, d, h⟩
      have hold : ∀ q φ, q < X.n → old t q → X.Prot s q φ → X.Prot (s.dr t) q φ := fun q φ hq ho h => by
        by_cases e1 : q = t
        · subst e1; exact Prot.drain hb h
        · obtain ⟨c, d, h1⟩ := hno q hq ho
          refine Prot.drain_ne hb e1 (fun g => ?_) h
          -- only the own count of q is at stake: it is no cell that t writes
          have hH2 := hH
          rcases C.lock with ⟨_, h4⟩ | ⟨_, _, _, _, _⟩
          · exact h4 t ht hH
          · cases hp : p t with
            | tk k j =>
              rw [hp] at Ta hH
              match j, Ta, hH with
              | 4, Ta, _ => rw [show s.buf t = [] from Ta] at hb; cases hb
              | 6, Ta, _ => rw [show s.buf t = [] from Ta] at hb; cases hb
            | jc j =>
              rw [hp] at Tb
              have hJS : ∃ j, j ≤ 4 ∧ X.JS (s.buf t) s.val L t j := by
                match j, Tb with
                | 0, Tb => exact ⟨0, by omega, Tb.2⟩
                | 1, Tb => exact ⟨0, by omega, Tb.2.1⟩
                | 2, Tb => exact ⟨1, by omega, Tb.2⟩
                | 3, Tb => exact ⟨2, by omega, Tb.2⟩
                | 4, Tb => exact ⟨2, by omega, Tb.2.1⟩
                | j + 5, Tb => exact Tb.elim
              obtain ⟨j', h5, h6⟩ := hJS
              obtain ⟨_, _, h7, _⟩ := JS.drain C ht hb h6 h5
              rcases h7 with h7 | ⟨h7, h8⟩
              · exact X.ne q (g.1.trans h7)
              · exact h8 g.2.symm
            | gv k j =>
              rw [hp] at Tb
              by_cases hk : k = 0
              · subst hk
                have Tb' : X.LGv0 (s.reg t) (s.buf t) s.val L t j := Tb
                have hJS : ∃ j, j ≤ 4 ∧ X.JS (s.buf t) s.val L t j := by
                  match j, Tb' with
                  | 0, Tb => exact ⟨3, by omega, Tb.2⟩
                  | 1, Tb => exact ⟨3, by omega, Tb.2.1⟩
                  | 2, Tb => exact ⟨4, by omega, Tb.2⟩
                  | j + 3, Tb => exact Tb.elim
                obtain ⟨j', h5, h6⟩ := hJS
                obtain ⟨_, _, h7, _⟩ := JS.drain C ht hb h6 h5
                rcases h7 with h7 | ⟨h7, h8⟩
                · exact X.ne q (g.1.trans h7)
                · exact h8 g.2.symm
              · have Tb' : (if k = 0 then X.LGv0 (s.reg t) (s.buf t) s.val L t j else X.LGv (s.reg t) (s.buf t) (old t) k j) := Tb
                rw [if_neg hk] at Tb'
                exact Tb'.2.1 q hq ho
            | wn gg j =>
              rw [hp] at Tb
              obtain ⟨f3, Tb⟩ := Tb
              match j, Tb with
              | 4, Tb =>
                obtain ⟨V, _, h5, _⟩ := Tb
                rw [hb] at h5
                rcases h5 with h5 | ⟨h5, _⟩
                · simp only [List.cons.injEq] at h5
                  rw [h5.1] at g
                  exact X.ne q g.1
                · cases h5
              | 0, Tb => rw [Tb.1] at hb; cases hb
              | 1, Tb => rw [Tb.1] at hb; cases hb
              | 2, Tb => rw [Tb.1] at hb; cases hb
              | 3, Tb => rw [Tb.1] at hb; cases hb
              | 5, Tb => rw [Tb.1] at hb; cases hb
              | 6, Tb => rw [Tb.1] at hb; cases hb
              | 7, Tb => rw [Tb.1] at hb; cases hb
              | 21, Tb => rw [Tb.1] at hb; cases hb
              | 22, Tb => rw [Tb.1] at hb; cases hb
            | wx gg j => rw [hp] at Tb; rw [Tb.2.1] at hb; cases hb
            | we => rw [hp] at Tb; rw [Tb.2.1] at hb; cases hb
            | cs j =>
              rw [hp] at Tb
              obtain ⟨f3, Tb⟩ := Tb
              match j, Tb with
              | 4, Tb =>
                obtain ⟨V, h5, _⟩ := Tb
                rw [hb] at h5
                rcases h5 with ⟨h5, _⟩ | ⟨h5, _⟩
                · simp only [List.cons.injEq] at h5
                  rw [h5.1] at g
                  exact X.ne q g.1
                · cases h5
              | 0, Tb => rw [show s.buf t = [] from Tb] at hb; cases hb
              | 1, Tb => rw [Tb.1] at hb; cases hb
              | 2, Tb => rw [Tb.1] at hb; cases hb
              | 3, Tb => rw [Tb.1] at hb; cases hb
              | 5, Tb => rw [Tb.1] at hb; cases hb
              | 6, Tb => rw [Tb.1] at hb; cases hb
              | 7, Tb => rw [Tb.1] at hb; cases hb
              | 16, Tb => rw [Tb.1] at hb; cases hb
              | 17, Tb => rw [Tb.1] at hb; cases hb
            | cx j => rw [hp] at Tb; rw [Tb.2.1] at hb; cases hb
            | _ => rw [hp] at hH; exact hH.elim
      cases hp : p t with
      | tk k j =>
        rw [hp] at Ta hH
        match j, Ta, hH with
        | 4, Ta, _ => rw [show s.buf t = [] from Ta] at hb; cases hb
        | 6, Ta, _ => rw [show s.buf t = [] from Ta] at hb; cases hb
      | jc j =>
        rw [hp] at Tb hH
        have hst : ∀ i, i ≤ 4 → X.JS (s.buf t) s.val L t i → (∀ L', X.JS r (s.dr t).val L' t i → X.LocB (s.reg t) r (s.dr t).val (X.Prot (s.dr t)) (old t) L' t (.jc j)) → i < 4 → ∃ L', Core X (s.dr t) p old L' B := fun i hi h1 h2 h3 => by
          obtain ⟨L', k1, k2, k3, k4, k5, k6, k7⟩ := JS.drain C ht hb h1 hi
          refine ⟨L', C.drH ht hb hp hH k2 L' k3 k4 ?_ (fun a b => absurd b (k6 a)) k5 (fun _ h => absurd trivial h) (fun h => h) (fun _ _ _ _ => trivial) (h2 L' k1)⟩
          rcases k7 with k7 | k7
          · exact .inl ⟨trivial, k7⟩
          · omega
        match j, Tb, hst with
        | 0, Tb, hst => 
          obtain ⟨i, F, h1, h2, _⟩ := Tb.2
          obtain rfl : i = 0 := by omega
          rw [hb] at h2; cases h2
        | 1, Tb, hst =>
          obtain ⟨i, F, h1, h2, _⟩ := Tb.2.1
          obtain rfl : i = 0 := by omega
          rw [hb] at h2; cases h2
        | 2, Tb, hst => exact hst 1 (by omega) Tb.2 (fun L' h => ⟨Tb.1, h⟩) (by omega)
        | 3, Tb, hst => exact hst 2 (by omega) Tb.2 (fun L' h => ⟨Tb.1, h⟩) (by omega)
        | 4, Tb, hst => exact hst 2 (by omega) Tb.2.1 (fun L' h => ⟨Tb.1, h, Tb.2.2⟩) (by omega)
        | j + 5, Tb, hst => exact Tb.elim
      | gv k j =>
        rw [hp] at Tb hH
        by_cases hk : k = 0
        · subst hk
          have Tb' : X.LGv0 (s.reg t) (s.buf t) s.val L t j := Tb
          have hst : ∀ i, i ≤ 4 → X.JS (s.buf t) s.val L t i → (∀ L', X.JS r (s.dr t).val L' t i → X.LGv0 (s.reg t) r (s.dr t).val L' t j) → (i < 4 ∧ j < 2 ∨ j = 2 ∧ (r = [] → i = 4)) → ∃ L', Core X (s.dr t) p old L' B := fun i hi h1 h2 h3 => by
            obtain ⟨L', k1, k2, k3, k4, k5, k6, k7⟩ := JS.drain C ht hb h1 hi
            refine ⟨L', C.drH ht hb hp hH k2 L' k3 k4 ?_ (fun a b => absurd b (k6 a)) k5 (fun _ h => absurd trivial h) (fun h => h) (fun _ _ _ _ => trivial) (h2 L' k1)⟩
            rcases h3 with ⟨g1, g2⟩ | ⟨g1, g2⟩
            · rcases k7 with k7 | k7
              · refine .inl ⟨?_, k7⟩
                match j, g2 with
                | 0, _ => trivial
                | 1, _ => trivial
              · omega
            · subst g1
              rcases k7 with k7 | ⟨q1, q2, q3, q4, q5⟩
              · refine .inl ⟨?_, k7⟩
                show r ≠ []
                intro hr
                have := g2 hr
                subst this
                obtain ⟨i', F, a1, a2, _⟩ := h1
                rw [hb, hr] at a2
                have hl := congrArg List.length a2
                simp [Cx.sq] at hl
                obtain rfl : i' = 3 := by omega
                simp [Cx.sq] at a2
                rw [a2] at k7
                exact k7 ⟨rfl, rfl⟩
              · exact .inr ⟨by rw [q4]; simp [Has], q1, q2, q3, q4⟩
          match j, Tb', hst with
          | 0, Tb, hst => exact hst 3 (by omega) Tb.2 (fun L' h => ⟨Tb.1, h⟩) (.inl ⟨by omega, by omega⟩)
          | 1, Tb, hst => exact hst 3 (by omega) Tb.2.1 (fun L' h => ⟨Tb.1, h, Tb.2.2⟩) (.inl ⟨by omega, by omega⟩)
          | 2, Tb, hst => exact hst 4 (by omega) Tb.2 (fun L' h => ⟨Tb.1, h⟩) (.inr ⟨rfl, fun _ => rfl⟩)
          | j + 3, Tb, hst => exact Tb.elim
        · have Tb' : (if k = 0 then X.LGv0 (s.reg t) (s.buf t) s.val L t j else X.LGv (s.reg t) (s.buf t) (old t) k j) := Tb
          rw [if_neg hk] at Tb'
          obtain ⟨hf, ho, h1, h2, h3, h4⟩ := Tb'
          have hj : j = 2 := by
            refine Classical.byContradiction fun g => ?_
            have := h1 (by omega)
            rw [this] at hb; cases hb
          subst hj
          have h5 := h3 rfl
          rw [hb] at h5
          rcases h5 with h5 | h5
          · simp only [List.cons.injEq] at h5
            obtain ⟨rfl, rfl⟩ := h5
            obtain ⟨k, rfl⟩ : ∃ j, k = j + 1 := ⟨k - 1, by omega⟩
            refine ⟨L, C.drH ht hb hp hH (.inl rfl) L (fun _ _ => Iff.rfl) (fun h => h) (.inr ⟨by simp [Has], rfl, rfl, rfl, rfl⟩) (fun _ h => by cases h) ?_ (fun f => ?_) (fun h => h) (fun _ _ _ _ => trivial) ?_⟩
            · rw [dr_val hb, if_neg (by simp)]
              exact Ch.mono (fun q _ => hown rfl q 1) C.ch
            · intro hj
              rw [hown rfl]
              exact C.j f t ht (by rw [hp]; simp [joining])
            · show (if k + 1 = 0 then X.LGv0 (s.reg t) [] (s.dr t).val L t 2 else X.LGv (s.reg t) [] (old t) (k + 1) 2)
              rw [if_neg hk]
              exact ⟨hf, ho, fun a => by omega, h2, fun _ => .inr rfl, h4⟩
          · cases h5
      | wn g j =>
        rw [hp] at Tb hH
        obtain ⟨f3, Tb⟩ := Tb
        match j, Tb with
        | 4, Tb =>
          obtain ⟨V, hV, h5, hT⟩ := Tb
          rw [hb] at h5
          rcases h5 with h5 | ⟨h5, _⟩
          · simp only [List.cons.injEq] at h5
            obtain ⟨rfl, rfl⟩ := h5
            refine ⟨L, C.drH ht hb hp hH (.inl rfl) L (fun _ _ => Iff.rfl) (fun h => h) (.inl ⟨trivial, by simp⟩) (fun _ _ => ⟨fun _ => hV, fun f => absurd f f3⟩) ?_ (fun f => ?_) (fun h => h) (fun _ _ _ _ => trivial) ⟨f3, V, hV, .inr ⟨rfl, ?_⟩, fun q hq ho => (hT q hq ho).mono fun φ => hold q φ hq ho⟩⟩
            · rw [dr_val hb, if_neg (by simp)]
              exact Ch.mono (fun q _ => hown rfl q 1) C.ch
            · intro hj
              rw [hown rfl]
              exact C.j f t ht (by rw [hp]; simp [joining])
            · rw [dr_val hb, if_pos ⟨rfl, rfl⟩]
          · cases h5
        | 0, Tb => rw [Tb.1] at hb; cases hb
        | 1, Tb => rw [Tb.1] at hb; cases hb
        | 2, Tb => rw [Tb.1] at hb; cases hb
        | 3, Tb => rw [Tb.1] at hb; cases hb
        | 5, Tb => rw [Tb.1] at hb; cases hb
        | 6, Tb => rw [Tb.1] at hb; cases hb
        | 7, Tb => rw [Tb.1] at hb; cases hb
        | 21, Tb => rw [Tb.1] at hb; cases hb
        | 22, Tb => rw [Tb.1] at hb; cases hb
      | wx g j => rw [hp] at Tb; rw [Tb.2.1] at hb; cases hb
      | we => rw [hp] at Tb; rw [Tb.2.1] at hb; cases hb
      | cs j =>
        rw [hp] at Tb hH
        obtain ⟨f3, Tb⟩ := Tb
        match j, Tb with
        | 4, Tb =>
          obtain ⟨V, h5, hT⟩ := Tb
          rw [hb] at h5
          rcases h5 with ⟨h5, hV⟩ | ⟨h5, _⟩
          · simp only [List.cons.injEq] at h5
            obtain ⟨rfl, rfl⟩ := h5
            refine ⟨L, C.drH ht hb hp hH (.inl rfl) L (fun _ _ => Iff.rfl) (fun h => h) (.inl ⟨trivial, by simp⟩) (fun _ _ => ⟨fun f => absurd f3 f, fun f => by show s.val X.hub 0 ≤ V; omega⟩) ?_ (fun f => by omega) (fun h => h) (fun _ _ _ _ => trivial) ⟨f3, V, .inr ⟨rfl, ?_⟩, fun q hq ho => hold q _ hq ho (hT q hq ho)⟩⟩
            · rw [dr_val hb, if_neg (by simp)]
              exact Ch.mono (fun q _ => hown rfl q 1) C.ch
            · rw [dr_val hb, if_pos ⟨rfl, rfl⟩]
          · cases h5
        | 0, Tb => rw [show s.buf t = [] from Tb] at hb; cases hb
        | 1, Tb => rw [Tb.1] at hb; cases hb
        | 2, Tb => rw [Tb.1] at hb; cases hb
        | 3, Tb => rw [Tb.1] at hb; cases hb
        | 5, Tb => rw [Tb.1] at hb; cases hb
        | 6, Tb => rw [Tb.1] at hb; cases hb
        | 7, Tb => rw [Tb.1] at hb; cases hb
        | 16, Tb => rw [Tb.1] at hb; cases hb
        | 17, Tb => rw [Tb.1] at hb; cases hb
      | cx j => rw [hp] at Tb; rw [Tb.2.1] at hb; cases hb
      | _ => rw [hp] at hH; exact hH.elim
    · exact ⟨L, C.drN ht hb hH⟩
end Qg
end
/- Grace on the plain machine: a step at any place of grace. -/
section
namespace Qg
open Qs
variable {X : Cx} {s s' : A} {p : Nat → Pos} {old old' : Nat → Nat → Prop} {L L' : List Nat} {B : Int} {t u : Nat}
def Jmp (s : A) (t : Nat) (x : Instr) : Prop := (x.op = 14 ∧ s.reg t x.A.toNat = 0) ∨ (x.op = 15 ∧ s.reg t x.A.toNat = s.reg t x.B.toNat) ∨ x.op = 16
/-- Where a thread may be behind a place from which it does not jump. -/
def NextOk (f : Nat) (P q : Pos) : Prop := match fallOf f P with
  | some q' => q = q'
  | none => ∃ d, startD f q = some d ∧ d < 100 ∧ (f ≠ 3 → d = dOut P) ∧ (P = .gn 2 → q = .fin)
theorem Th.pc {P : Pos} (h : Th X s old L u P) (k : Nat) : Th X (s.setP t k) old L u P := ⟨h.r6, h.r7, h.buf, h.vw, h.rng, h.sec, h.il, h.nb, h.ok, h.a, h.c, h.b⟩
theorem Core.pc (C : Core X s p old L B) (t k : Nat) : Core X (s.setP t k) p old L B := ⟨fun u hu => (C.th u hu).pc k, C.lock, C.h0, C.h3, C.hb3, C.ch, C.all, C.j, C.old⟩
set_option maxHeartbeats 2000000 in
theorem Core.step (C : Core X s p old L B) (ht : t < X.n) {x : Instr} (hx : insOf X.f (p t) = some (x.op, x.A, x.B, x.C))
    (hb : x.op = 9 ∨ x.op = 12 → s.buf t = []) (hb2 : x.op = 13 → ∀ u, u < X.n → s.buf u = []) (O : ∀ r, r < X.n → X.own r ≠ 0) (hB : B < 4000000000) {q : Pos}
    (hj : Jmp s t x → q = tgtOf (p t)) (hf : ¬ Jmp s t x → NextOk X.f (p t) q) (tg : Nat) : Core X (s.ex t x tg) (upd p t q) old L (B + 2) := by
  obtain ⟨op, xa, xb, xc, to⟩ := x
  have T := C.th t ht
  have Ta := T.a
  have Tb := T.b
  have hup : B ≤ B + 2 := by omega
  have r6 := T.r6
  have r7 := T.r7
  simp only at hx hb hb2
  cases hp : p t with
  | fin => rw [hp] at hx; cases hx
  | cl c d => rw [hp] at hx; cases hx
  | dead => rw [hp] at hx; cases hx
  | ent d j =>
    rw [hp] at hx hj hf Ta Tb
    match j, hp, hx, hj, hf, Ta, Tb with
    | 0, hp, hx, hj, hf, Ta, Tb =>
      cases hx
      have hq : q = .ent d 1 := hf (by simp [Jmp])
      rw [hq]
      exact (g_ent0 C ht hp (v := s.vw t (s.reg t 6) 0) (by rw [r6])).up hup
    | 1, hp, hx, hj, hf, Ta, Tb =>
      cases hx
      have hq : q = .ent d 2 := hf (by simp [Jmp])
      rw [hq]
      exact (g_ent1 C ht hp rfl).up hup
    | 2, hp, hx, hj, hf, Ta, Tb =>
      cases hx
      have hq : q = .ent d 3 := hf (by simp [Jmp])
      rw [hq]
      exact (g_ent2 C ht hp rfl).up hup
    | 3, hp, hx, hj, hf, Ta, Tb =>
      cases hx
      by_cases h0 : s.reg t 1 = 0
      · have hq : q = .ent d 8 := hj (by simp [Jmp]; exact h0)
        rw [hq]
        rw [show s.ex t ⟨14, 1, 0, 0, to⟩ tg = s.setP t tg from if_pos h0]
        exact ((g_ent3j C ht hp h0).up hup).pc t tg
      · have hq : q = .ent d 4 := hf (by simp [Jmp]; exact h0)
        rw [hq]
        rw [show s.ex t ⟨14, 1, 0, 0, to⟩ tg = s from if_neg h0]
        exact (g_ent3f C ht hp h0).up hup
    | 4, hp, hx, hj, hf, Ta, Tb =>
      cases hx
      have hq : q = .ent d 5 := hf (by simp [Jmp])
      rw [hq]
      exact (g_ent4 C ht hp rfl).up hup
    | 5, hp, hx, hj, hf, Ta, Tb =>
      cases hx
      have hq : q = .ent d 6 := hf (by simp [Jmp])
      rw [hq]
      exact (g_ent5 C ht hp rfl).up hup
    | 6, hp, hx, hj, hf, Ta, Tb =>
      cases hx
      have hq : q = .ent d 7 := hf (by simp [Jmp])
      rw [hq]
      rw [show s.ex t ⟨7, 6, 0, 0, to⟩ tg = s.setB t (s.buf t ++ [⟨s.reg t 6, 0, s.reg t 0⟩]) from rfl, r6]
      exact (g_ent6 C ht hp rfl).up hup
    | 7, hp, hx, hj, hf, Ta, Tb =>
      cases hx
      have hq : q = .ent d 12 := hj (by simp [Jmp])
      rw [hq]
      exact ((g_ent7 C ht hp ).up hup).pc t tg
    | 8, hp, hx, hj, hf, Ta, Tb =>
      cases hx
      have hq : q = .ent d 9 := hf (by simp [Jmp])
      rw [hq]
      exact (g_ent8 C ht hp ).up hup
    | 9, hp, hx, hj, hf, Ta, Tb =>
      cases hx
      have hq : q = .ent d 10 := hf (by simp [Jmp])
      rw [hq]
      exact (g_ent9 C ht hp (v := s.vw t (s.reg t 7) 0) (by rw [r7])).up hup
    | 10, hp, hx, hj, hf, Ta, Tb =>
      cases hx
      have hq : q = .ent d (if X.f = 2 then 12 else 11) := hf (by simp [Jmp])
      rw [hq]
      rw [show s.ex t ⟨7, 6, 0, 0, to⟩ tg = s.setB t (s.buf t ++ [⟨s.reg t 6, 0, s.reg t 0⟩]) from rfl, r6]
      exact (g_ent10 C ht hp rfl).up hup
    | 11, hp, hx, hj, hf, Ta, Tb =>
      cases hx
      have hq : q = .ent d 12 := hf (by simp [Jmp])
      rw [hq]
      exact (g_ent11 C ht hp (hb (by simp))).up hup
    | 12, hp, hx, hj, hf, Ta, Tb =>
      cases hx
      obtain ⟨d0, hq, hd, hd2, _⟩ : ∃ d0, startD X.f q = some d0 ∧ d0 < 100 ∧ (X.f ≠ 3 → d0 = dOut (.ent d 12)) ∧ ((.ent d 12 : Pos) = .gn 2 → q = .fin) := hf (by simp [Jmp])
      have he : d0 = d + 1 := hd2 Tb
      subst he
      exact (g_ent12 C ht hp hq hd).up hup
    | j + 13, hp, hx, hj, hf, Ta, Tb => cases hx
  | lea d j =>
    rw [hp] at hx hj hf Ta Tb
    match j, hp, hx, hj, hf, Ta, Tb with
    | 0, hp, hx, hj, hf, Ta, Tb =>
      cases hx
      have hq : q = .lea d 1 := hf (by simp [Jmp])
      rw [hq]
      exact (g_lea0 C ht hp ).up hup
    | 1, hp, hx, hj, hf, Ta, Tb =>
      cases hx
      have hq : q = .lea d 2 := hf (by simp [Jmp])
      rw [hq]
      exact (g_lea1 C ht hp (v := s.vw t (s.reg t 6) 0) (by rw [r6])).up hup
    | 2, hp, hx, hj, hf, Ta, Tb =>
      cases hx
      have hq : q = .lea d 3 := hf (by simp [Jmp])
      rw [hq]
      exact (g_lea2 C ht hp rfl).up hup
    | 3, hp, hx, hj, hf, Ta, Tb =>
      cases hx
      have hq : q = .lea d 4 := hf (by simp [Jmp])
      rw [hq]
      exact (g_lea3 C ht hp rfl).up hup
    | 4, hp, hx, hj, hf, Ta, Tb =>
      cases hx
      obtain ⟨d0, hq, hd, hd2, _⟩ : ∃ d0, startD X.f q = some d0 ∧ d0 < 100 ∧ (X.f ≠ 3 → d0 = dOut (.lea d 4)) ∧ ((.lea d 4 : Pos) = .gn 2 → q = .fin) := hf (by simp [Jmp])
      have he : d0 = d - 1 := hd2 Tb
      subst he
      rw [show s.ex t ⟨7, 6, 0, 0, to⟩ tg = s.setB t (s.buf t ++ [⟨s.reg t 6, 0, s.reg t 0⟩]) from rfl, r6]
      exact (g_lea4 C ht hp rfl hq hd).up hup
    | j + 5, hp, hx, hj, hf, Ta, Tb => cases hx
  | jh d j =>
    rw [hp] at hx hj hf Ta Tb
    match j, hp, hx, hj, hf, Ta, Tb with
    | 0, hp, hx, hj, hf, Ta, Tb =>
      cases hx
      have hq : q = .jh d 1 := hf (by simp [Jmp])
      rw [hq]
      exact (g_jh0 C ht hp (v := s.vw t (s.reg t 6) 2) (by rw [r6])).up hup
    | 1, hp, hx, hj, hf, Ta, Tb =>
      cases hx
      by_cases h0 : s.reg t 0 = 0
      · by_cases hd : d = 0
        · subst hd
          have hq : q = .jh 0 3 := hj (by simp [Jmp]; exact h0)
          rw [hq]
          rw [show s.ex t ⟨14, 0, 0, 0, to⟩ tg = s.setP t tg from if_pos h0]
          exact ((g_jh1j C ht hp h0).up hup).pc t tg
        · exact (g_jh1d C ht (by omega) hp h0).elim
      · have hq : q = .jh d 2 := hf (by simp [Jmp]; exact h0)
        rw [hq]
        rw [show s.ex t ⟨14, 0, 0, 0, to⟩ tg = s from if_neg h0]
        exact (g_jh1f C ht hp h0).up hup
    | 2, hp, hx, hj, hf, Ta, Tb =>
      cases hx
      have hq : q = .jk d := hj (by simp [Jmp])
      rw [hq]
      exact ((g_jh2 C ht hp ).up hup).pc t tg
    | 3, hp, hx, hj, hf, Ta, Tb =>
      cases hx
      have hd : d = 0 := (Tb.2.2.1 rfl).2
      subst hd
      have hq : q = .tk 0 0 := hf (by simp [Jmp])
      rw [hq]
      exact (g_jh3 C ht hp).up hup
    | j + 4, hp, hx, hj, hf, Ta, Tb => cases hx
  | jc j =>
    rw [hp] at hx hj hf Ta Tb
    match j, hp, hx, hj, hf, Ta, Tb with
    | 0, hp, hx, hj, hf, Ta, Tb =>
      cases hx
      have hq : q = .jc 1 := hf (by simp [Jmp])
      rw [hq]
      exact (g_jc0 C ht hp (v := s.vw t (s.reg t 7) 2) (by rw [r7])).up hup
    | 1, hp, hx, hj, hf, Ta, Tb =>
      cases hx
      have hq : q = .jc 2 := hf (by simp [Jmp])
      rw [hq]
      rw [show s.ex t ⟨7, 6, 0, 1, to⟩ tg = s.setB t (s.buf t ++ [⟨s.reg t 6, 1, s.reg t 0⟩]) from rfl, r6]
      exact (g_jc1 C ht hp rfl).up hup
    | 2, hp, hx, hj, hf, Ta, Tb =>
      cases hx
      have hq : q = .jc 3 := hf (by simp [Jmp])
      rw [hq]
      rw [show s.ex t ⟨7, 7, 6, 2, to⟩ tg = s.setB t (s.buf t ++ [⟨s.reg t 7, 2, s.reg t 6⟩]) from rfl, r7]
      exact (g_jc2 C ht hp rfl).up hup
    | 3, hp, hx, hj, hf, Ta, Tb =>
      cases hx
      have hq : q = .jc 4 := hf (by simp [Jmp])
      rw [hq]
      exact (g_jc3 C ht hp rfl).up hup
    | 4, hp, hx, hj, hf, Ta, Tb =>
      cases hx
      have hq : q = .gv 0 0 := hf (by simp [Jmp])
      rw [hq]
      rw [show s.ex t ⟨7, 6, 0, 2, to⟩ tg = s.setB t (s.buf t ++ [⟨s.reg t 6, 2, s.reg t 0⟩]) from rfl, r6]
      exact (g_jc4 C ht hp rfl).up hup
    | j + 5, hp, hx, hj, hf, Ta, Tb => cases hx
  | jk d =>
    rw [hp] at hx hj hf
    cases hx
    have hq : q = .ent d 0 := hf (by simp [Jmp])
    rw [hq]
    exact (g_jk C ht hp).up hup
  | tk k j =>
    rw [hp] at hx hj hf Ta Tb
    have hk3 : k < 3 := Tb.2.2.2
    match k, j, hk3, hp, hx, hj, hf, Ta, Tb with
    | 0, 0, hk3, hp, hx, hj, hf, Ta, Tb =>
      cases hx
      have hq : q = .tk 0 1 := hf (by simp [Jmp])
      rw [hq]
      exact (g_tk0 C ht hp ).up hup
    | 0, 1, hk3, hp, hx, hj, hf, Ta, Tb =>
      cases hx
      have hq : q = .tk 0 2 := hf (by simp [Jmp])
      rw [hq]
      exact (g_tk1 C ht hp rfl).up hup
    | 0, 2, hk3, hp, hx, hj, hf, Ta, Tb =>
      cases hx
      have hq : q = .tk 0 3 := hf (by simp [Jmp])
      rw [hq]
      exact (g_tk2 C ht hp rfl).up hup
    | 0, 3, hk3, hp, hx, hj, hf, Ta, Tb =>
      cases hx
      have hq : q = .tk 0 4 := hf (by simp [Jmp])
      rw [hq]
      rw [show s.ex t ⟨9, 7, 0, 1, to⟩ tg = (if s.val (s.reg t 7) 1 = s.reg t 0 then s.put ⟨s.reg t 7, 1, s.reg t 1⟩ else s).setR t 0 (s.val (s.reg t 7) 1) from rfl, r7]
      exact (g_cas C ht hp (hb (by simp))).up hup
    | 0, 4, hk3, hp, hx, hj, hf, Ta, Tb =>
      cases hx
      by_cases h0 : s.reg t 0 = 0
      · have hq : q = .tk 0 6 := hj (by simp [Jmp]; exact h0)
        rw [hq]
        rw [show s.ex t ⟨14, 0, 0, 0, to⟩ tg = s.setP t tg from if_pos h0]
        exact ((g_tk4j C ht hp h0).up hup).pc t tg
      · have hq : q = .tk 0 5 := hf (by simp [Jmp]; exact h0)
        rw [hq]
        rw [show s.ex t ⟨14, 0, 0, 0, to⟩ tg = s from if_neg h0]
        exact (g_tk4f C ht hp h0).up hup
    | 0, 5, hk3, hp, hx, hj, hf, Ta, Tb =>
      cases hx
      have hq : q = .tk 0 0 := hj (by simp [Jmp])
      rw [hq]
      exact ((g_tk5 C ht hp ).up hup).pc t tg
    | 0, 6, hk3, hp, hx, hj, hf, Ta, Tb =>
      cases hx
      have hq : q = .jc 0 := hf (by simp [Jmp])
      rw [hq]
      exact (g_tk60 C ht hp ).up hup
    | 1, 0, hk3, hp, hx, hj, hf, Ta, Tb =>
      cases hx
      have hq : q = .tk 1 1 := hf (by simp [Jmp])
      rw [hq]
      exact (g_tk0 C ht hp ).up hup
    | 1, 1, hk3, hp, hx, hj, hf, Ta, Tb =>
      cases hx
      have hq : q = .tk 1 2 := hf (by simp [Jmp])
      rw [hq]
      exact (g_tk1 C ht hp rfl).up hup
    | 1, 2, hk3, hp, hx, hj, hf, Ta, Tb =>
      cases hx
      have hq : q = .tk 1 3 := hf (by simp [Jmp])
      rw [hq]
      exact (g_tk2 C ht hp rfl).up hup
    | 1, 3, hk3, hp, hx, hj, hf, Ta, Tb =>
      cases hx
      have hq : q = .tk 1 4 := hf (by simp [Jmp])
      rw [hq]
      rw [show s.ex t ⟨9, 7, 0, 1, to⟩ tg = (if s.val (s.reg t 7) 1 = s.reg t 0 then s.put ⟨s.reg t 7, 1, s.reg t 1⟩ else s).setR t 0 (s.val (s.reg t 7) 1) from rfl, r7]
      exact (g_cas C ht hp (hb (by simp))).up hup
    | 1, 4, hk3, hp, hx, hj, hf, Ta, Tb =>
      cases hx
      by_cases h0 : s.reg t 0 = 0
      · have hq : q = .tk 1 6 := hj (by simp [Jmp]; exact h0)
        rw [hq]
        rw [show s.ex t ⟨14, 0, 0, 0, to⟩ tg = s.setP t tg from if_pos h0]
        exact ((g_tk4j C ht hp h0).up hup).pc t tg
      · have hq : q = .tk 1 5 := hf (by simp [Jmp]; exact h0)
        rw [hq]
        rw [show s.ex t ⟨14, 0, 0, 0, to⟩ tg = s from if_neg h0]
        exact (g_tk4f C ht hp h0).up hup
    | 1, 5, hk3, hp, hx, hj, hf, Ta, Tb =>
      cases hx
      have hq : q = .tk 1 0 := hj (by simp [Jmp])
      rw [hq]
      exact ((g_tk5 C ht hp ).up hup).pc t tg
    | 1, 6, hk3, hp, hx, hj, hf, Ta, Tb =>
      cases hx
      have hq : q = .wn false 0 := hf (by simp [Jmp])
      rw [hq]
      exact (g_tk61 C ht hp ).up hup
    | 2, 0, hk3, hp, hx, hj, hf, Ta, Tb =>
      cases hx
      have hq : q = .tk 2 1 := hf (by simp [Jmp])
      rw [hq]
      exact (g_tk0 C ht hp ).up hup
    | 2, 1, hk3, hp, hx, hj, hf, Ta, Tb =>
      cases hx
      have hq : q = .tk 2 2 := hf (by simp [Jmp])
      rw [hq]
      exact (g_tk1 C ht hp rfl).up hup
    | 2, 2, hk3, hp, hx, hj, hf, Ta, Tb =>
      cases hx
      have hq : q = .tk 2 3 := hf (by simp [Jmp])
      rw [hq]
      exact (g_tk2 C ht hp rfl).up hup
    | 2, 3, hk3, hp, hx, hj, hf, Ta, Tb =>
      cases hx
      have hq : q = .tk 2 4 := hf (by simp [Jmp])
      rw [hq]
      rw [show s.ex t ⟨9, 7, 0, 1, to⟩ tg = (if s.val (s.reg t 7) 1 = s.reg t 0 then s.put ⟨s.reg t 7, 1, s.reg t 1⟩ else s).setR t 0 (s.val (s.reg t 7) 1) from rfl, r7]
      exact (g_cas C ht hp (hb (by simp))).up hup
    | 2, 4, hk3, hp, hx, hj, hf, Ta, Tb =>
      cases hx
      by_cases h0 : s.reg t 0 = 0
      · have hq : q = .tk 2 6 := hj (by simp [Jmp]; exact h0)
        rw [hq]
        rw [show s.ex t ⟨14, 0, 0, 0, to⟩ tg = s.setP t tg from if_pos h0]
        exact ((g_tk4j C ht hp h0).up hup).pc t tg
      · have hq : q = .tk 2 5 := hf (by simp [Jmp]; exact h0)
        rw [hq]
        rw [show s.ex t ⟨14, 0, 0, 0, to⟩ tg = s from if_neg h0]
        exact (g_tk4f C ht hp h0).up hup
    | 2, 5, hk3, hp, hx, hj, hf, Ta, Tb =>
      cases hx
      have hq : q = .tk 2 0 := hj (by simp [Jmp])
      rw [hq]
      exact ((g_tk5 C ht hp ).up hup).pc t tg
    | 2, 6, hk3, hp, hx, hj, hf, Ta, Tb =>
      cases hx
      have hq : q = .cs 0 := hf (by simp [Jmp])
      rw [hq]
      exact (g_tk62 C ht hp ).up hup
    | k + 3, j, hk3, hp, hx, hj, hf, Ta, Tb => omega
    | 0, j + 7, hk3, hp, hx, hj, hf, Ta, Tb => cases hx
    | 1, j + 7, hk3, hp, hx, hj, hf, Ta, Tb => cases hx
    | 2, j + 7, hk3, hp, hx, hj, hf, Ta, Tb => cases hx
  | gv k j =>
    rw [hp] at hx hj hf Ta Tb
    have hk3 : k < 3 := by
      by_cases hk : k = 0
      · omega
      · have Tb' : (if k = 0 then X.LGv0 (s.reg t) (s.buf t) s.val L t j else X.LGv (s.reg t) (s.buf t) (old t) k j) := Tb
        rw [if_neg hk] at Tb'
        have := Tb'.1
        omega
    match k, j, hk3, hp, hx, hj, hf, Ta, Tb with
    | 0, 0, hk3, hp, hx, hj, hf, Ta, Tb =>
      cases hx
      have hq : q = .gv 0 1 := hf (by simp [Jmp])
      rw [hq]
      exact (g_gv00 C ht hp rfl).up hup
    | 0, 1, hk3, hp, hx, hj, hf, Ta, Tb =>
      cases hx
      have hq : q = .gv 0 2 := hf (by simp [Jmp])
      rw [hq]
      rw [show s.ex t ⟨7, 7, 0, 1, to⟩ tg = s.setB t (s.buf t ++ [⟨s.reg t 7, 1, s.reg t 0⟩]) from rfl, r7]
      exact (g_gv01 C ht hp rfl).up hup
    | 0, 2, hk3, hp, hx, hj, hf, Ta, Tb =>
      cases hx
      have hq : q = .jk 0 := hf (by simp [Jmp])
      rw [hq]
      exact (g_gv02 C ht hp (hb (by simp))).up hup
    | 1, 0, hk3, hp, hx, hj, hf, Ta, Tb =>
      cases hx
      have hq : q = .gv 1 1 := hf (by simp [Jmp])
      rw [hq]
      exact (g_gv0 C ht hp (by omega) rfl).up hup
    | 1, 1, hk3, hp, hx, hj, hf, Ta, Tb =>
      cases hx
      have hq : q = .gv 1 2 := hf (by simp [Jmp])
      rw [hq]
      rw [show s.ex t ⟨7, 7, 0, 1, to⟩ tg = s.setB t (s.buf t ++ [⟨s.reg t 7, 1, s.reg t 0⟩]) from rfl, r7]
      exact (g_gv1 C ht hp (by omega) rfl).up hup
    | 1, 2, hk3, hp, hx, hj, hf, Ta, Tb =>
      cases hx
      obtain ⟨d0, hq, hd, hd2, _⟩ : ∃ d0, startD X.f q = some d0 ∧ d0 < 100 ∧ (X.f ≠ 3 → d0 = dOut (.gv 1 2)) ∧ ((.gv 1 2 : Pos) = .gn 2 → q = .fin) := hf (by simp [Jmp])
      have Tb' : X.LGv (s.reg t) (s.buf t) (old t) 1 2 := Tb
      have f3 : X.f ≠ 3 := by rcases Tb'.1 with h | h <;> omega
      have he : d0 = 0 := hd2 f3
      subst he
      exact (g_gv12 C ht hp (hb (by simp)) hq).up hup
    | 2, 0, hk3, hp, hx, hj, hf, Ta, Tb =>
      cases hx
      have hq : q = .gv 2 1 := hf (by simp [Jmp])
      rw [hq]
      exact (g_gv0 C ht hp (by omega) rfl).up hup
    | 2, 1, hk3, hp, hx, hj, hf, Ta, Tb =>
      cases hx
      have hq : q = .gv 2 2 := hf (by simp [Jmp])
      rw [hq]
      rw [show s.ex t ⟨7, 7, 0, 1, to⟩ tg = s.setB t (s.buf t ++ [⟨s.reg t 7, 1, s.reg t 0⟩]) from rfl, r7]
      exact (g_gv1 C ht hp (by omega) rfl).up hup
    | 2, 2, hk3, hp, hx, hj, hf, Ta, Tb =>
      cases hx
      have hq : q = .cr 0 := hf (by simp [Jmp])
      rw [hq]
      exact (g_gv22 C ht hp (hb (by simp))).up hup
    | k + 3, j, hk3, hp, hx, hj, hf, Ta, Tb => omega
    | 0, j + 3, hk3, hp, hx, hj, hf, Ta, Tb => cases hx
    | 1, j + 3, hk3, hp, hx, hj, hf, Ta, Tb => cases hx
    | 2, j + 3, hk3, hp, hx, hj, hf, Ta, Tb => cases hx
  | wb =>
    rw [hp] at hx hj hf
    have hx2 : some ((barOp X.f : Nat), (0 : Int), (0 : Int), (0 : Int)) = some (op, xa, xb, xc) := hx
    cases hx2
    have hq : q = .tk 1 0 := hf (by simp [Jmp, barOp]; split <;> simp)
    rw [hq]
    have he : s.ex t ⟨barOp X.f, 0, 0, 0, to⟩ tg = s := by
      unfold barOp
      split <;> rfl
    rw [he]
    have hbb : s.buf t = [] := by
      by_cases f2 : X.f = 2
      · exact hb2 (by unfold barOp; rw [if_pos f2]) t ht
      · exact hb (.inr (by unfold barOp; rw [if_neg f2]))
    exact (g_wb C ht hp hbb (fun f2 => hb2 (by unfold barOp; rw [if_pos f2]))).up hup
  | we =>
    rw [hp] at hx hj hf
    have hx2 : some ((barOp X.f : Nat), (0 : Int), (0 : Int), (0 : Int)) = some (op, xa, xb, xc) := hx
    cases hx2
    have hq : q = .gv 1 0 := hf (by simp [Jmp, barOp]; split <;> simp)
    rw [hq]
    have he : s.ex t ⟨barOp X.f, 0, 0, 0, to⟩ tg = s := by
      unfold barOp
      split <;> rfl
    rw [he]
    have hbb : s.buf t = [] := by
      by_cases f2 : X.f = 2
      · exact hb2 (by unfold barOp; rw [if_pos f2]) t ht
      · exact hb (.inr (by unfold barOp; rw [if_neg f2]))
    exact (g_we C ht hp ).up hup
  | wn g j =>
    rw [hp] at hx hj hf Ta Tb
    have hg : ∀ j, j ≠ 22 → j ≠ 7 → fallOf X.f (.wn g j) = some (.wn g (j + 1)) := fun j h1 h2 => by
      cases g <;> (unfold fallOf; split <;> simp_all)
    match j, hp, hx, hj, hf, Ta, Tb with
    | 0, hp, hx, hj, hf, Ta, Tb =>
      cases hx
      have hq : q = .wn g 1 := by have := hf (by simp [Jmp]); unfold NextOk at this; rw [hg _ (by omega) (by omega)] at this; exact this
      rw [hq]
      exact (g_wn0 C ht hp (v := s.vw t (s.reg t 7) 0) (by rw [r7])).up hup
    | 1, hp, hx, hj, hf, Ta, Tb =>
      cases hx
      have hq : q = .wn g 2 := by have := hf (by simp [Jmp]); unfold NextOk at this; rw [hg _ (by omega) (by omega)] at this; exact this
      rw [hq]
      exact (g_wn1 C ht hp rfl).up hup
    | 2, hp, hx, hj, hf, Ta, Tb =>
      cases hx
      have hq : q = .wn g 3 := by have := hf (by simp [Jmp]); unfold NextOk at this; rw [hg _ (by omega) (by omega)] at this; exact this
      rw [hq]
      exact (g_wn2 C ht hp rfl).up hup
    | 3, hp, hx, hj, hf, Ta, Tb =>
      cases hx
      have hq : q = .wn g 4 := by have := hf (by simp [Jmp]); unfold NextOk at this; rw [hg _ (by omega) (by omega)] at this; exact this
      rw [hq]
      rw [show s.ex t ⟨7, 7, 0, 0, to⟩ tg = s.setB t (s.buf t ++ [⟨s.reg t 7, 0, s.reg t 0⟩]) from rfl, r7]
      exact (g_wn3 C ht hp rfl).up hup
    | 4, hp, hx, hj, hf, Ta, Tb =>
      have hx2 : some ((barOp X.f : Nat), (0 : Int), (0 : Int), (0 : Int)) = some (op, xa, xb, xc) := hx
      cases hx2
      have hq : q = .wn g 5 := by have := hf (by simp [Jmp, barOp]; split <;> simp); unfold NextOk at this; rw [hg _ (by omega) (by omega)] at this; exact this
      rw [hq]
      have he : s.ex t ⟨barOp X.f, 0, 0, 0, to⟩ tg = s := by
        unfold barOp
        split <;> rfl
      rw [he]
      have hbb : s.buf t = [] := by
        by_cases f2 : X.f = 2
        · exact hb2 (by unfold barOp; rw [if_pos f2]) t ht
        · exact hb (.inr (by unfold barOp; rw [if_neg f2]))
      exact (g_wn4 C ht hp hbb).up hup
    | 5, hp, hx, hj, hf, Ta, Tb =>
      cases hx
      have hq : q = .wn g 6 := by have := hf (by simp [Jmp]); unfold NextOk at this; rw [hg _ (by omega) (by omega)] at this; exact this
      rw [hq]
      exact (g_wn5 C ht hp (v := s.vw t (s.reg t 7) 2) (by rw [r7])).up hup
    | 6, hp, hx, hj, hf, Ta, Tb =>
      cases hx
      have hq : q = .wn g 7 := by have := hf (by simp [Jmp]); unfold NextOk at this; rw [hg _ (by omega) (by omega)] at this; exact this
      rw [hq]
      exact (g_wn6 C ht hp ).up hup
    | 7, hp, hx, hj, hf, Ta, Tb =>
      cases hx
      by_cases h0 : s.reg t 2 = 0
      · have hq : q = .wn g 22 := hj (by simp [Jmp]; exact h0)
        rw [hq]
        rw [show s.ex t ⟨14, 2, 0, 0, to⟩ tg = s.setP t tg from if_pos h0]
        exact ((g_wn7j C ht hp h0 O).up hup).pc t tg
      · have hq : q = .wx g 8 := by cases g <;> exact hf (by simp [Jmp]; exact h0)
        rw [hq]
        rw [show s.ex t ⟨14, 2, 0, 0, to⟩ tg = s from if_neg h0]
        exact (g_wn7f C ht hp h0).up hup
    | 8, hp, hx, hj, hf, Ta, Tb =>
      cases hx
    | 9, hp, hx, hj, hf, Ta, Tb =>
      cases hx
    | 10, hp, hx, hj, hf, Ta, Tb =>
      cases hx
    | 11, hp, hx, hj, hf, Ta, Tb =>
      cases hx
    | 12, hp, hx, hj, hf, Ta, Tb =>
      cases hx
    | 13, hp, hx, hj, hf, Ta, Tb =>
      cases hx
    | 14, hp, hx, hj, hf, Ta, Tb =>
      cases hx
    | 15, hp, hx, hj, hf, Ta, Tb =>
      cases hx
    | 16, hp, hx, hj, hf, Ta, Tb =>
      cases hx
    | 17, hp, hx, hj, hf, Ta, Tb =>
      cases hx
    | 18, hp, hx, hj, hf, Ta, Tb =>
      cases hx
    | 19, hp, hx, hj, hf, Ta, Tb =>
      cases hx
    | 20, hp, hx, hj, hf, Ta, Tb =>
      cases hx
    | 21, hp, hx, hj, hf, Ta, Tb =>
      cases hx
      have hq : q = .wn g 6 := hj (by simp [Jmp])
      rw [hq]
      exact ((g_wn21 C ht hp ).up hup).pc t tg
    | 22, hp, hx, hj, hf, Ta, Tb =>
      cases hx
      cases g with
      | false =>
        have hq : q = .wn true 0 := hf (by simp [Jmp])
        rw [hq]
        exact (g_wn22f C ht hp).up hup
      | true =>
        have hq : q = .we := hf (by simp [Jmp])
        rw [hq]
        exact (g_wn22t C ht hp).up hup
    | j + 23, hp, hx, hj, hf, Ta, Tb => cases hx
  | wx g j =>
    rw [hp] at hx hj hf Ta Tb
    match j, hp, hx, hj, hf, Ta, Tb with
    | 0, hp, hx, hj, hf, Ta, Tb =>
      cases hx
    | 1, hp, hx, hj, hf, Ta, Tb =>
      cases hx
    | 2, hp, hx, hj, hf, Ta, Tb =>
      cases hx
    | 3, hp, hx, hj, hf, Ta, Tb =>
      cases hx
    | 4, hp, hx, hj, hf, Ta, Tb =>
      cases hx
    | 5, hp, hx, hj, hf, Ta, Tb =>
      cases hx
    | 6, hp, hx, hj, hf, Ta, Tb =>
      cases hx
    | 7, hp, hx, hj, hf, Ta, Tb =>
      cases hx
    | 8, hp, hx, hj, hf, Ta, Tb =>
      cases hx
      have hq : q = .wx g 9 := hf (by simp [Jmp])
      rw [hq]
      exact (g_wx8 C ht hp ).up hup
    | 9, hp, hx, hj, hf, Ta, Tb =>
      cases hx
      have hq : q = .wx g 10 := hf (by simp [Jmp])
      rw [hq]
      exact (g_wx9 C ht hp rfl).up hup
    | 10, hp, hx, hj, hf, Ta, Tb =>
      cases hx
      have hq : q = .wx g 11 := hf (by simp [Jmp])
      rw [hq]
      exact (g_wx10 C ht hp rfl).up hup
    | 11, hp, hx, hj, hf, Ta, Tb =>
      cases hx
      have hq : q = .wx g 12 := hf (by simp [Jmp])
      rw [hq]
      exact (g_wx11 C ht hp rfl).up hup
    | 12, hp, hx, hj, hf, Ta, Tb =>
      cases hx
      by_cases h0 : s.reg t 1 = 0
      · have hq : q = .wx g 19 := hj (by simp [Jmp]; exact h0)
        rw [hq]
        rw [show s.ex t ⟨14, 1, 0, 0, to⟩ tg = s.setP t tg from if_pos h0]
        exact ((g_wx12j C ht hp h0).up hup).pc t tg
      · have hq : q = .wx g 13 := hf (by simp [Jmp]; exact h0)
        rw [hq]
        rw [show s.ex t ⟨14, 1, 0, 0, to⟩ tg = s from if_neg h0]
        exact (g_wx12f C ht hp h0).up hup
    | 13, hp, hx, hj, hf, Ta, Tb =>
      cases hx
      have hq : q = .wx g 14 := hf (by simp [Jmp])
      rw [hq]
      exact (g_wx13 C ht hp (v := s.vw t (s.reg t 7) 0) (by rw [r7])).up hup
    | 14, hp, hx, hj, hf, Ta, Tb =>
      cases hx
      have hq : q = .wx g 15 := hf (by simp [Jmp])
      rw [hq]
      exact (g_wx14 C ht hp rfl).up hup
    | 15, hp, hx, hj, hf, Ta, Tb =>
      cases hx
      have hq : q = .wx g 16 := hf (by simp [Jmp])
      rw [hq]
      exact (g_wx15 C ht hp rfl).up hup
    | 16, hp, hx, hj, hf, Ta, Tb =>
      cases hx
      have hq : q = .wx g 17 := hf (by simp [Jmp])
      rw [hq]
      exact (g_wx16 C ht hp rfl).up hup
    | 17, hp, hx, hj, hf, Ta, Tb =>
      cases hx
      by_cases h0 : s.reg t 1 = 0
      · have hq : q = .wx g 19 := hj (by simp [Jmp]; exact h0)
        rw [hq]
        rw [show s.ex t ⟨14, 1, 0, 0, to⟩ tg = s.setP t tg from if_pos h0]
        exact ((g_wx17j C ht hp h0).up hup).pc t tg
      · have hq : q = .wx g 18 := hf (by simp [Jmp]; exact h0)
        rw [hq]
        rw [show s.ex t ⟨14, 1, 0, 0, to⟩ tg = s from if_neg h0]
        exact (g_wx17f C ht hp h0).up hup
    | 18, hp, hx, hj, hf, Ta, Tb =>
      cases hx
      have hq : q = .wx g 8 := hj (by simp [Jmp])
      rw [hq]
      exact ((g_wx18 C ht hp ).up hup).pc t tg
    | 19, hp, hx, hj, hf, Ta, Tb =>
      cases hx
      have hq : q = .wx g 20 := hf (by simp [Jmp])
      rw [hq]
      exact (g_wx19 C ht hp ).up hup
    | 20, hp, hx, hj, hf, Ta, Tb =>
      cases hx
      have hq : q = .wn g 21 := hf (by simp [Jmp])
      rw [hq]
      exact (g_wx20 C ht hp rfl).up hup
    | j + 21, hp, hx, hj, hf, Ta, Tb => cases hx
  | rs j =>
    rw [hp] at hx hj hf Ta Tb
    match j, hp, hx, hj, hf, Ta, Tb with
    | 0, hp, hx, hj, hf, Ta, Tb =>
      cases hx
      have hq : q = .rs 1 := hf (by simp [Jmp])
      rw [hq]
      exact (g_rs0 C ht hp (v := s.vw t (s.reg t 7) 0) (by rw [r7])).up hup
    | 1, hp, hx, hj, hf, Ta, Tb =>
      cases hx
      have hq : q = .rs 2 := hf (by simp [Jmp])
      rw [hq]
      rw [show s.ex t ⟨7, 6, 0, 0, to⟩ tg = s.setB t (s.buf t ++ [⟨s.reg t 6, 0, s.reg t 0⟩]) from rfl, r6]
      exact (g_rs1 C ht hp rfl).up hup
    | 2, hp, hx, hj, hf, Ta, Tb =>
      cases hx
      obtain ⟨d0, hq, hd, hd2, _⟩ : ∃ d0, startD X.f q = some d0 ∧ d0 < 100 ∧ (X.f ≠ 3 → d0 = dOut (.rs 2)) ∧ ((.rs 2 : Pos) = .gn 2 → q = .fin) := hf (by simp [Jmp])
      exact (g_rs2 C ht hp (hb (by simp)) hq hd).up hup
    | j + 3, hp, hx, hj, hf, Ta, Tb => cases hx
  | gn j =>
    rw [hp] at hx hj hf Ta Tb
    match j, hp, hx, hj, hf, Ta, Tb with
    | 0, hp, hx, hj, hf, Ta, Tb =>
      cases hx
      have hq : q = .gn 1 := hf (by simp [Jmp])
      rw [hq]
      exact (g_gn0 C ht hp rfl).up hup
    | 1, hp, hx, hj, hf, Ta, Tb =>
      cases hx
      have hq : q = .gn 2 := hf (by simp [Jmp])
      rw [hq]
      rw [show s.ex t ⟨7, 6, 0, 0, to⟩ tg = s.setB t (s.buf t ++ [⟨s.reg t 6, 0, s.reg t 0⟩]) from rfl, r6]
      exact (g_own3 C ht hp (.inl ⟨rfl, rfl⟩)).up hup
    | 2, hp, hx, hj, hf, Ta, Tb =>
      cases hx
      obtain ⟨d0, _, _, _, hq⟩ : ∃ d0, startD X.f q = some d0 ∧ d0 < 100 ∧ (X.f ≠ 3 → d0 = dOut (.gn 2)) ∧ ((Pos.gn 2 : Pos) = .gn 2 → q = .fin) := hf (by simp [Jmp])
      rw [hq rfl]
      exact (g_gn2 C ht hp (hb (by simp))).up hup
    | j + 3, hp, hx, hj, hf, Ta, Tb => cases hx
  | ca j =>
    rw [hp] at hx hj hf Ta Tb
    match j, hp, hx, hj, hf, Ta, Tb with
    | 0, hp, hx, hj, hf, Ta, Tb =>
      cases hx
      have hq : q = .ca 1 := hf (by simp [Jmp])
      rw [hq]
      exact (g_ca0 C ht hp rfl).up hup
    | 1, hp, hx, hj, hf, Ta, Tb =>
      cases hx
      have hq : q = .ca 2 := hf (by simp [Jmp])
      rw [hq]
      rw [show s.ex t ⟨7, 6, 0, 0, to⟩ tg = s.setB t (s.buf t ++ [⟨s.reg t 6, 0, s.reg t 0⟩]) from rfl, r6]
      exact (g_own3 C ht hp (.inr ⟨rfl, rfl⟩)).up hup
    | 2, hp, hx, hj, hf, Ta, Tb =>
      cases hx
      have hq : q = .tk 2 0 := hf (by simp [Jmp])
      rw [hq]
      exact (g_ca2 C ht hp (hb (by simp))).up hup
    | j + 3, hp, hx, hj, hf, Ta, Tb => cases hx
  | cr j =>
    rw [hp] at hx hj hf Ta Tb
    match j, hp, hx, hj, hf, Ta, Tb with
    | 0, hp, hx, hj, hf, Ta, Tb =>
      cases hx
      have hq : q = .cr 1 := hf (by simp [Jmp])
      rw [hq]
      exact (g_cr0 C ht hp (v := s.vw t (s.reg t 7) 0) (by rw [r7])).up hup
    | 1, hp, hx, hj, hf, Ta, Tb =>
      cases hx
      have hq : q = .cr 2 := hf (by simp [Jmp])
      rw [hq]
      rw [show s.ex t ⟨7, 6, 0, 0, to⟩ tg = s.setB t (s.buf t ++ [⟨s.reg t 6, 0, s.reg t 0⟩]) from rfl, r6]
      exact (g_cr1 C ht hp rfl).up hup
    | 2, hp, hx, hj, hf, Ta, Tb =>
      cases hx
      obtain ⟨d0, hq, hd, hd2, _⟩ : ∃ d0, startD X.f q = some d0 ∧ d0 < 100 ∧ (X.f ≠ 3 → d0 = dOut (.cr 2)) ∧ ((.cr 2 : Pos) = .gn 2 → q = .fin) := hf (by simp [Jmp])
      exact (g_cr2 C ht hp (hb (by simp)) hq hd).up hup
    | j + 3, hp, hx, hj, hf, Ta, Tb => cases hx
  | cs j =>
    rw [hp] at hx hj hf Ta Tb
    match j, hp, hx, hj, hf, Ta, Tb with
    | 0, hp, hx, hj, hf, Ta, Tb =>
      cases hx
      have hq : q = .cs 1 := hf (by simp [Jmp])
      rw [hq]
      exact (g_cs0 C ht hp (v := s.vw t (s.reg t 7) 0) (by rw [r7])).up hup
    | 1, hp, hx, hj, hf, Ta, Tb =>
      cases hx
      have hq : q = .cs 2 := hf (by simp [Jmp])
      rw [hq]
      exact (g_cs1 C ht hp rfl).up hup
    | 2, hp, hx, hj, hf, Ta, Tb =>
      cases hx
      have hq : q = .cs 3 := hf (by simp [Jmp])
      rw [hq]
      exact (g_cs2 C ht hp hB rfl).up hup
    | 3, hp, hx, hj, hf, Ta, Tb =>
      cases hx
      have hq : q = .cs 4 := hf (by simp [Jmp])
      rw [hq]
      rw [show s.ex t ⟨7, 7, 0, 0, to⟩ tg = s.setB t (s.buf t ++ [⟨s.reg t 7, 0, s.reg t 0⟩]) from rfl, r7]
      exact g_cs3 C ht hp rfl
    | 4, hp, hx, hj, hf, Ta, Tb =>
      cases hx
      have hq : q = .cs 5 := hf (by simp [Jmp])
      rw [hq]
      exact (g_cs4 C ht hp (hb (by simp))).up hup
    | 5, hp, hx, hj, hf, Ta, Tb =>
      cases hx
      have hq : q = .cs 6 := hf (by simp [Jmp])
      rw [hq]
      exact (g_cs5 C ht hp (v := s.vw t (s.reg t 7) 2) (by rw [r7])).up hup
    | 6, hp, hx, hj, hf, Ta, Tb =>
      cases hx
      have hq : q = .cs 7 := hf (by simp [Jmp])
      rw [hq]
      exact (g_cs6 C ht hp ).up hup
    | 7, hp, hx, hj, hf, Ta, Tb =>
      cases hx
      by_cases h0 : s.reg t 2 = 0
      · have hq : q = .cs 17 := hj (by simp [Jmp]; exact h0)
        rw [hq]
        rw [show s.ex t ⟨14, 2, 0, 0, to⟩ tg = s.setP t tg from if_pos h0]
        exact ((g_cs7j C ht hp h0 O).up hup).pc t tg
      · have hq : q = .cx 8 := hf (by simp [Jmp]; exact h0)
        rw [hq]
        rw [show s.ex t ⟨14, 2, 0, 0, to⟩ tg = s from if_neg h0]
        exact (g_cs7f C ht hp h0).up hup
    | 8, hp, hx, hj, hf, Ta, Tb =>
      cases hx
    | 9, hp, hx, hj, hf, Ta, Tb =>
      cases hx
    | 10, hp, hx, hj, hf, Ta, Tb =>
      cases hx
    | 11, hp, hx, hj, hf, Ta, Tb =>
      cases hx
    | 12, hp, hx, hj, hf, Ta, Tb =>
      cases hx
    | 13, hp, hx, hj, hf, Ta, Tb =>
      cases hx
    | 14, hp, hx, hj, hf, Ta, Tb =>
      cases hx
    | 15, hp, hx, hj, hf, Ta, Tb =>
      cases hx
    | 16, hp, hx, hj, hf, Ta, Tb =>
      cases hx
      have hq : q = .cs 6 := hj (by simp [Jmp])
      rw [hq]
      exact ((g_cs16 C ht hp ).up hup).pc t tg
    | 17, hp, hx, hj, hf, Ta, Tb =>
      cases hx
      have hq : q = .gv 2 0 := hf (by simp [Jmp])
      rw [hq]
      exact (g_cs17 C ht hp ).up hup
    | j + 18, hp, hx, hj, hf, Ta, Tb => cases hx
  | cx j =>
    rw [hp] at hx hj hf Ta Tb
    match j, hp, hx, hj, hf, Ta, Tb with
    | 0, hp, hx, hj, hf, Ta, Tb =>
      cases hx
    | 1, hp, hx, hj, hf, Ta, Tb =>
      cases hx
    | 2, hp, hx, hj, hf, Ta, Tb =>
      cases hx
    | 3, hp, hx, hj, hf, Ta, Tb =>
      cases hx
    | 4, hp, hx, hj, hf, Ta, Tb =>
      cases hx
    | 5, hp, hx, hj, hf, Ta, Tb =>
      cases hx
    | 6, hp, hx, hj, hf, Ta, Tb =>
      cases hx
    | 7, hp, hx, hj, hf, Ta, Tb =>
      cases hx
    | 8, hp, hx, hj, hf, Ta, Tb =>
      cases hx
      have hq : q = .cx 9 := hf (by simp [Jmp])
      rw [hq]
      exact (g_cx8 C ht hp ).up hup
    | 9, hp, hx, hj, hf, Ta, Tb =>
      cases hx
      have hq : q = .cx 10 := hf (by simp [Jmp])
      rw [hq]
      exact (g_cx9 C ht hp rfl).up hup
    | 10, hp, hx, hj, hf, Ta, Tb =>
      cases hx
      by_cases h0 : s.reg t 0 = 0
      · have hq : q = .cx 14 := hj (by simp [Jmp]; exact h0)
        rw [hq]
        rw [show s.ex t ⟨14, 0, 0, 0, to⟩ tg = s.setP t tg from if_pos h0]
        exact ((g_cx10j C ht hp h0).up hup).pc t tg
      · have hq : q = .cx 11 := hf (by simp [Jmp]; exact h0)
        rw [hq]
        rw [show s.ex t ⟨14, 0, 0, 0, to⟩ tg = s from if_neg h0]
        exact (g_cx10f C ht hp h0).up hup
    | 11, hp, hx, hj, hf, Ta, Tb =>
      cases hx
      have hq : q = .cx 12 := hf (by simp [Jmp])
      rw [hq]
      exact (g_cx11 C ht hp (v := s.vw t (s.reg t 7) 0) (by rw [r7])).up hup
    | 12, hp, hx, hj, hf, Ta, Tb =>
      cases hx
      by_cases h0 : s.reg t 0 = s.reg t 1
      · have hq : q = .cx 14 := hj (by simp [Jmp]; exact h0)
        rw [hq]
        rw [show s.ex t ⟨15, 0, 1, 0, to⟩ tg = s.setP t tg from if_pos h0]
        exact ((g_cx12j C ht hp h0).up hup).pc t tg
      · have hq : q = .cx 13 := hf (by simp [Jmp]; exact h0)
        rw [hq]
        rw [show s.ex t ⟨15, 0, 1, 0, to⟩ tg = s from if_neg h0]
        exact (g_cx12f C ht hp h0).up hup
    | 13, hp, hx, hj, hf, Ta, Tb =>
      cases hx
      have hq : q = .cx 8 := hj (by simp [Jmp])
      rw [hq]
      exact ((g_cx13 C ht hp ).up hup).pc t tg
    | 14, hp, hx, hj, hf, Ta, Tb =>
      cases hx
      have hq : q = .cx 15 := hf (by simp [Jmp])
      rw [hq]
      exact (g_cx14 C ht hp ).up hup
    | 15, hp, hx, hj, hf, Ta, Tb =>
      cases hx
      have hq : q = .cs 16 := hf (by simp [Jmp])
      rw [hq]
      exact (g_cx15 C ht hp rfl).up hup
    | j + 16, hp, hx, hj, hf, Ta, Tb => cases hx
end Qg
end
/- Grace on the plain machine: a step of a customer's own. -/
section
namespace Qg
open Qs
variable {X : Cx} {s s' : A} {p : Nat → Pos} {old old' : Nat → Nat → Prop} {L L' : List Nat} {B : Int} {t u : Nat}
theorem Core.client (C : Core X s p old L B) (ht : t < X.n) {c d : Nat} (hp : p t = .cl c d) (q : Pos) {d' : Nat} (hq : startD X.f q = some d') (hd : d' < 100) (hdd : X.f ≠ 3 → d' = d)
    (e1 : ∀ u, u ≠ t → s'.reg u = s.reg u) (e2 : ∀ u, u ≠ t → s'.buf u = s.buf u) (e3 : ∀ x w, X.gr x → s'.val x w = s.val x w) (r6 : s'.reg t 6 = s.reg t 6) (r7 : s'.reg t 7 = s.reg t 7)
    (l : List En) (hb : s'.buf t = s.buf t ++ l) (hl : ∀ e ∈ l, ¬ X.gr e.a) (ho : ∀ u r, u < X.n → r < X.n → u ≠ t → old' u r → old u r)
    (ho2 : ∀ u r, u < X.n → r < X.n → old' u r → ∃ c d, upd p t q r = .cl c d ∧ 0 < d) : Core X s' (upd p t q) old' L B := by
  have T := C.th t ht
  have hnb := T.nb
  have hok := T.ok
  have hil := T.il
  have hsec := T.sec
  have hvw0 := T.vw
  have hbuf := T.buf
  rw [hp] at hnb hok hil hsec hvw0 hbuf
  have hH : ¬ Has (s.reg t) (s.buf t) (.cl c d) := fun h => h
  have hmem : ∀ e ∈ s'.buf t, X.gr e.a → e ∈ s.buf t := fun e he hg => by
    rw [hb] at he
    rcases List.mem_append.1 he with h | h
    · exact h
    · exact absurd hg (hl e h)
  have hvw : s'.vw t (X.own t) 0 = s.vw t (X.own t) 0 := by
    unfold A.vw
    rw [hb, e3 _ _ (gr_own ht)]
    unfold lk1
    rw [List.foldl_append]
    exact lk1_none fun e he ha => absurd (ha ▸ gr_own ht) (hl e he)
  have hpt : ∀ φ, X.Prot s t φ → X.Prot s' t φ := fun φ h => ⟨by rw [e3 _ _ (gr_own ht)]; exact h.1, fun e he ha => h.2 e (hmem e he (ha ▸ gr_own ht)) ha⟩
  have hprot : ∀ r φ, r < X.n → X.Prot s r φ → X.Prot s' r φ := fun r φ hr h => by
    by_cases e : r = t
    · subst e; exact hpt φ h
    · exact Prot.same (e2 r e) (e3 _ _ (gr_own hr)) h
  have Bq := beg_of (X := X) hq hd (s'.reg t) (s'.buf t) s'.val (X.Prot s') (old' t) L t (s'.vw t (X.own t) 0) (s'.val X.hub 0)
  have hhub : ∀ w, s'.val X.hub w = s.val X.hub w := fun w => e3 _ _ gr_hub
  have hH' : ∀ u, u < X.n → (Has (s'.reg u) (s'.buf u) (upd p t q u) ↔ Has (s.reg u) (s.buf u) (p u)) := fun u hu => by
    by_cases e : u = t
    · subst e; rw [upd_same, hp]; exact ⟨fun h => absurd h Bq.h, fun h => absurd h hH⟩
    · rw [upd_ne _ _ e, e1 u e, e2 u e]
  refine ⟨fun u hu => ?_, ?_, by rw [hhub]; exact C.h0, by rw [hhub]; exact C.h3, fun f u hu e he ha => ?_, ?_, C.all, fun f u hu hj => ?_, ho2⟩
  · by_cases e : u = t
    · subst e
      rw [upd_same]
      refine ⟨by rw [r6]; exact T.r6, by rw [r7]; exact T.r7, fun _ e he hg => hbuf hH e (hmem e he hg) hg, fun f => ?_, fun f => hpt _ (T.rng f), fun f g h => ?_, fun f h => hil f ?_, fun f h1 h2 e he hg => hnb f (by simp [wait3]) hH e (hmem e he hg) hg, fun f h => ?_, Bq.a, fun _ => Bq.c, Bq.b⟩
      · rw [hvw, hvw0 f, Bq.n f, hdd f]; rfl
      · have := Bq.s f h
        rcases hsec f g (by show 0 < d; have := hdd f; omega) with h | h
        · exact .inl (hpt _ h)
        · exact .inr (hpt _ h)
      · have := Bq.l f h
        have := hdd (by omega)
        show 0 < d
        omega
      · rw [e3 _ _ (gr_own hu), hhub]; exact hok f trivial
    · rw [upd_ne _ _ e]
      exact (C.th u hu).mono (e1 u e) (e2 u e) (fun w => e3 _ _ (gr_own hu)) (fun _ => by rw [hhub]; exact Int.le_refl _) (fun _ => ⟨hhub 0, hhub 2, fun r hr => e3 _ _ (gr_own hr)⟩) (fun r hr h => ho u r hu hr e h) (fun r φ hr _ h => hprot r φ hr h) Iff.rfl
  · rw [hhub]
    rcases C.lock with ⟨h1, h2⟩ | ⟨h, h1, h2, h3, h4⟩
    · exact .inl ⟨h1, fun u hu g => h2 u hu ((hH' u hu).1 g)⟩
    · exact .inr ⟨h, h1, (hH' h h1).2 h2, h3, fun u hu hne g => h4 u hu hne ((hH' u hu).1 g)⟩
  · by_cases e5 : u = t
    · subst e5; exact C.hb3 f u hu e (hmem e he (ha ▸ gr_hub)) ha
    · rw [e2 u e5] at he; exact C.hb3 f u hu e he ha
  · rw [hhub]; exact Ch.mono (fun r hr => e3 _ _ (gr_own hr)) C.ch
  · rw [e3 _ _ (gr_own hu)]
    refine C.j f u hu ?_
    by_cases e : u = t
    · subst e; rw [hp]; simp [joining]
    · rw [upd_ne _ _ e] at hj; exact hj
end Qg
end
/- Readers and writers of a node that is published: what holds, and that steps of grace and drains keep it. -/
section
namespace Qg
open Qs
/-- What register 3 of a thread is: 1 a node that it reads, 2 a new one that it made, 3 one that it took away. -/
def kd : Pos → Nat
  | .cl 1 _ => 1
  | .cl 2 _ => 1
  | .cl 11 _ => 2
  | .cl 12 _ => 2
  | .cl 13 _ => 2
  | .cl 14 _ => 3
  | .wb => 3
  | .wn _ _ => 3
  | .wx _ _ => 3
  | .we => 3
  | .ca _ => 3
  | .cs _ => 3
  | .cx _ => 3
  | .cr _ => 3
  | .tk k _ => if k = 0 then 0 else 3
  | .gv k _ => if k = 0 then 0 else 3
  | _ => 0
/-- Who may still read what another one took away. -/
def oldOf (s : A) (p : Nat → Pos) (w r : Nat) : Prop := kd (p w) = 3 ∧ kd (p r) = 1 ∧ s.reg r 3 = s.reg w 3
variable (X : Cx) (ptr : Int)
def Cx.spec (x : Int) : Prop := X.gr x ∨ x = ptr
def Cx.Nd (s : A) (x : Int) : Prop := s.here x = true ∧ ¬ X.spec ptr x ∧ s.val x 0 ≠ 0
structure CI (s : A) (p : Nat → Pos) : Prop where
  np : ¬ X.gr ptr
  h1 : ∀ x, X.spec ptr x → s.here x = true
  r5 : ∀ t, t < X.n → s.reg t 5 = ptr
  d0 : X.Nd ptr s (s.val ptr 0)
  c0 : ∀ t, t < X.n → kd (p t) = 1 → ∃ c d, p t = .cl c d ∧ 0 < d
  c2 : ∀ t d, t < X.n → p t = .cl 2 d → s.reg t 4 ≠ 0
  c3 : ∀ t, t < X.n → kd (p t) = 1 → X.Nd ptr s (s.reg t 3) ∧ (s.reg t 3 = s.val ptr 0 ∨ ∃ w, w < X.n ∧ kd (p w) = 3 ∧ s.reg w 3 = s.reg t 3)
  c4 : ∀ t, t < X.n → kd (p t) = 3 → X.Nd ptr s (s.reg t 3) ∧ s.reg t 3 ≠ s.val ptr 0
  c5 : ∀ t, t < X.n → kd (p t) = 2 → s.here (s.reg t 3) = true ∧ ¬ X.spec ptr (s.reg t 3) ∧ s.reg t 3 ≠ s.val ptr 0
  cd : ∀ t u, t < X.n → u < X.n → t ≠ u → 2 ≤ kd (p t) → 2 ≤ kd (p u) → s.reg t 3 ≠ s.reg u 3
  ca : ∀ t d, t < X.n → p t = .cl 12 d → s.reg t 4 ≠ 0
  cb : ∀ t d, t < X.n → p t = .cl 13 d → s.vw t (s.reg t 3) 0 ≠ 0
  c6 : ∀ t, t < X.n → ∀ e ∈ s.buf t, X.gr e.a ∨ (∃ d, p t = .cl 13 d) ∧ e.a = s.reg t 3
  c7 : ∀ t d, t < X.n → p t = .cl 14 d → ∀ r, r < X.n → ¬ oldOf s p t r
  c8 : ∀ x, s.here x = true → X.spec ptr x ∨ x = s.val ptr 0 ∨ ∃ w, w < X.n ∧ 2 ≤ kd (p w) ∧ x = s.reg w 3
variable {X : Cx} {ptr : Int} {s s' : A} {p p' : Nat → Pos} {L L' : List Nat} {B : Int} {t u : Nat}
theorem Nd.mono {x : Int} (h : X.Nd ptr s x) (h1 : s'.here x = s.here x) (h2 : s'.val x 0 = s.val x 0) : X.Nd ptr s' x := ⟨by rw [h1]; exact h.1, h.2.1, by rw [h2]; exact h.2.2⟩
/-- A node is no private cell of anybody. -/
theorem CI.npriv (I : CI X ptr s p) {x : Int} (hx : x = s.val ptr 0 ∨ ∃ w, w < X.n ∧ kd (p w) = 3 ∧ s.reg w 3 = x) (hu : u < X.n) (hk : kd (p u) = 2) : x ≠ s.reg u 3 := by
  rcases hx with rfl | ⟨w, hw, hkw, rfl⟩
  · exact fun h => (I.c5 u hu hk).2.2 h.symm
  · refine I.cd w u hw hu (fun e => ?_) (by omega) (by omega)
    rw [e] at hkw; omega
/-- A drain. -/
theorem CI.dr (I : CI X ptr s p) (ht : t < X.n) : CI X ptr (s.dr t) p := by
  cases hb : s.buf t with
  | nil => rw [show s.dr t = s from by unfold A.dr; rw [hb]]; exact I
  | cons e r =>
    have hreg : (s.dr t).reg = s.reg := A.dr_reg s t
    have hhere : (s.dr t).here = s.here := A.dr_here s t
    have he := I.c6 t ht e (by rw [hb]; simp)
    have hne : ∀ x w, ¬ X.gr x → (kd (p t) = 2 → x ≠ s.reg t 3) → (s.dr t).val x w = s.val x w := fun x w h1 h2 => by
      rw [dr_val hb, if_neg]
      rintro ⟨a, _⟩
      rcases he with h | ⟨⟨d, h⟩, h3⟩
      · exact h1 (a ▸ h)
      · exact h2 (by rw [h]; rfl) (a.trans h3)
    have hptr : (s.dr t).val ptr 0 = s.val ptr 0 := hne _ _ I.np fun hk => fun h => (I.c5 t ht hk).2.1 (.inr h.symm)
    have hnd : ∀ x, (x = s.val ptr 0 ∨ ∃ w, w < X.n ∧ kd (p w) = 3 ∧ s.reg w 3 = x) → X.Nd ptr s x → X.Nd ptr (s.dr t) x := fun x hx h =>
      Nd.mono h (by rw [hhere]) (hne _ _ (fun g => h.2.1 (.inl g)) fun hk => I.npriv hx ht hk)
    have ho : oldOf (s.dr t) p = oldOf s p := by funext a b; unfold oldOf; rw [hreg]
    refine ⟨I.np, by rw [hhere]; exact I.h1, by rw [hreg]; exact I.r5, by rw [hptr]; exact hnd _ (.inl rfl) I.d0, I.c0, by rw [hreg]; exact I.c2, fun u hu hk => ?_, fun u hu hk => ?_, fun u hu hk => by rw [hreg, hhere, hptr]; exact I.c5 u hu hk, by rw [hreg]; exact I.cd, by rw [hreg]; exact I.ca, fun u d hu hp => ?_, fun u hu x hx => by rw [hreg]; exact I.c6 u hu x (A.dr_mem hx), by rw [ho]; exact I.c7, by rw [hreg, hhere, hptr]; exact I.c8⟩
    · rw [hreg, hptr]
      obtain ⟨h1, h2⟩ := I.c3 u hu hk
      exact ⟨hnd _ h2 h1, h2⟩
    · rw [hreg, hptr]
      obtain ⟨h1, h2⟩ := I.c4 u hu hk
      exact ⟨hnd _ (.inr ⟨u, hu, hk, rfl⟩) h1, h2⟩
    · rw [hreg]
      by_cases e1 : u = t
      · subst e1; rw [dr_vw hb]; exact I.cb u d hu hp
      · have hv := I.cb u d hu hp
        have h2 : kd (p u) = 2 := by rw [hp]; rfl
        unfold A.vw at hv ⊢
        rw [dr_u e1, hne _ _ (fun g => (I.c5 u hu h2).2.1 (.inl g)) (fun hk => I.cd u t hu ht e1 (by omega) (by omega))]
        exact hv
/-- Steps of grace: registers 3 to 7 stay, memory of grace alone is written. -/
theorem CI.quiet (I : CI X ptr s p) (ht : t < X.n) (q : Pos) (e1 : ∀ u k, u ≠ t ∨ 3 ≤ k → s'.reg u k = s.reg u k) (e2 : ∀ u, u ≠ t → s'.buf u = s.buf u) (e3 : ∀ e ∈ s'.buf t, e ∈ s.buf t ∨ X.gr e.a) (e4 : s'.here = s.here) (e5 : ∀ x w, ¬ X.gr x → s'.val x w = s.val x w)
    (hk : kd (p t) = 0 ∨ kd (p t) = 3) (hq : kd q = kd (p t)) (h14 : ∀ d, q = .cl 14 d → ∀ r, r < X.n → ¬ oldOf s p t r) (hp14 : ∀ d, p t ≠ .cl 14 d) : CI X ptr s' (upd p t q) ∧ oldOf s' (upd p t q) = oldOf s p := by
  have hkd : ∀ u, kd (upd p t q u) = kd (p u) := fun u => by
    by_cases e : u = t
    · rw [e, upd_same]; exact hq
    · rw [upd_ne _ _ e]
  have h3 : ∀ u, s'.reg u 3 = s.reg u 3 := fun u => e1 u 3 (.inr (by omega))
  have hcl : ∀ c d, kd (.cl c d) = 1 ∨ kd (.cl c d) = 2 → p t ≠ .cl c d := fun c d h g => by rw [g] at hk; omega
  have hcq : ∀ c d, kd (.cl c d) = 1 ∨ kd (.cl c d) = 2 → q ≠ .cl c d := fun c d h g => by rw [g] at hq; omega
  have hup : ∀ u c d, kd (.cl c d) = 1 ∨ kd (.cl c d) = 2 → upd p t q u = .cl c d → u ≠ t ∧ p u = .cl c d := fun u c d h g => by
    by_cases e : u = t
    · rw [e, upd_same] at g; exact absurd g (hcq c d h)
    · rw [upd_ne _ _ e] at g; exact ⟨e, g⟩
  have hptr : s'.val ptr 0 = s.val ptr 0 := e5 _ _ I.np
  have hnd : ∀ x, X.Nd ptr s x → X.Nd ptr s' x := fun x h => Nd.mono h (by rw [e4]) (e5 _ _ fun g => h.2.1 (.inl g))
  have ho : oldOf s' (upd p t q) = oldOf s p := by funext a b; unfold oldOf; rw [hkd, hkd, h3, h3]
  refine ⟨⟨I.np, by rw [e4]; exact I.h1, fun u hu => by rw [e1 u 5 (.inr (by omega))]; exact I.r5 u hu, by rw [hptr]; exact hnd _ I.d0, fun u hu h => ?_, fun u d hu h => ?_, fun u hu h => ?_, fun u hu h => ?_, fun u hu h => ?_, fun u v hu hv hne a b => ?_, fun u d hu h => ?_, fun u d hu h => ?_, fun u hu x hx => ?_, fun u d hu h => ?_, fun x hx => ?_⟩, ho⟩
  · rw [hkd] at h
    obtain ⟨c, d, g1, g2⟩ := I.c0 u hu h
    refine ⟨c, d, ?_, g2⟩
    rw [upd_ne _ _ (fun e => by rw [e] at h; omega)]
    exact g1
  · obtain ⟨_, g2⟩ := hup u 2 d (.inl rfl) h
    rw [e1 u 4 (.inr (by omega))]
    exact I.c2 u d hu g2
  · rw [hkd] at h
    obtain ⟨g1, g2⟩ := I.c3 u hu h
    rw [h3, hptr]
    refine ⟨hnd _ g1, ?_⟩
    rcases g2 with g2 | ⟨w, a, b, c⟩
    · exact .inl g2
    · exact .inr ⟨w, a, by rw [hkd]; exact b, by rw [h3]; exact c⟩
  · rw [hkd] at h
    rw [h3, hptr]
    exact ⟨hnd _ (I.c4 u hu h).1, (I.c4 u hu h).2⟩
  · rw [hkd] at h
    rw [h3, hptr, e4]
    exact I.c5 u hu h
  · rw [hkd] at a b
    rw [h3, h3]
    exact I.cd u v hu hv hne a b
  · obtain ⟨_, g2⟩ := hup u 12 d (.inr rfl) h
    rw [e1 u 4 (.inr (by omega))]
    exact I.ca u d hu g2
  · obtain ⟨g1, g2⟩ := hup u 13 d (.inr rfl) h
    have hk2 : kd (p u) = 2 := by rw [g2]; rfl
    rw [h3]
    unfold A.vw
    rw [e2 u g1, e5 _ _ (fun g => (I.c5 u hu hk2).2.1 (.inl g))]
    exact I.cb u d hu g2
  · rw [h3]
    by_cases e : u = t
    · subst e
      rcases e3 x hx with h | h
      · rcases I.c6 u hu x h with g | ⟨⟨d, g⟩, _⟩
        · exact .inl g
        · exact absurd g (hcl 13 d (.inr rfl))
      · exact .inl h
    · rw [e2 u e] at hx
      rcases I.c6 u hu x hx with g | ⟨⟨d, g⟩, g2⟩
      · exact .inl g
      · exact .inr ⟨⟨d, by rw [upd_ne _ _ e]; exact g⟩, g2⟩
  · rw [ho]
    by_cases e : u = t
    · subst e; rw [upd_same] at h; exact h14 d h
    · rw [upd_ne _ _ e] at h; exact I.c7 u d hu h
  · rw [e4] at hx
    rw [hptr]
    rcases I.c8 x hx with h | h | ⟨w, a, b, c⟩
    · exact .inl h
    · exact .inr (.inl h)
    · exact .inr (.inr ⟨w, a, by rw [hkd]; exact b, by rw [h3]; exact c⟩)
end Qg
end
/- Grace on the plain machine: the whole invariant; a step of grace keeps it. -/
section
namespace Qg
open Qs
variable {X : Cx} {ptr : Int} {s s' : A} {p p' : Nat → Pos} {L L' : List Nat} {B : Int} {t u : Nat}
def Inv (X : Cx) (ptr : Int) (s : A) (p : Nat → Pos) (B : Int) : Prop := ∃ L, Core X s p (oldOf s p) L B ∧ CI X ptr s p
theorem Inv.dr (I : Inv X ptr s p B) (t : Nat) (h : ∀ t, X.n ≤ t → s.buf t = []) : Inv X ptr (s.dr t) p B := by
  obtain ⟨L, C, D⟩ := I
  by_cases ht : t < X.n
  · obtain ⟨L', C'⟩ := C.dr ht
    have ho : oldOf (s.dr t) p = oldOf s p := by funext a b; unfold oldOf; rw [A.dr_reg]
    exact ⟨L', by rw [ho]; exact C', D.dr ht⟩
  · rw [show s.dr t = s from by unfold A.dr; rw [h t (by omega)]]
    exact ⟨L, C, D⟩
set_option maxHeartbeats 1000000 in
/-- What instructions of grace touch. -/
theorem ins_what {f : Nat} {P : Pos} {op : Nat} {a b c : Int} (h : insOf f P = some (op, a, b, c)) :
    (op = 7 ∧ (a = 6 ∨ a = 7)) ∨ (op = 9 ∧ a = 7 ∧ b = 0) ∨ (op = 12 ∨ op = 13 ∨ op = 14 ∨ op = 15 ∨ op = 16 ∨ op = 17) ∨ ((op = 0 ∨ op = 2 ∨ op = 3 ∨ op = 4 ∨ op = 5 ∨ op = 6) ∧ (a = 0 ∨ a = 1 ∨ a = 2)) := by
  cases P with
  | fin => cases h
  | cl c d => cases h
  | dead => cases h
  | jk d => cases h; simp
  | wb => have h2 : some ((barOp f : Nat), (0 : Int), (0 : Int), (0 : Int)) = some (op, a, b, c) := h; cases h2; unfold barOp; split <;> simp
  | we => have h2 : some ((barOp f : Nat), (0 : Int), (0 : Int), (0 : Int)) = some (op, a, b, c) := h; cases h2; unfold barOp; split <;> simp
  | ent d j =>
    match j, h with
    | 0, h => cases h; simp
    | 1, h => cases h; simp
    | 2, h => cases h; simp
    | 3, h => cases h; simp
    | 4, h => cases h; simp
    | 5, h => cases h; simp
    | 6, h => cases h; simp
    | 7, h => cases h; simp
    | 8, h => cases h; simp
    | 9, h => cases h; simp
    | 10, h => cases h; simp
    | 11, h => cases h; simp
    | 12, h => cases h; simp
    | j + 13, h => cases h
  | lea d j =>
    match j, h with
    | 0, h => cases h; simp
    | 1, h => cases h; simp
    | 2, h => cases h; simp
    | 3, h => cases h; simp
    | 4, h => cases h; simp
    | j + 5, h => cases h
  | jh d j =>
    match j, h with
    | 0, h => cases h; simp
    | 1, h => cases h; simp
    | 2, h => cases h; simp
    | 3, h => cases h; simp
    | j + 4, h => cases h
  | jc j =>
    match j, h with
    | 0, h => cases h; simp
    | 1, h => cases h; simp
    | 2, h => cases h; simp
    | 3, h => cases h; simp
    | 4, h => cases h; simp
    | j + 5, h => cases h
  | tk k j =>
    match j, h with
    | 0, h => cases h; simp
    | 1, h => cases h; simp
    | 2, h => cases h; simp
    | 3, h => cases h; simp
    | 4, h => cases h; simp
    | 5, h => cases h; simp
    | 6, h => cases h; simp
    | j + 7, h => cases h
  | gv k j =>
    match j, h with
    | 0, h => cases h; simp
    | 1, h => cases h; simp
    | 2, h => cases h; simp
    | j + 3, h => cases h
  | wn g j =>
    match j, h with
    | 0, h => cases h; simp
    | 1, h => cases h; simp
    | 2, h => cases h; simp
    | 3, h => cases h; simp
    | 4, h => have h2 : some ((barOp f : Nat), (0 : Int), (0 : Int), (0 : Int)) = some (op, a, b, c) := h; cases h2; unfold barOp; split <;> simp
    | 5, h => cases h; simp
    | 6, h => cases h; simp
    | 7, h => cases h; simp
    | 8, h => cases h
    | 9, h => cases h
    | 10, h => cases h
    | 11, h => cases h
    | 12, h => cases h
    | 13, h => cases h
    | 14, h => cases h
    | 15, h => cases h
    | 16, h => cases h
    | 17, h => cases h
    | 18, h => cases h
    | 19, h => cases h
    | 20, h => cases h
    | 21, h => cases h; simp
    | 22, h => cases h; simp
    | j + 23, h => cases h
  | wx g j =>
    match j, h with
    | 0, h => cases h
    | 1, h => cases h
    | 2, h => cases h
    | 3, h => cases h
    | 4, h => cases h
    | 5, h => cases h
    | 6, h => cases h
    | 7, h => cases h
    | 8, h => cases h; simp
    | 9, h => cases h; simp
    | 10, h => cases h; simp
    | 11, h => cases h; simp
    | 12, h => cases h; simp
    | 13, h => cases h; simp
    | 14, h => cases h; simp
    | 15, h => cases h; simp
    | 16, h => cases h; simp
    | 17, h => cases h; simp
    | 18, h => cases h; simp
    | 19, h => cases h; simp
    | 20, h => cases h; simp
    | j + 21, h => cases h
  | rs j =>
    match j, h with
    | 0, h => cases h; simp
    | 1, h => cases h; simp
    | 2, h => cases h; simp
    | j + 3, h => cases h
  | gn j =>
    match j, h with
    | 0, h => cases h; simp
    | 1, h => cases h; simp
    | 2, h => cases h; simp
    | j + 3, h => cases h
  | ca j =>
    match j, h with
    | 0, h => cases h; simp
    | 1, h => cases h; simp
    | 2, h => cases h; simp
    | j + 3, h => cases h
  | cr j =>
    match j, h with
    | 0, h => cases h; simp
    | 1, h => cases h; simp
    | 2, h => cases h; simp
    | j + 3, h => cases h
  | cs j =>
    match j, h with
    | 0, h => cases h; simp
    | 1, h => cases h; simp
    | 2, h => cases h; simp
    | 3, h => cases h; simp
    | 4, h => cases h; simp
    | 5, h => cases h; simp
    | 6, h => cases h; simp
    | 7, h => cases h; simp
    | 8, h => cases h
    | 9, h => cases h
    | 10, h => cases h
    | 11, h => cases h
    | 12, h => cases h
    | 13, h => cases h
    | 14, h => cases h
    | 15, h => cases h
    | 16, h => cases h; simp
    | 17, h => cases h; simp
    | j + 18, h => cases h
  | cx j =>
    match j, h with
    | 0, h => cases h
    | 1, h => cases h
    | 2, h => cases h
    | 3, h => cases h
    | 4, h => cases h
    | 5, h => cases h
    | 6, h => cases h
    | 7, h => cases h
    | 8, h => cases h; simp
    | 9, h => cases h; simp
    | 10, h => cases h; simp
    | 11, h => cases h; simp
    | 12, h => cases h; simp
    | 13, h => cases h; simp
    | 14, h => cases h; simp
    | 15, h => cases h; simp
    | j + 16, h => cases h
set_option maxHeartbeats 1000000 in
theorem ins_reads {f : Nat} {P : Pos} {a b c : Int} (h : insOf f P = some (6, a, b, c)) : b = 6 ∨ b = 7 ∨ (b = 2 ∧ ((∃ g j, P = .wx g j) ∨ ∃ j, P = .cx j)) := by
  cases P with
  | fin => cases h
  | cl c d => cases h
  | dead => cases h
  | jk d => cases h
  | wb => have h2 : some ((barOp f : Nat), (0 : Int), (0 : Int), (0 : Int)) = some (6, a, b, c) := h; unfold barOp at h2; split at h2 <;> cases h2
  | we => have h2 : some ((barOp f : Nat), (0 : Int), (0 : Int), (0 : Int)) = some (6, a, b, c) := h; unfold barOp at h2; split at h2 <;> cases h2
  | ent d j =>
    match j, h with
    | 0, h => cases h; simp
    | 1, h => cases h
    | 2, h => cases h
    | 3, h => cases h
    | 4, h => cases h
    | 5, h => cases h
    | 6, h => cases h
    | 7, h => cases h
    | 8, h => cases h
    | 9, h => cases h; simp
    | 10, h => cases h
    | 11, h => cases h
    | 12, h => cases h
    | j + 13, h => cases h
  | lea d j =>
    match j, h with
    | 0, h => cases h
    | 1, h => cases h; simp
    | 2, h => cases h
    | 3, h => cases h
    | 4, h => cases h
    | j + 5, h => cases h
  | jh d j =>
    match j, h with
    | 0, h => cases h; simp
    | 1, h => cases h
    | 2, h => cases h
    | 3, h => cases h
    | j + 4, h => cases h
  | jc j =>
    match j, h with
    | 0, h => cases h; simp
    | 1, h => cases h
    | 2, h => cases h
    | 3, h => cases h
    | 4, h => cases h
    | j + 5, h => cases h
  | tk k j =>
    match j, h with
    | 0, h => cases h
    | 1, h => cases h
    | 2, h => cases h
    | 3, h => cases h
    | 4, h => cases h
    | 5, h => cases h
    | 6, h => cases h
    | j + 7, h => cases h
  | gv k j =>
    match j, h with
    | 0, h => cases h
    | 1, h => cases h
    | 2, h => cases h
    | j + 3, h => cases h
  | wn g j =>
    match j, h with
    | 0, h => cases h; simp
    | 1, h => cases h
    | 2, h => cases h
    | 3, h => cases h
    | 4, h => have h2 : some ((barOp f : Nat), (0 : Int), (0 : Int), (0 : Int)) = some (6, a, b, c) := h; unfold barOp at h2; split at h2 <;> cases h2
    | 5, h => cases h; simp
    | 6, h => cases h
    | 7, h => cases h
    | 8, h => cases h
    | 9, h => cases h
    | 10, h => cases h
    | 11, h => cases h
    | 12, h => cases h
    | 13, h => cases h
    | 14, h => cases h
    | 15, h => cases h
    | 16, h => cases h
    | 17, h => cases h
    | 18, h => cases h
    | 19, h => cases h
    | 20, h => cases h
    | 21, h => cases h
    | 22, h => cases h
    | j + 23, h => cases h
  | wx g j =>
    match j, h with
    | 0, h => cases h
    | 1, h => cases h
    | 2, h => cases h
    | 3, h => cases h
    | 4, h => cases h
    | 5, h => cases h
    | 6, h => cases h
    | 7, h => cases h
    | 8, h => cases h
    | 9, h => cases h; simp
    | 10, h => cases h
    | 11, h => cases h
    | 12, h => cases h
    | 13, h => cases h; simp
    | 14, h => cases h
    | 15, h => cases h
    | 16, h => cases h
    | 17, h => cases h
    | 18, h => cases h
    | 19, h => cases h
    | 20, h => cases h; simp
    | j + 21, h => cases h
  | rs j =>
    match j, h with
    | 0, h => cases h; simp
    | 1, h => cases h
    | 2, h => cases h
    | j + 3, h => cases h
  | gn j =>
    match j, h with
    | 0, h => cases h
    | 1, h => cases h
    | 2, h => cases h
    | j + 3, h => cases h
  | ca j =>
    match j, h with
    | 0, h => cases h
    | 1, h => cases h
    | 2, h => cases h
    | j + 3, h => cases h
  | cr j =>
    match j, h with
    | 0, h => cases h; simp
    | 1, h => cases h
    | 2, h => cases h
    | j + 3, h => cases h
  | cs j =>
    match j, h with
    | 0, h => cases h; simp
    | 1, h => cases h
    | 2, h => cases h
    | 3, h => cases h
    | 4, h => cases h
    | 5, h => cases h; simp
    | 6, h => cases h
    | 7, h => cases h
    | 8, h => cases h
    | 9, h => cases h
    | 10, h => cases h
    | 11, h => cases h
    | 12, h => cases h
    | 13, h => cases h
    | 14, h => cases h
    | 15, h => cases h
    | 16, h => cases h
    | 17, h => cases h
    | j + 18, h => cases h
  | cx j =>
    match j, h with
    | 0, h => cases h
    | 1, h => cases h
    | 2, h => cases h
    | 3, h => cases h
    | 4, h => cases h
    | 5, h => cases h
    | 6, h => cases h
    | 7, h => cases h
    | 8, h => cases h
    | 9, h => cases h; simp
    | 10, h => cases h
    | 11, h => cases h; simp
    | 12, h => cases h
    | 13, h => cases h
    | 14, h => cases h
    | 15, h => cases h; simp
    | j + 16, h => cases h
set_option maxHeartbeats 1000000 in
theorem kd_fall {f : Nat} {P q : Pos} (h : fallOf f P = some q) : (kd P = 0 ∨ kd P = 3) ∧ kd q = kd P ∧ (∀ c d, q ≠ .cl c d) ∧ ∀ c d, P ≠ .cl c d := by
  unfold fallOf at h
  split at h
  all_goals first
    | (cases h; done)
    | (cases h; simp [kd]; done)
    | (cases h; simp only [kd]; refine ⟨?_, trivial, by simp, by simp⟩; split <;> simp)
theorem kd_tgt (P : Pos) (h : ∀ c d, P ≠ .cl c d) : kd (tgtOf P) = kd P ∧ ∀ c d, tgtOf P ≠ .cl c d := by
  unfold tgtOf
  split
  all_goals first
    | exact ⟨rfl, h⟩
    | (split <;> exact ⟨rfl, fun _ _ e => by cases e⟩)
    | exact ⟨rfl, fun _ _ e => by cases e⟩
theorem kd_ins {f : Nat} {P : Pos} {x : Nat × Int × Int × Int} (h : insOf f P = some x) : (kd P = 0 ∨ kd P = 3) ∧ ∀ c d, P ≠ .cl c d := by
  cases P with
  | cl c d => cases h
  | tk k j => unfold kd; simp only; refine ⟨?_, by simp⟩; split <;> simp
  | gv k j => unfold kd; simp only; refine ⟨?_, by simp⟩; split <;> simp
  | _ => simp [kd]
def clOk : Pos → Pos → Bool
  | .cl 0 d, q => kd q == 0 || (q == .cl 1 d && decide (0 < d))
  | .cl 1 d, q => q == .cl 2 d && decide (0 < d)
  | .cl 2 d, q => kd q == 0 || (q == .cl 1 d && decide (0 < d))
  | .cl 10 d, q => q == .cl 11 d
  | .cl 11 d, q => q == .cl 12 d
  | .cl 12 d, q => q == .cl 13 d
  | .cl 13 _, q => q == .wb || q == .ca 0
  | .cl 14 _, q => kd q == 0
  | .cl _ _, _ => false
  | P, q => if kd P = 3 then q == .cl 14 0 else kd q == 0
theorem clOk_end {P q : Pos} (h : clOk P q = true) (hP : ∀ c d, P ≠ .cl c d) : kd P = 3 ∧ q = .cl 14 0 ∨ kd P ≠ 3 ∧ kd q = 0 := by
  cases P with
  | cl c d => exact absurd rfl (hP c d)
  | _ =>
    unfold clOk at h
    simp only at h
    split at h
    · rename_i h3; exact .inl ⟨h3, by simpa using h⟩
    · rename_i h3; exact .inr ⟨h3, by simpa using h⟩
theorem fall_none {f : Nat} {P : Pos} {x : Nat × Int × Int × Int} (h : insOf f P = some x) (hn : fallOf f P = none) (hk : kd P = 3) : P = .gv 1 2 ∨ P = .cr 2 := by
  cases P with
  | gv k j =>
    match k, j, hn, h, hk with
    | 0, _, _, _, hk => simp [kd] at hk
    | 1, 0, hn, _, _ => cases hn
    | 1, 1, hn, _, _ => cases hn
    | 1, 2, _, _, _ => exact .inl rfl
    | 1, j + 3, hn, h, _ => cases h
    | 2, 0, hn, _, _ => cases hn
    | 2, 1, hn, _, _ => cases hn
    | 2, 2, hn, _, _ => cases hn
    | 2, j + 3, hn, h, _ => cases h
    | k + 3, 0, hn, _, _ => cases hn
    | k + 3, 1, hn, _, _ => cases hn
    | k + 3, 2, hn, _, _ => cases hn
    | k + 3, j + 3, hn, h, _ => cases h
  | cr j =>
    match j, hn, h with
    | 0, hn, _ => cases hn
    | 1, hn, _ => cases hn
    | 2, _, _ => exact .inr rfl
    | j + 3, _, h => cases h
  | wb => cases hn
  | we => cases hn
  | cl c d => cases h
  | ent d j => simp [kd] at hk
  | lea d j => simp [kd] at hk
  | jh d j => simp [kd] at hk
  | jc j => simp [kd] at hk
  | jk d => simp [kd] at hk
  | rs j => simp [kd] at hk
  | gn j => simp [kd] at hk
  | fin => cases h
  | dead => cases h
  | tk k j => unfold fallOf at hn; split at hn <;> first | (cases hn; done) | (simp_all; done)
  | wn g j => unfold fallOf at hn; split at hn <;> first | (cases hn; done) | (simp_all; done)
  | wx g j => unfold fallOf at hn; split at hn <;> first | (cases hn; done) | (simp_all; done)
  | ca j => unfold fallOf at hn; split at hn <;> first | (cases hn; done) | (simp_all; done)
  | cs j => unfold fallOf at hn; split at hn <;> first | (cases hn; done) | (simp_all; done)
  | cx j => unfold fallOf at hn; split at hn <;> first | (cases hn; done) | (simp_all; done)
/-- The cells that a place of grace names are there. -/
theorem Inv.req (I : Inv X ptr s p B) (ht : t < X.n) {x : Instr} (hx : insOf X.f (p t) = some (x.op, x.A, x.B, x.C)) : s.Req t x := by
  obtain ⟨L, C, D⟩ := I
  have T := C.th t ht
  have h6 : s.here (s.reg t 6) = true := by rw [T.r6]; exact D.h1 _ (.inl (gr_own ht))
  have h7 : s.here (s.reg t 7) = true := by rw [T.r7]; exact D.h1 _ (.inl gr_hub)
  obtain ⟨op, a, b, c, to⟩ := x
  simp only at hx
  unfold A.Req
  simp only
  rcases ins_what hx with ⟨rfl, h⟩ | ⟨rfl, rfl, rfl⟩ | h | ⟨h, _⟩
  · rcases h with rfl | rfl
    · exact h6
    · exact h7
  · exact h7
  · rcases h with rfl | rfl | rfl | rfl | rfl | rfl <;> trivial
  · rcases h with rfl | rfl | rfl | rfl | rfl | rfl
    · trivial
    · trivial
    · trivial
    · trivial
    · trivial
    · rcases ins_reads hx with rfl | rfl | ⟨rfl, h⟩
      · exact h6
      · exact h7
      · have Tb := T.b
        show s.here (s.reg t 2) = true
        rcases h with ⟨g, j, hp⟩ | ⟨j, hp⟩
        · rw [hp] at Tb
          obtain ⟨_, _, y, l, hy, hr, _⟩ := Tb
          rw [hr]; exact D.h1 _ (.inl (gr_own hy))
        · rw [hp] at Tb
          obtain ⟨_, _, y, l, hy, hr, _⟩ := Tb
          rw [hr]; exact D.h1 _ (.inl (gr_own hy))
/-- A step of grace, behind its drains. -/
theorem Inv.grace (I : Inv X ptr s p B) (ht : t < X.n) {x : Instr} (hx : insOf X.f (p t) = some (x.op, x.A, x.B, x.C))
    (hb : x.op = 9 ∨ x.op = 12 → s.buf t = []) (hb2 : x.op = 13 → ∀ u, u < X.n → s.buf u = []) (O : ∀ r, r < X.n → X.own r ≠ 0) (hB : B < 4000000000) {q : Pos}
    (hj : Jmp s t x → q = tgtOf (p t)) (hf : ¬ Jmp s t x → NextOk X.f (p t) q ∧ (fallOf X.f (p t) = none → clOk (p t) q = true)) (tg : Nat) : Inv X ptr (s.ex t x tg) (upd p t q) (B + 2) := by
  obtain ⟨L, C, D⟩ := I
  have T := C.th t ht
  have C' := C.step ht hx hb hb2 O hB hj (fun h => (hf h).1) tg
  obtain ⟨hk, hncl⟩ := kd_ins hx
  have hq : kd q = kd (p t) ∧ ∀ d, q = .cl 14 d → ∀ r, r < X.n → ¬ oldOf s p t r := by
    by_cases hJ : Jmp s t x
    · rw [hj hJ]
      obtain ⟨h1, h2⟩ := kd_tgt (p t) hncl
      exact ⟨h1, fun d e => absurd e (h2 14 d)⟩
    · obtain ⟨h1, h2⟩ := hf hJ
      cases hfl : fallOf X.f (p t) with
      | some q' =>
        unfold NextOk at h1
        rw [hfl] at h1
        simp only at h1
        subst h1
        obtain ⟨_, g1, g2, _⟩ := kd_fall hfl
        exact ⟨g1, fun d e => absurd e (g2 14 d)⟩
      | none =>
        rcases clOk_end (h2 hfl) hncl with ⟨g1, g2⟩ | ⟨g1, g2⟩
        · refine ⟨by rw [g1, g2]; rfl, fun d _ r hr => ?_⟩
          have Tb := T.b
          rcases fall_none hx hfl g1 with hp | hp
          · rw [hp] at Tb
            have Tb' : X.LGv (s.reg t) (s.buf t) (oldOf s p t) 1 2 := Tb
            exact Tb'.2.1 r hr
          · rw [hp] at Tb
            exact Tb.2 r hr
        · refine ⟨by rw [g2]; omega, fun d e => ?_⟩
          rw [e] at g2
          simp [kd] at g2
  obtain ⟨op, a, b, c, to⟩ := x
  simp only at hx
  have hgr6 : X.gr (s.reg t 6) := by rw [T.r6]; exact gr_own ht
  have hgr7 : X.gr (s.reg t 7) := by rw [T.r7]; exact gr_hub
  have hset : ∀ (s1 : A) (k : Nat) (v : Int), s1.reg = s.reg → k < 3 → ∀ u i, u ≠ t ∨ 3 ≤ i → (s1.setR t k v).reg u i = s.reg u i := fun s1 k v h hk u i hu => by
    show (if u = t ∧ i = k then v else s1.reg u i) = _
    rw [h, if_neg (by omega)]
  have key : (∀ u k, u ≠ t ∨ 3 ≤ k → (s.ex t ⟨op, a, b, c, to⟩ tg).reg u k = s.reg u k) ∧ (∀ u, u ≠ t → (s.ex t ⟨op, a, b, c, to⟩ tg).buf u = s.buf u) ∧ (∀ e ∈ (s.ex t ⟨op, a, b, c, to⟩ tg).buf t, e ∈ s.buf t ∨ X.gr e.a) ∧ (s.ex t ⟨op, a, b, c, to⟩ tg).here = s.here ∧ ∀ y w, ¬ X.gr y → (s.ex t ⟨op, a, b, c, to⟩ tg).val y w = s.val y w := by
    rcases ins_what hx with ⟨rfl, h⟩ | ⟨rfl, rfl, rfl⟩ | h | ⟨h, h'⟩
    · refine ⟨fun _ _ _ => rfl, fun u hu => if_neg hu, fun e he => ?_, rfl, fun _ _ _ => rfl⟩
      have he' : e ∈ (if t = t then s.buf t ++ [⟨s.reg t a.toNat, c.toNat, s.reg t b.toNat⟩] else s.buf t) := he
      rw [if_pos rfl] at he'
      rcases List.mem_append.1 he' with g | g
      · exact .inl g
      · rw [List.mem_singleton.1 g]
        rcases h with rfl | rfl
        · exact .inr hgr6
        · exact .inr hgr7
    · unfold A.ex
      simp only
      refine ⟨fun u k hu => ?_, fun u hu => ?_, fun e he => ?_, ?_, fun y w hy => ?_⟩
      · refine hset _ 0 _ ?_ (by omega) u k hu
        split <;> rfl
      · show A.buf (if _ then _ else s) u = _
        split <;> rfl
      · left
        have he' : e ∈ A.buf (if _ then _ else s) t := he
        split at he' <;> exact he'
      · show A.here (if _ then _ else s) = _
        split <;> rfl
      · show A.val (if _ then _ else s) y w = _
        split
        · refine if_neg ?_
          rintro ⟨g, _⟩
          have g' : y = s.reg t 7 := g
          exact hy (g' ▸ hgr7)
        · rfl
    · have hs : (s.ex t ⟨op, a, b, c, to⟩ tg).reg = s.reg ∧ (s.ex t ⟨op, a, b, c, to⟩ tg).buf = s.buf ∧ (s.ex t ⟨op, a, b, c, to⟩ tg).here = s.here ∧ (s.ex t ⟨op, a, b, c, to⟩ tg).val = s.val := by
        rcases h with rfl | rfl | rfl | rfl | rfl | rfl
        · exact ⟨rfl, rfl, rfl, rfl⟩
        · exact ⟨rfl, rfl, rfl, rfl⟩
        · unfold A.ex; simp only; split <;> exact ⟨rfl, rfl, rfl, rfl⟩
        · unfold A.ex; simp only; split <;> exact ⟨rfl, rfl, rfl, rfl⟩
        · exact ⟨rfl, rfl, rfl, rfl⟩
        · exact ⟨rfl, rfl, rfl, rfl⟩
      exact ⟨fun u k _ => by rw [hs.1], fun u _ => by rw [hs.2.1], fun e he => .inl (by rw [hs.2.1] at he; exact he), hs.2.2.1, fun y w _ => by rw [hs.2.2.2]⟩
    · have ha : a.toNat < 3 := by omega
      have hs : ∃ v, s.ex t ⟨op, a, b, c, to⟩ tg = s.setR t a.toNat v := by
        rcases h with rfl | rfl | rfl | rfl | rfl | rfl <;> exact ⟨_, rfl⟩
      obtain ⟨v, hv⟩ := hs
      rw [hv]
      exact ⟨fun u k hu => hset s _ v rfl ha u k hu, fun _ _ => rfl, fun e he => .inl he, rfl, fun _ _ _ => rfl⟩
  obtain ⟨k1, k2, k3, k4, k5⟩ := key
  obtain ⟨D', ho⟩ := D.quiet ht q k1 k2 k3 k4 k5 hk hq.1 hq.2 (fun d => hncl 14 d)
  exact ⟨L, by rw [ho]; exact C', D'⟩
end Qg
end
/- Readers and writers of a published node: their own steps. -/
section
namespace Qg
open Qs
variable {X : Cx} {ptr : Int} {s s' : A} {p p' : Nat → Pos} {L L' : List Nat} {B : Int} {t u : Nat}
theorem kd_le (P : Pos) : kd P ≤ 3 := by unfold kd; split <;> first | omega | (split <;> omega)
theorem kd_two {P : Pos} (h : 2 ≤ kd P) (h3 : kd P ≠ 3) : kd P = 2 := Nat.le_antisymm (Nat.le_of_lt_succ (Nat.lt_of_le_of_ne (kd_le P) h3)) h
/-- A step that takes no node away, frees none. -/
theorem Inv.clG (I : Inv X ptr s p B) (ht : t < X.n) {c d : Nat} (hp : p t = .cl c d) (q : Pos) {d' : Nat} (hst : startD X.f q = some d') (hd : d' < 100) (hdd : X.f ≠ 3 → d' = d)
    (e1 : ∀ u, u ≠ t → s'.reg u = s.reg u) (r5 : ∀ k, k = 5 ∨ k = 6 ∨ k = 7 → s'.reg t k = s.reg t k) (e2 : ∀ u, u ≠ t → s'.buf u = s.buf u)
    (l : List En) (hb : s'.buf t = s.buf t ++ l) (hl : ∀ e ∈ l, (∃ d, q = .cl 13 d) ∧ e.a = s'.reg t 3) (h13 : ∀ d, p t ≠ .cl 13 d)
    (hh : ∀ x, s.here x = true → s'.here x = true) (hh2 : ∀ x, s'.here x = true → s.here x = true ∨ (2 ≤ kd q ∧ x = s'.reg t 3)) (hv : ∀ x w, s.here x = true → s'.val x w = s.val x w)
    (hkp : kd (p t) ≠ 3) (hkq : kd q ≠ 3) (hk2 : kd (p t) = 2 → kd q = 2 ∧ s'.reg t 3 = s.reg t 3)
    (hc0 : kd q = 1 → ∃ c d, q = .cl c d ∧ 0 < d) (hc2 : ∀ d, q = .cl 2 d → s'.reg t 4 ≠ 0)
    (hc3 : kd q = 1 → X.Nd ptr s (s'.reg t 3) ∧ ((s'.reg t 3 = s.val ptr 0) ∨ (kd (p t) = 1 ∧ s'.reg t 3 = s.reg t 3)))
    (hc5 : kd q = 2 → s'.here (s'.reg t 3) = true ∧ ¬ X.spec ptr (s'.reg t 3) ∧ s'.reg t 3 ≠ s.val ptr 0 ∧ ∀ u, u < X.n → u ≠ t → 2 ≤ kd (p u) → s.reg u 3 ≠ s'.reg t 3)
    (ha : ∀ d, q = .cl 12 d → s'.reg t 4 ≠ 0) (hcb : ∀ d, q = .cl 13 d → s'.vw t (s'.reg t 3) 0 ≠ 0) : Inv X ptr s' (upd p t q) B := by
  obtain ⟨L, C, I⟩ := I
  have hspec : ∀ x, X.spec ptr x → s.here x = true := I.h1
  have hptr : s'.val ptr 0 = s.val ptr 0 := hv _ _ (hspec _ (.inr rfl))
  have hnd : ∀ x, X.Nd ptr s x → X.Nd ptr s' x := fun x h => ⟨hh x h.1, h.2.1, by rw [hv x 0 h.1]; exact h.2.2⟩
  have hkd : ∀ u, u ≠ t → kd (upd p t q u) = kd (p u) := fun u e => by rw [upd_ne _ _ e]
  have hold : ∀ w r, w < X.n → r < X.n → oldOf s' (upd p t q) w r → w ≠ t ∧ (oldOf s p w r) := fun w r hw hr ho => by
    obtain ⟨o1, o2, o3⟩ := ho
    have hwt : w ≠ t := fun e => by rw [e, upd_same] at o1; exact hkq o1
    refine ⟨hwt, ?_⟩
    rw [hkd w hwt] at o1
    rw [e1 w hwt] at o3
    by_cases e : r = t
    · subst e
      rw [upd_same] at o2
      obtain ⟨g1, g2⟩ := hc3 o2
      rcases g2 with g2 | ⟨g2, g3⟩
      · exact absurd (o3.symm.trans g2) (I.c4 w hw o1).2
      · exact ⟨o1, g2, by rw [← g3]; exact o3⟩
    · rw [hkd r e] at o2
      rw [e1 r e] at o3
      exact ⟨o1, o2, o3⟩
  have hc0' : ∀ u, u < X.n → kd (upd p t q u) = 1 → ∃ c d, upd p t q u = .cl c d ∧ 0 < d := fun u hu h => by
    by_cases e : u = t
    · subst e; rw [upd_same] at h ⊢; exact hc0 h
    · rw [upd_ne _ _ e] at h ⊢; exact I.c0 u hu h
  refine ⟨L, C.client ht hp q hst hd hdd e1 e2 (fun x w hg => hv x w (hspec x (.inl hg))) (r5 6 (by omega)) (r5 7 (by omega)) l hb (fun e he hg => ?_) (fun w r hw hr _ ho => (hold w r hw hr ho).2) (fun w r hw hr ho => hc0' r hr ho.2.1), ⟨I.np, fun x hx => hh x (hspec x hx), fun u hu => ?_, by rw [hptr]; exact hnd _ I.d0, hc0', fun u d hu h => ?_, fun u hu h => ?_, fun u hu h => ?_, fun u hu h => ?_, fun u v hu hv' hne a b => ?_, fun u d hu h => ?_, fun u d hu h => ?_, fun u hu e he => ?_, fun u d hu h r hr ho => ?_, fun x hx => ?_⟩⟩
  · obtain ⟨⟨d, g1⟩, g2⟩ := hl e he
    rw [g1] at hc5
    have := (hc5 rfl).2.1
    rw [g2] at hg
    exact this (.inl hg)
  · by_cases e : u = t
    · subst e; rw [r5 5 (by omega)]; exact I.r5 u hu
    · rw [e1 u e]; exact I.r5 u hu
  · by_cases e : u = t
    · subst e; rw [upd_same] at h; exact hc2 d h
    · rw [upd_ne _ _ e] at h; rw [e1 u e]; exact I.c2 u d hu h
  · by_cases e : u = t
    · subst e
      rw [upd_same] at h
      obtain ⟨g1, g2⟩ := hc3 h
      refine ⟨hnd _ g1, ?_⟩
      rw [hptr]
      rcases g2 with g2 | ⟨g2, g3⟩
      · exact .inl g2
      · rcases (I.c3 u hu g2).2 with g4 | ⟨w, hw, g4, g5⟩
        · exact .inl (by rw [g3]; exact g4)
        · have hwt : w ≠ u := fun e => by rw [e] at g4; exact hkp g4
          exact .inr ⟨w, hw, by rw [hkd w hwt]; exact g4, by rw [e1 w hwt, g3]; exact g5⟩
    · rw [hkd u e] at h
      rw [e1 u e, hptr]
      obtain ⟨g1, g2⟩ := I.c3 u hu h
      refine ⟨hnd _ g1, ?_⟩
      rcases g2 with g2 | ⟨w, hw, g4, g5⟩
      · exact .inl g2
      · have hwt : w ≠ t := fun e => by rw [e] at g4; exact hkp g4
        exact .inr ⟨w, hw, by rw [hkd w hwt]; exact g4, by rw [e1 w hwt]; exact g5⟩
  · have e : u ≠ t := fun e => by rw [e, upd_same] at h; exact hkq h
    rw [hkd u e] at h
    rw [e1 u e, hptr]
    exact ⟨hnd _ (I.c4 u hu h).1, (I.c4 u hu h).2⟩
  · by_cases e : u = t
    · subst e
      rw [upd_same] at h
      rw [hptr]
      exact ⟨(hc5 h).1, (hc5 h).2.1, (hc5 h).2.2.1⟩
    · rw [hkd u e] at h
      rw [e1 u e, hptr]
      exact ⟨hh _ (I.c5 u hu h).1, (I.c5 u hu h).2⟩
  · by_cases e : u = t
    · subst e
      have e' : v ≠ u := fun h => hne h.symm
      rw [upd_same] at a
      rw [hkd v e'] at b
      rw [e1 v e']
      have hq2 : kd q = 2 := kd_two a hkq
      exact fun h => (hc5 hq2).2.2.2 v hv' e' b h.symm
    · by_cases e' : v = t
      · subst e'
        rw [upd_same] at b
        rw [hkd u e] at a
        rw [e1 u e]
        have hq2 : kd q = 2 := kd_two b hkq
        exact (hc5 hq2).2.2.2 u hu e a
      · rw [hkd u e] at a
        rw [hkd v e'] at b
        rw [e1 u e, e1 v e']
        exact I.cd u v hu hv' hne a b
  · by_cases e : u = t
    · subst e; rw [upd_same] at h; exact ha d h
    · rw [upd_ne _ _ e] at h; rw [e1 u e]; exact I.ca u d hu h
  · by_cases e : u = t
    · subst e; rw [upd_same] at h; exact hcb d h
    · rw [upd_ne _ _ e] at h
      have hk : kd (p u) = 2 := by rw [h]; rfl
      rw [e1 u e]
      unfold A.vw
      rw [e2 u e, hv _ _ (I.c5 u hu hk).1]
      exact I.cb u d hu h
  · by_cases e5 : u = t
    · subst e5
      rw [hb] at he
      rcases List.mem_append.1 he with g | g
      · rcases I.c6 u hu e g with g | ⟨⟨d, g⟩, _⟩
        · exact .inl g
        · exact absurd g (h13 d)
      · obtain ⟨⟨d, g1⟩, g2⟩ := hl e g
        exact .inr ⟨⟨d, by rw [upd_same]; exact g1⟩, g2⟩
    · rw [e2 u e5] at he
      rw [upd_ne _ _ e5, e1 u e5]
      exact I.c6 u hu e he
  · obtain ⟨hne, ho'⟩ := hold u r hu hr ho
    rw [upd_ne _ _ hne] at h
    exact I.c7 u d hu h r hr ho'
  · rw [hptr]
    rcases hh2 x hx with g | ⟨g1, g2⟩
    · rcases I.c8 x g with g | g | ⟨w, hw, g1, g2⟩
      · exact .inl g
      · exact .inr (.inl g)
      · right; right
        by_cases e : w = t
        · subst e
          have hk : kd (p w) = 2 := kd_two g1 hkp
          exact ⟨w, hw, by rw [upd_same]; have := (hk2 hk).1; omega, by rw [(hk2 hk).2]; exact g2⟩
        · exact ⟨w, hw, by rw [hkd w e]; exact g1, by rw [e1 w e]; exact g2⟩
    · exact .inr (.inr ⟨t, ht, by rw [upd_same]; exact g1, g2⟩)
theorem setR_self (s : A) (t k : Nat) (v : Int) (i : Nat) : (s.setR t k v).reg t i = if i = k then v else s.reg t i := by rw [setR_reg]; rfl
theorem setR_at (s : A) (t k : Nat) (v : Int) : (s.setR t k v).reg t k = v := by rw [setR_self, if_pos rfl]
theorem setR_off (s : A) (t k : Nat) (v : Int) {i : Nat} (h : i ≠ k) : (s.setR t k v).reg t i = s.reg t i := by rw [setR_self, if_neg h]
/-- A reader takes what is published. -/
theorem Inv.cl0 (I : Inv X ptr s p B) (ht : t < X.n) {d : Nat} (hp : p t = .cl 0 d) (q : Pos) {d' : Nat} (hst : startD X.f q = some d') (hd : d' < 100) (hdd : X.f ≠ 3 → d' = d) (hq : kd q = 0 ∨ (q = .cl 1 d ∧ 0 < d)) :
    Inv X ptr (s.setR t 3 (s.vw t (s.reg t 5) 0)) (upd p t q) B := by
  have I0 := I
  obtain ⟨L, C, D⟩ := I
  have hvw : s.vw t (s.reg t 5) 0 = s.val ptr 0 := by
    rw [D.r5 t ht]
    refine vw_free fun e he ha => ?_
    rcases D.c6 t ht e he with g | ⟨⟨d, g⟩, _⟩
    · exact absurd (ha ▸ g) D.np
    · rw [hp] at g; cases g
  rw [hvw]
  have hk0 : kd (p t) = 0 := by rw [hp]; rfl
  have hq3 : kd q = 0 ∨ kd q = 1 := by
    rcases hq with h | ⟨h, _⟩
    · exact .inl h
    · right; rw [h]; rfl
  refine I0.clG ht hp q hst hd hdd (fun u hu => setR_ne _ _ _ hu) (fun k hk => setR_off _ _ _ _ (by omega)) (fun _ _ => rfl) [] (by simp; rfl) (fun e he => by simp at he) (fun d h => by rw [hp] at h; cases h) (fun _ h => h) (fun _ h => .inl h) (fun _ _ _ => rfl) (by omega) (by omega) (fun h => by omega) (fun h => ?_) (fun d2 h => ?_) (fun h => ?_) (fun h => by omega) (fun d2 h => ?_) (fun d2 h => ?_)
  · rcases hq with g | ⟨g, g2⟩
    · omega
    · exact ⟨1, d, g, g2⟩
  · rcases hq with g | ⟨g, g2⟩
    · rw [h] at g; cases g
    · rw [h] at g; cases g
  · rw [setR_at]; exact ⟨D.d0, .inl rfl⟩
  · rw [h] at hq3; simp [kd] at hq3
  · rw [h] at hq3; simp [kd] at hq3
/-- It reads. -/
theorem Inv.cl1 (I : Inv X ptr s p B) (ht : t < X.n) {d : Nat} (hp : p t = .cl 1 d) (q : Pos) {d' : Nat} (hst : startD X.f q = some d') (hd : d' < 100) (hdd : X.f ≠ 3 → d' = d) (hq : q = .cl 2 d ∧ 0 < d) :
    s.here (s.reg t 3) = true ∧ Inv X ptr (s.setR t 4 (s.vw t (s.reg t 3) 0)) (upd p t q) B := by
  have I0 := I
  obtain ⟨L, C, D⟩ := I
  obtain ⟨rfl, hd0⟩ := hq
  have hk : kd (p t) = 1 := by rw [hp]; rfl
  obtain ⟨g1, g2⟩ := D.c3 t ht hk
  have hvw : s.vw t (s.reg t 3) 0 = s.val (s.reg t 3) 0 := vw_free fun e he ha => by
    rcases D.c6 t ht e he with g | ⟨⟨d, g⟩, _⟩
    · exact absurd (.inl (ha ▸ g)) g1.2.1
    · rw [hp] at g; cases g
  rw [hvw]
  refine ⟨g1.1, I0.clG ht hp _ hst hd hdd (fun u hu => setR_ne _ _ _ hu) (fun k hk => setR_off _ _ _ _ (by omega)) (fun _ _ => rfl) [] (by simp; rfl) (fun e he => by simp at he) (fun d h => by rw [hp] at h; cases h) (fun _ h => h) (fun _ h => .inl h) (fun _ _ _ => rfl) (by omega) (by simp [kd]) (fun h => by omega) (fun h => ⟨2, d, rfl, hd0⟩) (fun d2 h => by rw [setR_at]; exact g1.2.2) (fun h => ?_) (fun h => by simp [kd] at h) (fun d2 h => by cases h) (fun d2 h => by cases h)⟩
  rw [setR_off _ _ _ _ (by omega)]
  exact ⟨g1, .inr ⟨hk, rfl⟩⟩
/-- It looks at what it read. -/
theorem Inv.cl2 (I : Inv X ptr s p B) (ht : t < X.n) {d : Nat} (hp : p t = .cl 2 d) (q : Pos) {d' : Nat} (hst : startD X.f q = some d') (hd : d' < 100) (hdd : X.f ≠ 3 → d' = d) (hq : kd q = 0 ∨ (q = .cl 1 d ∧ 0 < d)) :
    s.reg t 4 ≠ 0 ∧ Inv X ptr s (upd p t q) B := by
  have I0 := I
  obtain ⟨L, C, D⟩ := I
  have hk : kd (p t) = 1 := by rw [hp]; rfl
  obtain ⟨g1, g2⟩ := D.c3 t ht hk
  have hq3 : kd q = 0 ∨ kd q = 1 := by
    rcases hq with h | ⟨h, _⟩
    · exact .inl h
    · right; rw [h]; rfl
  refine ⟨D.c2 t d ht hp, I0.clG ht hp q hst hd hdd (fun u hu => rfl) (fun k hk => rfl) (fun _ _ => rfl) [] (by simp) (fun e he => by simp at he) (fun d h => by rw [hp] at h; cases h) (fun _ h => h) (fun _ h => .inl h) (fun _ _ _ => rfl) (by omega) (by omega) (fun h => by omega) (fun h => ?_) (fun d2 h => D.c2 t d ht hp) (fun h => ⟨g1, .inr ⟨hk, rfl⟩⟩) (fun h => by omega) (fun d2 h => ?_) (fun d2 h => ?_)⟩
  · rcases hq with g | ⟨g, g2⟩
    · omega
    · exact ⟨1, d, g, g2⟩
  · rw [h] at hq3; simp [kd] at hq3
  · rw [h] at hq3; simp [kd] at hq3
/-- A writer makes a new one. -/
theorem Inv.cl10 (I : Inv X ptr s p B) (ht : t < X.n) {d : Nat} (hp : p t = .cl 10 d) {d' : Nat} (hst : startD X.f (.cl 11 d) = some d') (hd : d' < 100) (hdd : X.f ≠ 3 → d' = d) {na : Int} (hna : s.here na = false) :
    Inv X ptr ((s.give na).setR t 3 na) (upd p t (.cl 11 d)) B := by
  have I0 := I
  obtain ⟨L, C, D⟩ := I
  have hne : ∀ x, s.here x = true → x ≠ na := fun x h e => by rw [e, hna] at h; cases h
  refine I0.clG ht hp _ hst hd hdd (fun u hu => setR_ne _ _ _ hu) (fun k hk => setR_off _ _ _ _ (by omega)) (fun _ _ => rfl) [] (by simp; rfl) (fun e he => by simp at he) (fun d h => by rw [hp] at h; cases h) (fun x h => ?_) (fun x h => ?_) (fun x w h => ?_) (by rw [hp]; simp [kd]) (by simp [kd]) (fun h => by rw [hp] at h; simp [kd] at h) (fun h => by simp [kd] at h) (fun d2 h => by cases h) (fun h => by simp [kd] at h) (fun h => ?_) (fun d2 h => by cases h) (fun d2 h => by cases h)
  · show (if x = na then true else s.here x) = true
    split
    · rfl
    · exact h
  · have h' : (if x = na then true else s.here x) = true := h
    by_cases e : x = na
    · exact .inr ⟨by simp [kd], by rw [setR_at]; exact e⟩
    · rw [if_neg e] at h'; exact .inl h'
  · show (if x = na then 0 else s.val x w) = s.val x w
    rw [if_neg (hne x h)]
  · rw [setR_at]
    refine ⟨if_pos rfl, fun h => hne na (D.h1 na h) rfl, fun h => hne _ D.d0.1 h.symm, fun u hu hut hk => ?_⟩
    by_cases h3 : kd (p u) = 3
    · exact hne _ (D.c4 u hu h3).1.1
    · exact hne _ (D.c5 u hu (kd_two hk h3)).1
/-- What is to stand in it. -/
theorem Inv.cl11 (I : Inv X ptr s p B) (ht : t < X.n) {d : Nat} (hp : p t = .cl 11 d) {d' : Nat} (hst : startD X.f (.cl 12 d) = some d') (hd : d' < 100) (hdd : X.f ≠ 3 → d' = d) {v : Int} (hv : v ≠ 0) :
    Inv X ptr (s.setR t 4 v) (upd p t (.cl 12 d)) B := by
  have I0 := I
  obtain ⟨L, C, D⟩ := I
  have hk : kd (p t) = 2 := by rw [hp]; rfl
  have h5 := D.c5 t ht hk
  refine I0.clG ht hp _ hst hd hdd (fun u hu => setR_ne _ _ _ hu) (fun k hk => setR_off _ _ _ _ (by omega)) (fun _ _ => rfl) [] (by simp; rfl) (fun e he => by simp at he) (fun d h => by rw [hp] at h; cases h) (fun x h => h) (fun x h => .inl h) (fun x w h => rfl) (by omega) (by simp [kd]) (fun h => ⟨rfl, setR_off _ _ _ _ (by omega)⟩) (fun h => by simp [kd] at h) (fun d2 h => by cases h) (fun h => by simp [kd] at h) (fun h => ?_) (fun d2 h => by rw [setR_at]; exact hv) (fun d2 h => by cases h)
  rw [setR_off _ _ _ _ (by omega)]
  exact ⟨h5.1, h5.2.1, h5.2.2, fun u hu hne hk2 => D.cd u t hu ht hne hk2 (by omega)⟩
/-- It is stored. -/
theorem Inv.cl12 (I : Inv X ptr s p B) (ht : t < X.n) {d : Nat} (hp : p t = .cl 12 d) {d' : Nat} (hst : startD X.f (.cl 13 d) = some d') (hd : d' < 100) (hdd : X.f ≠ 3 → d' = d) :
    s.here (s.reg t 3) = true ∧ Inv X ptr (s.setB t (s.buf t ++ [⟨s.reg t 3, 0, s.reg t 4⟩])) (upd p t (.cl 13 d)) B := by
  have I0 := I
  obtain ⟨L, C, D⟩ := I
  have hk : kd (p t) = 2 := by rw [hp]; rfl
  have h5 := D.c5 t ht hk
  refine ⟨h5.1, I0.clG ht hp _ hst hd hdd (fun u hu => rfl) (fun k hk => rfl) (fun u hu => setB_ne _ _ hu) [⟨s.reg t 3, 0, s.reg t 4⟩] (setB_buf _ _ _) (fun e he => ?_) (fun d h => by rw [hp] at h; cases h) (fun x h => h) (fun x h => .inl h) (fun x w h => rfl) (by omega) (by simp [kd]) (fun h => ⟨rfl, rfl⟩) (fun h => by simp [kd] at h) (fun d2 h => by cases h) (fun h => by simp [kd] at h) (fun h => ?_) (fun d2 h => by cases h) (fun d2 h => ?_)⟩
  · rw [List.mem_singleton.1 he]; exact ⟨⟨d, rfl⟩, rfl⟩
  · exact ⟨h5.1, h5.2.1, h5.2.2, fun u hu hne hk2 => D.cd u t hu ht hne hk2 (by omega)⟩
  · show (s.setB t (s.buf t ++ [⟨s.reg t 3, 0, s.reg t 4⟩])).vw t (s.reg t 3) 0 ≠ 0
    rw [push_vw, if_pos ⟨rfl, rfl⟩]
    exact D.ca t d ht hp
end Qg
end
/- Writers of a published node: what is published is taken away; what was taken away is freed. -/
section
namespace Qg
open Qs
variable {X : Cx} {ptr : Int} {s s' : A} {p p' : Nat → Pos} {L L' : List Nat} {B : Int} {t u : Nat}
/-- The new one is published, the old one is taken away. -/
theorem Inv.cl13 (I : Inv X ptr s p B) (ht : t < X.n) {d : Nat} (hp : p t = .cl 13 d) (hb : s.buf t = []) (q : Pos) {d' : Nat} (hst : startD X.f q = some d') (hd : d' < 100) (hdd : X.f ≠ 3 → d' = d) (hq : q = .wb ∨ q = .ca 0) :
    s.here (s.reg t 5) = true ∧ Inv X ptr ((s.put ⟨s.reg t 5, 0, s.reg t 3⟩).setR t 3 (s.val (s.reg t 5) 0)) (upd p t q) B := by
  obtain ⟨L, C, D⟩ := I
  have hk : kd (p t) = 2 := by rw [hp]; rfl
  have hkq : kd q = 3 := by rcases hq with rfl | rfl <;> rfl
  have h5 := D.c5 t ht hk
  have hr5 := D.r5 t ht
  have hnw : s.val (s.reg t 3) 0 ≠ 0 := by
    have := D.cb t d ht hp
    rw [vw_nil hb] at this
    exact this
  rw [hr5]
  obtain ⟨nw, hnwe⟩ : ∃ nw, nw = s.reg t 3 := ⟨_, rfl⟩
  obtain ⟨s1, hs1⟩ : ∃ s1, s1 = (s.put ⟨ptr, 0, s.reg t 3⟩).setR t 3 (s.val ptr 0) := ⟨_, rfl⟩
  rw [← hs1]
  have hh : s1.here = s.here := by rw [hs1]; rfl
  have hbf : s1.buf = s.buf := by rw [hs1]; rfl
  have hv : ∀ x w, x ≠ ptr → s1.val x w = s.val x w := fun x w hx => by rw [hs1]; exact if_neg fun g => hx g.1
  have hvp : s1.val ptr 0 = nw := by rw [hs1, hnwe]; exact if_pos ⟨rfl, rfl⟩
  have hr3 : s1.reg t 3 = s.val ptr 0 := by rw [hs1]; exact setR_at _ _ _ _
  have hrk : ∀ k, k ≠ 3 → s1.reg t k = s.reg t k := fun k hk => by rw [hs1]; exact setR_off _ _ _ _ hk
  have hru : ∀ u, u ≠ t → s1.reg u = s.reg u := fun u hu => by rw [hs1]; exact setR_ne _ _ _ hu
  clear hs1
  rw [← hnwe] at h5 hnw
  have hnp : ∀ x, ¬ X.spec ptr x → x ≠ ptr := fun x h e => h (.inr e)
  have hnd : ∀ x, X.Nd ptr s x → X.Nd ptr s1 x := fun x h => ⟨by rw [hh]; exact h.1, h.2.1, by rw [hv _ _ (hnp x h.2.1)]; exact h.2.2⟩
  have hcd : ∀ u, u < X.n → u ≠ t → 2 ≤ kd (p u) → s.reg u 3 ≠ nw := fun u hu hne h => by rw [hnwe]; exact D.cd u t hu ht hne h (by omega)
  have hne0 : ∀ u, u < X.n → 2 ≤ kd (p u) → s.reg u 3 ≠ s.val ptr 0 := fun u hu h => by
    by_cases h3 : kd (p u) = 3
    · exact (D.c4 u hu h3).2
    · exact (D.c5 u hu (kd_two h h3)).2.2
  have hold : ∀ w r, oldOf s1 (upd p t q) w r → r ≠ t ∧ (w ≠ t → oldOf s p w r) := fun w r ⟨o1, o2, o3⟩ => by
    have hrt : r ≠ t := fun e => by rw [e, upd_same] at o2; omega
    refine ⟨hrt, fun hwt => ?_⟩
    rw [upd_ne _ _ hwt] at o1
    rw [upd_ne _ _ hrt] at o2
    rw [hru _ hwt, hru _ hrt] at o3
    exact ⟨o1, o2, o3⟩
  have hc0 : ∀ u, u < X.n → kd (upd p t q u) = 1 → ∃ c d, upd p t q u = .cl c d ∧ 0 < d := fun u hu h => by
    by_cases e : u = t
    · rw [e, upd_same] at h; omega
    · rw [upd_ne _ _ e] at h ⊢; exact D.c0 u hu h
  refine ⟨D.h1 _ (.inr rfl), L, C.client ht hp q hst hd hdd hru (fun _ _ => by rw [hbf]) (fun x w hg => hv x w (fun e => D.np (e ▸ hg))) (hrk 6 (by omega)) (hrk 7 (by omega)) [] (by rw [hbf]; simp) (fun e he => by simp at he) (fun w r hw hr hwt ho => (hold w r ho).2 hwt) (fun w r hw hr ho => hc0 r hr ho.2.1), ⟨D.np, by rw [hh]; exact D.h1, fun u hu => ?_, ?_, hc0, fun u d hu h => ?_, fun u hu h => ?_, fun u hu h => ?_, fun u hu h => ?_, fun u v hu hv' hne a b => ?_, fun u d hu h => ?_, fun u d hu h => ?_, fun u hu e he => ?_, fun u d hu h r hr ho => ?_, fun x hx => ?_⟩⟩
  · by_cases e : u = t
    · rw [e, hrk 5 (by omega)]; exact hr5
    · rw [hru u e]; exact D.r5 u hu
  · rw [hvp]
    exact ⟨by rw [hh]; exact h5.1, h5.2.1, by rw [hv _ _ (hnp _ h5.2.1)]; exact hnw⟩
  · by_cases e : u = t
    · rw [e, upd_same] at h; rcases hq with g | g <;> rw [g] at h <;> cases h
    · rw [upd_ne _ _ e] at h; rw [hru u e]; exact D.c2 u d hu h
  · have e : u ≠ t := fun e => by rw [e, upd_same] at h; omega
    rw [upd_ne _ _ e] at h
    obtain ⟨g1, g2⟩ := D.c3 u hu h
    rw [hru u e]
    refine ⟨hnd _ g1, .inr ?_⟩
    rcases g2 with g2 | ⟨w, hw, g4, g5⟩
    · exact ⟨t, ht, by rw [upd_same]; exact hkq, by rw [hr3]; exact g2.symm⟩
    · have hwt : w ≠ t := fun e => by rw [e] at g4; omega
      exact ⟨w, hw, by rw [upd_ne _ _ hwt]; exact g4, by rw [hru w hwt]; exact g5⟩
  · rw [hvp]
    by_cases e : u = t
    · rw [e, hr3]; exact ⟨hnd _ D.d0, fun g => h5.2.2 g.symm⟩
    · rw [upd_ne _ _ e] at h
      rw [hru u e]
      exact ⟨hnd _ (D.c4 u hu h).1, hcd u hu e (by omega)⟩
  · have e : u ≠ t := fun e => by rw [e, upd_same] at h; omega
    rw [upd_ne _ _ e] at h
    rw [hru u e, hvp, hh]
    have := D.c5 u hu h
    exact ⟨this.1, this.2.1, hcd u hu e (by omega)⟩
  · by_cases e : u = t
    · have e' : v ≠ t := fun g => hne (e.trans g.symm)
      rw [upd_ne _ _ e'] at b
      rw [e, hr3, hru v e']
      exact fun g => hne0 v hv' b g.symm
    · rw [upd_ne _ _ e] at a
      by_cases e' : v = t
      · rw [e', hr3, hru u e]; exact hne0 u hu a
      · rw [upd_ne _ _ e'] at b
        rw [hru u e, hru v e']
        exact D.cd u v hu hv' hne a b
  · by_cases e : u = t
    · rw [e, upd_same] at h; rcases hq with g | g <;> rw [g] at h <;> cases h
    · rw [upd_ne _ _ e] at h; rw [hru u e]; exact D.ca u d hu h
  · by_cases e : u = t
    · rw [e, upd_same] at h; rcases hq with g | g <;> rw [g] at h <;> cases h
    · rw [upd_ne _ _ e] at h
      have hk2 : kd (p u) = 2 := by rw [h]; rfl
      rw [hru u e]
      unfold A.vw
      rw [hbf, hv _ _ (hnp _ (D.c5 u hu hk2).2.1)]
      exact D.cb u d hu h
  · rw [hbf] at he
    by_cases e5 : u = t
    · rw [e5, hb] at he; simp at he
    · rw [upd_ne _ _ e5, hru u e5]; exact D.c6 u hu e he
  · have e : u ≠ t := fun e => by rw [e, upd_same] at h; rcases hq with g | g <;> rw [g] at h <;> cases h
    rw [upd_ne _ _ e] at h
    exact D.c7 u d hu h r hr ((hold u r ho).2 e)
  · rw [hh] at hx
    rw [hvp]
    rcases D.c8 x hx with g | g | ⟨w, hw, g1, g2⟩
    · exact .inl g
    · exact .inr (.inr ⟨t, ht, by rw [upd_same]; omega, by rw [hr3]; exact g⟩)
    · by_cases e : w = t
      · right; left; rw [hnwe, g2, e]
      · exact .inr (.inr ⟨w, hw, by rw [upd_ne _ _ e]; exact g1, by rw [hru w e]; exact g2⟩)
/-- It is freed: nobody has it. -/
theorem Inv.cl14 (I : Inv X ptr s p B) (ht : t < X.n) {d : Nat} (hp : p t = .cl 14 d) (q : Pos) {d' : Nat} (hst : startD X.f q = some d') (hd : d' < 100) (hdd : X.f ≠ 3 → d' = d) (hq : kd q = 0) :
    s.here (s.reg t 3) = true ∧ Inv X ptr (s.free (s.reg t 3)) (upd p t q) B := by
  obtain ⟨L, C, D⟩ := I
  have hk : kd (p t) = 3 := by rw [hp]; rfl
  obtain ⟨n1, n2⟩ := D.c4 t ht hk
  have h7 := D.c7 t d ht hp
  obtain ⟨a, ha⟩ : ∃ a, a = s.reg t 3 := ⟨_, rfl⟩
  rw [← ha] at n1 n2 ⊢
  have hh : ∀ x, x ≠ a → (s.free a).here x = s.here x := fun x h => if_neg h
  have hh2 : ∀ x, (s.free a).here x = true → x ≠ a ∧ s.here x = true := fun x h => by
    have h' : (if x = a then false else s.here x) = true := h
    by_cases e : x = a
    · rw [if_pos e] at h'; cases h'
    · rw [if_neg e] at h'; exact ⟨e, h'⟩
  have hv : ∀ x w, x ≠ a → (s.free a).val x w = s.val x w := fun x w h => if_neg h
  have hsp : ∀ x, X.spec ptr x → x ≠ a := fun x h e => n1.2.1 (e ▸ h)
  have hptr : (s.free a).val ptr 0 = s.val ptr 0 := hv _ _ (hsp _ (.inr rfl))
  have hnd : ∀ x, x ≠ a → X.Nd ptr s x → X.Nd ptr (s.free a) x := fun x hx h => ⟨by rw [hh x hx]; exact h.1, h.2.1, by rw [hv _ _ hx]; exact h.2.2⟩
  have hcd : ∀ u, u < X.n → u ≠ t → 2 ≤ kd (p u) → s.reg u 3 ≠ a := fun u hu hne h => by rw [ha]; exact D.cd u t hu ht hne h (by omega)
  have hno : ∀ u, u < X.n → kd (p u) = 1 → s.reg u 3 ≠ a := fun u hu h e => h7 u hu ⟨hk, h, by rw [e, ha]⟩
  have hqn : ∀ c d, kd (.cl c d) ≠ 0 → q ≠ .cl c d := fun c d h e => h (by rw [← e]; exact hq)
  have hold : ∀ w r, oldOf (s.free a) (upd p t q) w r → w ≠ t ∧ oldOf s p w r := fun w r ⟨o1, o2, o3⟩ => by
    have hwt : w ≠ t := fun e => by rw [e, upd_same] at o1; omega
    have hrt : r ≠ t := fun e => by rw [e, upd_same] at o2; omega
    rw [upd_ne _ _ hwt] at o1
    rw [upd_ne _ _ hrt] at o2
    exact ⟨hwt, o1, o2, o3⟩
  have hc0 : ∀ u, u < X.n → kd (upd p t q u) = 1 → ∃ c d, upd p t q u = .cl c d ∧ 0 < d := fun u hu h => by
    by_cases e : u = t
    · rw [e, upd_same] at h; omega
    · rw [upd_ne _ _ e] at h ⊢; exact D.c0 u hu h
  refine ⟨n1.1, L, C.client ht hp q hst hd hdd (fun _ _ => rfl) (fun _ _ => rfl) (fun x w hg => hv x w (hsp x (.inl hg))) rfl rfl [] (by simp; rfl) (fun e he => by simp at he) (fun w r hw hr hwt ho => (hold w r ho).2) (fun w r hw hr ho => hc0 r hr ho.2.1), ⟨D.np, fun x hx => by rw [hh x (hsp x hx)]; exact D.h1 x hx, D.r5, ?_, hc0, fun u d hu h => ?_, fun u hu h => ?_, fun u hu h => ?_, fun u hu h => ?_, fun u v hu hv' hne x y => ?_, fun u d hu h => ?_, fun u d hu h => ?_, fun u hu e he => ?_, fun u d hu h r hr ho => ?_, fun x hx => ?_⟩⟩
  · rw [hptr]; exact hnd _ (fun e => n2 e.symm) D.d0
  · by_cases e : u = t
    · rw [e, upd_same] at h; exact absurd h (hqn 2 d (by simp [kd]))
    · rw [upd_ne _ _ e] at h; exact D.c2 u d hu h
  · have e : u ≠ t := fun e => by rw [e, upd_same] at h; omega
    rw [upd_ne _ _ e] at h
    obtain ⟨g1, g2⟩ := D.c3 u hu h
    refine ⟨hnd _ (hno u hu h) g1, ?_⟩
    rw [hptr]
    rcases g2 with g2 | ⟨w, hw, g4, g5⟩
    · exact .inl g2
    · have hwt : w ≠ t := fun e => by rw [e, ← ha] at g5; exact hno u hu h g5.symm
      exact .inr ⟨w, hw, by rw [upd_ne _ _ hwt]; exact g4, g5⟩
  · have e : u ≠ t := fun e => by rw [e, upd_same] at h; omega
    rw [upd_ne _ _ e] at h
    rw [hptr]
    exact ⟨hnd _ (hcd u hu e (by omega)) (D.c4 u hu h).1, (D.c4 u hu h).2⟩
  · have e : u ≠ t := fun e => by rw [e, upd_same] at h; omega
    rw [upd_ne _ _ e] at h
    have := D.c5 u hu h
    rw [hptr]
    exact ⟨(hh (s.reg u 3) (hcd u hu e (by omega))).trans this.1, this.2⟩
  · have e : u ≠ t := fun e => by rw [e, upd_same] at x; omega
    have e' : v ≠ t := fun e => by rw [e, upd_same] at y; omega
    rw [upd_ne _ _ e] at x
    rw [upd_ne _ _ e'] at y
    exact D.cd u v hu hv' hne x y
  · by_cases e : u = t
    · rw [e, upd_same] at h; exact absurd h (hqn 12 d (by simp [kd]))
    · rw [upd_ne _ _ e] at h; exact D.ca u d hu h
  · by_cases e : u = t
    · rw [e, upd_same] at h; exact absurd h (hqn 13 d (by simp [kd]))
    · rw [upd_ne _ _ e] at h
      have hk2 : kd (p u) = 2 := by rw [h]; rfl
      have := D.cb u d hu h
      have h1 : (s.free a).vw u ((s.free a).reg u 3) 0 = s.vw u (s.reg u 3) 0 := by
        show lk1 (s.buf u) (s.reg u 3) 0 ((s.free a).val (s.reg u 3) 0) = lk1 (s.buf u) (s.reg u 3) 0 (s.val (s.reg u 3) 0)
        rw [hv _ _ (hcd u hu e (by omega))]
      rw [h1]
      exact this
  · by_cases e5 : u = t
    · rcases D.c6 u hu e he with g | ⟨⟨d, g⟩, _⟩
      · exact .inl g
      · rw [e5, hp] at g; cases g
    · rw [upd_ne _ _ e5]; exact D.c6 u hu e he
  · by_cases e : u = t
    · rw [e, upd_same] at h; exact absurd h (hqn 14 d (by simp [kd]))
    · rw [upd_ne _ _ e] at h
      exact D.c7 u d hu h r hr (hold u r ho).2
  · obtain ⟨g0, g⟩ := hh2 x hx
    rw [hptr]
    rcases D.c8 x g with g | g | ⟨w, hw, g1, g2⟩
    · exact .inl g
    · exact .inr (.inl g)
    · have e : w ≠ t := fun e => by rw [e, ← ha] at g2; exact g0 g2
      exact .inr (.inr ⟨w, hw, by rw [upd_ne _ _ e]; exact g1, g2⟩)
end Qg
end
/- Readers and writers of a published node on the plain machine: by any turns there is no fault. -/
section
namespace Qg
open Qs
variable {X : Cx} {ptr : Int} {s s' : A} {p p' : Nat → Pos} {L L' : List Nat} {B : Int} {t u : Nat}
/-- A customer's instructions, by their numbers. -/
def clIns (c : Nat) (x : Instr) : Bool :=
  match c with
  | 0 => x.op == 6 && x.A == 3 && x.B == 5 && x.C == 0
  | 1 => x.op == 6 && x.A == 4 && x.B == 3 && x.C == 0
  | 2 => x.op == 19 && x.A == 4
  | 10 => x.op == 10 && x.A == 3
  | 11 => x.op == 0 && x.A == 4 && x.B != 0
  | 12 => x.op == 7 && x.A == 3 && x.B == 4 && x.C == 0
  | 13 => x.op == 8 && x.A == 3 && x.B == 5 && x.C == 0
  | 14 => x.op == 11 && x.A == 3
  | _ => false
def nextB (f : Nat) (P q : Pos) : Bool := match fallOf f P with
  | some q' => q == q'
  | none => match startD f q with
    | some d => decide (d < 100) && (f == 3 || d == dOut P) && (P != .gn 2 || q == .fin) && clOk P q
    | none => false
def clB (f : Nat) (P : Pos) (x : Instr) (q : Pos) : Bool := match P with
  | .cl c d => clIns c x && clOk P q && match startD f q with
    | some d' => decide (d' < 100) && (f == 3 || d' == d)
    | none => false
  | _ => false
def lineB (f : Nat) (code : List Instr) (ann : List Pos) (i : Nat) (x : Instr) : Bool :=
  (ann.getD i .fin == .dead) || insP x && match insOf f (ann.getD i .fin) with
    | some y => decide (y = (x.op, x.A, x.B, x.C)) && (!(decide (14 ≤ x.op) && decide (x.op ≤ 16)) || (match labelAt x.to code 0 with | some j => ann.getD j .fin == tgtOf (ann.getD i .fin) | none => false)) && (x.op == 16 || nextB f (ann.getD i .fin) (ann.getD (i + 1) .fin))
    | none => clB f (ann.getD i .fin) x (ann.getD (i + 1) .fin)
/-- Code and its places: each line is as its place says. -/
def annB (f : Nat) (code : List Instr) (ann : List Pos) : Bool := decide (code.length = ann.length) && (List.range code.length).all fun i => match code[i]? with
  | some x => lineB f code ann i x
  | none => true
theorem annB_at {f : Nat} {code : List Instr} {ann : List Pos} (h : annB f code ann = true) {i : Nat} {x : Instr} (hx : code[i]? = some x) : lineB f code ann i x = true := by
  unfold annB at h
  simp only [Bool.and_eq_true, List.all_eq_true] at h
  have := h.2 i (List.mem_range.2 (List.getElem?_eq_some_iff.1 hx).1)
  rw [hx] at this
  exact this
theorem clIns_op {c : Nat} {x : Instr} (h : clIns c x = true) : ¬ (14 ≤ x.op ∧ x.op ≤ 16) := by
  unfold clIns at h
  split at h <;> first
    | (cases h; done)
    | (simp only [Bool.and_eq_true, beq_iff_eq] at h; omega)
theorem nextB_ok {f : Nat} {P q : Pos} (h : nextB f P q = true) : NextOk f P q ∧ (fallOf f P = none → clOk P q = true) := by
  unfold nextB at h
  unfold NextOk
  cases e : fallOf f P with
  | some q' =>
    rw [e] at h
    exact ⟨by simpa using h, fun g => by cases g⟩
  | none =>
    rw [e] at h
    simp only at h ⊢
    cases e2 : startD f q with
    | none => rw [e2] at h; cases h
    | some d =>
      rw [e2] at h
      simp only [Bool.and_eq_true, decide_eq_true_eq, Bool.or_eq_true, beq_iff_eq, bne_iff_ne] at h
      obtain ⟨⟨⟨h1, h2⟩, h3⟩, h4⟩ := h
      exact ⟨⟨d, rfl, h1, fun g => h2.resolve_left g, fun g => h3.resolve_left (fun a => a g)⟩, fun _ => h4⟩
theorem clB_ok {f : Nat} {P q : Pos} {x : Instr} (h : clB f P x q = true) : ∃ c d, P = .cl c d ∧ clIns c x = true ∧ clOk (.cl c d) q = true ∧ ∃ d', startD f q = some d' ∧ d' < 100 ∧ (f ≠ 3 → d' = d) := by
  unfold clB at h
  cases P with
  | cl c d =>
    simp only [Bool.and_eq_true] at h
    obtain ⟨⟨h1, h2⟩, h3⟩ := h
    refine ⟨c, d, rfl, h1, h2, ?_⟩
    cases e2 : startD f q with
    | none => rw [e2] at h3; cases h3
    | some d' =>
      rw [e2] at h3
      simp only [Bool.and_eq_true, decide_eq_true_eq, Bool.or_eq_true, beq_iff_eq] at h3
      exact ⟨d', rfl, h3.1, fun g => h3.2.resolve_left g⟩
  | _ => cases h
theorem CI.pc (I : CI X ptr s p) (t k : Nat) : CI X ptr (s.setP t k) p := ⟨I.np, I.h1, I.r5, I.d0, I.c0, I.c2, I.c3, I.c4, I.c5, I.cd, I.ca, I.cb, I.c6, I.c7, I.c8⟩
theorem Inv.pc (I : Inv X ptr s p B) (t k : Nat) : Inv X ptr (s.setP t k) p B := by
  obtain ⟨L, C, D⟩ := I
  exact ⟨L, C.pc t k, D.pc t k⟩
theorem Inv.up (I : Inv X ptr s p B) {B' : Int} (h : B ≤ B') : Inv X ptr s p B' := by
  obtain ⟨L, C, D⟩ := I
  exact ⟨L, C.up h, D⟩
theorem Inv.bufs (I : Inv X ptr s p B) (ht : t < X.n) : ∀ e ∈ s.buf t, s.here e.a = true := by
  obtain ⟨L, C, D⟩ := I
  intro e he
  rcases D.c6 t ht e he with g | ⟨⟨d, g⟩, h⟩
  · exact D.h1 _ (.inl g)
  · rw [h]; exact (D.c5 t ht (by rw [g]; rfl)).1
/-- The places of the threads. -/
def posOf (ann : Nat → List Pos) (m : M) (t : Nat) : Pos := (ann t).getD (m.thr t).pc .fin
structure Good (X : Cx) (ptr : Int) (code : Nat → List Instr) (ann : Nat → List Pos) (N : Int) (m : M) : Prop where
  W : WM X.n code m
  ft : m.faults = 0
  inv : Inv X ptr (absM m) (posOf ann m) (1 + 2 * N)
  tm : ∀ v ∈ tms m, 0 ≤ v ∧ v ≤ N + 1
  hok : HokL m.cells
  len : 3 + 2 * X.n < m.cells.length
variable {code : Nat → List Instr} {ann : Nat → List Pos} {N : Int} {m : M}
theorem Good.buf0 (G : Good X ptr code ann N m) : ∀ t, X.n ≤ t → (absM m).buf t = [] := fun t ht => by
  show (m.waitsOf t).map enOf = []
  unfold M.waitsOf
  rw [List.getD, List.getElem?_eq_none (by rw [G.W.W]; exact ht)]
  rfl
theorem Good.bufs (G : Good X ptr code ann N m) : ∀ u, ∀ e ∈ (absM m).buf u, (absM m).here e.a = true := fun u e he => by
  by_cases hu : u < X.n
  · exact G.inv.bufs hu e he
  · rw [G.buf0 u (by omega)] at he; simp at he
theorem tms_len (m : M) : (tms m).length = m.cells.length := by unfold tms; rw [List.length_map]
theorem Good.drain (G : Good X ptr code ann N m) (h0 : 0 ≤ N) (t : Nat) (ht : t < X.n) : Good X ptr code ann (N + 1) (m.drain t).1 := by
  obtain ⟨h1, h2, h3, h4⟩ := abs_drain G.W ht (G.bufs t)
  refine ⟨h3, by rw [h2]; exact G.ft, ?_, by rw [tms_drain]; intro v hv; have := G.tm v hv; omega, hok_drain _ _ G.hok, by rw [← tms_len, tms_drain, tms_len]; exact G.len⟩
  have hp : posOf ann (m.drain t).1 = posOf ann m := by funext u; unfold posOf M.thr; rw [h4]
  rw [h1, hp]
  exact (G.inv.dr t G.buf0).up (by omega)
/-- What of the machine a new cell needs. -/
theorem Good.free (G : Good X ptr code ann N m) (hN : N < 50000000) : ∃ c ∈ m.cells, c.here = false := by
  obtain ⟨L, C, D⟩ := G.inv
  refine free_cell (l := X.hub :: ptr :: (absM m).val ptr 0 :: (List.range X.n).map X.own ++ (List.range X.n).map fun t => (absM m).reg t 3) (fun x hx => ?_) ?_ G.hok (fun c hc => ?_) G.W.cells
  · simp only [List.cons_append, List.mem_cons, List.mem_append, List.mem_map, List.mem_range]
    rcases D.c8 x hx with ((g | ⟨t, g1, g2⟩) | g) | g | ⟨w, g1, g2, g3⟩
    · exact .inl g
    · exact .inr (.inr (.inr (.inl ⟨t, g1, g2.symm⟩)))
    · exact .inr (.inl g)
    · exact .inr (.inr (.inl g))
    · exact .inr (.inr (.inr (.inr ⟨w, g1, g3.symm⟩)))
  · have := G.len
    simp
    omega
  · have := G.tm c.times (List.mem_map.2 ⟨c, hc, rfl⟩)
    omega
theorem posOf_step {m' : M} {q : Pos} (h1 : ∀ u, u ≠ t → (m'.thr u).pc = (m.thr u).pc) (h2 : (ann t).getD (m'.thr t).pc .fin = q) : posOf ann m' = upd (posOf ann m) t q := by
  funext u
  by_cases e : u = t
  · subst e; rw [upd_same]; exact h2
  · rw [upd_ne _ _ e]; unfold posOf; rw [h1 u e]
theorem ex_pc (s : A) (t : Nat) (x : Instr) (tg u : Nat) (hu : u ≠ t) : (s.ex t x tg).pc u = s.pc u := by
  unfold A.ex
  split
  all_goals first
    | rfl
    | exact if_neg hu
    | (split <;> first | rfl | exact if_neg hu)
    | (show A.pc (if _ then _ else _) u = _; split <;> rfl)
theorem ex_pct (s : A) (t : Nat) (x : Instr) (tg : Nat) : (Jmp s t x → (s.ex t x tg).pc t = tg) ∧ (¬ Jmp s t x → (s.ex t x tg).pc t = s.pc t) := by
  obtain ⟨op, a, b, c, to⟩ := x
  unfold Jmp
  simp only
  by_cases h14 : op = 14
  · subst h14
    unfold A.ex
    simp only
    by_cases h : s.reg t a.toNat = 0
    · rw [if_pos h]; exact ⟨fun _ => if_pos rfl, fun g => absurd (by simp [h]) g⟩
    · rw [if_neg h]; exact ⟨fun g => by simp [h] at g, fun _ => rfl⟩
  · by_cases h15 : op = 15
    · subst h15
      unfold A.ex
      simp only
      by_cases h : s.reg t a.toNat = s.reg t b.toNat
      · rw [if_pos h]; exact ⟨fun _ => if_pos rfl, fun g => absurd (by simp [h]) g⟩
      · rw [if_neg h]; exact ⟨fun g => by simp [h] at g, fun _ => rfl⟩
    · by_cases h16 : op = 16
      · subst h16
        exact ⟨fun _ => if_pos rfl, fun g => absurd (.inr (.inr rfl)) g⟩
      · refine ⟨fun g => by omega, fun _ => ?_⟩
        unfold A.ex
        split
        all_goals first
          | rfl
          | (rename_i h; simp only at h; omega)
          | (show A.pc (if _ then _ else _) t = _; split <;> rfl)
theorem Good.step (G : Good X ptr code ann N m) (h0 : 0 ≤ N) (hN : N < 1000000) (ht : t < X.n) (O : ∀ r, r < X.n → X.own r ≠ 0) (ha : annB X.f (code t) (ann t) = true) : Good X ptr code ann (N + 1) (m.step t).1 := by
  unfold M.step
  rw [G.W.code t ht]
  cases hx : (code t)[(m.thr t).pc]? with
  | none =>
    exact ⟨G.W, G.ft, G.inv.up (by omega), fun v hv => by have := G.tm v hv; omega, G.hok, G.len⟩
  | some x =>
    have hl := annB_at ha hx
    simp only
    split
    · exact ⟨G.W, G.ft, G.inv.up (by omega), fun v hv => by have := G.tm v hv; omega, G.hok, G.len⟩
    · rename_i h20
      obtain ⟨p1, p2, p3⟩ := abs_setPc G.W ht ((m.thr t).pc + 1)
      obtain ⟨m1, hm1⟩ : ∃ m1, m1 = m.setPc t ((m.thr t).pc + 1) := ⟨_, rfl⟩
      rw [← hm1] at p1 p2 p3 ⊢
      have hft1 : m1.faults = 0 := by rw [p2]; exact G.ft
      have htm1 : tms m1 = tms m := by rw [hm1]; rfl
      have hok1 : HokL m1.cells := by rw [hm1]; exact G.hok
      have hcl1 : m1.cells = m.cells := by rw [hm1]; rfl
      clear hm1
      unfold lineB at hl
      have hnd : ((ann t).getD (m.thr t).pc .fin == .dead) = false := by
        obtain ⟨L, C, D⟩ := G.inv
        have Ta := (C.th t ht).a
        cases e : ((ann t).getD (m.thr t).pc .fin == .dead) with
        | false => rfl
        | true =>
          have e2 : posOf ann m t = .dead := by unfold posOf; exact eq_of_beq e
          rw [e2] at Ta
          exact Ta.elim
      rw [hnd] at hl
      simp only [Bool.false_or, Bool.and_eq_true] at hl
      obtain ⟨hip, hl⟩ := hl
      have fx := insP_of hip
      obtain ⟨P, hP⟩ : ∃ P, P = posOf ann m t := ⟨_, rfl⟩
      obtain ⟨q, hq⟩ : ∃ q, q = (ann t).getD ((m.thr t).pc + 1) .fin := ⟨_, rfl⟩
      have hPd : (ann t).getD (m.thr t).pc .fin = P := hP.symm
      rw [hPd, ← hq] at hl
      have hbs : ∀ u, ∀ e ∈ (absM m1).buf u, (absM m1).here e.a = true := by rw [p1]; exact G.bufs
      have hI1 : Inv X ptr (absM m1) (posOf ann m) (1 + 2 * N) := by rw [p1]; exact G.inv.pc _ _
      have hb0 : ∀ t, X.n ≤ t → (absM m1).buf t = [] := by rw [p1]; exact G.buf0
      have hpc1 : (absM m1).pc t = (m.thr t).pc + 1 := by rw [p1]; exact if_pos rfl
      have hpcu : ∀ u, u ≠ t → (absM m1).pc u = (m.thr u).pc := fun u hu => by rw [p1]; exact if_neg hu
      have hreg1 : (absM m1).reg = (absM m).reg := by rw [p1]; rfl
      -- behind what is drained ahead
      have hkeep := A.pre_keep (P := fun s' => Inv X ptr s' (posOf ann m) (1 + 2 * N) ∧ ∀ t, X.n ≤ t → s'.buf t = []) (fun s' u ⟨a, b⟩ => ⟨a.dr u b, fun v hv => by
        rw [A.dr_buf]
        split
        · rename_i e; rw [← e, b v hv]; rfl
        · exact b v hv⟩) (absM m1) X.n t x ⟨hI1, hb0⟩
      obtain ⟨s2, hs2⟩ : ∃ s2, s2 = (absM m1).pre X.n t x := ⟨_, rfl⟩
      rw [← hs2] at hkeep
      have hI2 := hkeep.1
      have hs2reg : s2.reg = (absM m1).reg := by
        rw [hs2]
        exact A.pre_keep (P := fun s' => s'.reg = (absM m1).reg) (fun s' u h => by rw [A.dr_reg]; exact h) _ _ _ _ rfl
      have hs2here : s2.here = (absM m1).here := by
        rw [hs2]
        exact A.pre_keep (P := fun s' => s'.here = (absM m1).here) (fun s' u h => by rw [A.dr_here]; exact h) _ _ _ _ rfl
      have hs2pc : s2.pc = (absM m1).pc := by
        rw [hs2]
        exact A.pre_keep (P := fun s' => s'.pc = (absM m1).pc) (fun s' u h => by rw [A.dr_pc]; exact h) _ _ _ _ rfl
      have hfen : x.op = 8 ∨ x.op = 9 ∨ x.op = 11 ∨ x.op = 12 → s2.buf t = [] := fun h => by
        rw [hs2]
        unfold A.pre
        rcases h with h | h | h | h <;> (rw [h]; simp only; rw [A.fn_buf, if_pos rfl])
      have hfo : x.op = 13 → ∀ u, u < X.n → s2.buf u = [] := fun h u hu => by
        rw [hs2]
        unfold A.pre
        rw [h]
        simp only
        rw [A.fo_buf, if_pos hu]
      -- the end of all cases but a cell given
      have fin : ∀ (tg : Nat) (q' : Pos), (14 ≤ x.op → x.op ≤ 16 → labelAt x.to (code t) 0 = some tg) → x.op ≠ 10 → (absM m1).Req t x → (ann t).getD ((s2.ex t x tg).pc t) .fin = q' → Inv X ptr (s2.ex t x tg) (upd (posOf ann m) t q') (1 + 2 * (N + 1)) → Good X ptr code ann (N + 1) (m1.exec t x) := fun tg q' htg h10 hR hq' hI => by
        obtain ⟨r1, r2, r3⟩ := abs_exec p3 ht fx hR hbs htg
        rw [← hs2] at r1
        have hpos : posOf ann (m1.exec t x) = upd (posOf ann m) t q' := by
          have hpc : ∀ u, ((m1.exec t x).thr u).pc = (s2.ex t x tg).pc u := fun u => by
            have : (absM (m1.exec t x)).pc u = (s2.ex t x tg).pc u := by rw [r1]
            exact this
          refine posOf_step (fun u hu => ?_) ?_
          · rw [hpc, ex_pc _ _ _ _ _ hu, hs2pc]; exact hpcu u hu
          · rw [hpc]; exact hq'
        refine ⟨r3, by rw [r2]; exact hft1, by rw [r1, hpos]; exact hI, fun v hv => ?_, hok_exec _ _ _ (fun v hv => ?_) hok1, ?_⟩
        · rw [tms_exec _ _ _ h10, htm1] at hv
          have := G.tm v hv; omega
        · rw [htm1] at hv; exact (G.tm v hv).1
        · rw [← tms_len, tms_exec _ _ _ h10, htm1, tms_len]; exact G.len
      have hpt : posOf ann m t = P := hP.symm
      cases hins : insOf X.f P with
      | some y =>
        rw [hins] at hl
        simp only [Bool.and_eq_true, decide_eq_true_eq] at hl
        obtain ⟨⟨hy, hjmp⟩, hnx⟩ := hl
        subst hy
        have hins' : insOf X.f (posOf ann m t) = some (x.op, x.A, x.B, x.C) := by rw [hpt]; exact hins
        have hR : s2.Req t x := hI2.req ht hins'
        have hR' : (absM m1).Req t x := by
          unfold A.Req at hR ⊢
          rw [hs2reg, hs2here] at hR
          exact hR
        obtain ⟨tg, htg, htg2⟩ : ∃ tg, (14 ≤ x.op → x.op ≤ 16 → labelAt x.to (code t) 0 = some tg) ∧ (14 ≤ x.op → x.op ≤ 16 → (ann t).getD tg .fin = tgtOf P) := by
          by_cases h : 14 ≤ x.op ∧ x.op ≤ 16
          · simp only [h.1, h.2, decide_true, Bool.and_self, Bool.not_true, Bool.false_or] at hjmp
            cases e : labelAt x.to (code t) 0 with
            | none => rw [e] at hjmp; cases hjmp
            | some j =>
              rw [e] at hjmp
              exact ⟨j, fun _ _ => rfl, fun _ _ => by simpa using hjmp⟩
          · exact ⟨0, fun a b => absurd ⟨a, b⟩ h, fun a b => absurd ⟨a, b⟩ h⟩
        have hJop : Jmp s2 t x → 14 ≤ x.op ∧ x.op ≤ 16 := fun h => by
          unfold Jmp at h
          omega
        have h10 : x.op ≠ 10 := fun h => by
          have := ins_what hins
          omega
        by_cases hJ : Jmp s2 t x
        · refine fin tg (tgtOf P) htg h10 hR' ?_ ?_
          · rw [(ex_pct s2 t x tg).1 hJ]
            exact htg2 (hJop hJ).1 (hJop hJ).2
          · exact (hI2.grace ht hins' (fun h => hfen (by omega)) hfo O (by omega) (fun hJ => by rw [hpt]) (fun g => absurd hJ g) tg).up (by omega)
        · refine fin tg q htg h10 hR' ?_ ?_
          · rw [(ex_pct s2 t x tg).2 hJ, hs2pc, hpc1, hq]
          · refine (hI2.grace ht hins' (fun h => hfen (by omega)) hfo O (by omega) (fun g => absurd g hJ) (fun _ => ?_) tg).up (by omega)
            rw [hpt]
            refine nextB_ok ?_
            have h16 : x.op ≠ 16 := fun h => hJ (.inr (.inr h))
            simpa [h16] using hnx
      | none =>
        rw [hins] at hl
        simp only at hl
        obtain ⟨c, d, rfl, hci, hco, d', hsd, hd', hdd⟩ := clB_ok hl
        have hnj := clIns_op hci
        have hnJ : ¬ Jmp s2 t x := fun h => by unfold Jmp at h; omega
        have hpcq : (ann t).getD ((s2.ex t x 0).pc t) .fin = q := by rw [(ex_pct s2 t x 0).2 hnJ, hs2pc, hpc1, hq]
        have h0tg : 14 ≤ x.op → x.op ≤ 16 → labelAt x.to (code t) 0 = some 0 := fun a b => absurd ⟨a, b⟩ hnj
        obtain ⟨op, xa, xb, xc, to⟩ := x
        unfold clIns at hci
        split at hci
        · simp only [Bool.and_eq_true, beq_iff_eq] at hci
          obtain ⟨⟨⟨rfl, rfl⟩, rfl⟩, rfl⟩ := hci
          have hd5 : s2.here (s2.reg t 5) = true := by
            obtain ⟨L, C, D⟩ := hI2
            rw [D.r5 t ht]; exact D.h1 _ (.inr rfl)
          refine fin 0 q h0tg (by simp) ?_ hpcq ((hI2.cl0 ht hpt q hsd hd' hdd ?_).up (by omega))
          · show (absM m1).here ((absM m1).reg t 5) = true
            rw [← hs2here, ← hs2reg]; exact hd5
          · simpa [clOk] using hco
        · simp only [Bool.and_eq_true, beq_iff_eq] at hci
          obtain ⟨⟨⟨rfl, rfl⟩, rfl⟩, rfl⟩ := hci
          obtain ⟨g1, g2⟩ := hI2.cl1 ht hpt q hsd hd' hdd (by simpa [clOk] using hco)
          refine fin 0 q h0tg (by simp) ?_ hpcq (g2.up (by omega))
          show (absM m1).here ((absM m1).reg t 3) = true
          rw [← hs2here, ← hs2reg]; exact g1
        · simp only [Bool.and_eq_true, beq_iff_eq] at hci
          obtain ⟨rfl, rfl⟩ := hci
          obtain ⟨g1, g2⟩ := hI2.cl2 ht hpt q hsd hd' hdd (by simpa [clOk] using hco)
          refine fin 0 q h0tg (by simp) ?_ hpcq (g2.up (by omega))
          show (absM m1).reg t 4 ≠ 0
          rw [← hs2reg]; exact g1
        · simp only [Bool.and_eq_true, beq_iff_eq] at hci
          obtain ⟨rfl, rfl⟩ := hci
          have hqe : q = .cl 11 d := by simpa [clOk] using hco
          have hs2e : s2 = absM m1 := by rw [hs2]; rfl
          obtain ⟨na, n1, n2, n3, n4, n5, n6, n7⟩ := abs_alloc p3 ht (xa := 3) (by decide) (by rw [hcl1]; exact G.free (by omega)) (fun v hv => by rw [htm1] at hv; exact G.tm v hv) (by omega) xb xc to
          subst hqe
          have hpos : posOf ann (m1.exec t ⟨10, 3, xb, xc, to⟩) = upd (posOf ann m) t (.cl 11 d) := by
            have hpc : ∀ u, ((m1.exec t ⟨10, 3, xb, xc, to⟩).thr u).pc = (absM m1).pc u := fun u => by
              have : (absM (m1.exec t ⟨10, 3, xb, xc, to⟩)).pc u = (absM m1).pc u := by rw [n3]; rfl
              exact this
            refine posOf_step (fun u hu => ?_) ?_
            · rw [hpc]; exact hpcu u hu
            · rw [hpc, hpc1, hq]
          refine ⟨n5, by rw [n4]; exact hft1, ?_, fun v hv => by have := n6 v hv; omega, hok_exec _ _ _ (fun v hv => ?_) hok1, by rw [n7, hcl1]; exact G.len⟩
          · rw [n3, hpos]
            exact (hI1.cl10 ht hpt hsd hd' hdd n2).up (by omega)
          · rw [htm1] at hv; exact (G.tm v hv).1
        · simp only [Bool.and_eq_true, beq_iff_eq, bne_iff_ne] at hci
          obtain ⟨⟨rfl, rfl⟩, hB⟩ := hci
          have hqe : q = .cl 12 d := by simpa [clOk] using hco
          subst hqe
          exact fin 0 (.cl 12 d) h0tg (by simp) trivial hpcq ((hI2.cl11 ht hpt hsd hd' hdd hB).up (by omega))
        · simp only [Bool.and_eq_true, beq_iff_eq] at hci
          obtain ⟨⟨⟨rfl, rfl⟩, rfl⟩, rfl⟩ := hci
          have hqe : q = .cl 13 d := by simpa [clOk] using hco
          subst hqe
          obtain ⟨g1, g2⟩ := hI2.cl12 ht hpt hsd hd' hdd
          refine fin 0 (.cl 13 d) h0tg (by simp) ?_ hpcq (g2.up (by omega))
          show (absM m1).here ((absM m1).reg t 3) = true
          rw [← hs2here, ← hs2reg]; exact g1
        · simp only [Bool.and_eq_true, beq_iff_eq] at hci
          obtain ⟨⟨⟨rfl, rfl⟩, rfl⟩, rfl⟩ := hci
          have hqe : q = .wb ∨ q = .ca 0 := by simpa [clOk] using hco
          obtain ⟨g1, g2⟩ := hI2.cl13 ht hpt (hfen (by simp)) q hsd hd' hdd hqe
          refine fin 0 q h0tg (by simp) ?_ hpcq (g2.up (by omega))
          show (absM m1).here ((absM m1).reg t 5) = true
          rw [← hs2here, ← hs2reg]; exact g1
        · simp only [Bool.and_eq_true, beq_iff_eq] at hci
          obtain ⟨rfl, rfl⟩ := hci
          have hqe : kd q = 0 := by simpa [clOk] using hco
          obtain ⟨g1, g2⟩ := hI2.cl14 ht hpt q hsd hd' hdd hqe
          refine fin 0 q h0tg (by simp) ?_ hpcq (g2.up (by omega))
          show (absM m1).here ((absM m1).reg t 3) = true
          rw [← hs2here, ← hs2reg]; exact g1
        · cases hci
/-- A turn of any number. -/
theorem Good.turn (G : Good X ptr code ann N m) (h0 : 0 ≤ N) (hN : N < 1000000) (hn : 0 < X.n) (O : ∀ r, r < X.n → X.own r ≠ 0) (ha : ∀ t, t < X.n → annB X.f (code t) (ann t) = true) (k : Int) : Good X ptr code ann (N + 1) (m.turn k).1 := by
  have hT := G.W.T
  have h1 := Int.emod_lt_of_pos k (show (0 : Int) < 2 * (m.T.length : Int) by omega)
  have h2 := Int.emod_nonneg k (show (2 * (m.T.length : Int)) ≠ 0 by omega)
  unfold M.turn
  simp only []
  split
  · rename_i hk
    rw [hT] at hk
    exact G.step h0 hN (by rw [hT]; exact hk) O (ha _ (by rw [hT]; exact hk))
  · rename_i hk
    exact G.drain h0 _ (by omega)
theorem Good.run (hn : 0 < X.n) (O : ∀ r, r < X.n → X.own r ≠ 0) (ha : ∀ t, t < X.n → annB X.f (code t) (ann t) = true) : ∀ (l : List Int) {N : Int} {m : M}, Good X ptr code ann N m → 0 ≤ N → N + l.length ≤ 1000000 → Good X ptr code ann (N + l.length) (m.run l).1
  | [], N, m, G, _, _ => by
    show Good X ptr code ann (N + ((0 : Nat) : Int)) m
    rw [show N + ((0 : Nat) : Int) = N by omega]; exact G
  | k :: l, N, m, G, h0, h => by
    simp only [List.length_cons] at h ⊢
    have := Good.run hn O ha l (G.turn h0 (by omega) hn O ha k) (by omega) (by omega)
    rw [show N + ((l.length + 1 : Nat) : Int) = N + 1 + (l.length : Int) by omega]
    exact this
end Qg
end
