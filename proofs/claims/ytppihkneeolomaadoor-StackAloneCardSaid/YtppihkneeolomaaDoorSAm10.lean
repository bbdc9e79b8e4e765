/- Texts that belong together, joined. -/
import Derived.Test.YtppihkneeolomaaDoorSASkinds2
import Derived.Test.YtppihkneeolomaaDoorSAm3
import Derived.Test.YtppihkneeolomaaDoorSAm7
import Derived.Test.YtppihkneeolomaaDoorSAm6
import Derived.Test.YtppihkneeolomaaDoorSAm5
import Derived.Test.YtppihkneeolomaaDoorSAm1
import Derived.LaidLaws
import Derived.SliceStrings
import Derived.ChangeShapes
import Derived.ChangeArms
import Derived.Test.YtppihkneeolomaaDoorSAm9
import Derived.Test.YtppihkneeolomaaDoorSANewWalk
set_option linter.unusedVariables false
set_option linter.unusedSimpArgs false
set_option linter.unusedSectionVars false
/- Faults of lists of ops, in plain: which ops, which numbers. -/
section
namespace Go.Proofs.YtppihkneeolomaaDoor
open Go.RowKit Qs Qh
variable {N : Nat} {w w' : World} {v u : Value} {ll : List (List ROp)} {l : List ROp} {rf : List ROp → Option Int}
/-- The first thread's fault. -/
def allR (rf : List ROp → Option Int) : Nat → List (List ROp) → Int × Int
  | _, [] => (0, -1)
  | i, l :: r => match rf l with
    | some c => (c, i)
    | none => allR rf (i + 1) r
theorem allR_at : ∀ (ll : List (List ROp)) (i k : Nat) (l : List ROp) (c : Int), ll[k]? = some l → (∀ (j : Nat) y, j < k → ll[j]? = some y → rf y = none) → rf l = some c → allR rf i ll = (c, ((i + k : Nat) : Int))
  | [], i, k, l, c, h, _, _ => by simp at h
  | y :: ll, i, 0, l, c, h, _, h0 => by
    simp at h; subst h
    unfold allR; rw [h0]; rfl
  | y :: ll, i, k + 1, l, c, h, ha, h0 => by
    have hy := ha 0 y (by omega) rfl
    have := allR_at ll (i + 1) k l c (by simpa using h) (fun j z hj hz => ha (j + 1) z (by omega) (by simpa using hz)) h0
    unfold allR; rw [hy]
    show allR rf (i + 1) ll = _
    rw [this, show i + 1 + k = i + (k + 1) by omega]
theorem allR_none : ∀ (ll : List (List ROp)) (i : Nat), (∀ (j : Nat) y, ll[j]? = some y → rf y = none) → allR rf i ll = (0, -1)
  | [], i, _ => rfl
  | y :: ll, i, h => by
    unfold allR; rw [h 0 y rfl]
    exact allR_none ll (i + 1) fun j z hz => h (j + 1) z (by simpa using hz)
/-- What is told of lists is a fault of one, or none. -/
theorem allR_cases : ∀ (ll : List (List ROp)) (i : Nat), (allR rf i ll = (0, -1) ∧ ∀ l ∈ ll, rf l = none) ∨ ∃ (k : Nat) (l : List ROp) (c : Int), ll[k]? = some l ∧ rf l = some c ∧ allR rf i ll = (c, ((i + k : Nat) : Int)) ∧ ∀ (j : Nat) y, j < k → ll[j]? = some y → rf y = none
  | [], i => .inl ⟨rfl, fun _ h => by cases h⟩
  | y :: ll, i => by
    cases hy : rf y with
    | some c => exact .inr ⟨0, y, c, rfl, hy, by unfold allR; rw [hy]; rfl, fun j z hj => by omega⟩
    | none =>
      rcases allR_cases ll (i + 1) with ⟨h, h2⟩ | ⟨k, l, c, h1, h2, h3, h4⟩
      · refine .inl ⟨by unfold allR; rw [hy]; exact h, fun l hl => ?_⟩
        rcases List.mem_cons.1 hl with rfl | hl
        · exact hy
        · exact h2 l hl
      · refine .inr ⟨k + 1, l, c, by simpa using h1, h2, ?_, fun j z hj hz => ?_⟩
        · unfold allR; rw [hy]
          show allR rf (i + 1) ll = _
          rw [h3, show i + 1 + k = i + (k + 1) by omega]
        · cases j with
          | zero => simp at hz; subst hz; exact hy
          | succ j => exact h4 j z (by omega) (by simpa using hz)
/-- Is a name among names? -/
def memK (ks : List ByteArray) (s : ByteArray) : Bool := ks.any fun k => decide (k = s)
theorem memK_iff {ks : List ByteArray} {s : ByteArray} : memK ks s = true ↔ s ∈ ks := by
  unfold memK
  rw [List.any_eq_true]
  constructor
  · rintro ⟨k, h, e⟩; rw [← of_decide_eq_true e]; exact h
  · exact fun h => ⟨s, h, by simp⟩
theorem memK_snoc (ks : List ByteArray) (k s : ByteArray) : memK (ks ++ [k]) s = (memK ks s || decide (k = s)) := by
  unfold memK; simp
/-- An op's fault: none, a bound, a shape. -/
def kfOpG (W : ByteArray) (ks : List ByteArray) (x : ROp) : Int := if x.1 = W then (if x.2 < 1 ∨ 1000 < x.2 then 2 else 0) else if memK ks x.1 = true ∧ x.2 = 0 then 0 else 3
def rowG (W : ByteArray) (ks : List ByteArray) (l : List ROp) : Option Int := (l.map (kfOpG W ks)).find? fun c => decide (c ≠ 0)
def kfG (W : ByteArray) (ks : List ByteArray) (ll : List (List ROp)) : Int × Int := if manyB ll then allR (rowG W ks) 0 ll else (2, -1)
variable {W : ByteArray} {ks : List ByteArray}
theorem rowG_at : ∀ (l : List ROp) (q : Nat) (x : ROp), l[q]? = some x → (∀ (j : Nat) y, j < q → l[j]? = some y → kfOpG W ks y = 0) → kfOpG W ks x ≠ 0 → rowG W ks l = some (kfOpG W ks x)
  | [], q, x, h, _, _ => by simp at h
  | y :: l, 0, x, h, _, h0 => by
    simp at h; subst h
    unfold rowG; simp [h0]
  | y :: l, q + 1, x, h, ha, h0 => by
    have hy := ha 0 y (by omega) rfl
    have := rowG_at l q x (by simpa using h) (fun j z hj hz => ha (j + 1) z (by omega) (by simpa using hz)) h0
    unfold rowG at this ⊢
    rw [List.map_cons, List.find?_cons_of_neg (by simp [hy])]; exact this
theorem rowG_none {l : List ROp} (h : ∀ (j : Nat) y, l[j]? = some y → kfOpG W ks y = 0) : rowG W ks l = none := by
  unfold rowG
  rw [List.find?_eq_none]
  intro c hc
  obtain ⟨y, hy, rfl⟩ := List.mem_map.1 hc
  obtain ⟨j, hj⟩ := List.getElem?_of_mem hy
  simp [h j y hj]
theorem rowG_num {l : List ROp} {c : Int} (h : rowG W ks l = some c) : c = 2 ∨ c = 3 := by
  unfold rowG at h
  have h1 := List.find?_some h
  obtain ⟨x, hx, rfl⟩ := List.mem_map.1 (List.mem_of_find?_eq_some h)
  simp only [decide_eq_true_eq] at h1
  unfold kfOpG at h1 ⊢
  split
  · split
    · exact .inl rfl
    · rename_i h2 h3; rw [if_pos h2, if_neg h3] at h1; exact absurd rfl h1
  · split
    · rename_i h2 h3; rw [if_neg h2, if_pos h3] at h1; exact absurd rfl h1
    · exact .inr rfl
theorem kfG_pos (ll : List (List ROp)) : (kfG W ks ll = (0, -1)) ∨ ((kfG W ks ll).1 = 2 ∨ (kfG W ks ll).1 = 3) := by
  unfold kfG
  split
  · rcases allR_cases (rf := rowG W ks) ll 0 with ⟨h, _⟩ | ⟨k, l', c, h1, h2, h3, h4⟩
    · exact .inl h
    · rw [h3]; exact .inr (rowG_num h2)
  · exact .inr (.inl rfl)
/-- Words of a list of names. -/
def KsAt (w : World) (g : Nat) (ks : List ByteArray) : Prop := ∀ (i : Nat) x, ks[i]? = some x → w.cell? ⟨g, i, none⟩ = some (.string x)
theorem KsAt.keep {g : Nat} (h : KsAt w g ks) {F : Nat → Prop} (hM : Mod F w w') (hF : ¬ F g) : KsAt w' g ks := fun i x hi => hM.cell (h i x hi) hF
end Go.Proofs.YtppihkneeolomaaDoor
end
/- stack.Check: over any lists of ops. -/
section
namespace Go.Proofs.YtppihkneeolomaaDoor
open Go.RowKit Qs Qh
variable {N : Nat} {w w' : World} {v u : Value} {ll : List (List ROp)} {l : List ROp} {W : ByteArray} {ks : List ByteArray}
def IdxPost (ks : List ByteArray) (s : ByteArray) (w : World) (e : Ending) (w' : World) : Prop := ∃ n : Int, e = .returned (.int .i64 n) ∧ w' = w ∧ (s ∈ ks → 0 ≤ n) ∧ (¬ s ∈ ks → n = -1)
def IdlPost (ll : List (List ROp)) (w : World) (e : Ending) (w' : World) : Prop := ∃ n : Int, e = .returned (.int .i64 n) ∧ w' = w ∧ ((∀ l ∈ ll, l.length ≤ 20) → n = -1) ∧ (¬ (∀ l ∈ ll, l.length ≤ 20) → 0 ≤ n)
theorem indexK (w : World) (g : Nat) (ks : List ByteArray) (s : ByteArray) (hg : KsAt w g ks) (hl : ks.length ≤ 1000) :
    Calls Tryd.prog 98 #[.slice (some ⟨g, 0, none⟩) ks.length ks.length, .string s] w (IdxPost ks s w) := by
  have Hg := Lib.hid hg
  clear hg
  go_enter Tryd.func98, Tryd.ntmps98
  go_wp2
  go_loop [5, 8] (fun j i => ∃ k : Nat, k ≤ ks.length ∧ i = .int .i64 k ∧ ¬ s ∈ ks.take k) (fun _ i => ks.length - (intOf i).toNat)
  case atStart => exact ⟨0, Nat.zero_le _, rfl, by simp⟩
  case round =>
    obtain ⟨k, hk, rfl, hno⟩ := hrel
    have Hno := Lib.hid hno
    clear hno
    by_cases hlt : k < ks.length
    · have hd : decide ((k : Int) < (ks.length : Int)) = true := by simp; omega
      have hki : (k : Int) < (ks.length : Int) := by omega
      obtain ⟨y, hy⟩ : ∃ y, ks[k]? = some y := ⟨_, List.getElem?_eq_getElem hlt⟩
      have hyc := Hg.out k y hy
      have hmem := List.mem_of_getElem? hy
      have htk : ks.take (k + 1) = ks.take k ++ [y] := by rw [List.take_add_one, hy]; rfl
      have Htk := Lib.hid htk
      have Hmem := Lib.hid hmem
      clear hy htk hmem
      by_cases hxy : y = s
      · subst hxy
        have ey := str_eq y
        go_wp2
        go_ret
        exact ⟨_, rfl, rfl, fun _ => by omega, fun h => absurd Hmem.out h⟩
      · have ey : (s.toList == y.toList) = false := str_ne fun e => hxy e.symm
        have ey2 : (y.toList == s.toList) = false := str_ne hxy
        go_wp2
        go_round
        case rel => exact ⟨k + 1, by omega, by go_num, by rw [Htk.out]; intro h; rcases List.mem_append.1 h with h | h; exact Hno.out h; exact hxy (List.mem_singleton.1 h).symm⟩
        case measure => simp [intOf]; omega
    · have hd : decide ((k : Int) < (ks.length : Int)) = false := by simp; omega
      obtain rfl : k = ks.length := by omega
      have hno := Hno.out
      rw [List.take_length] at hno
      go_wp2
      go_ret
      exact ⟨-1, rfl, rfl, fun h => absurd h hno, fun _ => rfl⟩
theorem containsK (w : World) (g : Nat) (ks : List ByteArray) (s : ByteArray) (hg : KsAt w g ks) (hl : ks.length ≤ 1000) :
    Calls Tryd.prog 67 #[.slice (some ⟨g, 0, none⟩) ks.length ks.length, .string s] w fun e w' => e = .returned (.bool (memK ks s)) ∧ w' = w := by
  have Hcall := Lib.hid (indexK w g ks s hg hl)
  clear hg
  by_cases hs : s ∈ ks
  · have ds : memK ks s = true := memK_iff.2 hs
    rw [ds]
    go_enter Tryd.func67, Tryd.ntmps67
    go_wp2_with fail
    refine Hcall.out.mono ?_
    rintro e w' ⟨n, rfl, rfl, h1, h2⟩
    have d : decide ((0 : Int) ≤ n) = true := by simpa using h1 hs
    clear h1 h2 hs
    go_wp2
    go_ret
    exact ⟨rfl, rfl⟩
  · have ds : memK ks s = false := by cases h : memK ks s with
      | true => exact absurd (memK_iff.1 h) hs
      | false => rfl
    rw [ds]
    go_enter Tryd.func67, Tryd.ntmps67
    go_wp2_with fail
    refine Hcall.out.mono ?_
    rintro e w' ⟨n, rfl, rfl, h1, h2⟩
    obtain rfl := h2 hs
    clear h1 h2 hs
    go_wp2
    go_ret
    exact ⟨rfl, rfl⟩
theorem longOpG (w : World) (a : Option Addr) (n c : Nat) (hn : n ≤ maxLen) : Calls Tryd.prog 66 #[.slice a n c] w fun e w' => e = .returned (.bool (decide (20 < n))) ∧ w' = w := by
  by_cases h : 20 < n
  · have d : decide ((20 : Int) < (n : Int)) = true := by simp; omega
    have d2 : decide (20 < n) = true := by simpa using h
    rw [d2]
    go_enter Tryd.func66, Tryd.ntmps66
    go_wp2
    go_ret
    exact ⟨rfl, rfl⟩
  · have d : decide ((20 : Int) < (n : Int)) = false := by simp; omega
    have d2 : decide (20 < n) = false := by simpa using h
    rw [d2]
    go_enter Tryd.func66, Tryd.ntmps66
    go_wp2
    go_ret
    exact ⟨rfl, rfl⟩
theorem indexLongG (H : RIn N w v ll) (hrow : ∀ l ∈ ll, l.length ≤ 30) (hl : ll.length ≤ 1000) :
    Calls Tryd.prog 97 #[v, .func (.func 66) #[] #[]] w (IdlPost ll w) := by
  obtain ⟨a, c, rfl, hx⟩ := H
  have Hx := Lib.hid hx
  have Hrow := Lib.hid hrow
  clear hx hrow
  go_enter Tryd.func97, Tryd.ntmps97
  go_wp2
  go_loop [8] (fun i => ∃ k : Nat, k ≤ ll.length ∧ i = .int .i64 k ∧ ∀ (j : Nat) y, j < k → ll[j]? = some y → y.length ≤ 20) (fun i => ll.length - (intOf i).toNat)
  case atStart => exact ⟨0, Nat.zero_le _, rfl, fun j y h => by omega⟩
  case round =>
    obtain ⟨k, hk, rfl, hall⟩ := hrel
    have Hall := Lib.hid hall
    clear hall
    by_cases hlt : k < ll.length
    · have hd : decide ((k : Int) < (ll.length : Int)) = true := by simp; omega
      have hki : (k : Int) < (ll.length : Int) := by omega
      obtain ⟨l, hl⟩ : ∃ l, ll[k]? = some l := ⟨_, List.getElem?_eq_getElem hlt⟩
      obtain ⟨b, off, u, rfl, hb, hc, ⟨ua, uc, rfl, -⟩⟩ := Hx.out k l hl
      have hmem := List.mem_of_getElem? hl
      have hcall := longOpG w ua l.length uc (by have := Hrow.out l hmem; unfold maxLen; omega)
      have Hl := Lib.hid hl
      have Hmem := Lib.hid hmem
      by_cases h20 : 20 < l.length
      · rw [show decide (20 < l.length) = true by simpa using h20] at hcall
        have Hcall := Lib.hid hcall
        clear hcall hl hmem
        go_wp2_with fail
        refine Hcall.out.mono ?_
        rintro e w' ⟨rfl, rfl⟩
        go_wp2
        go_ret
        exact ⟨_, rfl, rfl, fun h => by have := h l Hmem.out; omega, fun _ => by omega⟩
      · rw [show decide (20 < l.length) = false by simpa using h20] at hcall
        have Hcall := Lib.hid hcall
        clear hcall hl hmem
        go_wp2_with fail
        refine Hcall.out.mono ?_
        rintro e w' ⟨rfl, rfl⟩
        go_wp2
        go_round
        case rel =>
          refine ⟨k + 1, by omega, by go_num, fun j y hj hy => ?_⟩
          by_cases e : j = k
          · subst e
            rw [Hl.out] at hy; cases hy; omega
          · exact Hall.out j y (by omega) hy
        case measure => simp [intOf]; omega
    · have hd : decide ((k : Int) < (ll.length : Int)) = false := by simp; omega
      have hnone : ∀ l ∈ ll, l.length ≤ 20 := fun l hl => by
        obtain ⟨i, hi⟩ := List.getElem?_of_mem hl
        exact Hall.out i l (by have := (List.getElem?_eq_some_iff.1 hi).1; omega) hi
      go_wp2
      go_ret
      exact ⟨-1, rfl, rfl, fun _ => rfl, fun h => absurd hnone h⟩
theorem containsLongG (H : RIn N w v ll) (hrow : ∀ l ∈ ll, l.length ≤ 30) (hl : ll.length ≤ 1000) (b : Bool) (hb : b = true ↔ ¬ ∀ l ∈ ll, l.length ≤ 20) :
    Calls Tryd.prog 65 #[v, .func (.func 66) #[] #[]] w fun e w' => e = .returned (.bool b) ∧ w' = w := by
  have Hcall := Lib.hid (indexLongG H hrow hl)
  clear H hrow
  cases b with
  | true =>
    go_enter Tryd.func65, Tryd.ntmps65
    go_wp2_with fail
    refine Hcall.out.mono ?_
    rintro e w' ⟨n, rfl, rfl, h1, h2⟩
    have d : decide ((0 : Int) ≤ n) = true := by simpa using h2 (by simpa using hb)
    clear h1 h2 hb
    go_wp2
    go_ret
    exact ⟨rfl, rfl⟩
  | false =>
    go_enter Tryd.func65, Tryd.ntmps65
    go_wp2_with fail
    refine Hcall.out.mono ?_
    rintro e w' ⟨n, rfl, rfl, h1, h2⟩
    obtain rfl := h1 (by
      by_cases h : ∀ l ∈ ll, l.length ≤ 20
      · exact h
      · exact absurd (hb.2 h) (by simp))
    clear h1 h2 hb
    go_wp2
    go_ret
    exact ⟨rfl, rfl⟩
theorem manyB_iff : manyB ll = true ↔ 1 ≤ ll.length ∧ ll.length ≤ 6 ∧ ∀ l ∈ ll, l.length ≤ 20 := by
  unfold manyB
  simp [and_assoc]
theorem manyB_false (h : manyB ll = false) : ll.length < 1 ∨ 6 < ll.length ∨ ¬ ∀ l ∈ ll, l.length ≤ 20 := by
  by_cases h1 : ll.length < 1
  · exact .inl h1
  · by_cases h2 : 6 < ll.length
    · exact .inr (.inl h2)
    · refine .inr (.inr fun h3 => ?_)
      have := manyB_iff.2 ⟨by omega, by omega, h3⟩
      rw [this] at h; cases h
variable {a : Nat → Addr}
set_option maxHeartbeats 4000000 in
theorem checkG_many (E : ErrsS w a) (H : RIn N w v ll) (g : Nat) (hlen : ll.length ≤ 10) (hrow : ∀ l ∈ ll, l.length ≤ 30) (hm : manyB ll = false) :
    Calls Tryd.prog 36 #[v, .string W, .slice (some ⟨g, 0, none⟩) ks.length ks.length] w fun e w' => ∃ ev, e = .returned ev ∧ ErrIs a w' ev 2 (-1) ∧ Mod noF w w' := by
  have hv := E.v1
  have fin : ∀ w', ErrIs a w' (errV a 1) 2 (-1) := fun w' => .inr (.inl ⟨1, by omega, rfl, rfl, rfl⟩)
  unfold errV at fin
  have Fin := Lib.hid fin
  clear fin E
  by_cases h1 : ll.length < 1
  · obtain ⟨a', c, rfl, hx⟩ := H
    have d1 : decide ((ll.length : Int) < 1) = true := by simp; omega
    clear hx
    go_enter Tryd.func36, Tryd.ntmps36
    go_wp2
    go_ret
    exact ⟨_, rfl, Fin.out _, Mod.refl _ _⟩
  have d1 : decide ((ll.length : Int) < 1) = false := by simp; omega
  by_cases h6 : 6 < ll.length
  · obtain ⟨a', c, rfl, hx⟩ := H
    have d2 : decide ((6 : Int) < (ll.length : Int)) = true := by simp; omega
    clear hx
    go_enter Tryd.func36, Tryd.ntmps36
    go_wp2
    go_ret
    exact ⟨_, rfl, Fin.out _, Mod.refl _ _⟩
  have d2 : decide ((6 : Int) < (ll.length : Int)) = false := by simp; omega
  have hcall := containsLongG H hrow (by omega) true ⟨fun _ => by
    rcases manyB_false hm with h | h | h
    · omega
    · omega
    · exact h, fun _ => rfl⟩
  have Hcall := Lib.hid hcall
  obtain ⟨a', c, rfl, hx⟩ := H
  clear hx hcall hrow hm
  go_enter Tryd.func36, Tryd.ntmps36
  go_wp2_with fail
  refine Hcall.out.mono ?_
  rintro e w' ⟨rfl, rfl⟩
  go_wp2
  go_ret
  exact ⟨_, rfl, Fin.out _, Mod.refl _ _⟩
set_option maxHeartbeats 8000000 in
theorem checkG_ok (E : ErrsS w a) (H : RIn N w v ll) (g : Nat) (hg : KsAt w g ks) (hkl : ks.length ≤ 10) (hlen : ll.length ≤ 10) (hrow : ∀ l ∈ ll, l.length ≤ 30) (hm : manyB ll = true) :
    Calls Tryd.prog 36 #[v, .string W, .slice (some ⟨g, 0, none⟩) ks.length ks.length] w fun e w' => ∃ ev, e = .returned ev ∧ ErrIs a w' ev (allR (rowG W ks) 0 ll).1 (allR (rowG W ks) 0 ll).2 ∧ Mod noF w w' := by
  obtain ⟨hl1, hl6, h20⟩ := manyB_iff.1 hm
  have hcall := containsLongG H hrow (by omega) false (by constructor; (intro h; cases h); exact fun h => absurd h20 h)
  have HH := Lib.hid H
  obtain ⟨a', c, rfl, hx⟩ := H
  have d1 : decide ((ll.length : Int) < 1) = false := by simp; omega
  have d2 : decide ((6 : Int) < (ll.length : Int)) = false := by simp; omega
  obtain ⟨rc, ra, hres0⟩ : ∃ rc ra, allR (rowG W ks) 0 ll = (rc, ra) := ⟨_, _, rfl⟩
  rw [hres0]
  have Hres0 := Lib.hid hres0
  simp only
  have Hx := Lib.hid hx
  have H20 := Lib.hid h20
  have Hg := Lib.hid hg
  have HE := Lib.hid E
  have Hcall := Lib.hid hcall
  have e1 := str_eq W
  clear hx h20 hcall hg hres0 E hrow hm
  go_enter Tryd.func36, Tryd.ntmps36
  go_wp2_with fail
  refine Hcall.out.mono ?_
  rintro e w' ⟨rfl, rfl⟩
  go_wp2
  go_loopw [26] (fun i wr => ∃ k : Nat, k ≤ ll.length ∧ i = .int .i64 k ∧ Mod noF w' wr ∧ ∀ (j : Nat) y, j < k → ll[j]? = some y → rowG W ks y = none) (fun i _ => ll.length - (intOf i).toNat)
  case atStart => exact ⟨0, Nat.zero_le _, rfl, Mod.refl _ _, fun j y h => by omega⟩
  case round =>
    generalize wr = w2 at *
    obtain ⟨k, hk, rfl, hm, hall⟩ := hrel
    have Hall := Lib.hid hall
    clear hall
    by_cases hlt : k < ll.length
    · have hd : decide ((k : Int) < (ll.length : Int)) = true := by simp; omega
      have hki : (k : Int) < (ll.length : Int) := by omega
      obtain ⟨l, hl⟩ : ∃ l, ll[k]? = some l := ⟨_, List.getElem?_eq_getElem hlt⟩
      obtain ⟨b, off, u, rfl, hb, hc, hrow⟩ := Hx.out k l hl
      have hc2 := hm.cell hc (fun e => e)
      obtain ⟨ua, uc, rfl, hxx⟩ := hrow.keep hm (fun _ _ e => e)
      have Hxx := Lib.hid hxx
      have Hm := Lib.hid hm
      have h20l := H20.out l (List.mem_of_getElem? hl)
      have Hl := Lib.hid hl
      clear hxx hrow hc hl hm
      go_wp2
      go_loopw [33] (fun i wq => ∃ q : Nat, q ≤ l.length ∧ i = .int .i64 q ∧ Mod noF w2 wq ∧ ∀ (j : Nat) y, j < q → l[j]? = some y → kfOpG W ks y = 0) (fun i _ => l.length - (intOf i).toNat)
      case atStart => exact ⟨0, Nat.zero_le _, rfl, Mod.refl _ _, fun j y h => by omega⟩
      case round =>
        generalize wr = w3 at *
        obtain ⟨q, hq, rfl, hm2, hall⟩ := hrel
        have Hall3 := Lib.hid hall
        clear hall
        by_cases hlq : q < l.length
        · have hd2 : decide ((q : Int) < (l.length : Int)) = true := by simp; omega
          have hqi : (q : Int) < (l.length : Int) := by omega
          obtain ⟨x, hxl⟩ : ∃ x, l[q]? = some x := ⟨_, List.getElem?_eq_getElem hlq⟩
          obtain ⟨ub, uoff, rfl, hub, h0, h1⟩ := Hxx.out q x hxl
          have h0 := hm2.cell h0 (fun e => e)
          have h1 := hm2.cell h1 (fun e => e)
          have Hm2 := Lib.hid hm2
          have Hxl := Lib.hid hxl
          clear hxl hm2
          obtain ⟨xs, xn⟩ := x
          simp only at h0 h1
          have hE3 := (HE.out.keep (Hm.out.trans0 Hm2.out)).keep ((Mod.refl noF w3).alloc (.cells #[.string xs, .int .i64 xn] 63))
          have hbd := hE3.v1
          have hsh := hE3.v2
          by_cases hput : xs = W
          · subst hput
            by_cases hbad : xn < 1 ∨ 1000 < xn
            · have hf : kfOpG xs ks (xs, xn) = 2 := by unfold kfOpG; simp [hbad]
              have hrF := rowG_at l q _ Hxl.out Hall3.out (by rw [hf]; decide)
              rw [hf] at hrF
              have hres := allR_at ll 0 k l 2 Hl.out Hall.out hrF
              rw [Nat.zero_add] at hres
              obtain ⟨rfl, rfl⟩ := Prod.mk.inj (Hres0.out.symm.trans hres)
              clear hres hrF hf hE3
              by_cases hb1 : xn < 1
              · have d3 : decide (xn < 1) = true := by simpa using hb1
                go_wp2
                go_ret
                exact ⟨_, rfl, .inr (.inr ⟨1, _, by omega, rfl, rfl, by simp, by simp, by simp [errV]⟩), ((Hm.out.trans0 Hm2.out).alloc _).alloc _⟩
              · have d3 : decide (xn < 1) = false := by simpa using hb1
                have d4 : decide (1000 < xn) = true := by simp; omega
                go_wp2
                go_ret
                exact ⟨_, rfl, .inr (.inr ⟨1, _, by omega, rfl, rfl, by simp, by simp, by simp [errV]⟩), ((Hm.out.trans0 Hm2.out).alloc _).alloc _⟩
            · have d3 : decide (xn < 1) = false := by simp; omega
              have d4 : decide (1000 < xn) = false := by simp; omega
              have hf : kfOpG xs ks (xs, xn) = 0 := by unfold kfOpG; simp [hbad]
              have Hf := Lib.hid hf
              clear hf hE3
              go_wp2
              go_roundw
              case rel =>
                refine ⟨q + 1, by omega, by go_num, Hm2.out.alloc _, fun j y hj hy => ?_⟩
                by_cases e : j = q
                · subst e
                  rw [Hxl.out] at hy; cases hy; exact Hf.out
                · exact Hall3.out j y (by omega) hy
              case measure => simp [intOf]; omega
          · have ep : (xs.toList == W.toList) = false := str_ne hput
            have hgc := Hg.out.keep ((Hm.out.trans0 Hm2.out).alloc (.cells #[.string xs, .int .i64 xn] 63)) (fun e => e)
            have hcall := containsK _ g ks xs hgc (by omega)
            cases hmem : memK ks xs with
            | true =>
              rw [hmem] at hcall
              have Hcall := Lib.hid hcall
              clear hcall hgc
              by_cases hx0 : xn = 0
              · subst hx0
                have hf : kfOpG W ks (xs, 0) = 0 := by unfold kfOpG; rw [if_neg hput]; simp [hmem]
                have Hf := Lib.hid hf
                clear hf hE3 hmem
                go_wp2_with fail
                refine Hcall.out.mono ?_
                rintro e w9 ⟨rfl, rfl⟩
                go_wp2
                go_roundw
                case rel =>
                  refine ⟨q + 1, by omega, by go_num, Hm2.out.alloc _, fun j y hj hy => ?_⟩
                  by_cases e : j = q
                  · subst e
                    rw [Hxl.out] at hy; cases hy; exact Hf.out
                  · exact Hall3.out j y (by omega) hy
                case measure => simp [intOf]; omega
              · have n2 : (xn == 0) = false := by simpa using hx0
                have n1 : decide (xn = 0) = false := by simpa using hx0
                have hf : kfOpG W ks (xs, xn) = 3 := by unfold kfOpG; rw [if_neg hput]; simp [hx0]
                have hrF := rowG_at l q _ Hxl.out Hall3.out (by rw [hf]; decide)
                rw [hf] at hrF
                have hres := allR_at ll 0 k l 3 Hl.out Hall.out hrF
                rw [Nat.zero_add] at hres
                obtain ⟨rfl, rfl⟩ := Prod.mk.inj (Hres0.out.symm.trans hres)
                clear hres hrF hf hE3 hmem
                go_wp2_with fail
                refine Hcall.out.mono ?_
                rintro e w9 ⟨rfl, rfl⟩
                go_wp2
                go_ret
                exact ⟨_, rfl, .inr (.inr ⟨2, _, by omega, rfl, rfl, by simp, by simp, by simp [errV]⟩), ((Hm.out.trans0 Hm2.out).alloc _).alloc _⟩
            | false =>
              rw [hmem] at hcall
              have Hcall := Lib.hid hcall
              have hf : kfOpG W ks (xs, xn) = 3 := by unfold kfOpG; rw [if_neg hput]; simp [hmem]
              have hrF := rowG_at l q _ Hxl.out Hall3.out (by rw [hf]; decide)
              rw [hf] at hrF
              have hres := allR_at ll 0 k l 3 Hl.out Hall.out hrF
              rw [Nat.zero_add] at hres
              obtain ⟨rfl, rfl⟩ := Prod.mk.inj (Hres0.out.symm.trans hres)
              clear hcall hgc hres hrF hf hE3 hmem
              go_wp2_with fail
              refine Hcall.out.mono ?_
              rintro e w9 ⟨rfl, rfl⟩
              go_wp2
              go_ret
              exact ⟨_, rfl, .inr (.inr ⟨2, _, by omega, rfl, rfl, by simp, by simp, by simp [errV]⟩), ((Hm.out.trans0 Hm2.out).alloc _).alloc _⟩
        · have hd2 : decide ((q : Int) < (l.length : Int)) = false := by simp; omega
          have Hm2 := Lib.hid hm2
          have hrF : rowG W ks l = none := rowG_none fun j y hj => Hall3.out j y (by have := (List.getElem?_eq_some_iff.1 hj).1; omega) hj
          have HrF := Lib.hid hrF
          clear hm2 hrF
          go_wp2
          go_roundw
          case rel =>
            refine ⟨k + 1, by omega, by go_num, Hm.out.trans0 Hm2.out, fun j y hj hy => ?_⟩
            by_cases e : j = k
            · subst e
              rw [Hl.out] at hy; cases hy; exact HrF.out
            · exact Hall.out j y (by omega) hy
          case measure => simp [intOf]; omega
    · have hd : decide ((k : Int) < (ll.length : Int)) = false := by simp; omega
      have hres := allR_none (rf := rowG W ks) ll 0 fun j y hj => Hall.out j y (by have := (List.getElem?_eq_some_iff.1 hj).1; omega) hj
      obtain ⟨rfl, rfl⟩ := Prod.mk.inj (Hres0.out.symm.trans hres)
      have Hm := Lib.hid hm
      clear hm hres
      go_wp2
      go_ret
      exact ⟨_, rfl, .inl ⟨rfl, rfl, rfl⟩, Hm.out⟩
theorem checkG (E : ErrsS w a) (H : RIn N w v ll) (g : Nat) (hg : KsAt w g ks) (hkl : ks.length ≤ 10) (hlen : ll.length ≤ 10) (hrow : ∀ l ∈ ll, l.length ≤ 30) :
    Calls Tryd.prog 36 #[v, .string W, .slice (some ⟨g, 0, none⟩) ks.length ks.length] w fun e w' => ∃ ev, e = .returned ev ∧ ErrIs a w' ev (kfG W ks ll).1 (kfG W ks ll).2 ∧ Mod noF w w' := by
  unfold kfG
  cases hm : manyB ll with
  | false => exact checkG_many E H g hlen hrow hm
  | true => exact checkG_ok E H g hg hkl hlen hrow hm
end Go.Proofs.YtppihkneeolomaaDoor
end
/- Stacks' ops: their code; their names. -/
section
namespace Qc
open Qs Qu Qh Go.Proofs.YtppihkneeolomaaDoor
def sopsCode (f tn : Nat) : Nat → List SOp → List Instr
  | _, [] => []
  | k, x :: l => sblk f tn k x ++ sopsCode f tn (k + sinc x) l
def slabs : List SOp → Nat
  | [] => 0
  | x :: l => sinc x + slabs l
theorem slabs_snoc (x : SOp) : ∀ l, slabs (l ++ [x]) = slabs l + sinc x
  | [] => by simp [slabs]
  | y :: l => by simp only [List.cons_append, slabs, slabs_snoc x l]; omega
theorem slabs_le : ∀ l, slabs l ≤ 5 * l.length
  | [] => by simp [slabs]
  | x :: l => by
    have := slabs_le l
    have h : sinc x ≤ 5 := by cases x <;> simp [sinc]
    simp only [slabs, List.length_cons]; omega
theorem sopsCode_snoc (f tn : Nat) (x : SOp) : ∀ (l : List SOp) (k : Nat), sopsCode f tn k (l ++ [x]) = sopsCode f tn k l ++ sblk f tn (k + slabs l) x
  | [], k => by simp [sopsCode, slabs]
  | y :: l, k => by
    rw [List.cons_append, sopsCode, sopsCode, sopsCode_snoc f tn x l, List.append_assoc]
    simp only [slabs]
    rw [show k + sinc y + slabs l = k + (sinc y + slabs l) by omega]
theorem gcode_len2 {f : Nat} (h4 : f ≤ 4) : (gcode f 0).length + (gcode f 1).length ≤ 65 ∧ (gcode f 3).length ≤ 70 ∧ (gcode f 4).length ≤ 70 := by
  have key : ∀ f < 5, (gcode f 0).length + (gcode f 1).length ≤ 65 ∧ (gcode f 3).length ≤ 70 ∧ (gcode f 4).length ≤ 70 := by decide +kernel
  exact key f (by omega)
theorem part_length (f k j : Nat) : (part f k j).length = (gcode f j).length := by unfold part preC; rw [List.length_map]
theorem sblk_len {f : Nat} (h4 : f ≤ 4) (tn k : Nat) (x : SOp) : (sblk f tn k x).length ≤ 90 := by
  obtain ⟨g1, g3, g4⟩ := gcode_len2 h4
  cases x with
  | push n => simp [sblk, pushBlk, pushCode]
  | pop =>
    have := part_length f k 0
    have := part_length f (k + 3) 1
    simp only [sblk, popBlk, popCode, laterBlk, List.length_append, List.length_cons, List.length_nil]; omega
  | flush =>
    have := part_length f k 4
    simp only [sblk, flushBlk, flushTail, List.length_append, List.length_cons, List.length_nil]; omega
theorem sopsCode_len {f : Nat} (h4 : f ≤ 4) (tn : Nat) : ∀ (l : List SOp) (k : Nat), (sopsCode f tn k l).length ≤ 90 * l.length
  | [], k => by simp [sopsCode]
  | x :: l, k => by
    have h1 := sopsCode_len h4 tn l (k + sinc x)
    have h2 := sblk_len h4 tn k x
    simp only [sopsCode, List.length_append, List.length_cons]; omega
/-- A thread's code. -/
def scode (f tn : Nat) (ops : List SOp) : List Instr := (sopsCode f tn 0 ops ++ part f (slabs ops) 3) ++ [⟨20, 0, 0, 0, []⟩]
/-- A stack's push. -/
theorem push_fine (k : Nat) (hk : k < 127) : BlkF k (k + 1) (pushCode (labN (k + 1))) := by
  have h := (labN_facts (k + 1) (by omega)).2.2.2
  have ha := h 0 (by decide)
  have hb := h 1 (by decide)
  have o1 : OwnBy (k + 1) (labN (k + 1) ++ [46, 97]) := ⟨by omega, _, rfl, rfl⟩
  have o2 : OwnBy (k + 1) (labN (k + 1) ++ [46, 98]) := ⟨by omega, _, rfl, rfl⟩
  have hne : labN (k + 1) ++ [46, 97] ≠ labN (k + 1) ++ [46, 98] := fun e => by simpa using List.append_cancel_left e
  unfold pushCode
  replace ha : nameB (labN (k + 1) ++ [46, 97]) = true := ha
  replace hb : nameB (labN (k + 1) ++ [46, 98]) = true := hb
  generalize labN (k + 1) ++ [46, 97] = L at *
  generalize labN (k + 1) ++ [46, 98] = M at *
  have hx : ¬ L = [] := fun e => by rw [e] at ha; cases ha
  have hy : ¬ M = [] := fun e => by rw [e] at hb; cases hb
  refine BlkF.of (codeFine_of ?_) fun x hx => ?_
  · have l1 : ∀ (A B : List UInt8), labelAt A [⟨17, 0, 0, 0, A⟩, ⟨6, 0, 5, 0, []⟩, ⟨7, 3, 0, 1, []⟩, ⟨1, 1, 0, 0, []⟩, ⟨1, 2, 3, 0, []⟩, ⟨9, 5, 1, 0, []⟩, ⟨15, 0, 1, 0, B⟩, ⟨16, 0, 0, 0, A⟩, ⟨17, 0, 0, 0, B⟩] 0 = some 0 := fun A B => by simp [labelAt]
    have l2 : labelAt M [⟨17, 0, 0, 0, L⟩, ⟨6, 0, 5, 0, []⟩, ⟨7, 3, 0, 1, []⟩, ⟨1, 1, 0, 0, []⟩, ⟨1, 2, 3, 0, []⟩, ⟨9, 5, 1, 0, []⟩, ⟨15, 0, 1, 0, M⟩, ⟨16, 0, 0, 0, L⟩, ⟨17, 0, 0, 0, M⟩] 0 = some 8 := by simp [labelAt, hne]
    have l1' := l1 L M
    unfold codeFineB
    simp only [List.length_cons, List.length_nil, List.all_cons, List.all_nil, List.range_succ, List.range_zero, List.nil_append, List.cons_append, List.all_append, List.getElem?_cons_zero, List.getElem?_cons_succ, l1', l2]
    simp [insFine, regB, Qh.z0, ha, hb]
  · simp only [List.mem_cons, List.not_mem_nil, or_false] at hx
    rcases hx with rfl | rfl | rfl | rfl | rfl | rfl | rfl | rfl | rfl
    all_goals first
      | exact .inl rfl
      | exact .inr ⟨k + 1, by omega, by omega, o1⟩
      | exact .inr ⟨k + 1, by omega, by omega, o2⟩
end Qc
end
/- Stacks' code is right; their ops' names. -/
section
namespace Qc
open Qs Qu Qh Go.Proofs.YtppihkneeolomaaDoor
/-- A stack's pop. -/
theorem pop_fine (k : Nat) (hk : k < 127) : BlkF k (k + 1) (popCode (labN (k + 1))) := by
  have h := (labN_facts (k + 1) (by omega)).2.2.2
  have ha := h 0 (by decide)
  have hb := h 1 (by decide)
  have o1 : OwnBy (k + 1) (labN (k + 1) ++ [46, 97]) := ⟨by omega, _, rfl, rfl⟩
  have o2 : OwnBy (k + 1) (labN (k + 1) ++ [46, 98]) := ⟨by omega, _, rfl, rfl⟩
  have hne : labN (k + 1) ++ [46, 97] ≠ labN (k + 1) ++ [46, 98] := fun e => by simpa using List.append_cancel_left e
  unfold popCode
  replace ha : nameB (labN (k + 1) ++ [46, 97]) = true := ha
  replace hb : nameB (labN (k + 1) ++ [46, 98]) = true := hb
  generalize labN (k + 1) ++ [46, 97] = L at *
  generalize labN (k + 1) ++ [46, 98] = M at *
  refine BlkF.of (codeFine_of ?_) fun x hx => ?_
  · have l1 : ∀ (A B : List UInt8), labelAt A [⟨17, 0, 0, 0, A⟩, ⟨6, 0, 5, 0, []⟩, ⟨14, 0, 0, 0, B⟩, ⟨6, 2, 0, 1, []⟩, ⟨1, 1, 0, 0, []⟩, ⟨9, 5, 1, 0, []⟩, ⟨15, 0, 1, 0, B⟩, ⟨16, 0, 0, 0, A⟩, ⟨17, 0, 0, 0, B⟩, ⟨1, 3, 0, 0, []⟩] 0 = some 0 := fun A B => by simp [labelAt]
    have l2 : labelAt M [⟨17, 0, 0, 0, L⟩, ⟨6, 0, 5, 0, []⟩, ⟨14, 0, 0, 0, M⟩, ⟨6, 2, 0, 1, []⟩, ⟨1, 1, 0, 0, []⟩, ⟨9, 5, 1, 0, []⟩, ⟨15, 0, 1, 0, M⟩, ⟨16, 0, 0, 0, L⟩, ⟨17, 0, 0, 0, M⟩, ⟨1, 3, 0, 0, []⟩] 0 = some 8 := by simp [labelAt, hne]
    have l1' := l1 L M
    unfold codeFineB
    simp only [List.length_cons, List.length_nil, List.all_cons, List.all_nil, List.range_succ, List.range_zero, List.nil_append, List.cons_append, List.all_append, List.getElem?_cons_zero, List.getElem?_cons_succ, l1', l2]
    simp [insFine, regB, Qh.z0, ha, hb]
  · simp only [List.mem_cons, List.not_mem_nil, or_false] at hx
    rcases hx with rfl | rfl | rfl | rfl | rfl | rfl | rfl | rfl | rfl | rfl
    all_goals first
      | exact .inl rfl
      | exact .inr ⟨k + 1, by omega, by omega, o1⟩
      | exact .inr ⟨k + 1, by omega, by omega, o2⟩
/-- A block in another: a label of the outer one ahead and behind. -/
theorem BlkF.wrap {k j n : Nat} {A B C : List Instr} {p : List UInt8} (hB : BlkF k n B) (hj : OwnBy j p) (hjk : ¬ (k < j ∧ j ≤ n)) (hn : nameB p = true)
    (hA : ∀ x ∈ A, insFine x = true ∧ x.op ≠ 17 ∧ (x.to = [] ∨ x.to = p)) (hC : ∀ x ∈ C, insFine x = true ∧ x.op ≠ 17 ∧ (x.to = [] ∨ x.to = p)) {k' n' : Nat} (h1 : k' ≤ k) (h2 : n ≤ n') (h3 : k' < j ∧ j ≤ n') :
    BlkF k' n' (A ++ B ++ C ++ [⟨17, 0, 0, 0, p⟩]) := by
  have hp := Qh.nameB_ne hn
  have hlast : insFine ⟨17, 0, 0, 0, p⟩ = true := by show (Qh.z0 0 && Qh.z0 0 && Qh.z0 0 && nameB p) = true; rw [hn]; rfl
  have hBp : ∀ x ∈ B, x.to ≠ p := fun x hx e => by
    rcases hB.own x hx with h | ⟨i, i1, i2, i3⟩
    · rw [h] at e; exact hp e.symm
    · rw [e] at i3
      have := i3.inj hj
      subst this
      exact hjk ⟨i1, i2⟩
  have hlp : labelAt p (A ++ B ++ C ++ [⟨17, 0, 0, 0, p⟩]) 0 = some (A.length + B.length + C.length) := by
    have hno : ∀ x ∈ A ++ B ++ C, x.op = 17 → x.to ≠ p := fun x hx h17 => by
      rcases List.mem_append.1 hx with h | h
      · rcases List.mem_append.1 h with h | h
        · exact absurd h17 (hA x h).2.1
        · exact hBp x h
      · exact absurd h17 (hC x h).2.1
    rw [labelAt_skip _ _ hno]
    simp [labelAt]
    omega
  have hlb : ∀ t j, labelAt t B 0 = some j → labelAt t (A ++ B ++ C ++ [⟨17, 0, 0, 0, p⟩]) 0 = some (A.length + j) := fun t j h => by
    have := row_label (A := A) (B := B) (C := C ++ [⟨17, 0, 0, 0, p⟩]) (to := t) (fun x hx h17 => absurd h17 (hA x hx).2.1) h
    simpa only [List.append_assoc] using this
  refine ⟨fun x hx => ?_, fun i x hi h17 => ?_, fun x hx hne => ?_, fun x hx => ?_⟩
  · simp only [List.mem_append, List.mem_singleton] at hx
    rcases hx with ((h | h) | h) | h
    · exact (hA x h).1
    · exact hB.ins x h
    · exact (hC x h).1
    · rw [h]; exact hlast
  · by_cases c1 : i < A.length
    · rw [List.append_assoc, List.append_assoc, List.getElem?_append_left c1] at hi
      exact absurd h17 (hA x (List.mem_of_getElem? hi)).2.1
    · by_cases c2 : i < A.length + B.length
      · rw [List.append_assoc, List.append_assoc, List.getElem?_append_right (by omega), List.getElem?_append_left (by omega)] at hi
        rw [hlb _ _ (hB.set _ x hi h17)]
        congr 1; omega
      · by_cases c3 : i < A.length + B.length + C.length
        · rw [List.append_assoc, List.getElem?_append_right (by simp; omega), List.getElem?_append_left (by simp; omega)] at hi
          exact absurd h17 (hC x (List.mem_of_getElem? hi)).2.1
        · rw [List.getElem?_append_right (by simp; omega)] at hi
          have hi0 : i - (A ++ B ++ C).length = 0 := by
            have := (List.getElem?_eq_some_iff.1 hi).1
            simpa using this
          rw [hi0] at hi
          cases hi
          rw [hlp]
          simp at hi0 c3
          congr 1; omega
  · simp only [List.mem_append, List.mem_singleton] at hx
    rcases hx with ((h | h) | h) | h
    · rcases (hA x h).2.2 with e | e
      · exact absurd e hne
      · rw [e, hlp]; rfl
    · obtain ⟨j, hj⟩ := Option.isSome_iff_exists.1 (hB.lab x h hne)
      rw [hlb _ _ hj]; rfl
    · rcases (hC x h).2.2 with e | e
      · exact absurd e hne
      · rw [e, hlp]; rfl
    · rw [h]; simp only; rw [hlp]; rfl
  · simp only [List.mem_append, List.mem_singleton] at hx
    rcases hx with ((h | h) | h) | h
    · rcases (hA x h).2.2 with e | e
      · exact .inl e
      · exact .inr ⟨j, h3.1, h3.2, e ▸ hj⟩
    · exact (hB.own x h).imp id fun ⟨i, a, b, c⟩ => ⟨i, by omega, by omega, c⟩
    · rcases (hC x h).2.2 with e | e
      · exact .inl e
      · exact .inr ⟨j, h3.1, h3.2, e ▸ hj⟩
    · rw [h]; exact .inr ⟨j, h3.1, h3.2, hj⟩
theorem pushBlk_fine (n : Int) (hn : 1 ≤ n ∧ n ≤ 1000) (k : Nat) (hk : k + 2 < 128) : BlkF k (k + 2) (pushBlk (labN (k + 1)) (labN (k + 2)) n) := by
  have hnm := (labN_facts (k + 1) (by omega)).2.2.1
  have r1 : regB n 4294967296 = true := by unfold regB; simp; omega
  have h := (push_fine (k + 1) (by omega)).wrap (A := [⟨10, 3, 0, 0, []⟩, ⟨14, 3, 0, 0, labN (k + 1)⟩, ⟨0, 0, n, 0, []⟩, ⟨7, 3, 0, 0, []⟩]) (C := []) (OwnBy.self (j := k + 1) (by omega)) (by omega) hnm (fun x hx => by
    simp only [List.mem_cons, List.not_mem_nil, or_false] at hx
    rcases hx with rfl | rfl | rfl | rfl
    · exact ⟨rfl, by simp, .inl rfl⟩
    · exact ⟨by show (regB 3 8 && Qh.z0 0 && Qh.z0 0 && nameB (labN (k + 1))) = true; rw [hnm]; rfl, by simp, .inr rfl⟩
    · exact ⟨by show (regB 0 8 && regB n 4294967296 && Qh.z0 0 && true) = true; rw [r1]; rfl, by simp, .inl rfl⟩
    · exact ⟨rfl, by simp, .inl rfl⟩) (fun x hx => by cases hx) (k' := k) (n' := k + 2) (by omega) (by omega) (by omega)
  rw [List.append_nil] at h
  exact h
theorem popBlk_fine (k : Nat) (hk : k + 2 < 128) : BlkF k (k + 2) (popBlk (labN (k + 1)) (labN (k + 2))) := by
  have hnm := (labN_facts (k + 2) (by omega)).2.2.1
  have h := (pop_fine k (by omega)).wrap (A := []) (C := [⟨14, 3, 0, 0, labN (k + 2)⟩, ⟨6, 0, 3, 0, []⟩, ⟨18, 0, 0, 0, []⟩]) (OwnBy.self (j := k + 2) (by omega)) (by omega) hnm (fun x hx => by cases hx) (fun x hx => by
    simp only [List.mem_cons, List.not_mem_nil, or_false] at hx
    rcases hx with rfl | rfl | rfl
    · exact ⟨by show (regB 3 8 && Qh.z0 0 && Qh.z0 0 && nameB (labN (k + 2))) = true; rw [hnm]; rfl, by simp, .inr rfl⟩
    · exact ⟨rfl, by simp, .inl rfl⟩
    · exact ⟨rfl, by simp, .inl rfl⟩) (k' := k) (n' := k + 2) (by omega) (by omega) (by omega)
  unfold popBlk
  simpa only [List.nil_append, List.append_assoc, List.cons_append] using h
theorem sblk_fine {f : Nat} (h1 : 1 ≤ f) (h4 : f ≤ 4) (tn : Nat) (ht : tn < 8) (k : Nat) (hk : k + 5 < 128) (x : SOp) (hx : ∀ n, x = .push n → 1 ≤ n ∧ n ≤ 1000) : BlkF k (k + sinc x) (sblk f tn k x) := by
  cases x with
  | push n => exact pushBlk_fine n (hx n rfl) k (by omega)
  | pop =>
    have a := part_fine h1 h4 (show 0 < 5 by decide) k (by omega)
    have b := popBlk_fine (k + 1) (by omega)
    have c := part_fine h1 h4 (show 1 < 5 by decide) (k + 3) (by omega)
    have d := later_fine tn 2 ht (by omega) (k + 4) (by omega)
    have h := ((a.append b (by omega) (by omega)).append c (by omega) (by omega)).append d (by omega) (by omega)
    exact h
  | flush => exact flushBlk_fine h1 h4 tn 2 ht (by omega) k (by omega)
theorem sopsCode_fine {f : Nat} (h1 : 1 ≤ f) (h4 : f ≤ 4) (tn : Nat) (ht : tn < 8) : ∀ (l : List SOp) (k : Nat), (∀ n, SOp.push n ∈ l → 1 ≤ n ∧ n ≤ 1000) → k + slabs l + 6 < 128 → BlkF k (k + slabs l) (sopsCode f tn k l)
  | [], k, _, _ => by simpa [sopsCode, slabs] using BlkF.nil k
  | x :: l, k, hp, hk => by
    simp only [slabs] at hk
    have ih := sopsCode_fine h1 h4 tn ht l (k + sinc x) (fun n hn => hp n (List.mem_cons_of_mem _ hn)) (by omega)
    have hb := sblk_fine h1 h4 tn ht k (by omega) x (fun n hn => hp n (by rw [hn]; simp))
    have := hb.append ih (by omega) (by omega)
    simp only [slabs, sopsCode]
    rw [show k + (sinc x + slabs l) = k + sinc x + slabs l by omega]
    exact this
theorem scode_fine {f : Nat} (h1 : 1 ≤ f) (h4 : f ≤ 4) (tn : Nat) (ht : tn < 8) {l : List SOp} (h20 : l.length ≤ 20) (hp : ∀ n, SOp.push n ∈ l → 1 ≤ n ∧ n ≤ 1000) : CodeFine (scode f tn l) := by
  have hl := slabs_le l
  have hc := sopsCode_len h4 tn l 0
  have hg := part_length f (slabs l) 3
  obtain ⟨g1, g3, g4⟩ := gcode_len2 h4
  have h := sopsCode_fine h1 h4 tn ht l 0 hp (by omega)
  rw [Nat.zero_add] at h
  have h2 := (h.append (part_fine h1 h4 (show 3 < 5 by decide) (slabs l) (by omega)) (by omega) (by omega)).append (stop_fine _) (by omega) (by omega)
  exact h2.fine (by simp only [List.length_append, List.length_singleton]; omega)
end Qc
namespace Go.Proofs.YtppihkneeolomaaDoor
open Go.RowKit Qs Qh Qc
def kPush : ByteArray := ⟨#[112, 117, 115, 104]⟩
def kPop : ByteArray := ⟨#[112, 111, 112]⟩
def kFlsh : ByteArray := ⟨#[102, 108, 117, 115, 104]⟩
def sK : SOp → ByteArray
  | .push _ => kPush
  | .pop => kPop
  | .flush => kFlsh
def sN : SOp → Int
  | .push n => n
  | _ => 0
def sR (x : SOp) : ROp := (sK x, sN x)
def rawS (q : List (List SOp)) : List (List ROp) := q.map (·.map sR)
def toS (x : ROp) : SOp := if x.1 = kPush then .push x.2 else if x.1 = kPop then .pop else .flush
theorem toS_ok {x : ROp} (h : kfOpG kPush [kPop, kFlsh] x = 0) : sR (toS x) = x ∧ ∀ n, toS x = .push n → 1 ≤ n ∧ n ≤ 1000 := by
  obtain ⟨k, n⟩ := x
  unfold kfOpG at h
  simp only at h
  by_cases hp : k = kPush
  · subst hp
    rw [if_pos rfl] at h
    have hb : ¬ (n < 1 ∨ 1000 < n) := fun e => by rw [if_pos e] at h; cases h
    have ht : toS (kPush, n) = .push n := by unfold toS; simp
    rw [ht]
    exact ⟨rfl, fun m e => by cases e; omega⟩
  · rw [if_neg hp] at h
    have hm : memK [kPop, kFlsh] k = true ∧ n = 0 := by
      by_cases e : memK [kPop, kFlsh] k = true ∧ n = 0
      · exact e
      · rw [if_neg e] at h; cases h
    obtain ⟨hm, rfl⟩ := hm
    have := memK_iff.1 hm
    simp only [List.mem_cons, List.not_mem_nil, or_false] at this
    rcases this with rfl | rfl
    · exact ⟨by simp [toS, sR, sK, sN, kPush, kPop], fun n e => by simp [toS, kPush, kPop] at e⟩
    · exact ⟨by simp [toS, sR, sK, sN, kPush, kPop, kFlsh], fun n e => by simp [toS, kPush, kPop, kFlsh] at e⟩
theorem rowG_zero {W : ByteArray} {ks : List ByteArray} {l : List ROp} (h : rowG W ks l = none) : ∀ x ∈ l, kfOpG W ks x = 0 := fun x hx => by
  unfold rowG at h
  have := List.find?_eq_none.1 h _ (List.mem_map_of_mem hx)
  simpa using this
theorem rowG_ne {W : ByteArray} {ks : List ByteArray} {l : List ROp} {c : Int} (h : rowG W ks l = some c) : c ≠ 0 := by
  unfold rowG at h
  have := List.find?_some h
  simpa using this
theorem good_rawS {ll : List (List ROp)} (h : (kfG kPush [kPop, kFlsh] ll).1 = 0) : ∃ q : List (List SOp), ll = rawS q ∧ 1 ≤ q.length ∧ q.length ≤ 6 ∧ (∀ l ∈ q, l.length ≤ 20) ∧ ∀ l ∈ q, ∀ n, SOp.push n ∈ l → 1 ≤ n ∧ n ≤ 1000 := by
  unfold kfG at h
  cases hm : manyB ll with
  | false => rw [hm] at h; simp at h
  | true =>
    rw [hm] at h
    simp only [if_true] at h
    obtain ⟨h1, h6, h20⟩ := manyB_iff.1 hm
    have hall : ∀ l ∈ ll, rowG kPush [kPop, kFlsh] l = none := by
      rcases allR_cases (rf := rowG kPush [kPop, kFlsh]) ll 0 with ⟨_, h2⟩ | ⟨k, l', c, g1, g2, g3, g4⟩
      · exact h2
      · rw [g3] at h
        exact absurd h (rowG_ne g2)
    have hx : ∀ l ∈ ll, ∀ x ∈ l, sR (toS x) = x ∧ ∀ n, toS x = .push n → 1 ≤ n ∧ n ≤ 1000 := fun l hl x hx => toS_ok (rowG_zero (hall l hl) x hx)
    have hmap : ∀ l ∈ ll, (l.map toS).map sR = l := fun l hl => by
      rw [List.map_map]
      conv => rhs; rw [← List.map_id l]
      exact List.map_congr_left fun x hx' => (hx l hl x hx').1
    refine ⟨ll.map (·.map toS), ?_, by simpa using h1, by simpa using h6, fun l hl => ?_, fun l hl n hn => ?_⟩
    · unfold rawS
      rw [List.map_map]
      conv => lhs; rw [← List.map_id ll]
      exact List.map_congr_left fun l hl => (hmap l hl).symm
    · obtain ⟨l', hl', rfl⟩ := List.mem_map.1 hl
      rw [List.length_map]; exact h20 l' hl'
    · obtain ⟨l', hl', rfl⟩ := List.mem_map.1 hl
      obtain ⟨x, hx', e⟩ := List.mem_map.1 hn
      exact (hx l' hl' x hx').2 n e
variable {N0 K tn f : Nat} {big : Prop} {w w1 w2 : World} {b k : Nat} {v v1 v2 : Value} {l : List Instr}
theorem sopk_any (x : SOp) (HF : FreshH N0 big f (tn : Nat) 2 K) (hT : big → lowT N0) (h1 : 1 ≤ f) (h4 : f ≤ 4) (htn : tn < 6) (M : MkA N0 big f (tn : Nat) 2 w b v l k) (hk : k + 5 ≤ K) (hK : K ≤ 120) (hl : l.length ≤ 80000) :
    Calls Tryd.prog 52 #[.pointer (some ⟨b, 0, none⟩), .agg #[.string (sK x), .int .i64 (sN x)]] w fun e w' => e = .returned (.tuple #[]) ∧ ∃ v', MkA N0 big f (tn : Nat) 2 w' b v' (l ++ sblk f tn k x) (k + sinc x) ∧ MkStep w b v w' v' := by
  cases x with
  | push n => exact sop_k_push n HF hT h1 h4 htn M hk hK hl
  | pop => exact sop_k_pop HF hT h1 h4 htn M hk hK hl
  | flush => exact sop_k_flush HF hT h1 h4 htn M hk hK hl
end Go.Proofs.YtppihkneeolomaaDoor
end
/- One thread alone: a stack's ops. -/
section
namespace Qo
open Qs Qg Qu Qc Qh Go.Proofs.YtppihkneeolomaaDoor
variable {code A B C R : List Instr} {a k f st K N : Nat} {m0 : M} {v v' : Int → Nat → Int} {hr : Int → Bool} {mk : List Int} {r0 r1 r2 r3 r4 tp c n : Int} {s s' : S} {p q : List UInt8} {o h : List Int}
def Pile (v : Int → Nat → Int) : Int → List (Int × Int) → Prop
  | h, [] => h = 0
  | h, y :: l => h = y.1 ∧ v y.1 0 = y.2 ∧ Pile v (v y.1 1) l
def Ret (v : Int → Nat → Int) : Int → List Int → Prop
  | h, [] => h = 0
  | h, x :: l => h = x ∧ Ret v (v x 2) l
theorem Pile.keep : ∀ {l : List (Int × Int)} {h : Int}, Pile v h l → (∀ x ∈ l.map (·.1), v' x 0 = v x 0 ∧ v' x 1 = v x 1) → Pile v' h l
  | [], h, H, _ => H
  | y :: l, h, H, hk => by
    obtain ⟨h1, h2, h3⟩ := H
    obtain ⟨k1, k2⟩ := hk y.1 (by simp)
    exact ⟨h1, by rw [k1]; exact h2, by rw [k2]; exact Pile.keep h3 fun x hx => hk x (by rw [List.map_cons]; exact List.mem_cons_of_mem _ hx)⟩
theorem Ret.keep : ∀ {l : List Int} {h : Int}, Ret v h l → (∀ x ∈ l, v' x 2 = v x 2) → Ret v' h l
  | [], h, H, _ => H
  | y :: l, h, H, hk => by
    obtain ⟨h1, h3⟩ := H
    exact ⟨h1, by rw [hk y (by simp)]; exact Ret.keep h3 fun x hx => hk x (by simp [hx])⟩
/-- A value pushed. -/
theorem push_run (hB : InRow code a (pushBlk p q n)) (H : At code m0 a ⟨0, [r0, r1, r2, r3, r4, 5, 1, 2], ⟨o, h, v⟩, hr, mk⟩ K) (htp : hr 5 = true) (hcov : ∃ l : List Int, (∀ x, S.here ⟨0, [r0, r1, r2, r3, r4, 5, 1, 2], ⟨o, h, v⟩, hr, mk⟩ x = true → x ∈ l) ∧ l.length < 64) (hk : K + 13 ≤ 1000000) :
    ∃ x, 0 < x ∧ x ≠ 1 ∧ x ≠ 2 ∧ hr x = false ∧ At code m0 (a + 14) ⟨0, [v 5 0, v 5 0, x, x, r4, 5, 1, 2], ⟨o, h, upv (upv (upv (S.clr v x) x 0 n) x 1 (v 5 0)) 5 0 x⟩, giveH hr x, mk⟩ (K + 13) := by
  obtain ⟨x, x0, xh, H1⟩ := H.alloc hB (xa := 3) rfl hcov (by omega)
  have x1 : x ≠ 1 := fun e => by subst e; cases xh
  have x2 : x ≠ 2 := fun e => by subst e; cases xh
  have xh' : hr x = false := by unfold S.here at xh; rw [if_neg x1, if_neg x2] at xh; exact xh
  have hxt : (5 : Int) ≠ x := fun e => by rw [e, xh'] at htp; cases htp
  replace H1 : At code m0 a ⟨1, [r0, r1, r2, x, r4, 5, 1, 2], ⟨o, h, S.clr v x⟩, giveH hr x, mk⟩ (K + 1) := H1
  have hgx : giveH hr x x = true := if_pos rfl
  have hgt : giveH hr x 5 = true := by unfold giveH; rw [if_neg hxt]; exact htp
  have h0 : S.clr v x 5 0 = v 5 0 := clr_ne hxt 0
  have hrun : S.evn (pushBlk p q n) 12 ⟨1, [r0, r1, r2, x, r4, 5, 1, 2], ⟨o, h, S.clr v x⟩, giveH hr x, mk⟩ = some ⟨14, [v 5 0, v 5 0, x, x, r4, 5, 1, 2], ⟨o, h, upv (upv (upv (S.clr v x) x 0 n) x 1 (v 5 0)) 5 0 x⟩, giveH hr x, mk⟩ := by
    refine evn_step (e_zero0 rfl (show x ≠ 0 by omega)) ?_
    refine evn_step (e_const rfl) ?_
    refine evn_step (e_store rfl (x := x) (u := n) rfl rfl (here_of x1 x2 hgx)) ?_
    rw [put_v x1 x2]
    refine evn_step (e_label rfl) ?_
    refine evn_step (e_load rfl (x := 5) (u := v 5 0) rfl (here_of (by decide) (by decide) hgt) (by rw [get_v (by decide) (by decide)]; show upv _ _ _ _ 5 0 = _; rw [upv_ne hxt, h0])) ?_
    refine evn_step (e_store rfl (x := x) (u := v 5 0) rfl rfl (here_of x1 x2 hgx)) ?_
    rw [put_v x1 x2]
    refine evn_step (e_move rfl) ?_
    refine evn_step (e_move rfl) ?_
    refine evn_step (e_cas rfl (x := 5) (u := x) (y := v 5 0) rfl (here_of (by decide) (by decide) hgt) (by rw [get_v (by decide) (by decide)]; show upv _ _ _ _ 5 0 = _; rw [upv_ne hxt, upv_ne hxt, h0]) rfl rfl) ?_
    rw [put_v (by decide) (by decide)]
    refine evn_step (e_same1 (xa := 0) (xb := 1) (xc := 0) (to := q ++ [46, 98]) (j := 12) rfl rfl (by simp [pushBlk, pushCode, labelAt])) ?_
    refine evn_step (e_label rfl) ?_
    exact evn_step (e_label rfl) rfl
  have H2 := At.run hB 12 H1 hrun (by omega)
  exact ⟨x, x0, x1, x2, xh', H2.next (n := 14) rfl⟩
/-- A pop of nothing. -/
theorem pop_run0 (hB : InRow code a (popBlk q p)) (hpq : p ≠ q ++ [46, 97] ∧ p ≠ q ++ [46, 98]) (htp : hr 5 = true) (h0 : v 5 0 = 0) (H : At code m0 a ⟨0, [r0, r1, r2, r3, r4, 5, 1, 2], ⟨o, h, v⟩, hr, mk⟩ K) (hk : K + 7 ≤ 1000000) :
    At code m0 (a + 14) ⟨0, [0, r1, r2, 0, r4, 5, 1, 2], ⟨o, h, v⟩, hr, mk⟩ (K + 7) := by
  have hb1 : ¬ (q ++ [46, 97] = p) := fun e => hpq.1 e.symm
  have hb2 : ¬ (q ++ [46, 98] = p) := fun e => hpq.2 e.symm
  have hrun : S.evn (popBlk q p) 7 ⟨0, [r0, r1, r2, r3, r4, 5, 1, 2], ⟨o, h, v⟩, hr, mk⟩ = some ⟨14, [0, r1, r2, 0, r4, 5, 1, 2], ⟨o, h, v⟩, hr, mk⟩ := by
    refine evn_step (e_label rfl) ?_
    refine evn_step (e_load rfl (x := 5) (u := 0) rfl (here_of (by decide) (by decide) htp) (by rw [get_v (by decide) (by decide)]; exact h0)) ?_
    refine evn_step (e_zero1 (j := 8) rfl rfl (by simp [popBlk, popCode, labelAt])) ?_
    refine evn_step (e_label rfl) ?_
    refine evn_step (e_move rfl) ?_
    refine evn_step (e_zero1 (j := 13) rfl rfl (by simp [popBlk, popCode, labelAt, hb1, hb2])) ?_
    exact evn_step (e_label rfl) rfl
  exact (At.run hB 7 H hrun hk).next (n := 14) rfl
/-- A pop. -/
theorem pop_run (hB : InRow code a (popBlk q p)) (htp : hr 5 = true) {x u : Int} (h0 : v 5 0 = x) (x0 : x ≠ 0) (x1 : x ≠ 1) (x2 : x ≠ 2) (x5 : x ≠ 5) (hx : hr x = true) (hu : v x 0 = u) (hm : mk.length < 500) (H : At code m0 a ⟨0, [r0, r1, r2, r3, r4, 5, 1, 2], ⟨o, h, v⟩, hr, mk⟩ K) (hk : K + 13 ≤ 1000000) :
    At code m0 (a + 14) ⟨0, [u, x, v x 1, x, r4, 5, 1, 2], ⟨o, h, upv v 5 0 (v x 1)⟩, hr, mk ++ [u]⟩ (K + 13) := by
  have hrun : S.evn (popBlk q p) 13 ⟨0, [r0, r1, r2, r3, r4, 5, 1, 2], ⟨o, h, v⟩, hr, mk⟩ = some ⟨14, [u, x, v x 1, x, r4, 5, 1, 2], ⟨o, h, upv v 5 0 (v x 1)⟩, hr, mk ++ [u]⟩ := by
    refine evn_step (e_label rfl) ?_
    refine evn_step (e_load rfl (x := 5) (u := x) rfl (here_of (by decide) (by decide) htp) (by rw [get_v (by decide) (by decide)]; exact h0)) ?_
    refine evn_step (e_zero0 rfl x0) ?_
    refine evn_step (e_load rfl (x := x) (u := v x 1) rfl (here_of x1 x2 hx) (by rw [get_v x1 x2]; rfl)) ?_
    refine evn_step (e_move rfl) ?_
    refine evn_step (e_cas rfl (x := 5) (u := v x 1) (y := x) rfl (here_of (by decide) (by decide) htp) (by rw [get_v (by decide) (by decide)]; exact h0) rfl rfl) ?_
    rw [put_v (by decide) (by decide)]
    refine evn_step (e_same1 (xa := 0) (xb := 1) (xc := 0) (to := q ++ [46, 98]) (j := 8) rfl rfl (by simp [popBlk, popCode, labelAt])) ?_
    refine evn_step (e_label rfl) ?_
    refine evn_step (e_move rfl) ?_
    refine evn_step (e_zero0 rfl x0) ?_
    refine evn_step (e_load rfl (x := x) (u := u) rfl (here_of x1 x2 hx) (by rw [get_v x1 x2]; show upv _ _ _ _ x 0 = _; rw [upv_ne x5]; exact hu)) ?_
    refine evn_step (e_mark rfl (u := u) rfl hm) ?_
    exact evn_step (e_label rfl) rfl
  exact (At.run hB 13 H hrun hk).next (n := 14) rfl
/-- The thread's list is freed. -/
theorem flush_loop (hB : InRow code a (flushTail p q 0 2)) (hpq : p ≠ q) (r4 : Int) (o h : List Int) (mk : List Int) (r3 : Int) : ∀ (rt : List Int) {v : Int → Nat → Int} {hr : Int → Bool} {K : Nat} {r0 r1 : Int}, Ret v (v 3 0) rt → rt.Nodup → hr 3 = true → (∀ x ∈ rt, x ≠ 0 ∧ x ≠ 1 ∧ x ≠ 2 ∧ x ≠ 3 ∧ hr x = true) → At code m0 a ⟨1, [r0, r1, 3, r3, r4, 5, 1, 2], ⟨o, h, v⟩, hr, mk⟩ K → K + (7 * rt.length + 4) ≤ 1000000 →
    ∃ r1' v' hr', At code m0 (a + 9) ⟨0, [0, r1', 3, r3, r4, 5, 1, 2], ⟨o, h, v'⟩, hr', mk⟩ (K + (7 * rt.length + 4)) ∧ v' 3 0 = 0 ∧ (∀ x w, x ∉ rt → (x ≠ 3 ∨ w ≠ 0) → v' x w = v x w) ∧ (∀ x, hr' x = true → hr x = true) ∧ (∀ x, x ∉ rt → hr' x = hr x)
  | [], v, hr, K, r0, r1, hR, _, h3, _, H, hK => by
    have hpq' : ¬ p = q := hpq
    have hrun : S.evn (flushTail p q 0 2) 4 ⟨1, [r0, r1, 3, r3, r4, 5, 1, 2], ⟨o, h, v⟩, hr, mk⟩ = some ⟨9, [0, r1, 3, r3, r4, 5, 1, 2], ⟨o, h, v⟩, hr, mk⟩ := by
      refine evn_step (e_label rfl) ?_
      refine evn_step (e_load rfl (x := 3) (u := 0) rfl (here_of (by decide) (by decide) h3) (by rw [get_v (by decide) (by decide)]; exact hR)) ?_
      refine evn_step (e_zero1 (j := 8) rfl rfl (by simp [flushTail, labelAt, hpq'])) ?_
      exact evn_step (e_label rfl) rfl
    exact ⟨r1, v, hr, (At.run hB 4 H hrun (by simpa using hK)).next (n := 9) rfl, hR, fun _ _ _ _ => rfl, fun _ h => h, fun _ _ => rfl⟩
  | x :: rt, v, hr, K, r0, r1, hR, hnd, h3, hx, H, hK => by
    obtain ⟨hR1, hR2⟩ := hR
    obtain ⟨x0, x1, x2, x3, xh⟩ := hx x (by simp)
    have hnx : x ∉ rt := (List.nodup_cons.1 hnd).1
    simp only [List.length_cons] at hK
    have hrun : S.evn (flushTail p q 0 2) 7 ⟨1, [r0, r1, 3, r3, r4, 5, 1, 2], ⟨o, h, v⟩, hr, mk⟩ = some ⟨1, [x, v x 2, 3, r3, r4, 5, 1, 2], ⟨o, h, S.clr (upv v 3 0 (v x 2)) x⟩, freeH hr x, mk⟩ := by
      refine evn_step (e_label rfl) ?_
      refine evn_step (e_load rfl (x := 3) (u := x) rfl (here_of (by decide) (by decide) h3) (by rw [get_v (by decide) (by decide)]; exact hR1)) ?_
      refine evn_step (e_zero0 rfl x0) ?_
      refine evn_step (e_load rfl (x := x) (u := v x 2) rfl (here_of x1 x2 xh) (by rw [get_v x1 x2]; rfl)) ?_
      refine evn_step (e_store rfl (x := 3) (u := v x 2) rfl rfl (here_of (by decide) (by decide) h3)) ?_
      rw [put_v (by decide) (by decide)]
      refine evn_step (e_free rfl (x := x) rfl x1 x2 xh) ?_
      exact evn_step (e_goto (j := 1) rfl (by simp [flushTail, labelAt])) rfl
    have H1 := At.run hB 7 H hrun (by omega)
    have e3 : S.clr (upv v 3 0 (v x 2)) x 3 0 = v x 2 := by rw [clr_ne (fun e => x3 e.symm)]; exact upv_same _ _ _
    have hkeep : ∀ y w, y ≠ x → (y ≠ 3 ∨ w ≠ 0) → S.clr (upv v 3 0 (v x 2)) x y w = v y w := fun y w hy hw => by
      rw [clr_ne hy]
      exact if_neg fun g => hw.elim (fun e => e g.1) (fun e => e g.2)
    obtain ⟨r1', v', hr', k1, k2, k3, k4, k5⟩ := flush_loop hB hpq r4 o h mk r3 rt (v := S.clr (upv v 3 0 (v x 2)) x) (hr := freeH hr x) (by rw [e3]; exact hR2.keep fun y hy => hkeep y 2 (fun e => hnx (e ▸ hy)) (.inr (by decide))) (List.nodup_cons.1 hnd).2 (by unfold freeH; rw [if_neg (fun e => x3 e.symm)]; exact h3) (fun y hy => by
      obtain ⟨a1, a2, a3, a4, a5⟩ := hx y (by simp [hy])
      exact ⟨a1, a2, a3, a4, by unfold freeH; rw [if_neg (fun e : y = x => hnx (e ▸ hy))]; exact a5⟩) H1 (by omega)
    refine ⟨r1', v', hr', ?_, k2, fun y w hy hw => ?_, fun y hy => ?_, fun y hy => ?_⟩
    · rw [List.length_cons, show K + (7 * (rt.length + 1) + 4) = K + 7 + (7 * rt.length + 4) by omega]; exact k1
    · rw [List.mem_cons, not_or] at hy
      rw [k3 y w hy.2 hw]
      exact hkeep y w hy.1 hw
    · have := k4 y hy
      unfold freeH at this
      split at this
      · cases this
      · exact this
    · rw [List.mem_cons, not_or] at hy
      rw [k5 y hy.2]
      unfold freeH; rw [if_neg hy.1]
end Qo
end
/- One thread alone: a row of a stack's ops. -/
section
namespace Qo
open Qs Qg Qu Qc Qh Go.Proofs.YtppihkneeolomaaDoor
variable {code A B C R : List Instr} {a k f st K N : Nat} {m0 : M} {mk : List Int} {n : Int}
/-- What stands where between ops: the pile, what is retired. -/
structure SI (code : List Instr) (m0 : M) (f st a K : Nat) (pl : List (Int × Int)) (rt : List Int) (r3 : Int) (v : Int → Nat → Int) (hr : Int → Bool) (mk : List Int) (N : Nat) : Prop where
  at_ : ∃ r0 r1 r2 r4, At code m0 a (z4 f st false r0 r1 r2 r3 r4 5 v hr mk) K
  v51 : v 5 1 = 3
  h3 : hr 3 = true
  h5 : hr 5 = true
  pile : Pile v (v 5 0) pl
  ret : Ret v (v 3 0) rt
  nd : (pl.map (·.1) ++ rt).Nodup
  ne : ∀ x ∈ pl.map (·.1) ++ rt, x ≠ 0 ∧ x ≠ 1 ∧ x ≠ 2 ∧ x ≠ 3 ∧ x ≠ 5 ∧ hr x = true
  cov : ∃ l : List Int, (∀ x, hr x = true → x ∈ l) ∧ l.length ≤ N
def SX (code : List Instr) (m0 : M) (f st a K : Nat) (pl : List (Int × Int)) (rt : List Int) (mk : List Int) (N : Nat) : Prop := ∃ r3 v hr, SI code m0 f st a K pl rt r3 v hr mk N
theorem sk_push {kk : Nat} {pl : List (Int × Int)} {rt : List Int} (hn : 1 ≤ n ∧ n ≤ 1000) (hA : BlkF 0 kk A) (hc : code = A ++ (pushBlk (labN (kk + 1)) (labN (kk + 2)) n ++ R)) (hk : kk + 10 < 128) (H : SX code m0 f st A.length K pl rt mk N) (hK : K + 13 ≤ 1000000) (hN : N < 60) :
    BlkF 0 (kk + 2) (A ++ pushBlk (labN (kk + 1)) (labN (kk + 2)) n) ∧ ∃ x, SX code m0 f st (A ++ pushBlk (labN (kk + 1)) (labN (kk + 2)) n).length (K + 13) ((x, n) :: pl) rt mk (N + 1) := by
  obtain ⟨r3, v, hr, ⟨r0, r1, r2, r4, H⟩, v51, h3, h5, hp, hrt, hnd, hne, l, hl, hlN⟩ := H
  have fB := pushBlk_fine n hn kk (by omega)
  refine ⟨hA.append fB (by omega) (by omega), ?_⟩
  obtain ⟨x, x0, x1, x2, xh, H1⟩ := push_run (n := n) (hc ▸ inRow_of hA fB) H h5 ⟨1 :: 2 :: l, fun y hy => by
    unfold S.here at hy
    by_cases e1 : y = 1
    · simp [e1]
    · by_cases e2 : y = 2
      · simp [e2]
      · rw [if_neg e1, if_neg e2] at hy
        have := hl y hy
        simp [this], by simp only [List.length_cons]; omega⟩ (by omega)
  have x3 : (3 : Int) ≠ x := fun e => by rw [e, xh] at h3; cases h3
  have x5 : (5 : Int) ≠ x := fun e => by rw [e, xh] at h5; cases h5
  have xne : ∀ y ∈ pl.map (·.1) ++ rt, y ≠ x := fun y hy e => by
    have := (hne y hy).2.2.2.2.2
    rw [e, xh] at this; cases this
  have ghx : ∀ y, hr y = true → giveH hr x y = true := fun y hy => by
    unfold giveH
    split
    · rfl
    · exact hy
  have hkeep : ∀ y w, y ≠ x → y ≠ 5 → upv (upv (upv (S.clr v x) x 0 n) x 1 (v 5 0)) 5 0 x y w = v y w := fun y w hy h5' => by
    rw [upv_ne h5', upv_ne hy, upv_ne hy, clr_ne hy]
  refine ⟨x, x, upv (upv (upv (S.clr v x) x 0 n) x 1 (v 5 0)) 5 0 x, giveH hr x, ⟨v 5 0, v 5 0, x, r4, ?_⟩, ?_, ghx 3 h3, ghx 5 h5, ⟨upv_same _ _ _, ?_, ?_⟩, ?_, ?_, fun y hy => ?_, x :: l, fun y hy => ?_, by simp only [List.length_cons]; omega⟩
  · have : (A ++ pushBlk (labN (kk + 1)) (labN (kk + 2)) n).length = A.length + 14 := by rw [List.length_append]; rfl
    rw [this]; exact H1
  · rw [upv_nw (by decide), upv_ne x5, upv_ne x5, clr_ne x5]; exact v51
  · show upv _ _ _ _ x 0 = n
    rw [upv_ne (fun e => x5 e.symm), upv_nw (by decide)]; exact upv_same _ _ _
  · show Pile _ (upv _ _ _ _ x 1) pl
    rw [upv_ne (fun e => x5 e.symm), upv_same]
    exact hp.keep fun y hy => by
      have hy' : y ∈ pl.map (·.1) ++ rt := List.mem_append_left _ hy
      have h5' := (hne y hy').2.2.2.2.1
      exact ⟨hkeep y 0 (xne y hy') h5', hkeep y 1 (xne y hy') h5'⟩
  · rw [hkeep 3 0 x3 (by decide)]
    exact hrt.keep fun y hy => by
      have hy' : y ∈ pl.map (·.1) ++ rt := List.mem_append_right _ hy
      exact hkeep y 2 (xne y hy') (hne y hy').2.2.2.2.1
  · rw [List.map_cons, List.cons_append, List.nodup_cons]
    exact ⟨fun hx => xne x hx rfl, hnd⟩
  · rw [List.map_cons, List.cons_append] at hy
    rcases List.mem_cons.1 hy with rfl | hy
    · exact ⟨by omega, x1, x2, fun e => x3 e.symm, fun e => x5 e.symm, if_pos rfl⟩
    · obtain ⟨q0, q1, q2, q3, q5, qh⟩ := hne y hy
      exact ⟨q0, q1, q2, q3, q5, ghx y qh⟩
  · unfold giveH at hy
    by_cases e : y = x
    · simp [e]
    · rw [if_neg e] at hy
      exact List.mem_cons_of_mem _ (hl y hy)
/-- What a pop gives. -/
def popV : List (Int × Int) → List Int
  | [] => []
  | y :: _ => [y.2]
theorem sk_pop {kk : Nat} {pl : List (Int × Int)} {rt : List Int} (h1 : 1 ≤ f) (h4 : f ≤ 4) (hA : BlkF 0 kk A) (hc : code = A ++ (sblk f 0 kk .pop ++ R)) (hk : kk + 10 < 128) (H : SX code m0 f st A.length K pl rt mk N) (hK : K + 100 ≤ 1000000) (hm : mk.length < 500) :
    BlkF 0 (kk + 5) (A ++ sblk f 0 kk .pop) ∧ ∃ st' rt', st' ≤ st + 1 ∧ rt'.length ≤ rt.length + 1 ∧ SX code m0 f st' (A ++ sblk f 0 kk .pop).length (K + 100) pl.tail rt' (mk ++ popV pl) N := by
  obtain ⟨r3, v, hr, ⟨r0, r1, r2, r4, H⟩, v51, h3, h5, hp, hrt, hnd, hne, l, hl, hlN⟩ := H
  obtain ⟨E, hE⟩ : ∃ E, E = part f kk 0 := ⟨_, rfl⟩
  obtain ⟨P, hP⟩ : ∃ P, P = popBlk (labN (kk + 2)) (labN (kk + 3)) := ⟨_, rfl⟩
  obtain ⟨V, hV⟩ : ∃ V, V = part f (kk + 3) 1 := ⟨_, rfl⟩
  obtain ⟨L, hL⟩ : ∃ L, L = laterBlk (labN (kk + 5)) 0 2 := ⟨_, rfl⟩
  have hcode : sblk f 0 kk .pop = E ++ P ++ V ++ L := by rw [hP, hL, hE, hV]; rfl
  rw [hcode] at hc ⊢
  have fE : BlkF kk (kk + 1) E := hE ▸ part_fine h1 h4 (by decide) kk (by omega)
  have fP : BlkF (kk + 1) (kk + 3) P := hP ▸ popBlk_fine (kk + 1) (by omega)
  have fV : BlkF (kk + 3) (kk + 4) V := hV ▸ part_fine h1 h4 (by decide) (kk + 3) (by omega)
  have fL : BlkF (kk + 4) (kk + 5) L := hL ▸ later_fine 0 2 (by omega) (by omega) (kk + 4) (by omega)
  have a1 := hA.append fE (by omega) (by omega)
  have a2 := a1.append fP (by omega) (by omega)
  have a3 := a2.append fV (by omega) (by omega)
  have a4 := a3.append fL (by omega) (by omega)
  have i1 : InRow code A.length E := by
    have := inRow_of (C := P ++ (V ++ (L ++ R))) hA fE
    rw [hc]
    simpa only [List.append_assoc] using this
  have i2 : InRow code (A ++ E).length P := by
    have := inRow_of (C := V ++ (L ++ R)) a1 fP
    rw [hc]
    simpa only [List.append_assoc] using this
  have i3 : InRow code (A ++ E ++ P).length V := by
    have := inRow_of (C := L ++ R) a2 fV
    rw [hc]
    simpa only [List.append_assoc] using this
  have i4 : InRow code (A ++ E ++ P ++ V).length L := by
    have := inRow_of (C := R) a3 fL
    rw [hc]
    simpa only [List.append_assoc] using this
  have hlen4 : (A ++ (E ++ P ++ V ++ L)).length = (A ++ E ++ P ++ V).length + 7 := by
    have : L.length = 7 := by rw [hL]; rfl
    simp only [List.length_append, this]; omega
  refine ⟨by simpa only [List.append_assoc] using a4, ?_⟩
  obtain ⟨y0, y1, y2, H1⟩ := enter_run h1 h4 (hE ▸ i1) H (by omega)
  have H1' : At code m0 (A ++ E).length (z4 f (stE f st) true y0 y1 y2 r3 r4 5 v hr mk) (K + 30) := by
    rw [List.length_append, hE]; exact H1
  have hpq : labN (kk + 3) ≠ labN (kk + 2) ++ [46, 97] ∧ labN (kk + 3) ≠ labN (kk + 2) ++ [46, 98] := by
    have hno := (labN_facts (kk + 3) (by omega)).1
    exact ⟨fun e => hno (by rw [e]; simp), fun e => hno (by rw [e]; simp)⟩
  have hst : stE f st ≤ st + 1 := by unfold stE; split <;> omega
  have hlP : (A ++ E ++ P).length = (A ++ E).length + 14 := by rw [List.length_append, hP]; rfl
  cases pl with
  | nil =>
    have H2 := pop_run0 (hP ▸ i2) hpq h5 hp H1' (by omega)
    have H2' : At code m0 (A ++ E ++ P).length (z4 f (stE f st) true 0 y1 y2 0 r4 5 v hr mk) (K + 30 + 7) := by rw [hlP]; exact H2
    obtain ⟨u0, u1, u2, H3⟩ := leave_run h1 h4 (hV ▸ i3) (fun e => by unfold stE; rw [if_pos e]) H2' (by omega)
    have H3' : At code m0 (A ++ E ++ P ++ V).length (z4 f (stE f st) false u0 u1 u2 0 r4 5 v hr mk) (K + 30 + 7 + 30) := by
      rw [List.length_append, hV]; exact H3
    have H4 := later_run0 2 (hL ▸ i4) H3' (by omega)
    refine ⟨stE f st, rt, hst, by omega, 0, v, hr, ⟨u0, u1, u2, r4, ?_⟩, v51, h3, h5, hp, hrt, hnd, hne, l, hl, hlN⟩
    rw [hlen4]
    show At code m0 _ (z4 f (stE f st) false _ _ _ 0 _ 5 v hr (mk ++ [])) _
    rw [List.append_nil]
    exact H4.mono (by omega) hK
  | cons y pl =>
    obtain ⟨x, u⟩ := y
    obtain ⟨p1, p2, p3⟩ := hp
    simp only at p1 p2 p3
    obtain ⟨q0, q1, q2, q3, q5, qh⟩ := hne x (by simp)
    have H2 := pop_run (hP ▸ i2) h5 p1 q0 q1 q2 q5 qh p2 hm H1' (by omega)
    have H2' : At code m0 (A ++ E ++ P).length (z4 f (stE f st) true u x (v x 1) x r4 5 (upv v 5 0 (v x 1)) hr (mk ++ [u])) (K + 30 + 13) := by rw [hlP]; exact H2
    obtain ⟨u0, u1, u2, H3⟩ := leave_run h1 h4 (hV ▸ i3) (fun e => by unfold stE; rw [if_pos e]) H2' (by omega)
    have H3' : At code m0 (A ++ E ++ P ++ V).length (z4 f (stE f st) false u0 u1 u2 x r4 5 (upv v 5 0 (v x 1)) hr (mk ++ [u])) (K + 30 + 13 + 30) := by
      rw [List.length_append, hV]; exact H3
    have H4 := later_run 2 (hL ▸ i4) (by decide) (by decide) h5 (show upv v 5 0 (v x 1) 5 1 = 3 by rw [upv_nw (by decide)]; exact v51) (by decide) (by decide) h3 q0 q1 q2 qh H3' (by omega)
    have e30 : upv v 5 0 (v x 1) 3 0 = v 3 0 := upv_ne (by decide) _ _ _
    rw [e30] at H4
    have hnd' : x ∉ pl.map (·.1) ++ rt ∧ (pl.map (·.1) ++ rt).Nodup := by
      rw [List.map_cons, List.cons_append, List.nodup_cons] at hnd; exact hnd
    have hkeep : ∀ y w, y ≠ x → y ≠ 5 → y ≠ 3 → upv (upv (upv v 5 0 (v x 1)) x 2 (v 3 0)) 3 0 x y w = v y w := fun y w e1 e2 e3 => by
      rw [upv_ne e3, upv_ne e1, upv_ne e2]
    have hin : ∀ y ∈ pl.map (·.1) ++ rt, y ≠ x ∧ y ≠ 5 ∧ y ≠ 3 := fun y hy => by
      have := hne y (by rw [List.map_cons, List.cons_append]; exact List.mem_cons_of_mem _ hy)
      exact ⟨fun e => hnd'.1 (e ▸ hy), this.2.2.2.2.1, this.2.2.2.1⟩
    refine ⟨stE f st, x :: rt, hst, by simp, 0, upv (upv (upv v 5 0 (v x 1)) x 2 (v 3 0)) 3 0 x, hr, ⟨v 3 0, u1, 3, r4, ?_⟩, ?_, h3, h5, ?_, ⟨upv_same _ _ _, ?_⟩, ?_, fun y hy => ?_, l, hl, hlN⟩
    · rw [hlen4]; exact H4.mono (by omega) hK
    · rw [upv_ne (by decide), upv_ne (fun e => q5 e.symm), upv_nw (by decide)]; exact v51
    · show Pile _ _ pl
      rw [upv_ne (by decide), upv_ne (fun e => q5 e.symm), upv_same]
      exact p3.keep fun y hy => by
        obtain ⟨b1, b2, b3⟩ := hin y (List.mem_append_left _ hy)
        exact ⟨hkeep y 0 b1 b2 b3, hkeep y 1 b1 b2 b3⟩
    · rw [upv_ne q3, upv_same]
      exact hrt.keep fun y hy => by
        obtain ⟨b1, b2, b3⟩ := hin y (List.mem_append_right _ hy)
        exact hkeep y 2 b1 b2 b3
    · show (pl.map (·.1) ++ x :: rt).Nodup
      exact (List.perm_middle.nodup_iff).2 (List.nodup_cons.2 hnd')
    · have hy' : y ∈ pl.map (·.1) ++ x :: rt := hy
      refine hne y ?_
      rw [List.map_cons, List.cons_append]
      exact (List.perm_middle.mem_iff).1 hy'
theorem sk_flush {kk : Nat} {pl : List (Int × Int)} {rt : List Int} (h1 : 1 ≤ f) (h4 : f ≤ 4) (hs : st < 100000) (hA : BlkF 0 kk A) (hc : code = A ++ (sblk f 0 kk .flush ++ R)) (hk : kk + 10 < 128) (H : SX code m0 f st A.length K pl rt mk N) (hr25 : rt.length ≤ 25) (hK : K + 250 ≤ 1000000) :
    BlkF 0 (kk + 3) (A ++ sblk f 0 kk .flush) ∧ ∃ st', st' ≤ st + 1 ∧ SX code m0 f st' (A ++ sblk f 0 kk .flush).length (K + 250) pl [] mk N := by
  obtain ⟨r3, v, hr, ⟨r0, r1, r2, r4, H⟩, v51, h3, h5, hp, hrt, hnd, hne, l, hl, hlN⟩ := H
  obtain ⟨E, hE⟩ : ∃ E, E = part f kk 4 := ⟨_, rfl⟩
  obtain ⟨L, hL⟩ : ∃ L, L = flushTail (labN (kk + 2)) (labN (kk + 3)) 0 2 := ⟨_, rfl⟩
  have hcode : sblk f 0 kk .flush = E ++ L := by rw [hL, hE]; rfl
  rw [hcode] at hc ⊢
  have fE : BlkF kk (kk + 1) E := hE ▸ part_fine h1 h4 (by decide) kk (by omega)
  have fL : BlkF (kk + 1) (kk + 3) L := hL ▸ flush_fine 0 2 (by omega) (by omega) (kk + 1) (by omega)
  have a1 := hA.append fE (by omega) (by omega)
  have a2 := a1.append fL (by omega) (by omega)
  have i1 : InRow code A.length E := by
    have := inRow_of (C := L ++ R) hA fE
    rw [hc]
    simpa only [List.append_assoc] using this
  have i2 : InRow code (A ++ E).length L := by
    have := inRow_of (C := R) a1 fL
    rw [hc]
    simpa only [List.append_assoc] using this
  refine ⟨by simpa only [List.append_assoc] using a2, ?_⟩
  obtain ⟨y0, y1, y2, H1⟩ := wait_run h1 h4 hs (hE ▸ i1) H (by omega)
  have H1' : At code m0 (A ++ E).length (z4 f (stW f st) false y0 y1 y2 r3 r4 5 v hr mk) (K + 50) := by
    rw [List.length_append, hE]; exact H1
  have hnq : labN (kk + 2) ≠ labN (kk + 3) := fun e => by have := labN_lab.1 _ _ e; omega
  have hrun : S.evn L 1 (z4 f (stW f st) false y0 y1 y2 r3 r4 5 v hr mk) = some ⟨1, [y0, y1, 3, r3, r4, 5, 1, 2], ⟨oF f (stW f st) false, hF f (stW f st), v⟩, hr, mk⟩ := by
    rw [hL]
    exact evn_step (e_load rfl (x := 5) (u := 3) rfl (here_of (by decide) (by decide) h5) (by rw [get_v (by decide) (by decide)]; exact v51)) rfl
  have H2 := At.run i2 1 H1' hrun (by omega)
  obtain ⟨r1', v', hr', k1, k2, k3, k4, k5⟩ := flush_loop (hL ▸ i2) hnq r4 _ _ mk r3 rt hrt (List.nodup_append.1 hnd).2.1 h3 (fun x hx => by
    obtain ⟨q0, q1, q2, q3, q5, qh⟩ := hne x (List.mem_append_right _ hx)
    exact ⟨q0, q1, q2, q3, qh⟩) H2 (by omega)
  have hn5 : (5 : Int) ∉ rt := fun hx => (hne 5 (List.mem_append_right _ hx)).2.2.2.2.1 rfl
  have hn3 : (3 : Int) ∉ rt := fun hx => (hne 3 (List.mem_append_right _ hx)).2.2.2.1 rfl
  have hdis : ∀ x ∈ pl.map (·.1), x ∉ rt := fun x hx hx2 => (List.nodup_append.1 hnd).2.2 x hx x hx2 rfl
  have hkp : ∀ x ∈ pl.map (·.1), ∀ w, v' x w = v x w := fun x hx w => k3 x w (hdis x hx) (.inl (hne x (List.mem_append_left _ hx)).2.2.2.1)
  refine ⟨stW f st, by unfold stW; split <;> omega, r3, v', hr', ⟨0, r1', 3, r4, ?_⟩, ?_, ?_, ?_, ?_, k2, ?_, fun y hy => ?_, l, fun y hy => hl y (k4 y hy), hlN⟩
  · have : (A ++ (E ++ L)).length = (A ++ E).length + 9 := by
      have : L.length = 9 := by rw [hL]; rfl
      simp only [List.length_append, this]; omega
    rw [this]
    exact k1.mono (by omega) hK
  · rw [k3 5 1 hn5 (.inl (by decide))]; exact v51
  · rw [k5 3 hn3]; exact h3
  · rw [k5 5 hn5]; exact h5
  · rw [k3 5 0 hn5 (.inl (by decide))]
    exact hp.keep fun y hy => ⟨hkp y hy 0, hkp y hy 1⟩
  · rw [List.append_nil]; exact (List.nodup_append.1 hnd).1
  · rw [List.append_nil] at hy
    obtain ⟨q0, q1, q2, q3, q5, qh⟩ := hne y (List.mem_append_left _ hy)
    exact ⟨q0, q1, q2, q3, q5, by rw [k5 y (hdis y hy)]; exact qh⟩
/-- What the pops of a row give. -/
def wantS : List SOp → List Int → List Int
  | [], _ => []
  | .push n :: l, p => wantS l (n :: p)
  | .pop :: l, [] => wantS l []
  | .pop :: l, u :: p => u :: wantS l p
  | .flush :: l, p => wantS l p
theorem wantS_pop (l : List SOp) (pl : List (Int × Int)) : wantS (.pop :: l) (pl.map (·.2)) = popV pl ++ wantS l (pl.tail.map (·.2)) := by
  cases pl <;> rfl
theorem popV_len (pl : List (Int × Int)) : (popV pl).length ≤ 1 := by cases pl <;> simp [popV]
theorem sk_run (h1 : 1 ≤ f) (h4 : f ≤ 4) : ∀ (ops : List SOp) {A : List Instr} {kk K st N : Nat} {mk : List Int} {pl : List (Int × Int)} {rt : List Int}, (∀ n, SOp.push n ∈ ops → 1 ≤ n ∧ n ≤ 1000) → BlkF 0 kk A → code = A ++ (sopsCode f 0 kk ops ++ R) → kk + 5 * ops.length + 10 < 128 → SX code m0 f st A.length K pl rt mk N → K + 250 * ops.length ≤ 1000000 → mk.length + ops.length < 500 → N + ops.length < 60 → rt.length + ops.length ≤ 25 → st + ops.length < 100000 →
    ∃ A' st' pl' rt', code = A' ++ R ∧ BlkF 0 (kk + slabs ops) A' ∧ SX code m0 f st' A'.length (K + 250 * ops.length) pl' rt' (mk ++ wantS ops (pl.map (·.2))) (N + ops.length)
  | [], A, kk, K, st, N, mk, pl, rt, hp, hA, hc, hk, H, hK, hm, hN, hr, hs => ⟨A, st, pl, rt, by simpa [sopsCode] using hc, by simpa [slabs] using hA, by simpa [wantS] using H⟩
  | x :: ops, A, kk, K, st, N, mk, pl, rt, hp, hA, hc, hk, H, hK, hm, hN, hr, hs => by
    simp only [List.length_cons] at hk hK hm hN hr hs
    rw [sopsCode, List.append_assoc] at hc
    have hK0 : 250 ≤ 250 * (ops.length + 1) := Nat.le_mul_of_pos_right 250 (Nat.succ_pos _)
    have hK1 : K + 250 ≤ 1000000 := Nat.le_trans (Nat.add_le_add_left hK0 K) hK
    have hK2 : K + 13 ≤ 1000000 := by omega
    have hK3 : K + 100 ≤ 1000000 := by omega
    obtain ⟨b1, st', pl', rt', mk', hst, hrt, hw, hml, b2⟩ : BlkF 0 (kk + sinc x) (A ++ sblk f 0 kk x) ∧ ∃ st' pl' rt' mk', st' ≤ st + 1 ∧ rt'.length ≤ rt.length + 1 ∧ mk ++ wantS (x :: ops) (pl.map (·.2)) = mk' ++ wantS ops (pl'.map (·.2)) ∧ mk'.length ≤ mk.length + 1 ∧ SX code m0 f st' (A ++ sblk f 0 kk x).length (K + 250) pl' rt' mk' (N + 1) := by
      cases x with
      | push n =>
        obtain ⟨c1, y, c2⟩ := sk_push (hp n (by simp)) hA hc (by omega) H hK2 (by omega)
        obtain ⟨r3, v, hr, ⟨r0, r1, r2, r4, H2⟩, q1, q2, q3, q4, q5, q6, q7, q8⟩ := c2
        exact ⟨c1, st, (y, n) :: pl, rt, mk, by omega, by omega, rfl, by omega, r3, v, hr, ⟨r0, r1, r2, r4, H2.mono (Nat.add_le_add_left (by decide) K) hK1⟩, q1, q2, q3, q4, q5, q6, q7, q8⟩
      | pop =>
        obtain ⟨c1, st', rt', c2, c3, c4⟩ := sk_pop h1 h4 hA hc (by omega) H hK3 (by omega)
        obtain ⟨r3, v, hr, ⟨r0, r1, r2, r4, H2⟩, q1, q2, q3, q4, q5, q6, q7, l, q8, q9⟩ := c4
        refine ⟨c1, st', pl.tail, rt', mk ++ popV pl, c2, c3, by rw [wantS_pop, List.append_assoc], ?_, r3, v, hr, ⟨r0, r1, r2, r4, H2.mono (Nat.add_le_add_left (by decide) K) hK1⟩, q1, q2, q3, q4, q5, q6, q7, l, q8, by omega⟩
        have := popV_len pl
        rw [List.length_append]; omega
      | flush =>
        obtain ⟨c1, st', c2, c4⟩ := sk_flush h1 h4 (by omega) hA hc (by omega) H (by omega) hK1
        obtain ⟨r3, v, hr, ⟨r0, r1, r2, r4, H2⟩, q1, q2, q3, q4, q5, q6, q7, l, q8, q9⟩ := c4
        exact ⟨c1, st', pl, [], mk, c2, by simp, rfl, by omega, r3, v, hr, ⟨r0, r1, r2, r4, H2⟩, q1, q2, q3, q4, q5, q6, q7, l, q8, by omega⟩
    have hsi : sinc x ≤ 5 := by cases x <;> simp [sinc]
    obtain ⟨A', st2, pl2, rt2, d1, d2, d3⟩ := sk_run h1 h4 ops (fun n hn => hp n (List.mem_cons_of_mem _ hn)) b1 (by rw [hc]; simp only [List.append_assoc]) (by omega) b2 (by omega) (by omega) (by omega) (by omega) (by omega)
    refine ⟨A', st2, pl2, rt2, d1, ?_, ?_⟩
    · simp only [slabs]
      rw [← Nat.add_assoc]; exact d2
    · simp only [List.length_cons]
      rw [hw, show K + 250 * (ops.length + 1) = K + 250 + 250 * ops.length by omega, show N + (ops.length + 1) = N + 1 + ops.length by omega]
      exact d3
end Qo
end
/- StackAlone: the pile and what is wanted, as its last loop makes them. -/
section
namespace Go.Proofs.YtppihkneeolomaaDoor
open Go.RowKit Qs Qh Qc Qo
/-- The pile (its bottom first), what is wanted. -/
def stp (s : List Int × List Int) : SOp → List Int × List Int
  | .push n => (s.1 ++ [n], s.2)
  | .pop => if s.1 = [] then s else (s.1.dropLast, s.2 ++ [s.1.getLastD 0])
  | .flush => s
theorem stp_want : ∀ (ops : List SOp) (p q : List Int), (ops.foldl stp (p, q)).2 = q ++ wantS ops p.reverse
  | [], p, q => by simp [wantS]
  | .push n :: l, p, q => by
    show (l.foldl stp (p ++ [n], q)).2 = _
    rw [stp_want l]; simp [wantS]
  | .pop :: l, p, q => by
    by_cases e : p = []
    · subst e
      show (l.foldl stp ([], q)).2 = _
      rw [stp_want l]; simp [wantS]
    · obtain ⟨u, r, hr⟩ : ∃ u r, p.reverse = u :: r := by
        cases h : p.reverse with
        | nil => exact absurd (by simpa using h) e
        | cons u r => exact ⟨u, r, rfl⟩
      have hp : p = r.reverse ++ [u] := by rw [← List.reverse_reverse p, hr, List.reverse_cons]
      subst hp
      show (l.foldl stp (stp (r.reverse ++ [u], q) .pop)).2 = _
      have : stp (r.reverse ++ [u], q) .pop = (r.reverse, q ++ [u]) := by
        unfold stp
        rw [if_neg e]
        simp
      rw [this, stp_want l, hr]
      simp [wantS]
  | .flush :: l, p, q => by
    show (l.foldl stp (p, q)).2 = _
    rw [stp_want l]; simp [wantS]
def stpN (ops : List SOp) (k : Nat) : List Int × List Int := (ops.take k).foldl stp ([], [])
theorem stpN_succ {ops : List SOp} {k : Nat} {x : SOp} (h : ops[k]? = some x) : stpN ops (k + 1) = stp (stpN ops k) x := by
  unfold stpN
  rw [List.take_add_one, h, List.foldl_append]; rfl
theorem stp_len (s : List Int × List Int) (x : SOp) : (stp s x).1.length ≤ s.1.length + 1 ∧ (stp s x).2.length ≤ s.2.length + 1 := by
  cases x with
  | push n => simp [stp]
  | pop =>
    show (if s.1 = [] then s else (s.1.dropLast, s.2 ++ [s.1.getLastD 0])).1.length ≤ _ ∧ (if s.1 = [] then s else (s.1.dropLast, s.2 ++ [s.1.getLastD 0])).2.length ≤ _
    by_cases e : s.1 = []
    · rw [if_pos e]; omega
    · rw [if_neg e]; simp; omega
  | flush => show s.1.length ≤ _ ∧ s.2.length ≤ _; omega
theorem stpN_len (ops : List SOp) : ∀ k, (stpN ops k).1.length ≤ k ∧ (stpN ops k).2.length ≤ k
  | 0 => by simp [stpN]
  | k + 1 => by
    have ih := stpN_len ops k
    cases h : ops[k]? with
    | none =>
      have : stpN ops (k + 1) = stpN ops k := by
        unfold stpN; rw [List.take_add_one, h]; simp
      rw [this]; omega
    | some x =>
      rw [stpN_succ h]
      have := stp_len (stpN ops k) x
      omega
theorem stpN_end (ops : List SOp) : (stpN ops ops.length).2 = wantS ops [] := by
  unfold stpN; rw [List.take_length, stp_want]; simp
/-- A list one shorter. -/
theorem IOwn.pop {w : World} {va : Option Addr} {n c : Nat} {z : List Int} {u : Int} (h : IOwn w (.slice va n c) (z ++ [u])) : n = z.length + 1 ∧ n ≤ c ∧ c ≤ maxLen ∧ IOwn w (.slice va z.length c) z ∧ ∃ b, va = some ⟨b, 0, none⟩ ∧ w.cell? ⟨b, z.length, none⟩ = some (.int .i64 u) := by
  have hi := h.ints
  obtain ⟨a', c', e, -, hx⟩ := hi.at_
  cases e
  rcases h.2 with ⟨e, h0⟩ | ⟨g, cap, cur, e, h0, hg, h1, h2, h3, h4⟩
  · simp at h0
  · cases e
    have hl : (z ++ [u]).length = z.length + 1 := by simp
    rw [hl] at h1 h4
    obtain ⟨b, off, e2, hb, hc⟩ := hx z.length u (by simp)
    cases e2
    refine ⟨hl, by rw [hl]; exact h1, h2, ⟨by simp, .inr ⟨g, c, cur, rfl, h0, hg, by omega, h2, h3, ?_⟩⟩, g, rfl, by rw [Nat.zero_add] at hc; exact hc⟩
    have := congrArg (List.take (z.length * 1)) h4
    rw [List.take_take, show min (z.length * 1) ((z.length + 1) * 1) = z.length * 1 by omega, List.map_append, List.take_append_of_le_length (by simp)] at this
    rw [this]
    exact List.take_of_length_le (by simp)
/-- A list in one list, made in memory. -/
theorem rin_one2 {w : World} {u : Value} {l : List ROp} {b : Nat} {T : TypeId} (hb : w.heap[b]? = some (.cells #[u] T (0, 0))) (hr : RRow w.heap.size w u l) : RIn w.heap.size w (.slice (some ⟨b, 0, none⟩) 1 1) [l] :=
  ⟨_, 1, rfl, fun i l' hi => by
    match i, hi with
    | 0, hi =>
      cases hi
      exact ⟨b, 0, u, rfl, lt_of_block hb, by rw [cell_of_heap hb]; rfl, hr⟩
    | i + 1, hi => simp at hi⟩
end Go.Proofs.YtppihkneeolomaaDoor
end
/- stack.Build: what it makes, in plain. -/
section
namespace Qc
open Qs Qu Go.Proofs.YtppihkneeolomaaDoor
def gRegS (n t : Nat) : List Int := [0, 0, 0, 0, 0, (n : Int) + 4, (t : Int) + 1, (n : Int) + 1]
def sInit (f n : Nat) : List (List Int) := rowsF (gOwnC f) n ++ [gHubC f n] ++ [[]] ++ [[]] ++ [[0, (n : Int) + 2, (n : Int) + 3]]
def sRegs (n : Nat) : List (List Int) := rowsF (gRegS n) n
def sCs (f : Nat) (q : List (List SOp)) (t : Nat) : List Instr := scode f t (q.getD t [])
def sCodes (f : Nat) (q : List (List SOp)) : List (List Instr) := (List.range q.length).map (sCs f q)
theorem gRegS_step (n t : Nat) : (gReg2 n t).set 5 ((n : Int) + 4) = gRegS n t := rfl
theorem sInit_len (f n : Nat) : (sInit f n).length = n + 4 := by simp [sInit, rowsF_len]
theorem sInit_all (f n : Nat) : ∀ l ∈ sInit f n, l.length ≤ 4 := fun l hl => by
  simp only [sInit, List.mem_append, List.mem_singleton] at hl
  rcases hl with (((h | h) | h) | h) | h
  · obtain ⟨i, -, rfl⟩ := List.mem_map.1 h
    simp [gOwnC]
  all_goals subst h; simp [gHubC]
theorem sInit_rows (f n : Nat) : ∀ l ∈ sInit f n, l.length ≤ 100 := fun l hl => Nat.le_trans (sInit_all f n l hl) (by decide)
theorem sRegs_len (n : Nat) : (sRegs n).length = n := rowsF_len
theorem sCodes_len (f : Nat) (q : List (List SOp)) : (sCodes f q).length = q.length := by simp [sCodes]
theorem sCs_get {f t : Nat} {q : List (List SOp)} {l : List SOp} (h : q[t]? = some l) : sCs f q t = scode f t l := by unfold sCs; rw [List.getD_eq_getElem?_getD, h]; rfl
end Qc
end
/- A stack's machine at the beginning. -/
section
namespace Go.Proofs.YtppihkneeolomaaDoor
open Qs Qh Qg Qu Qc
variable {f : Nat} {q : List (List SOp)}
def sM (f : Nat) (q : List (List SOp)) : M := startM 64 (sInit f q.length) (sRegs q.length) (sCodes f q)
theorem s_cell {i : Nat} (hi : i < 64) : (sM f q).cells[i]? = some (if i < q.length + 4 then ⟨pad 4 ((sInit f q.length).getD i []), 1, true⟩ else ⟨[0, 0, 0, 0], 0, false⟩) := by
  unfold sM startM
  simp only
  rw [List.getElem?_map, List.getElem?_range hi, sInit_len]
  rfl
theorem s_len : (sM f q).cells.length = 64 := by simp [sM, startM]
theorem s_T (t : Nat) (ht : t < q.length) : (sM f q).T[t]? = some ⟨scode f t (q.getD t []), gRegS q.length t, 0⟩ := by
  unfold sM startM sCodes
  simp only
  rw [List.getElem?_mapIdx, List.getElem?_map, List.getElem?_range ht]
  unfold sRegs
  simp only [Option.map_some]
  rw [List.getD_eq_getElem?_getD, rowsF_get ht]
  rfl
theorem s_Tlen : (sM f q).T.length = q.length := by simp [sM, startM, sCodes]
theorem s_thr {t : Nat} (ht : t < q.length) : (sM f q).thr t = ⟨scode f t (q.getD t []), gRegS q.length t, 0⟩ := by
  unfold M.thr
  rw [List.getD_eq_getElem?_getD, s_T t ht]; rfl
theorem s_wait (t : Nat) : (sM f q).waitsOf t = [] := by
  unfold M.waitsOf sM startM
  simp only [List.getD, List.getElem?_replicate]
  split <;> rfl
theorem s_here (h6 : q.length ≤ 6) (x : Int) : (absM (sM f q)).here x = true ↔ 1 ≤ x ∧ x ≤ q.length + 4 := by
  rw [abs_here]
  constructor
  · rintro ⟨a, b, y, c, d, e⟩
    have hlt := (List.getElem?_eq_some_iff.1 c).1
    rw [s_len] at hlt
    rw [s_cell hlt] at c
    by_cases h : celOf x < q.length + 4
    · rw [if_pos h] at c
      cases c
      simp only at e
      unfold celOf at h
      omega
    · rw [if_neg h] at c
      cases c
      cases d
  · intro h
    have hc : celOf x = (x - 1).toNat := by unfold celOf; omega
    refine ⟨by omega, by omega, ⟨pad 4 ((sInit f q.length).getD (celOf x) []), 1, true⟩, ?_, rfl, by simp only; omega⟩
    rw [s_cell (by omega), if_pos (by omega)]
theorem s_val (h6 : q.length ≤ 6) {i : Nat} (hi : i < q.length + 4) (w : Nat) : (absM (sM f q)).val ((i : Int) + 1) w = (pad 4 ((sInit f q.length).getD i [])).getD w 0 := by
  rw [abs_val ((s_here h6 _).2 (by omega))]
  unfold getWord
  have hc : celOf ((i : Int) + 1) = i := by unfold celOf; omega
  rw [hc, s_cell (by omega), if_pos hi]
  rfl
theorem s_fine (h1 : 1 ≤ f) (h4 : f ≤ 4) (h6 : q.length ≤ 6) (h20 : ∀ l ∈ q, l.length ≤ 20) (hp : ∀ l ∈ q, ∀ n, SOp.push n ∈ l → 1 ≤ n ∧ n ≤ 1000) : ∀ c ∈ sCodes f q, CodeFine c := fun c hc => by
  obtain ⟨t, ht, rfl⟩ := List.mem_map.1 hc
  have htl := List.mem_range.1 ht
  unfold sCs
  have hm : q.getD t [] ∈ q := by rw [List.getD_eq_getElem?_getD, List.getElem?_eq_getElem htl]; exact List.getElem_mem htl
  exact scode_fine h1 h4 t (by omega) (h20 _ hm) (hp _ hm)
theorem sInit_fine (f n : Nat) (hn : n ≤ 6) : RowsFine 4 (sInit f n) := fun l hl => by
  refine ⟨sInit_all f n l hl, fun x hx => ?_⟩
  simp only [sInit, List.mem_append, List.mem_singleton] at hl
  rcases hl with (((h | h) | h) | h) | h
  · obtain ⟨i, hi, rfl⟩ := List.mem_map.1 h
    have := List.mem_range.1 hi
    simp only [gOwnC, List.mem_cons, List.not_mem_nil, or_false] at hx
    unfold isWord W32
    simp only [Bool.and_eq_true, decide_eq_true_eq]
    rcases hx with rfl | rfl | rfl | rfl
    · split <;> omega
    · split <;> omega
    · omega
    · omega
  all_goals
    subst h
    simp only [gHubC, List.mem_cons, List.not_mem_nil, or_false] at hx
    try unfold isWord W32
    try simp only [Bool.and_eq_true, decide_eq_true_eq]
  · rcases hx with rfl | rfl | rfl | rfl
    · omega
    · omega
    · split <;> omega
    · omega
  · rcases hx with rfl | rfl | rfl <;> omega
theorem sRegs_fine (n : Nat) (hn : n ≤ 6) : RowsFine 8 (sRegs n) := fun l hl => by
  obtain ⟨t, ht, rfl⟩ := List.mem_map.1 hl
  have htl := List.mem_range.1 ht
  refine ⟨Nat.le_refl 8, fun x hx => ?_⟩
  simp only [gRegS, List.mem_cons, List.not_mem_nil, or_false] at hx
  unfold isWord W32
  simp only [Bool.and_eq_true, decide_eq_true_eq]
  rcases hx with rfl | rfl | rfl | rfl | rfl | rfl | rfl | rfl <;> omega
end Go.Proofs.YtppihkneeolomaaDoor
end
/- One thread alone: a stack's machine comes to its end. -/
section
namespace Qo
open Qs Qg Qu Qc Qh Go.Proofs.YtppihkneeolomaaDoor
variable {f : Nat} {l : List SOp}
theorem sk_at (h1 : 1 ≤ f) (h4 : f ≤ 4) (l : List SOp) : At (scode f 0 l) (sM f [l]) 0 ⟨0, [0, 0, 0, 0, 0, 5, 1, 2], ⟨oF f 0 false, hF f 0, (absM (sM f [l])).val⟩, (absM (sM f [l])).here, []⟩ 0 := by
  have hq6 : [l].length ≤ 6 := by simp
  have hthr := s_thr (f := f) (q := [l]) (t := 0) (by simp)
  have hcell : ∀ c ∈ (sM f [l]).cells, ∃ i, i < 64 ∧ c = (if i < 5 then ⟨pad 4 ((sInit f 1).getD i []), 1, true⟩ else ⟨[0, 0, 0, 0], 0, false⟩) := fun c hc => by
    obtain ⟨i, hi⟩ := List.getElem?_of_mem hc
    have hlt : i < 64 := by have := (List.getElem?_eq_some_iff.1 hi).1; rw [s_len] at this; exact this
    rw [s_cell hlt] at hi
    exact ⟨i, hlt, (Option.some.inj hi).symm⟩
  have hh : ∀ x, (absM (sM f [l])).here x = true ↔ 1 ≤ x ∧ x ≤ 5 := fun x => by
    have := s_here (f := f) (q := [l]) hq6 x
    simpa using this
  refine At.start ⟨by rw [s_Tlen]; rfl, by simp [sM, startM, sCodes], fun t ht => ?_, fun t ht => ?_, fun c hc => ?_, by rw [s_len]; decide, fun t x hx => by rw [s_wait] at hx; cases hx⟩ rfl (fun v hv => ?_) (fun c hc hh => ?_) s_len ?_ ((hh 1).2 (by omega)) ((hh 2).2 (by omega)) ?_ ?_ (fun w => ?_) (fun w => ?_) (by rw [hthr]; rfl) (by rw [hthr]) rfl
  · obtain rfl : t = 0 := by omega
    rw [hthr]; rfl
  · obtain rfl : t = 0 := by omega
    rw [hthr]; rfl
  · obtain ⟨i, hi, rfl⟩ := hcell c hc
    by_cases h : i < 5
    · rw [if_pos h]
      show (pad 4 ((sInit f 1).getD i [])).length = 4
      have hle : ((sInit f 1).getD i []).length ≤ 4 := by
        have hr := sInit_fine f 1 (by omega)
        rw [List.getD_eq_getElem?_getD]
        cases e : (sInit f 1)[i]? with
        | none => simp
        | some y => exact (hr y (List.mem_of_getElem? e)).1
      rw [List.getD_eq_getElem?_getD] at hle
      simp [pad]; omega
    · rw [if_neg h]; rfl
  · obtain ⟨c, hc, rfl⟩ := List.mem_map.1 hv
    obtain ⟨i, hi, rfl⟩ := hcell c hc
    split <;> simp
  · obtain ⟨i, hi, rfl⟩ := hcell c hc
    split
    · simp
    · rename_i h; rw [if_neg h] at hh; cases hh
  · show ((sM f [l]).waitsOf 0).map enOf = []
    rw [s_wait]; rfl
  · rcases f_cases h1 h4 with rfl | rfl | rfl | rfl <;> rfl
  · rcases f_cases h1 h4 with rfl | rfl | rfl | rfl <;> rfl
  · have := s_val (f := f) (q := [l]) hq6 (i := 0) (by simp) w
    rw [show ((0 : Nat) : Int) + 1 = 1 by rfl] at this
    rw [this]
    congr 1
    rcases f_cases h1 h4 with rfl | rfl | rfl | rfl <;> rfl
  · have := s_val (f := f) (q := [l]) hq6 (i := 1) (by simp) w
    rw [show ((1 : Nat) : Int) + 1 = 2 by rfl] at this
    rw [this]
    congr 1
    rcases f_cases h1 h4 with rfl | rfl | rfl | rfl <;> rfl
theorem sk_law (h1 : 1 ≤ f) (h4 : f ≤ 4) (hl : l.length ≤ 10) (hp : ∀ n, SOp.push n ∈ l → 1 ≤ n ∧ n ≤ 1000) {n : Nat} (hN : 5000 ≤ n) :
    (its n (sM f [l])).done 0 = true ∧ (its n (sM f [l])).faults = 0 ∧ (its n (sM f [l])).marks = (wantS l []).map fun v => ((0 : Int), v) := by
  have H0 := sk_at h1 h4 l
  have hq6 : [l].length ≤ 6 := by simp
  have hh : ∀ x, (absM (sM f [l])).here x = true ↔ 1 ≤ x ∧ x ≤ 5 := fun x => by
    have := s_here (f := f) (q := [l]) hq6 x
    simpa using this
  have hv0 : (absM (sM f [l])).val 5 0 = 0 := by
    have := s_val (f := f) (q := [l]) hq6 (i := 4) (by simp) 0
    rw [show ((4 : Nat) : Int) + 1 = 5 by rfl] at this
    rw [this]; rfl
  have hv1 : (absM (sM f [l])).val 5 1 = 3 := by
    have := s_val (f := f) (q := [l]) hq6 (i := 4) (by simp) 1
    rw [show ((4 : Nat) : Int) + 1 = 5 by rfl] at this
    rw [this]; rfl
  have hv3 : (absM (sM f [l])).val 3 0 = 0 := by
    have := s_val (f := f) (q := [l]) hq6 (i := 2) (by simp) 0
    rw [show ((2 : Nat) : Int) + 1 = 3 by rfl] at this
    rw [this]; rfl
  have hSX : SX (scode f 0 l) (sM f [l]) f 0 ([] : List Instr).length 0 [] [] [] 5 :=
    ⟨0, _, _, ⟨0, 0, 0, 0, H0⟩, hv1, (hh 3).2 (by omega), (hh 5).2 (by omega), hv0, hv3, by simp, fun x hx => by simp at hx, [1, 2, 3, 4, 5], fun x hx => by
      have := (hh x).1 hx
      simp; omega, by decide⟩
  have hcode : scode f 0 l = [] ++ (sopsCode f 0 0 l ++ (part f (slabs l) 3 ++ [⟨20, 0, 0, 0, []⟩])) := by
    unfold scode; simp only [List.nil_append, List.append_assoc]
  have hlab := slabs_le l
  obtain ⟨A', st', pl', rt', c1, c2, c3⟩ := sk_run (R := part f (slabs l) 3 ++ [⟨20, 0, 0, 0, []⟩]) h1 h4 l hp (BlkF.nil 0) hcode (by omega) hSX (by omega) (by simp; omega) (by omega) (by simp; omega) (by omega)
  obtain ⟨r3, v, hr, ⟨r0, r1, r2, r4, H⟩, -⟩ := c3
  rw [Nat.zero_add] at c2
  have fG : BlkF (slabs l) (slabs l + 1) (part f (slabs l) 3) := part_fine h1 h4 (by decide) _ (by omega)
  have iG : InRow (scode f 0 l) A'.length (part f (slabs l) 3) := by
    rw [c1]; exact inRow_of c2 fG
  obtain ⟨s', p1, p2, H2⟩ := gone_run h1 h4 iG H (by omega)
  have hst : (scode f 0 l)[A'.length + (part f (slabs l) 3).length]? = some ⟨20, 0, 0, 0, []⟩ := by
    rw [c1, ← List.append_assoc, List.getElem?_append_right (by simp)]
    simp
  obtain ⟨e1, e2, e3⟩ := H2.stop p1 hst rfl (n := n) (by omega)
  refine ⟨e1, e2, ?_⟩
  rw [e3, p2]; rfl
end Qo
end
/- Lists of any ops, made in memory; quiescentlaw3.opsOf. -/
section
namespace Go.Proofs.YtppihkneeolomaaDoor
open Go.RowKit Qs Qh
variable {N k S : Nat} {w w1 w' : World} {v u cv cv' : Value} {ll : List (List ROp)} {l : List ROp} {cs : Nat → List ROp} {vk : Nat → Value}
/-- The lists made so far. -/
structure Rls (S : Nat) (w : World) (cv : Value) (cs : Nat → List ROp) (k : Nat) (vk : Nat → Value) : Prop where
  own : w.ownsRow 0 59 1 cv k ((List.range k).map vk)
  vin : ∀ g, cv.ownBlock = some g → S ≤ g
  at_ : ∀ i, i < k → RRow w.heap.size w (vk i) (cs i)
  bin : ∀ i g, i < k → (vk i).ownBlock = some g → S ≤ g ∧ g < w.heap.size
  ne : ∀ i g, i < k → (vk i).ownBlock = some g → cv.ownBlock ≠ some g
theorem Rls.nil (S : Nat) (w : World) (cs : Nat → List ROp) (vk : Nat → Value) : Rls S w (.slice none 0 0) cs 0 vk :=
  ⟨World.ownsRow_nil w 0 _ 1, fun g h => (by cases h), fun i h => by omega, fun i g h => by omega, fun i g h => by omega⟩
theorem Rls.keep (C : Rls S w cv cs k vk) {F : Nat → Prop} (hM : Mod F w w1) (hF : ∀ b, S ≤ b → b < w.heap.size → ¬ F b) : Rls S w1 cv cs k vk := by
  refine ⟨⟨C.own.1, ?_⟩, C.vin, fun i hi => ((C.at_ i hi).frame hM fun b hb => hF b (C.bin i b hi hb).1 (C.bin i b hi hb).2).mono hM.size, fun i g hi hg => ⟨(C.bin i g hi hg).1, Nat.lt_of_lt_of_le (C.bin i g hi hg).2 hM.size⟩, C.ne⟩
  rcases C.own.2 with e | ⟨g, cap, cur, rfl, h0, hg, r⟩
  · exact .inl e
  · exact .inr ⟨g, cap, cur, rfl, h0, hM.heap hg (hF _ (C.vin g rfl) (lt_of_block hg)), r⟩
theorem Rls.push (C : Rls S w cv cs k vk) (hS : S ≤ w.heap.size) (hc : RRow w.heap.size w u (cs k)) (hu : ∀ g, u.ownBlock = some g → S ≤ g ∧ g < w.heap.size ∧ cv.ownBlock ≠ some g)
    (hown : w1.ownsRow 0 59 1 cv' (k + 1) ((List.range k).map vk ++ [u])) (hg : w.grownBy w1 cv.ownBlock) (hfr : ∀ g, cv'.ownBlock = some g → cv.ownBlock = some g ∨ w.heap.size ≤ g) :
    Rls S w1 cv' cs (k + 1) (fun i => if i = k then u else vk i) := by
  have hM : Mod (fun x => cv.ownBlock = some x) w w1 := (Mod.refl (fun x => cv.ownBlock = some x) w).grown hg fun j hj _ => hj
  refine ⟨?_, fun g h => ?_, fun i hi => ?_, fun i g hi h => ?_, fun i g hi h e => ?_⟩
  · have : (List.range (k + 1)).map (fun i => if i = k then u else vk i) = (List.range k).map vk ++ [u] := by
      rw [List.range_succ, List.map_append]
      congr 1
      · refine List.map_congr_left fun i hi => ?_
        have := List.mem_range.1 hi
        rw [if_neg (by omega)]
      · simp
    rw [this]; exact hown
  · rcases hfr g h with e | e
    · exact C.vin g e
    · omega
  · by_cases e : i = k
    · subst e
      simp only [if_true]
      exact (hc.frame hM fun b hb e => (hu b hb).2.2 e).mono hM.size
    · rw [if_neg e]
      exact ((C.at_ i (by omega)).frame hM fun b hb e' => C.ne i b (by omega) hb e').mono hM.size
  · have hs := hM.size
    by_cases e : i = k
    · subst e
      simp only [if_true] at h
      have := hu g h; exact ⟨this.1, by omega⟩
    · rw [if_neg e] at h
      have := C.bin i g (by omega) h; exact ⟨this.1, by omega⟩
  · have hlt : g < w.heap.size := by
      by_cases e : i = k
      · subst e
        simp only [if_true] at h
        exact (hu g h).2.1
      · rw [if_neg e] at h
        exact (C.bin i g (by omega) h).2
    rcases hfr g e with e' | e'
    · by_cases e2 : i = k
      · subst e2
        simp only [if_true] at h
        exact (hu g h).2.2 e'
      · rw [if_neg e2] at h
        exact C.ne i g (by omega) h e'
    · omega
theorem Rls.rin (C : Rls S w cv cs k vk) : RIn w.heap.size w cv ((List.range k).map cs) := by
  rcases C.own.2 with ⟨rfl, h0⟩ | ⟨g, cap, cur, rfl, _, hg, h1, h2, h3, h4⟩
  · subst h0
    exact ⟨none, 0, rfl, fun i l h => by simp at h⟩
  · refine ⟨some ⟨g, 0, none⟩, cap, by simp, fun i l h => ?_⟩
    have hlt : i < k := by have := (List.getElem?_eq_some_iff.1 h).1; simpa using this
    have hl : l = cs i := by
      rw [List.getElem?_map, List.getElem?_range hlt] at h
      exact (Option.some.inj h).symm
    subst hl
    refine ⟨g, 0, vk i, rfl, lt_of_block hg, ?_, C.at_ i hlt⟩
    rw [cell_of_heap hg, Nat.zero_add]
    have e : cur[i]? = (cur.toList.take (k * 1))[i]? := by
      rw [List.getElem?_take, if_pos (by omega)]; simp
    rw [e, h4, List.getElem?_map, List.getElem?_range hlt]; rfl
end Go.Proofs.YtppihkneeolomaaDoor
end
/- quiescentlaw3.opsOf: a copy of lists of ops. -/
section
namespace Go.Proofs.YtppihkneeolomaaDoor
open Go.RowKit Qs Qh
theorem opInfoR : (Tryd.prog.info? 63).map (fun i => (i.zero, i.size, i.bytes)) = some (some (.agg #[.string ⟨#[]⟩, .int .i64 0]), 2, 24) := by kernel_rfl
theorem opsInfoR : (Tryd.prog.info? 59).map (fun i => (i.zero, i.size, i.bytes)) = some (some (.slice none 0 0), 1, 24) := by kernel_rfl
variable {N k S : Nat} {w w1 w' : World} {v u cv cv' : Value} {ll : List (List ROp)} {l : List ROp} {cs : Nat → List ROp} {vk : Nat → Value}
/-- Nil slices hold nothing. -/
def NilOk (w : World) (v : Value) : Prop := ∀ b off n m (i : Nat) k c, v = .slice (some ⟨b, off, none⟩) n m → i < n → w.cell? ⟨b, off + i, none⟩ = some (.slice none k c) → c = 0
theorem rV_ones (l : List ROp) : ∀ s, ∀ u ∈ flat rV s l, u.oneCell' = true := by
  induction l with
  | nil => intro s u h; cases h
  | cons x l ih =>
    intro s u h
    simp only [flat, rV, List.mem_append] at h
    rcases h with h | h
    · simp at h; rcases h with rfl | rfl <;> rfl
    · exact ih (s + 1) u h
theorem rV_len (l : List ROp) (s : Nat) : (flat rV s l).length = l.length * 2 := flat_length rV 2 (fun _ _ => rfl) l s
theorem RRow.src {ad : Addr} {n c : Nat} (h : RRow N w (.slice (some ad) n c) l) : ∀ (j : Nat) y, (flat rV 0 l)[j]? = some y → w.cell? (ad.add j) = some y := by
  obtain ⟨a, c', e, hx⟩ := h
  intro j y hj
  have hlt := (List.getElem?_eq_some_iff.1 hj).1
  rw [rV_len] at hlt
  obtain ⟨x, hxi⟩ : ∃ x, l[j / 2]? = some x := ⟨_, List.getElem?_eq_getElem (by omega)⟩
  obtain ⟨b, off, rfl, hb, h0, h1⟩ := hx (j / 2) x hxi
  cases e
  have hgt := flat_get rV 2 (fun _ _ => rfl) (show j % 2 < 2 by omega) l 0 (j / 2) x hxi []
  rw [List.append_nil, show j / 2 * 2 + j % 2 = j by omega, hj] at hgt
  have hadd : (⟨b, off, none⟩ : Addr).add j = ⟨b, off + j, none⟩ := by unfold Addr.add; split <;> simp_all
  rw [hadd]
  rcases (by omega : j % 2 = 0 ∨ j % 2 = 1) with e | e
  · rw [e] at hgt
    have : some y = some (Value.string x.1) := hgt
    rw [this, ← h0, show off + j = off + j / 2 * 2 by omega]
  · rw [e] at hgt
    have : some y = some (Value.int .i64 x.2) := hgt
    rw [this, ← h1, show off + j = off + j / 2 * 2 + 1 by omega]
set_option maxHeartbeats 8000000 in
theorem opsOf_ok (H : RIn N w v ll) (hnil : NilOk w v) (hlen : ll.length ≤ 10) (hrow : ∀ l ∈ ll, l.length ≤ 30) :
    Calls Tryd.prog 11 #[v] w fun e w' => ∃ x, e = .returned x ∧ Mod noF w w' ∧ RIn w'.heap.size w' x ll := by
  have HH := Lib.hid H
  obtain ⟨a, c, rfl, -⟩ := H
  have Hrow := Lib.hid hrow
  have Hnil := Lib.hid hnil
  clear hrow hnil
  obtain ⟨i0, hti, hz0, hz1, hz2⟩ := info_parts opInfoR
  obtain ⟨j0, htj, hy0, hy1, hy2⟩ := info_parts opsInfoR
  go_enter Tryd.func11, Tryd.ntmps11
  go_wp2
  go_loopw [3, 4] (fun x i wr => ∃ (k : Nat) (vk : Nat → Value), k ≤ ll.length ∧ i = .int .i64 k ∧ Mod noF w wr ∧ Rls w.heap.size wr x (fun i => ll.getD i []) k vk) (fun _ i _ => ll.length - (intOf i).toNat)
  case atStart => exact ⟨0, fun _ => .nilIface, Nat.zero_le _, rfl, Mod.refl _ _, Rls.nil _ _ _ _⟩
  case round =>
    obtain ⟨k, vk, hk, rfl, hm, hO⟩ := hrel
    obtain ⟨xa, xb, xc, rfl⟩ := slice_of_own hO.own
    have HO := Lib.hid hO
    have Hm := Lib.hid hm
    clear hO
    by_cases hlt : k < ll.length
    · have hd : decide ((k : Int) < (ll.length : Int)) = true := by simp; omega
      have hki : (k : Int) < (ll.length : Int) := by omega
      obtain ⟨l, hl⟩ : ∃ l, ll[k]? = some l := ⟨_, List.getElem?_eq_getElem hlt⟩
      obtain ⟨a', c', e', hx⟩ := HH.out
      cases e'
      obtain ⟨b, off, u, rfl, hb, hc, hr⟩ := hx k l hl
      have hrl := hr.keep hm (fun _ _ e => e)
      obtain ⟨ua, uc, rfl, -⟩ := hr
      have hc1 := hm.cell hc (fun e => e)
      have hl30 := Hrow.out l (List.mem_of_getElem? hl)
      have hls : ll.getD k [] = l := by rw [List.getD_eq_getElem?_getD, hl]; rfl
      have hsz := hm.size
      have hbnd : k + 1 ≤ maxLen := by unfold maxLen; omega
      have hbnd2 : 0 + l.length ≤ maxLen := by unfold maxLen; omega
      have Hls := Lib.hid hls
      have Hrl := Lib.hid hrl
      have hnl := Hnil.out b off _ _ k l.length uc rfl hlt
      clear hx hls hrl hm
      cases ua with
      | none =>
        obtain rfl := hnl hc
        have hl0 : l = [] := by
          obtain ⟨a2, c2, e2, hx2⟩ := Hrl.out
          cases l with
          | nil => rfl
          | cons y l =>
            obtain ⟨_, _, e3, _⟩ := hx2 0 y rfl
            cases e2; cases e3
        subst hl0
        simp only [List.length_nil] at hc1
        clear hc hnl hl hbnd2 hl30
        go_wp2_with (at_builtin; first | (refine wpList_append_none rfl (.tmp 13) (.tmp 17) 59 rfl 0 63 i0 2 Tryd.underlying59 hti (.slice none 0 0) 0 [] rfl (World.ownsRow_nil _ 0 _ 2) rfl ?_) | (refine wpList_append_mine _ rfl (.tmp 12) (.tmp 19) 22 rfl 59 j0 (.slice none 0 0) 1 24 Tryd.underlying22 htj hy0 hy1 hy2 rfl (by decide) _ k ((List.range k).map vk) rfl (by exact World.ownsRow.alloc HO.out.own _) ⟨wr.heap.size, 0, none⟩ 1 1 [.slice none 0 0] rfl rfl (by exact new_cells_at _ _ _ rfl) (one_row _ rfl) hbnd (by omega) ?_; intro v4 w7 hown hgr hfr _; obtain ⟨va, vb, vc, rfl⟩ := slice_of_own hown; have Hown4 := Lib.hid hown; have Hgr := Lib.hid hgr; have Hfr := Lib.hid hfr; clear hown hgr hfr))
        go_wp2
        go_roundw
        case rel =>
          refine ⟨k + 1, _, by omega, by go_num, ((Hm.out.alloc _).trans ((Mod.refl (fun x => (Value.slice xa xb xc).ownBlock = some x) _).grown Hgr.out fun j hj _ => hj) fun x hx e => ?_), (HO.out.keep ((Mod.refl noF wr).alloc _) fun _ _ _ e => e).push (u := .slice none 0 0) (by simp; omega) (by rw [Hls.out]; exact ⟨none, 0, rfl, fun i x hi => by simp at hi⟩) (fun g hg => by cases hg) Hown4.out Hgr.out Hfr.out⟩
          have := HO.out.vin x e; omega
        case measure => simp [intOf]; omega
      | some ad =>
        clear hc hnl hl
        have hsrc := Hrl.out.src
        have hone := rV_ones l 0
        have hlen2 := rV_len l 0
        have Hsrc := Lib.hid hsrc
        have Hone := Lib.hid hone
        have Hlen2 := Lib.hid hlen2
        clear hsrc hone hlen2
        go_wp2_with (at_builtin; first | (refine wpList_append_mine _ rfl (.tmp 13) (.tmp 17) 59 rfl 63 i0 (.agg #[.string ⟨#[]⟩, .int .i64 0]) 2 24 Tryd.underlying59 hti hz0 hz1 hz2 rfl (by decide) (.slice none 0 0) 0 [] rfl (World.ownsRow_nil _ 0 _ 2) ad l.length uc (flat rV 0 l) rfl Hlen2.out Hsrc.out Hone.out hbnd2 (by omega) ?_; intro v4 w7 hown hgr hfr _; obtain ⟨ya, yb, yc, rfl⟩ := slice_of_own hown; have Hown4 := Lib.hid hown; have Hgr := Lib.hid hgr; have Hfr := Lib.hid hfr; have hm7 : Mod noF wr w7 := (Mod.refl noF wr).trans ((Mod.refl (fun x => (Value.slice none 0 0).ownBlock = some x) wr).grown hgr fun j hj _ => hj) (fun x hx e => by cases e); have HO4 := Lib.hid (HO.out.keep hm7 fun _ _ _ e => e); have Hm7 := Lib.hid hm7; clear hown hgr hfr hm7) | (refine wpList_append_mine _ rfl (.tmp 12) (.tmp 19) 22 rfl 59 j0 (.slice none 0 0) 1 24 Tryd.underlying22 htj hy0 hy1 hy2 rfl (by decide) _ k ((List.range k).map vk) rfl (by exact World.ownsRow.alloc HO4.out.own _) ⟨w7.heap.size, 0, none⟩ 1 1 [.slice ya yb yc] rfl rfl (by exact new_cells_at _ _ _ rfl) (one_row _ rfl) hbnd (by omega) ?_; intro v5 w8 hown hgr hfr _; obtain ⟨za, zb, zc, rfl⟩ := slice_of_own hown; have Hown5 := Lib.hid hown; have Hgr5 := Lib.hid hgr; have Hfr5 := Lib.hid hfr; clear hown hgr hfr))
        have hs7 := Hm7.out.size
        have hrow7 : RRow w7.heap.size w7 (.slice ya yb yc) l := by
          have h := Hown4.out
          rw [List.nil_append, Nat.zero_add] at h
          exact rRow_own h
        have Hrow7 := Lib.hid hrow7
        clear hrow7
        go_wp2
        go_roundw
        case rel =>
          refine ⟨k + 1, _, by omega, by go_num, (((Hm.out.trans0 Hm7.out).alloc _).trans ((Mod.refl (fun x => (Value.slice xa xb xc).ownBlock = some x) _).grown Hgr5.out fun j hj _ => hj) fun x hx e => ?_), (HO4.out.keep ((Mod.refl noF w7).alloc _) fun _ _ _ e => e).push (u := .slice ya yb yc) (by simp; omega) (by rw [Hls.out]; exact (Hrow7.out.frame ((Mod.refl noF w7).alloc _) fun _ _ e => e).mono (by simp)) (fun g hg => ?_) Hown5.out Hgr5.out Hfr5.out⟩
          · have := HO.out.vin x e; omega
          · have h1 : wr.heap.size ≤ g := by
              rcases Hfr.out g hg with e | e
              · cases e
              · exact e
            have h2 := (World.ownsRow.lt Hown4.out g hg).2
            refine ⟨by omega, by simp; omega, fun e => ?_⟩
            have := (World.ownsRow.lt HO.out.own g e).2
            omega
        case measure => simp [intOf]; omega
    · have hd : decide ((k : Int) < (ll.length : Int)) = false := by simp; omega
      obtain rfl : k = ll.length := by omega
      have hfin : (List.range ll.length).map (fun i => ll.getD i []) = ll := by
        refine List.ext_getElem? fun i => ?_
        rw [List.getElem?_map]
        by_cases h : i < ll.length
        · rw [List.getElem?_range h, List.getElem?_eq_getElem h]; simp [h]
        · rw [List.getElem?_eq_none (by simpa using h), List.getElem?_eq_none (by omega)]; rfl
      have hR := HO.out.rin
      rw [hfin] at hR
      have HR := Lib.hid hR
      clear hR hfin hm
      go_wp2
      go_ret
      exact ⟨_, rfl, Hm.out, HR.out⟩
end Go.Proofs.YtppihkneeolomaaDoor
end
/- Stacks' laws: what they share. -/
section
namespace Go.Proofs.YtppihkneeolomaaDoor
open Go.RowKit Qs Qh Qc
variable {N : Nat} {w w' : World} {v u : Value} {ll : List (List ROp)} {a : Nat → Addr} {f : Int}
theorem piled_ok (w : World) : Calls Tryd.prog 24 #[] w fun e w' => e = .returned (.bool true) ∧ Mod noF w w' := by
  go_enter Tryd.func24, Tryd.ntmps24
  go_wp2_with fail
  refine (push_ok ⟨#[97]⟩ _ (by decide) (by decide)).mono ?_
  rintro e w1 ⟨va, rfl, hma⟩
  have hq1 := Mod.below hma.2.1
  obtain ⟨a1, c1, rfl, -, -⟩ := hma.1.slice
  have d1 : decide ((0 : Int) < ((pushCode [97]).length : Int)) = true := rfl
  have Hq1 := Lib.hid hq1
  clear hma hq1
  go_wp2_with fail
  refine (pop_ok ⟨#[98]⟩ _ (by decide) (by decide)).mono ?_
  rintro e w2 ⟨va, rfl, hma⟩
  have hq2 := Mod.below hma.2.1
  obtain ⟨a2, c2, rfl, -, -⟩ := hma.1.slice
  have d2 : decide ((0 : Int) < ((popCode [98]).length : Int)) = true := rfl
  have Hq2 := Lib.hid hq2
  clear hma hq2
  go_wp2
  go_ret
  exact ⟨rfl, Hq1.out.trans0 Hq2.out⟩
theorem faultField3 (c a : Int) (w : World) : (Go.Instr.field 27 (.agg #[.int .i64 c, .int .i64 a]) 0).run Tryd.prog w = .ok (.int .i64 c) w := by kernel_rfl
theorem ks2 (w : World) (o : Obj) : KsAt ((w.alloc o).alloc (.cells #[.string kPop, .string kFlsh] 9)) (w.heap.size + 1) [kPop, kFlsh] := fun i x hi => by
  match i, hi with
  | 0, hi => cases hi; simp
  | 1, hi => cases hi; simp
  | i + 2, hi => simp at hi
end Go.Proofs.YtppihkneeolomaaDoor
end
/- What clients may do, in plain: the program's words. -/
section
namespace Go.Proofs.YtppihkneeolomaaDoor
open Go.RowKit Qs Qh
/-- A thread's state: how deep, whether something is retired, waited behind it, whether it is unsafe. -/
structure CSt where
  d : Nat
  r : Bool
  w : Bool
  u : Bool
deriving DecidableEq
def c0 : CSt := ⟨0, false, false, false⟩
end Go.Proofs.YtppihkneeolomaaDoor
end
/- Clients' ops: their code; their names. -/
section
namespace Qc
open Qs Qu Go.Proofs.YtppihkneeolomaaDoor
theorem part_len2 {f j : Nat} (h4 : f ≤ 4) (hj : j < 5) (k : Nat) : (part f k j).length ≤ 70 := by unfold part preC; rw [List.length_map]; exact gcode_len h4 hj
end Qc
namespace Go.Proofs.YtppihkneeolomaaDoor
open Go.RowKit Qs Qh Qc
variable {N0 K tn f : Nat} {big : Prop} {w w1 w2 : World} {b k : Nat} {v v1 v2 : Value} {l : List Instr}
end Go.Proofs.YtppihkneeolomaaDoor
end
/- client.Build: its walk on lists that are right. -/
section
namespace Go.Proofs.YtppihkneeolomaaDoor
open Go.RowKit Qs Qh Qc
variable {N f : Nat} {w w' : World} {v u : Value} {q : List (List COp)} {a : Nat → Addr}
theorem codeInfoC : (Tryd.prog.info? 69).map (fun i => (i.zero, i.size, i.bytes)) = some (some (.slice none 0 0), 1, 24) := by kernel_rfl
theorem gReg2_len (n t : Nat) : (gReg2 n t).length = 8 := rfl
/-- Build's state while its cells are laid. -/
structure CelS (w0 : World) (T2 B S : Nat) (rv iv : Value) (rb : Nat → Nat) (regs rows : List (List Int)) (w : World) : Prop where
  mod : Mod noF w0 w
  base : BaseAt w B iv rv
  init : ∃ ib, Rws S w.heap.size w iv rows ib
  regs : Rws (B + 1) S w rv regs rb
  res : w.heap[T2]? = some (.cells #[.int .i64 0, .slice none 0 0, .slice none 0 0] 32 (0, 0))
  o1 : w0.heap.size ≤ T2
  o2 : T2 < B
  o3 : B + 1 ≤ S
  o4 : S ≤ w.heap.size
theorem CelS.cell {w0 W : World} {T2 B S : Nat} {rv iv : Value} {rb : Nat → Nat} {regs rows : List (List Int)} (C : CelS w0 T2 B S rv iv rb regs rows w) (hM : Mod noF w W) (h64 : rows.length < 64) (l : List Int) (r : Nat) (hr : l.length ≠ 0 → w.heap.size ≤ r ∧ W.heap[r]? = some (.cells (l.map (Value.int .i64)).toArray 3 (0, 0))) :
    Calls Tryd.prog 38 #[.pointer (some ⟨B, 0, none⟩), rwU l r] W fun e w' => e = .returned (.int .i64 ((rows.length : Int) + 1)) ∧ ∃ iv', CelS w0 T2 B S rv iv' rb regs (rows ++ [l]) w' := by
  obtain ⟨ib, R⟩ := C.init
  have hsz := hM.size
  have ho := C.o1
  have ho2 := C.o2
  have ho3 := C.o3
  have ho4 := C.o4
  refine (cell_ok0 (lo0 := S) (Nat.le_refl _) (hM.heap C.base (fun e => e)) (R.keep hM (fun _ _ _ e => e)) hM.size (by omega) (by omega) h64 (fun h => ⟨by have := (hr h).1; omega, by have := (hr h).1; omega, .inl (hr h).1⟩) (fun h => (hr h).2)).mono ?_
  rintro e w3 ⟨rfl, iv', hB, hR, hm⟩
  have hiv : ∀ x, iv.ownBlock = some x → S ≤ x := fun x hx => (R.vin x hx).1
  have hs3 := hm.size
  refine ⟨rfl, iv', (C.mod.trans0 hM).trans hm fun x hx e => ?_, hB, hR, (C.regs.keep hM (fun _ _ _ e => e)).keep hm fun x h1 h2 e => ?_, hm.heap (hM.heap C.res (fun e => e)) fun e => ?_, ho, ho2, ho3, by omega⟩
  · have := C.mod.size
    rcases e with e | e
    · omega
    · have := hiv x e; omega
  · rcases e with e | e
    · omega
    · have := hiv x e; omega
  · rcases e with e | e
    · omega
    · have := hiv _ e; omega
end Go.Proofs.YtppihkneeolomaaDoor
end
/- stack.Build: its walk on lists that are right. -/
section
namespace Go.Proofs.YtppihkneeolomaaDoor
open Go.RowKit Qs Qh Qc
variable {N f : Nat} {w w' : World} {v u : Value} {q : List (List SOp)} {a : Nat → Addr}
set_option maxRecDepth 4000 in
set_option maxHeartbeats 16000000 in
theorem sbuild_ok (HFB : ∀ (N0 : Nat) (f t : Int), lowT N0 → FreshH N0 True f t 2 101) (E : ErrsS w a) (HTB : TabW w) (H : RIn N w v (rawS q)) (hN : N ≤ w.heap.size) (hc0 : (kfG kPush [kPop, kFlsh] (rawS q)).1 = 0) (h1 : 1 ≤ q.length) (h6 : q.length ≤ 6) (h20 : ∀ l ∈ q, l.length ≤ 20) (hf1 : 1 ≤ f) (hf4 : f ≤ 4) :
    Calls Tryd.prog 25 #[.int .i64 f, v] w fun e w' => ∃ iv rv cv vk, e = .returned (.tuple #[.agg #[.int .i64 64, iv, rv], cv, .nilIface]) ∧ Mod noF w w' ∧ Qh.RowsAt w' iv (sInit f q.length) ∧ Qh.RowsAt w' rv (sRegs q.length) ∧ CodesAt w' cv (sCodes f q) vk := by
  have hrl : (rawS q).length = q.length := by simp [rawS]
  have hrow : ∀ l ∈ rawS q, l.length ≤ 30 := fun l hl => by
    obtain ⟨l', hl', rfl⟩ := List.mem_map.1 hl
    have := h20 l' hl'
    rw [List.length_map]; omega
  have hck := fun w1 (hm : Mod noF w w1) (g : Nat) (hg : KsAt w1 g [kPop, kFlsh]) => checkG (W := kPush) (ks := [kPop, kFlsh]) (E.keep hm) (H.keep hm (fun _ _ e => e)) g hg (by decide) (by omega) hrow
  have Hck := Lib.hid hck
  obtain ⟨i0, hti, hz0, hz1, hz2⟩ := info_parts codeInfoC
  obtain ⟨oa, oc, rfl, hx⟩ := H
  rw [hrl] at *
  have hx' : ∀ (k : Nat) l, q[k]? = some l → ∃ (b : Nat) (off : Nat) (u : Value), oa.map (·.add k) = oa.map (·.add k) ∧ (rawS q)[k]? = some (l.map sR) := fun k l hl => ⟨0, 0, .nilIface, rfl, by unfold rawS; rw [List.getElem?_map, hl]; rfl⟩
  have hget : ∀ (k : Nat) l, q[k]? = some l → (rawS q)[k]? = some (l.map sR) := fun k l hl => by unfold rawS; rw [List.getElem?_map, hl]; rfl
  have Hx := Lib.hid hx
  have H20 := Lib.hid h20
  have Hget := Lib.hid hget
  have Hc0 := Lib.hid hc0
  have HFBh := Lib.hid HFB
  have HTBh := Lib.hid HTB
  have hlow : 11 < w.heap.size := by obtain ⟨T, fr, h⟩ := HTB; exact lt_of_block h
  have Hlow := Lib.hid hlow
  clear hlow hx h20 hx' hget hck E HTB HFB hrow hc0 hrl
  go_enter Tryd.func25, Tryd.ntmps25
  go_wp2_with fail
  have hq := ((Mod.refl noF w).alloc (.cells #[.int .i64 0, .slice none 0 0, .slice none 0 0] 32)).alloc (.cells #[.string kPop, .string kFlsh] 9)
  have hks : KsAt ((w.alloc (.cells #[.int .i64 0, .slice none 0 0, .slice none 0 0] 32)).alloc (.cells #[.string kPop, .string kFlsh] 9)) (w.heap.size + 1) [kPop, kFlsh] := fun i x hi => by
    match i, hi with
    | 0, hi => cases hi; simp
    | 1, hi => cases hi; simp
    | i + 2, hi => simp at hi
  refine (Hck.out _ hq _ hks).mono ?_
  rintro e wc ⟨ev, rfl, hEv, hmc⟩
  rw [Hc0.out] at hEv
  obtain rfl := hEv.nil
  have hres : wc.heap[w.heap.size]? = some (.cells #[.int .i64 0, .slice none 0 0, .slice none 0 0] 32 (0, 0)) := ((Mod.refl noF _).alloc _ |>.trans0 hmc).heap (heap_alloc_new w _) (fun e => e)
  have hmw := hq.trans0 hmc
  have hszc : w.heap.size + 1 ≤ wc.heap.size := by have := lt_of_block hres; omega
  have Hmw := Lib.hid hmw
  have Hres := Lib.hid hres
  clear hmc hmw hres hEv hq hks
  go_wp2_with fail
  refine (newBase_ok q.length h6 wc).mono ?_
  rintro e wb ⟨rv, rb, rfl, hmb, hB, R⟩
  have hbs := hmb.size
  have hb1 := lt_of_block hB
  have Hmb := Lib.hid hmb
  have HB := Lib.hid hB
  have HR := Lib.hid R
  clear hmb hB R
  go_wp2_with fail
  refine (grace_ok hf1 hf4 h1 h6 HB.out HR.out (by omega) (by omega) (by omega)).mono ?_
  rintro e w2 ⟨rfl, iv2, ib2, hB2, R2r, R2, hm2⟩
  have hs2 := hm2.size
  have hm2w := (Hmw.out.trans0 Hmb.out).trans hm2 (fun x hx e => by omega)
  have hres2 := hm2.heap (Hmb.out.heap Hres.out (fun e => e)) (fun e => by omega)
  have hC2 : CelS w w.heap.size wc.heap.size wb.heap.size rv iv2 rb (rowsF (gReg2 q.length) q.length) (rowsF (gOwnC f) q.length ++ [gHubC f q.length]) w2 := ⟨hm2w, hB2, ⟨_, R2⟩, R2r, hres2, Nat.le_refl _, by omega, by omega, hs2⟩
  have hl2 : (rowsF (gOwnC f) q.length ++ [gHubC f q.length]).length = q.length + 1 := by simp [rowsF_len]
  have HC2 := Lib.hid hC2
  clear hm2w hm2 hB2 R2 R2r hres2 HR HB Hmb Hres Hmw hC2
  generalize hrw : rowsF (gOwnC f) q.length ++ [gHubC f q.length] = rows0 at *
  go_wp2_with fail
  refine (HC2.out.cell (Mod.refl noF w2) (by omega) [] 0 (fun h => absurd rfl h)).mono ?_
  rintro e w3 ⟨he3, iv3, hC3⟩
  have e3 : (rows0.length : Int) + 1 = (q.length : Int) + 2 := by omega
  rw [e3] at he3
  subst he3
  have HC3 := Lib.hid hC3
  clear hC3 HC2
  go_wp2_with fail
  refine (HC3.out.cell (Mod.refl noF w3) (by simp; omega) [] 0 (fun h => absurd rfl h)).mono ?_
  rintro e w4 ⟨he4, iv4, hC4⟩
  have e4 : ((rows0 ++ [[]]).length : Int) + 1 = (q.length : Int) + 3 := by simp; omega
  rw [e4] at he4
  subst he4
  have HC4 := Lib.hid hC4
  clear hC4 HC3
  go_wp2_with fail
  refine (HC4.out.cell ((Mod.refl noF w4).alloc _) (by simp; omega) [0, (q.length : Int) + 2, (q.length : Int) + 3] w4.heap.size (fun _ => ⟨Nat.le_refl _, heap_alloc_new w4 _⟩)).mono ?_
  rintro e w6 ⟨he6, iv, hC6⟩
  have e6 : ((rows0 ++ [[]] ++ [[]]).length : Int) + 1 = (q.length : Int) + 4 := by simp; omega
  rw [e6] at he6
  subst he6
  rw [← hrw] at hC6
  have HC6 := Lib.hid hC6
  clear hC6 HC4 e3 e4 e6 hl2
  obtain ⟨ib, R6⟩ := HC6.out.init
  have ho := HC6.out.o1
  have ho2 := HC6.out.o2
  have ho3 := HC6.out.o3
  have ho4 := HC6.out.o4
  have hrel : BldRel w ⟨w.heap.size, wc.heap.size, wc.heap.size + 1, wb.heap.size, wb.heap.size, w6.heap.size, w6.heap.size⟩ iv rv rb ib (sCs f q) (sInit f q.length) (rowsF (mixF (gRegS q.length) (gReg2 q.length) 0) q.length) 0 (.slice none 0 0) (fun _ => .nilIface) w6 :=
    ⟨HC6.out.mod, Nat.le_refl _, HC6.out.res, HC6.out.base, by rw [mix_zero]; exact HC6.out.regs, R6, Cds.nil _ _ _ _⟩
  obtain ⟨ra, rc, hrv, -⟩ := HC6.out.regs.cell
  rw [rowsF_len] at hrv
  subst hrv
  obtain ⟨p, hp⟩ : ∃ p : Plc, p = ⟨w.heap.size, wc.heap.size, wc.heap.size + 1, wb.heap.size, wb.heap.size, w6.heap.size, w6.heap.size⟩ := ⟨_, rfl⟩
  have hP : p.Ok w := by subst hp; exact ⟨Nat.le_refl _, by simp only; omega, by simp only; omega, by simp only; omega, Nat.le_refl _, by simp only; omega, Nat.le_refl _⟩
  rw [← hp] at hrel
  have hpB : wc.heap.size = p.B := by rw [hp]
  have hpT : w.heap.size = p.T2 := by rw [hp]
  have HP := Lib.hid hP
  have Hrel := Lib.hid hrel
  clear hrel hP hp R6 HC6 Hck
  go_wp2
  go_loopw [11, 43] (fun c i wr => ∃ (k : Nat) (vk : Nat → Value), k ≤ q.length ∧ i = .int .i64 k ∧ BldRel w p iv (.slice ra q.length rc) rb ib (sCs f q) (sInit f q.length) (rowsF (mixF (gRegS q.length) (gReg2 q.length) k) q.length) k c vk wr) (fun _ i _ => q.length - (intOf i).toNat)
  case atStart => exact ⟨0, _, Nat.zero_le _, rfl, Hrel.out⟩
  case round =>
    generalize wr = wo at *
    obtain ⟨k, vk, hk, rfl, hR⟩ := hrel
    obtain ⟨ra', rc', hrv, hrx⟩ := hR.regs.cell
    rw [rowsF_len] at hrv
    cases hrv
    obtain ⟨ca, cb, cc, rfl⟩ := slice_of_own hR.cds.own
    by_cases hlt : k < q.length
    · have hd : decide ((k : Int) < (q.length : Int)) = true := by simp; omega
      have hki : (k : Int) < (q.length : Int) := by omega
      obtain ⟨l, hl⟩ : ∃ l, q[k]? = some l := ⟨_, List.getElem?_eq_getElem hlt⟩
      obtain ⟨b, off, u, rfl, hb, hc, hrow⟩ := Hx.out k _ (Hget.out k l hl)
      have hc2 := hR.mod.cell hc (fun e => e)
      have hlm : (l.map sR).length = l.length := List.length_map _
      obtain ⟨ua, uc, rfl, hxx⟩ := hrow.keep hR.mod (fun _ _ e => e)
      have hxw : ∀ wx, Mod noF w wx → RRow N wx (.slice ua (l.map sR).length uc) (l.map sR) := fun wx h => hrow.keep h (fun _ _ e => e)
      obtain ⟨gb, rfl, hgb, hrk⟩ := hrx k _ (mix_get hlt)
      obtain ⟨hR1, hrow8, hlo⟩ := hR.store (x := (q.length : Int) + 4) (j := 5) HP.out (mix_get hlt) (by rw [gReg2_len]; omega)
      rw [gRegS_step, mix_set hlt] at hR1
      have b2 : wo.cell? ⟨p.B, 2, none⟩ = some (.slice (some ⟨gb, 0, none⟩) q.length rc) := by rw [cell_of_heap hR.base]; rfl
      have b3 : wo.cell? ⟨gb, k, none⟩ = some (.slice (some ⟨rb k, 0, none⟩) 8 8) := hrk
      have b4 : wo.cell? ⟨rb k, 5, none⟩ = some (.int .i64 0) := by rw [cell_of_heap hrow8]; rfl
      have b5 := free_of_heap hrow8 5
      have h20l := H20.out l (List.mem_of_getElem? hl)
      have hsz1 : (wo.setCell ⟨rb k, 5, none⟩ (.int .i64 ((q.length : Int) + 4))).heap.size = wo.heap.size := by simp [World.setCell]
      rw [hlm] at hc2
      have HR := Lib.hid hR
      have HR1 := Lib.hid hR1
      have Hxw := Lib.hid hxw
      have Hl := Lib.hid hl
      have Hsz1 := Lib.hid hsz1
      clear hR hR1 hxw hl hxx hrow hc hrk hrow8 hrx hsz1
      go_wp2
      go_name_world wm hwm
      have htw : TabW wm := HTBh.out.keep (HR1.out.mod.trans0 (by rw [← hwm]; exact (Mod.refl noF _).alloc _)) (fun e => e)
      have Htw := Lib.hid htw
      have hlw : lowT wo.heap.size := by unfold lowT; have := HR.out.mod.size; have := Hlow.out; omega
      have Hlw := Lib.hid hlw
      clear htw
      have hM0 : MkA wo.heap.size True (f : Nat) (k : Nat) 2 wm wo.heap.size (.slice none 0 0) [] 0 := by
        have hh : wm.heap[wo.heap.size]? = some (.cells #[.slice none 0 0, .int .i64 f, .int .i64 k, .int .i64 2, .int .i64 0] 84 (0, 0)) := by
          rw [← hwm, ← Hsz1.out]; exact heap_alloc_new _ _
        exact ⟨⟨⟨by rw [cell_of_heap hh]; rfl, free_of_heap hh 0, InsRow.nil _ _, (fun g h => by cases h), lt_of_block hh⟩, by rw [cell_of_heap hh]; rfl, free_of_heap hh 4⟩, by rw [cell_of_heap hh]; rfl, by rw [cell_of_heap hh]; rfl, by rw [cell_of_heap hh]; rfl, Nat.le_refl _, (fun g h => by cases h), Nat.le_of_lt (lt_of_block hh), fun _ => Htw.out⟩
      have hq0 : Mod noF (wo.setCell ⟨rb k, 5, none⟩ (.int .i64 ((q.length : Int) + 4))) wm := by rw [← hwm]; exact (Mod.refl noF _).alloc _
      have hFR : FreshH wo.heap.size True (f : Nat) (k : Nat) 2 101 := HFBh.out _ _ _ Hlw.out
      clear hlw
      have HFR := Lib.hid hFR
      have HM0 := Lib.hid hM0
      have Hq0 := Lib.hid hq0
      clear hM0 hq0 hwm hFR
      go_loopw [64] (fun i wr => ∃ (j : Nat) (v : Value), j ≤ l.length ∧ i = .int .i64 j ∧ MkA wo.heap.size True (f : Nat) (k : Nat) 2 wr wo.heap.size v (sopsCode f k 0 (l.take j)) (slabs (l.take j)) ∧ Mod noF (wo.setCell ⟨rb k, 5, none⟩ (.int .i64 ((q.length : Int) + 4))) wr) (fun i _ => l.length - (intOf i).toNat)
      case atStart => exact ⟨0, .slice none 0 0, Nat.zero_le _, rfl, HM0.out, Hq0.out⟩
      case round =>
        obtain ⟨j, v, hj, rfl, hMk, hmq⟩ := hrel
        by_cases hlj : j < l.length
        · have hd2 : decide ((j : Int) < (l.length : Int)) = true := by simp; omega
          have hji : (j : Int) < (l.length : Int) := by omega
          obtain ⟨x, hxl⟩ : ∃ x, l[j]? = some x := ⟨_, List.getElem?_eq_getElem hlj⟩
          obtain ⟨ua', uc', e', hxx⟩ := Hxw.out wr (HR1.out.mod.trans0 hmq)
          cases e'
          obtain ⟨ub, uoff, rfl, hub, h0, h1⟩ := hxx j (sR x) (by rw [List.getElem?_map, hxl]; rfl)
          have hlen := sopsCode_len hf4 k (l.take j) 0
          have hlab := slabs_le (l.take j)
          rw [List.length_take] at hlen hlab
          have htk : l.take (j + 1) = l.take j ++ [x] := by rw [List.take_add_one, hxl]; rfl
          have hsn := sopsCode_snoc f k x (l.take j) 0
          have hsl := slabs_snoc x (l.take j)
          rw [← htk, Nat.zero_add] at hsn
          rw [← htk] at hsl
          have hcal := sopk_any x HFR.out (fun _ => Hlw.out) hf1 hf4 (by omega) (hMk.quiet ((Mod.refl noF wr).alloc (.cells #[.string (sK x), .int .i64 (sN x)] 63))) (by omega) (by omega) (by omega)
          have Hcal := Lib.hid hcal
          have HMk := Lib.hid hMk
          have Hmq := Lib.hid hmq
          have Hsn := Lib.hid hsn
          have Hsl := Lib.hid hsl
          have h0' : wr.cell? ⟨ub, uoff + j * 2, none⟩ = some (.string (sK x)) := h0
          have h1' : wr.cell? ⟨ub, uoff + j * 2 + 1, none⟩ = some (.int .i64 (sN x)) := h1
          clear hMk hmq hxl hxx htk hsn hsl hlen hlab hcal h0 h1
          generalize hxk : sK x = xk at *
          generalize hxn : sN x = xn at *
          go_wp2_with fail
          refine Hcal.out.mono ?_
          rintro e wz ⟨rfl, v', hMz, hSz⟩
          have HMz := Lib.hid hMz
          have HSz := Lib.hid hSz
          clear hMz hSz Hcal
          go_wp2
          go_roundw
          case rel =>
            refine ⟨j + 1, v', by omega, by go_num, by rw [Hsn.out, Hsl.out]; exact HMz.out, ((Hmq.out.alloc _).trans HSz.out.mod fun x hx e => ?_)⟩
            have h9 := Hsz1.out
            rcases e with e | e
            · omega
            · have := HMk.out.lv x e; omega
          case measure => simp [intOf]; omega
        · have hd2 : decide ((j : Int) < (l.length : Int)) = false := by simp; omega
          obtain rfl : j = l.length := by omega
          rw [List.take_length] at hMk
          have hlen := sopsCode_len hf4 k l 0
          have hlab := slabs_le l
          have hcal := part3_ok HFR.out (fun _ => Hlw.out) hf1 hf4 hMk (by omega) (by omega) (by omega)
          have Hcal := Lib.hid hcal
          have HMk := Lib.hid hMk
          have Hmq := Lib.hid hmq
          clear hMk hmq hcal
          go_wp2_with fail
          refine Hcal.out.mono ?_
          rintro e w9 ⟨rfl, v9, hM9, hS9⟩
          have hlen9 : (sopsCode f k 0 l ++ preC (Qu.labN (slabs l + 1)) (gcode f 3)).length ≤ 2000 := by
            have : (preC (Qu.labN (slabs l + 1)) (gcode f 3)).length ≤ 70 := part_len2 hf4 (show 3 < 5 by decide) (slabs l)
            rw [List.length_append]; omega
          have hm9 : Mod noF (wo.setCell ⟨rb k, 5, none⟩ (.int .i64 ((q.length : Int) + 4))) w9 := Hmq.out.trans hS9.mod fun x hx e => by
            have h9 := Hsz1.out
            rcases e with e | e
            · omega
            · have := HMk.out.lv x e; omega
          have HM9 := Lib.hid hM9
          have Hm9 := Lib.hid hm9
          clear hM9 hS9 hm9 Hcal
          go_wp2_with fail
          refine (op0_chain (Chain.start HM9.out.m.emit) (by omega) 20 _ rfl).mono ?_
          rintro e wz ⟨rfl, hbz, v', E, G⟩
          have hS := HR.out.size
          have h9 := Hsz1.out
          have hqz : Mod noF (wo.setCell ⟨rb k, 5, none⟩ (.int .i64 ((q.length : Int) + 4))) wz := Hm9.out.trans G.mod fun x hx e => by
            rcases e with e | e
            · omega
            · have := HM9.out.lv x e; omega
          have hcode := E.row.code
          have hown : ∀ g, v'.ownBlock = some g → p.S ≤ g ∧ g < wz.heap.size ∧ (Value.slice ca cb cc).ownBlock ≠ some g := fun g hg => by
            have h10 := HM9.out.hi
            have h11 : wo.heap.size ≤ g := by
              rcases G.new g hg with e | e
              · exact HM9.out.lv g e
              · omega
            refine ⟨by omega, E.row.lt hg, fun e => ?_⟩
            have := (World.ownsRow.lt HR.out.cds.own _ e).2
            omega
          obtain ⟨xa, xc, rfl, -, -⟩ := E.row.slice
          have e0 := E.cell
          simp only [List.length_append, List.length_singleton] at hcode hown e0
          have hcs : sCs f q k = (sopsCode f k 0 l ++ preC (Qu.labN (slabs l + 1)) (gcode f 3)) ++ [⟨20, 0, 0, 0, []⟩] := by rw [sCs_get Hl.out]; rfl
          rw [← hcs] at hcode
          have HRz := Lib.hid (HR1.out.quiet hqz)
          have Hcode := Lib.hid hcode
          have Hown := Lib.hid hown
          have hszz : p.S ≤ wz.heap.size := by have := HRz.out.size; omega
          have hbnd : k + 1 ≤ maxLen := by unfold maxLen; omega
          clear E G hcode hown hqz hcs hbz
          go_wp2_with (at_builtin; refine wpList_append_mine _ rfl (.tmp 74) (.tmp 82) 33 rfl 69 i0 (.slice none 0 0) 1 24 Tryd.underlying33 hti hz0 hz1 hz2 rfl (by decide) _ k ((List.range k).map vk) rfl (by exact World.ownsRow.alloc HRz.out.cds.own _) ⟨wz.heap.size, 0, none⟩ 1 1 [.slice xa _ xc] rfl rfl (by exact new_cells_at _ _ _ (by simp)) (one_row _ rfl) hbnd (by omega) ?_; intro v4 w7 hown hgr hfr _; obtain ⟨ya, yb, yc, rfl⟩ := slice_of_own hown; have Hown4 := Lib.hid hown; have Hgr := Lib.hid hgr; have Hfr := Lib.hid hfr; clear hown hgr hfr)
          go_wp2
          go_roundw
          case rel =>
            exact ⟨k + 1, _, by omega, by go_num, (HRz.out.quiet ((Mod.refl noF wz).alloc _)).push HP.out (Hcode.out.frame ((Mod.refl noF wz).alloc _) (fun _ _ e => e)) (fun g hg => ⟨(Hown.out g hg).1, by have := (Hown.out g hg).2.1; simp; omega, (Hown.out g hg).2.2⟩) Hown4.out Hgr.out Hfr.out⟩
          case measure => simp [intOf]; omega
    · have hd : decide ((k : Int) < (q.length : Int)) = false := by simp; omega
      obtain rfl : k = q.length := by omega
      rw [mix_all] at hR
      obtain ⟨ia, ic, hiv, -⟩ := hR.init.cell
      have x0 : wo.cell? ⟨p.B, 0, none⟩ = some (.int .i64 64) := by rw [cell_of_heap hR.base]; rfl
      have x1 : wo.cell? ⟨p.B, 1, none⟩ = some iv := by rw [cell_of_heap hR.base]; rfl
      have x2 : wo.cell? ⟨p.B, 2, none⟩ = some (.slice ra q.length rc) := by rw [cell_of_heap hR.base]; rfl
      have y0 : wo.cell? ⟨p.T2, 0, none⟩ = some (.int .i64 0) := by rw [cell_of_heap hR.res]; rfl
      have y1 : wo.cell? ⟨p.T2, 1, none⟩ = some (.slice none 0 0) := by rw [cell_of_heap hR.res]; rfl
      have y2 : wo.cell? ⟨p.T2, 2, none⟩ = some (.slice none 0 0) := by rw [cell_of_heap hR.res]; rfl
      have yf := free_of_heap hR.res
      have yf0 := yf 0
      have yf1 := yf 1
      have yf2 := yf 2
      rw [hiv, sInit_len] at x1
      have HR := Lib.hid hR
      clear hR hrx yf
      go_wp2
      obtain ⟨wf, hwf⟩ : ∃ wf, wf = (((wo.setCell ⟨p.T2, 0, none⟩ (.int .i64 64)).setCell ⟨p.T2, 1, none⟩ (.slice ia (q.length + 4) ic)).setCell ⟨p.T2, 2, none⟩ (.slice ra q.length rc)) := ⟨_, rfl⟩
      have hMf : Mod (fun x => x = p.T2) wo wf := by rw [hwf]; exact (((Mod.refl (fun x => x = p.T2) wo).setCell (fun _ => rfl) _).setCell (fun _ => rfl) _).setCell (fun _ => rfl) _
      have hh : wf.heap[p.T2]? = some (.cells #[.int .i64 64, .slice ia (q.length + 4) ic, .slice ra q.length rc] 32 (0, 0)) := by
        rw [hwf, Qh.heap_setCell_same (Qh.heap_setCell_same (Qh.heap_setCell_same HR.out.res 0 _) 1 _) 2 _]; rfl
      have z0 : wf.cell? ⟨p.T2, 0, none⟩ = some (.int .i64 64) := by rw [cell_of_heap hh]; rfl
      have z1 : wf.cell? ⟨p.T2, 1, none⟩ = some (.slice ia (q.length + 4) ic) := by rw [cell_of_heap hh]; rfl
      have z2 : wf.cell? ⟨p.T2, 2, none⟩ = some (.slice ra q.length rc) := by rw [cell_of_heap hh]; rfl
      rw [← hwf]
      obtain ⟨p1, p2, p3, p4, p5, p6, p7⟩ := HP.out
      refine bodyPost_ret (v := .tuple #[.agg #[.int .i64 64, .slice ia (q.length + 4) ic, .slice ra q.length rc], .slice ca cb cc, .nilIface]) (by simp [results, Tryd.results25, go_sem, z0, z1, z2]) rfl ⟨_, _, _, vk, rfl, ?_, ?_, ?_, ?_⟩
      · exact HR.out.mod.trans hMf fun x hx e => by omega
      · have := HR.out.init.keep hMf (fun x h1 h2 e => by omega)
        rw [hiv, sInit_len] at this
        exact this.rows (sInit_rows _ _)
      · have := HR.out.regs.keep hMf (fun x h1 h2 e => by omega)
        exact this.rows (fun l hl => by
          obtain ⟨i, -, rfl⟩ := List.mem_map.1 hl
          simp [gRegS])
      · exact (HR.out.cds.keep hMf (fun x h1 h2 e => by omega)).codes
end Go.Proofs.YtppihkneeolomaaDoor
end
/- quiescentref2.KindsFault: over any lists of ops, of any kinds. -/
section
namespace Go.Proofs.YtppihkneeolomaaDoor
open Go.RowKit Qs Qh
variable {N : Nat} {w w' : World} {v u : Value} {ll : List (List ROp)} {l : List ROp} {W : ByteArray} {ks : List ByteArray}
set_option maxHeartbeats 16000000 in
theorem kindsG (H : RIn N w v ll) (hlen : ll.length ≤ 10) (hrow : ∀ l ∈ ll, l.length ≤ 30) (g : Nat) (hg : KsAt w g ks) (hkl : ks.length ≤ 10) :
    Calls Tryd.prog 9 #[v, .string W, .slice (some ⟨g, 0, none⟩) ks.length ks.length] w fun e w' => e = .returned (.agg #[.int .i64 (kfG W ks ll).1, .int .i64 (kfG W ks ll).2]) ∧ Mod noF w w' := by
  have hm := many_any (H.keep ((Mod.refl noF w).alloc (.cells #[.int .i64 0, .int .i64 0] 27)) (fun _ _ e => e)) hlen hrow
  have HM := Lib.hid hm
  have HH := Lib.hid H
  obtain ⟨a, c, rfl, -⟩ := H
  have Hrow := Lib.hid hrow
  have Hg := Lib.hid hg
  clear hrow hg hm
  cases hmany : manyB ll with
  | false =>
    have hk : kfG W ks ll = (2, -1) := by unfold kfG; rw [hmany]; rfl
    rw [hk]
    rw [hmany] at HM
    go_enter Tryd.func9, Tryd.ntmps9
    go_wp2_with fail
    refine HM.out.mono ?_
    rintro e w1 ⟨rfl, rfl⟩
    go_wp2_with fail
    refine (bare_ok 2 _).mono ?_
    rintro e w2 ⟨rfl, hm2⟩
    have Hm2 := Lib.hid hm2
    have hT := hm2.heap (heap_alloc_new w (.cells #[.int .i64 0, .int .i64 0] 27)) (fun e => e)
    have t0 := cell_of_heap hT 0
    have t1 := cell_of_heap hT 1
    have tf0 := free_of_heap hT 0
    have tf1 := free_of_heap hT 1
    have HT := Lib.hid hT
    clear hT
    replace t0 : w2.cell? ⟨w.heap.size, 0, none⟩ = some (.int .i64 0) := t0
    replace t1 : w2.cell? ⟨w.heap.size, 1, none⟩ = some (.int .i64 0) := t1
    go_wp2
    obtain ⟨wf, hwf⟩ : ∃ wf, wf = (w2.setCell ⟨w.heap.size, 0, none⟩ (.int .i64 2)).setCell ⟨w.heap.size, 1, none⟩ (.int .i64 (-1)) := ⟨_, rfl⟩
    have hh : wf.heap[w.heap.size]? = some (.cells #[.int .i64 2, .int .i64 (-1)] 27 (0, 0)) := by rw [hwf, Qh.heap_setCell_same (Qh.heap_setCell_same HT.out 0 _) 1 _]; rfl
    have z0 : wf.cell? ⟨w.heap.size, 0, none⟩ = some (.int .i64 2) := by rw [cell_of_heap hh]; rfl
    have z1 : wf.cell? ⟨w.heap.size, 1, none⟩ = some (.int .i64 (-1)) := by rw [cell_of_heap hh]; rfl
    have hMf : Mod noF w wf := by rw [hwf]; exact (((Mod.refl noF w).alloc _).trans0 Hm2.out).trans (((Mod.refl (fun x => x = w.heap.size) _).setCell (fun _ => rfl) _).setCell (fun _ => rfl) _) fun x hx e => by omega
    rw [← hwf]
    exact bodyPost_ret (v := .agg #[.int .i64 2, .int .i64 (-1)]) (by simp [results, Tryd.results9, go_sem, z0, z1]) rfl ⟨rfl, hMf⟩
  | true =>
    have hk : kfG W ks ll = allR (rowG W ks) 0 ll := by unfold kfG; rw [hmany]; rfl
    rw [hk]
    rw [hmany] at HM
    clear hk hmany
    obtain ⟨rc, ra, hres0⟩ : ∃ rc ra, allR (rowG W ks) 0 ll = (rc, ra) := ⟨_, _, rfl⟩
    rw [hres0]
    have Hres0 := Lib.hid hres0
    simp only
    clear hres0
    have e3 := str_eq W
    go_enter Tryd.func9, Tryd.ntmps9
    go_wp2_with fail
    refine HM.out.mono ?_
    rintro e w1 ⟨rfl, rfl⟩
    go_wp2
    go_loopw [8] (fun i wr => ∃ k : Nat, k ≤ ll.length ∧ i = .int .i64 k ∧ Mod noF w wr ∧ wr.heap[w.heap.size]? = some (.cells #[.int .i64 0, .int .i64 0] 27 (0, 0)) ∧ ∀ (j : Nat) y, j < k → ll[j]? = some y → rowG W ks y = none) (fun i _ => ll.length - (intOf i).toNat)
    case atStart => exact ⟨0, Nat.zero_le _, rfl, (Mod.refl _ _).alloc _, heap_alloc_new w _, fun j y h => by omega⟩
    case round =>
      generalize wr = w2 at *
      obtain ⟨k, hk, rfl, hm, hT0, hall⟩ := hrel
      have Hm := Lib.hid hm
      have HT0 := Lib.hid hT0
      have Hall := Lib.hid hall
      clear hT0 hall
      by_cases hlt : k < ll.length
      · have hd : decide ((k : Int) < (ll.length : Int)) = true := by simp; omega
        have hki : (k : Int) < (ll.length : Int) := by omega
        obtain ⟨l, hl⟩ : ∃ l, ll[k]? = some l := ⟨_, List.getElem?_eq_getElem hlt⟩
        obtain ⟨a', c', e', hx⟩ := HH.out
        cases e'
        obtain ⟨b, off, u, rfl, hb, hc, ⟨ua, uc, rfl, hxx⟩⟩ := hx k l hl
        have Hc := Lib.hid hc
        have Hxx := Lib.hid hxx
        have Hl := Lib.hid hl
        have h30 := Hrow.out l (List.mem_of_getElem? hl)
        clear hx hxx hl hc hm
        go_wp2
        go_loopw [9] (fun i wr => ∃ q : Nat, q ≤ l.length ∧ i = .int .i64 q ∧ Mod noF w wr ∧ wr.heap[w.heap.size]? = some (.cells #[.int .i64 0, .int .i64 0] 27 (0, 0)) ∧ ∀ (j : Nat) y, j < q → l[j]? = some y → kfOpG W ks y = 0) (fun i _ => l.length - (intOf i).toNat)
        case atStart => exact ⟨0, Nat.zero_le _, rfl, Hm.out, HT0.out, fun j y h => by omega⟩
        case round =>
          generalize wr = w3 at *
          obtain ⟨q, hq, rfl, hm3, hT3, hall3⟩ := hrel
          have hc3 := hm3.cell Hc.out (fun e => e)
          have Hm3 := Lib.hid hm3
          have HT3 := Lib.hid hT3
          have Hall3 := Lib.hid hall3
          clear hT3 hall3
          by_cases hltq : q < l.length
          · have hd2 : decide ((q : Int) < (l.length : Int)) = true := by simp; omega
            have hqi : (q : Int) < (l.length : Int) := by omega
            obtain ⟨x, hxl⟩ : ∃ x, l[q]? = some x := ⟨_, List.getElem?_eq_getElem hltq⟩
            obtain ⟨ub, uoff, rfl, hub, h0, h1⟩ := Hxx.out q x hxl
            have h0 := hm3.cell h0 (fun e => e)
            have h1 := hm3.cell h1 (fun e => e)
            have Hxl := Lib.hid hxl
            clear hxl hm3
            obtain ⟨xs, xn⟩ := x
            simp only at h0 h1
            have hmx : Mod noF w (w3.alloc (.cells #[.string xs, .int .i64 xn] 63)) := Hm3.out.alloc _
            have hg3 := Hg.out.keep hmx (fun e => e)
            have hTx := ((Mod.refl noF w3).alloc (.cells #[.string xs, .int .i64 xn] 63)).heap HT3.out (fun e => e)
            have Hmx := Lib.hid hmx
            have HTx := Lib.hid hTx
            have Hg3 := Lib.hid hg3
            clear hmx hTx hg3
            by_cases hput : xs = W
            · subst hput
              by_cases hbad : xn < 1 ∨ 1000 < xn
              · have hf : kfOpG xs ks (xs, xn) = 2 := by unfold kfOpG; simp [hbad]
                have hrF := rowG_at l q _ Hxl.out Hall3.out (by rw [hf]; decide)
                rw [hf] at hrF
                have hres := allR_at ll 0 k l 2 Hl.out Hall.out hrF
                rw [Nat.zero_add] at hres
                obtain ⟨rfl, rfl⟩ := Prod.mk.inj (Hres0.out.symm.trans hres)
                clear hres hrF hf
                by_cases hb1 : xn < 1
                · have d1 : decide (xn < 1) = true := by simpa using hb1
                  have hT := HTx.out
                  have t0 := cell_of_heap hT 0
                  have t1 := cell_of_heap hT 1
                  have tf0 := free_of_heap hT 0
                  have tf1 := free_of_heap hT 1
                  have HT := Lib.hid hT
                  clear hT
                  replace t0 : (w3.alloc (.cells #[.string xs, .int .i64 xn] 63)).cell? ⟨w.heap.size, 0, none⟩ = some (.int .i64 0) := t0
                  replace t1 : (w3.alloc (.cells #[.string xs, .int .i64 xn] 63)).cell? ⟨w.heap.size, 1, none⟩ = some (.int .i64 0) := t1
                  go_wp2
                  obtain ⟨wf, hwf⟩ : ∃ wf, wf = ((w3.alloc (.cells #[.string xs, .int .i64 xn] 63)).setCell ⟨w.heap.size, 0, none⟩ (.int .i64 2)).setCell ⟨w.heap.size, 1, none⟩ (.int .i64 k) := ⟨_, rfl⟩
                  have hh : wf.heap[w.heap.size]? = some (.cells #[.int .i64 2, .int .i64 k] 27 (0, 0)) := by rw [hwf, Qh.heap_setCell_same (Qh.heap_setCell_same HT.out 0 _) 1 _]; rfl
                  have z0 : wf.cell? ⟨w.heap.size, 0, none⟩ = some (.int .i64 2) := by rw [cell_of_heap hh]; rfl
                  have z1 : wf.cell? ⟨w.heap.size, 1, none⟩ = some (.int .i64 k) := by rw [cell_of_heap hh]; rfl
                  have hMf : Mod noF w wf := by rw [hwf]; exact (Hmx.out).trans (((Mod.refl (fun x => x = w.heap.size) _).setCell (fun _ => rfl) _).setCell (fun _ => rfl) _) fun x hx e => by omega
                  rw [← hwf]
                  exact bodyPost_ret (v := .agg #[.int .i64 2, .int .i64 k]) (by simp [results, Tryd.results9, go_sem, z0, z1]) rfl ⟨rfl, hMf⟩
                · have d1 : decide (xn < 1) = false := by simpa using hb1
                  have d2 : decide (1000 < xn) = true := by simp; omega
                  have hT := HTx.out
                  have t0 := cell_of_heap hT 0
                  have t1 := cell_of_heap hT 1
                  have tf0 := free_of_heap hT 0
                  have tf1 := free_of_heap hT 1
                  have HT := Lib.hid hT
                  clear hT
                  replace t0 : (w3.alloc (.cells #[.string xs, .int .i64 xn] 63)).cell? ⟨w.heap.size, 0, none⟩ = some (.int .i64 0) := t0
                  replace t1 : (w3.alloc (.cells #[.string xs, .int .i64 xn] 63)).cell? ⟨w.heap.size, 1, none⟩ = some (.int .i64 0) := t1
                  go_wp2
                  obtain ⟨wf, hwf⟩ : ∃ wf, wf = ((w3.alloc (.cells #[.string xs, .int .i64 xn] 63)).setCell ⟨w.heap.size, 0, none⟩ (.int .i64 2)).setCell ⟨w.heap.size, 1, none⟩ (.int .i64 k) := ⟨_, rfl⟩
                  have hh : wf.heap[w.heap.size]? = some (.cells #[.int .i64 2, .int .i64 k] 27 (0, 0)) := by rw [hwf, Qh.heap_setCell_same (Qh.heap_setCell_same HT.out 0 _) 1 _]; rfl
                  have z0 : wf.cell? ⟨w.heap.size, 0, none⟩ = some (.int .i64 2) := by rw [cell_of_heap hh]; rfl
                  have z1 : wf.cell? ⟨w.heap.size, 1, none⟩ = some (.int .i64 k) := by rw [cell_of_heap hh]; rfl
                  have hMf : Mod noF w wf := by rw [hwf]; exact (Hmx.out).trans (((Mod.refl (fun x => x = w.heap.size) _).setCell (fun _ => rfl) _).setCell (fun _ => rfl) _) fun x hx e => by omega
                  rw [← hwf]
                  exact bodyPost_ret (v := .agg #[.int .i64 2, .int .i64 k]) (by simp [results, Tryd.results9, go_sem, z0, z1]) rfl ⟨rfl, hMf⟩
              · have d1 : decide (xn < 1) = false := by simp; omega
                have d2 : decide (1000 < xn) = false := by simp; omega
                have hf : kfOpG xs ks (xs, xn) = 0 := by unfold kfOpG; simp [hbad]
                have Hf := Lib.hid hf
                clear hf
                go_wp2
                go_roundw
                case rel =>
                  refine ⟨q + 1, by omega, by go_num, Hmx.out, HTx.out, fun j y hj hy => ?_⟩
                  by_cases e : j = q
                  · subst e
                    rw [Hxl.out] at hy; cases hy; exact Hf.out
                  · exact Hall3.out j y (by omega) hy
                case measure => simp [intOf]; omega
            · have ep : (xs.toList == W.toList) = false := str_ne hput
              go_wp2
              go_loopw [11, 12] (fun b i wr => ∃ z : Nat, z ≤ ks.length ∧ i = .int .i64 z ∧ b = .bool (memK (ks.take z) xs) ∧ Mod noF (w3.alloc (.cells #[.string xs, .int .i64 xn] 63)) wr) (fun _ i _ => ks.length - (intOf i).toNat)
              case atStart => exact ⟨0, Nat.zero_le _, rfl, rfl, Mod.refl _ _⟩
              case round =>
                generalize wr = w4 at *
                obtain ⟨z, hz, rfl, rfl, hm4⟩ := hrel
                have o0 : w4.cell? ⟨w3.heap.size, 0, none⟩ = some (.string xs) := hm4.cell (show (w3.alloc (.cells #[.string xs, .int .i64 xn] 63)).cell? ⟨w3.heap.size, 0, none⟩ = some (.string xs) by simp) (fun e => e)
                have o1 : w4.cell? ⟨w3.heap.size, 1, none⟩ = some (.int .i64 xn) := hm4.cell (show (w3.alloc (.cells #[.string xs, .int .i64 xn] 63)).cell? ⟨w3.heap.size, 1, none⟩ = some (.int .i64 xn) by simp) (fun e => e)
                have Hm4 := Lib.hid hm4
                by_cases hzl : z < ks.length
                · have hdz : decide ((z : Int) < (ks.length : Int)) = true := by simp; omega
                  have hzi : (z : Int) < (ks.length : Int) := by omega
                  obtain ⟨y, hy⟩ : ∃ y, ks[z]? = some y := ⟨_, List.getElem?_eq_getElem hzl⟩
                  have hyc := hm4.cell (Hg3.out z y hy) (fun e => e)
                  have htk : ks.take (z + 1) = ks.take z ++ [y] := by rw [List.take_add_one, hy]; rfl
                  have Htk := Lib.hid htk
                  clear hm4 hy htk
                  by_cases hxy : y = xs
                  · subst hxy
                    have ey := str_eq y
                    generalize hb0 : memK (ks.take z) y = b0 at *
                    go_wp2
                    go_quiet (fail)
                    go_wp2
                    go_roundw
                    case rel => exact ⟨z + 1, by omega, by go_num, by rw [Htk.out, memK_snoc]; simp, Hm4.out.drewN _⟩
                    case measure => simp [intOf]; omega
                  · have ey : (y.toList == xs.toList) = false := str_ne hxy
                    have hb1 : memK (ks.take (z + 1)) xs = memK (ks.take z) xs := by
                      rw [Htk.out, memK_snoc]
                      simp [hxy]
                    have Hb1 := Lib.hid hb1
                    clear hb1
                    generalize hb0 : memK (ks.take z) xs = b0 at *
                    go_wp2
                    go_quiet (fail)
                    go_wp2
                    go_roundw
                    case rel => exact ⟨z + 1, by omega, by go_num, by rw [Hb1.out], Hm4.out.drewN _⟩
                    case measure => simp [intOf]; omega
                · have hdz : decide ((z : Int) < (ks.length : Int)) = false := by simp; omega
                  obtain rfl : z = ks.length := by omega
                  rw [List.take_length]
                  clear hm4
                  cases hmem : memK ks xs with
                  | true =>
                    by_cases hx0 : xn = 0
                    · subst hx0
                      have hf : kfOpG W ks (xs, 0) = 0 := by unfold kfOpG; rw [if_neg hput]; simp [hmem]
                      have Hf := Lib.hid hf
                      clear hf hmem
                      go_wp2
                      go_roundw
                      case rel =>
                        refine ⟨q + 1, by omega, by go_num, Hmx.out.trans0 Hm4.out, Hm4.out.heap HTx.out (fun e => e), fun j y hj hy => ?_⟩
                        by_cases e : j = q
                        · subst e
                          rw [Hxl.out] at hy; cases hy; exact Hf.out
                        · exact Hall3.out j y (by omega) hy
                      case measure => simp [intOf]; omega
                    · have hf : kfOpG W ks (xs, xn) = 3 := by unfold kfOpG; rw [if_neg hput]; simp [hx0]
                      have n1 : decide (xn = 0) = false := by simpa using hx0
                      have n2 : (xn == 0) = false := by simpa using hx0
                      have hrF := rowG_at l q _ Hxl.out Hall3.out (by rw [hf]; decide)
                      rw [hf] at hrF
                      have hres := allR_at ll 0 k l 3 Hl.out Hall.out hrF
                      rw [Nat.zero_add] at hres
                      obtain ⟨rfl, rfl⟩ := Prod.mk.inj (Hres0.out.symm.trans hres)
                      clear hres hrF hf
                      have hT := Hm4.out.heap HTx.out (fun e => e)
                      have t0 := cell_of_heap hT 0
                      have t1 := cell_of_heap hT 1
                      have tf0 := free_of_heap hT 0
                      have tf1 := free_of_heap hT 1
                      have HT := Lib.hid hT
                      clear hT
                      replace t0 : w4.cell? ⟨w.heap.size, 0, none⟩ = some (.int .i64 0) := t0
                      replace t1 : w4.cell? ⟨w.heap.size, 1, none⟩ = some (.int .i64 0) := t1
                      go_wp2
                      obtain ⟨wf, hwf⟩ : ∃ wf, wf = (w4.setCell ⟨w.heap.size, 0, none⟩ (.int .i64 3)).setCell ⟨w.heap.size, 1, none⟩ (.int .i64 k) := ⟨_, rfl⟩
                      have hh : wf.heap[w.heap.size]? = some (.cells #[.int .i64 3, .int .i64 k] 27 (0, 0)) := by rw [hwf, Qh.heap_setCell_same (Qh.heap_setCell_same HT.out 0 _) 1 _]; rfl
                      have z0 : wf.cell? ⟨w.heap.size, 0, none⟩ = some (.int .i64 3) := by rw [cell_of_heap hh]; rfl
                      have z1 : wf.cell? ⟨w.heap.size, 1, none⟩ = some (.int .i64 k) := by rw [cell_of_heap hh]; rfl
                      have hMf : Mod noF w wf := by rw [hwf]; exact (Hmx.out.trans0 Hm4.out).trans (((Mod.refl (fun x => x = w.heap.size) _).setCell (fun _ => rfl) _).setCell (fun _ => rfl) _) fun x hx e => by omega
                      rw [← hwf]
                      exact bodyPost_ret (v := .agg #[.int .i64 3, .int .i64 k]) (by simp [results, Tryd.results9, go_sem, z0, z1]) rfl ⟨rfl, hMf⟩
                  | false =>
                    have hf : kfOpG W ks (xs, xn) = 3 := by unfold kfOpG; rw [if_neg hput]; simp [hmem]
                    have hrF := rowG_at l q _ Hxl.out Hall3.out (by rw [hf]; decide)
                    rw [hf] at hrF
                    have hres := allR_at ll 0 k l 3 Hl.out Hall.out hrF
                    rw [Nat.zero_add] at hres
                    obtain ⟨rfl, rfl⟩ := Prod.mk.inj (Hres0.out.symm.trans hres)
                    clear hres hrF hf
                    have hT := Hm4.out.heap HTx.out (fun e => e)
                    have t0 := cell_of_heap hT 0
                    have t1 := cell_of_heap hT 1
                    have tf0 := free_of_heap hT 0
                    have tf1 := free_of_heap hT 1
                    have HT := Lib.hid hT
                    clear hT
                    replace t0 : w4.cell? ⟨w.heap.size, 0, none⟩ = some (.int .i64 0) := t0
                    replace t1 : w4.cell? ⟨w.heap.size, 1, none⟩ = some (.int .i64 0) := t1
                    go_wp2
                    obtain ⟨wf, hwf⟩ : ∃ wf, wf = (w4.setCell ⟨w.heap.size, 0, none⟩ (.int .i64 3)).setCell ⟨w.heap.size, 1, none⟩ (.int .i64 k) := ⟨_, rfl⟩
                    have hh : wf.heap[w.heap.size]? = some (.cells #[.int .i64 3, .int .i64 k] 27 (0, 0)) := by rw [hwf, Qh.heap_setCell_same (Qh.heap_setCell_same HT.out 0 _) 1 _]; rfl
                    have z0 : wf.cell? ⟨w.heap.size, 0, none⟩ = some (.int .i64 3) := by rw [cell_of_heap hh]; rfl
                    have z1 : wf.cell? ⟨w.heap.size, 1, none⟩ = some (.int .i64 k) := by rw [cell_of_heap hh]; rfl
                    have hMf : Mod noF w wf := by rw [hwf]; exact (Hmx.out.trans0 Hm4.out).trans (((Mod.refl (fun x => x = w.heap.size) _).setCell (fun _ => rfl) _).setCell (fun _ => rfl) _) fun x hx e => by omega
                    rw [← hwf]
                    exact bodyPost_ret (v := .agg #[.int .i64 3, .int .i64 k]) (by simp [results, Tryd.results9, go_sem, z0, z1]) rfl ⟨rfl, hMf⟩
          · have hd2 : decide ((q : Int) < (l.length : Int)) = false := by simp; omega
            have hrF : rowG W ks l = none := rowG_none fun j y hj => Hall3.out j y (by have := (List.getElem?_eq_some_iff.1 hj).1; omega) hj
            have HrF := Lib.hid hrF
            clear hrF hm3
            go_wp2
            go_roundw
            case rel =>
              refine ⟨k + 1, by omega, by go_num, Hm3.out, HT3.out, fun j y hj hy => ?_⟩
              by_cases e : j = k
              · subst e
                rw [Hl.out] at hy; cases hy; exact HrF.out
              · exact Hall.out j y (by omega) hy
            case measure => simp [intOf]; omega
      · have hd : decide ((k : Int) < (ll.length : Int)) = false := by simp; omega
        have hres := allR_none (rf := rowG W ks) ll 0 fun j y hj => Hall.out j y (by have := (List.getElem?_eq_some_iff.1 hj).1; omega) hj
        obtain ⟨rfl, rfl⟩ := Prod.mk.inj (Hres0.out.symm.trans hres)
        clear hres hm
        go_wp2_with fail
        refine (fine_ok _).mono ?_
        rintro e w3 ⟨rfl, hm3⟩
        have Hm3 := Lib.hid hm3
        have hT := hm3.heap HT0.out (fun e => e)
        have t0 := cell_of_heap hT 0
        have t1 := cell_of_heap hT 1
        have tf0 := free_of_heap hT 0
        have tf1 := free_of_heap hT 1
        have HT := Lib.hid hT
        clear hT
        replace t0 : w3.cell? ⟨w.heap.size, 0, none⟩ = some (.int .i64 0) := t0
        replace t1 : w3.cell? ⟨w.heap.size, 1, none⟩ = some (.int .i64 0) := t1
        go_wp2
        obtain ⟨wf, hwf⟩ : ∃ wf, wf = (w3.setCell ⟨w.heap.size, 0, none⟩ (.int .i64 0)).setCell ⟨w.heap.size, 1, none⟩ (.int .i64 (-1)) := ⟨_, rfl⟩
        have hh : wf.heap[w.heap.size]? = some (.cells #[.int .i64 0, .int .i64 (-1)] 27 (0, 0)) := by rw [hwf, Qh.heap_setCell_same (Qh.heap_setCell_same HT.out 0 _) 1 _]; rfl
        have z0 : wf.cell? ⟨w.heap.size, 0, none⟩ = some (.int .i64 0) := by rw [cell_of_heap hh]; rfl
        have z1 : wf.cell? ⟨w.heap.size, 1, none⟩ = some (.int .i64 (-1)) := by rw [cell_of_heap hh]; rfl
        have hMf : Mod noF w wf := by rw [hwf]; exact (Hm.out.trans0 Hm3.out).trans (((Mod.refl (fun x => x = w.heap.size) _).setCell (fun _ => rfl) _).setCell (fun _ => rfl) _) fun x hx e => by omega
        rw [← hwf]
        exact bodyPost_ret (v := .agg #[.int .i64 0, .int .i64 (-1)]) (by simp [results, Tryd.results9, go_sem, z0, z1]) rfl ⟨rfl, hMf⟩
end Go.Proofs.YtppihkneeolomaaDoor
end
/- Lists of lists of ops that came in. -/
section
namespace Go.Proofs.YtppihkneeolomaaDoor
open Go.ChangeShapes Go.WideShapes Go.ChangeAt Go.RowKit Qh
def opVals (x : ROp) : List Value := [.string x.1, .int .i64 x.2]
theorem opLen2 {l : List Value} (h : l.length = 2) : ∃ c0 c1 : Value, l = [c0, c1] := by
  match l, h with
  | [c0, c1], _ => exact ⟨c0, c1, rfl⟩
theorem Op_read {H : Type} {enc : TypeId × Value → H} {W : World} (n : Nat) (cs : List Value) (y : DataW H × List MemPlace) (h : DataW.trod enc Tryd.prog W 0 (fun _ => true) true n 63 cs = some y) : ∃ x : ROp, cs = opVals x ∧ True := by
  obtain ⟨xs, n', rfl, _, hlen, hxl, hf⟩ := DataW.trod_struct Tryd.underlying63 h
  rw [show Tryd.prog.cellsOf 63 = 2 by kernel_rfl] at hlen
  have k1 : Tryd.prog.cellsOf 3 = 1 := by kernel_rfl
  have k9 : Tryd.prog.cellsOf 9 = 1 := by kernel_rfl
  obtain ⟨c0, c1, rfl⟩ := opLen2 hlen
  have h0 := hf 0 ⟨"Kind", 9, 0, false, "", "", 0⟩ rfl
  rw [List.getElem?_eq_getElem (show 0 < xs.length by rw [hxl]; decide)] at h0
  obtain ⟨s0, e0, _, o0⟩ := DataW.trod_string Tryd.underlying9 h0
  simp only [k9, List.drop_succ_cons, List.drop_zero, List.take_succ_cons, List.take_zero, List.cons.injEq, and_true] at e0
  subst e0
  have h1 := hf 1 ⟨"N", 3, 1, false, "", "", 16⟩ rfl
  rw [List.getElem?_eq_getElem (show 1 < xs.length by rw [hxl]; decide)] at h1
  obtain ⟨s1, e1, _, o1⟩ := DataW.trod_int Tryd.underlying3 h1
  simp only [k1, List.drop_succ_cons, List.drop_zero, List.take_succ_cons, List.take_zero, List.cons.injEq, and_true] at e1
  subst e1
  exact ⟨⟨s0, s1⟩, rfl, trivial⟩
end Go.Proofs.YtppihkneeolomaaDoor
end
/- A list of ops that came in. -/
section
namespace Go.Proofs.YtppihkneeolomaaDoor
open Go.ChangeShapes Go.WideShapes Go.ChangeAt Go.RowKit Qh
/-- A thread's ops, as they come in; nil holds nothing. -/
def IsOps1 (w : World) (a : Option Addr) (len cap : Nat) (z : List ROp) : Prop :=
  RRow w.heap.size w (.slice a len cap) z ∧ (a = none → cap = 0) ∧ z.length ≤ maxLen
theorem isOps1_of {H : Type} {enc : TypeId × Value → H} {W : World} {a : Option Addr} {len cap : Nat} {d : DataW H} {p : List MemPlace} (h : DataW.Trod enc Tryd.prog W 0 (fun _ => true) true 59 (.slice a len cap) d p) : ∃ z, IsOps1 W a len cap z := by
  obtain ⟨z, ⟨a2, c2, e2, h1, h2, h3, hxx⟩, _⟩ := rowsAt_of (k := 2) (vals := opVals) (good := fun _ => True) (by decide) Tryd.underlying59 (by kernel_rfl) Op_read h
  have e3 := e2
  simp only [Value.slice.injEq] at e3
  refine ⟨z, ⟨a2, c2, e2, fun j x hj => ?_⟩, fun ha => e3.2.2.trans (h3 (e3.1.symm.trans ha)), by omega⟩
  obtain ⟨b2, off2, e4, hb2, hc2⟩ := hxx j x hj
  exact ⟨b2, off2, e4, hb2, hc2 0 _ rfl, hc2 1 _ rfl⟩
end Go.Proofs.YtppihkneeolomaaDoor
end
/- StackAlone: its walk. -/
section
namespace Go.Proofs.YtppihkneeolomaaDoor
open Go.RowKit Qs Qh Qc Qg Qo
variable {w w' : World} {v : Value} {z : List ROp} {a : Nat → Addr} {f : Nat} {N : Nat}
/-- What the last loop makes: what is wanted, the pile. -/
structure SaL (w wr : World) (ops : List SOp) (k : Nat) (want pile : Value) : Prop where
  mod : Mod noF w wr
  wnt : IOwn wr want (stpN ops k).2
  win : ∀ g, want.ownBlock = some g → w.heap.size ≤ g
  pil : IOwn wr pile (stpN ops k).1
  pin : ∀ g, pile.ownBlock = some g → w.heap.size ≤ g
  dis : ∀ g, pile.ownBlock = some g → want.ownBlock ≠ some g
variable {ops : List SOp}
theorem SaL.start (w : World) (ops : List SOp) : SaL w w ops 0 (.slice none 0 0) (.slice none 0 0) :=
  ⟨Mod.refl _ _, IOwn.nil w, fun g h => (by cases h), IOwn.nil w, fun g h => (by cases h), fun g h => (by cases h)⟩
theorem SaL.push {wr w3 w4 : World} {k : Nat} {n : Int} {want pile v4 : Value} (C : SaL w wr ops k want pile) (hx : ops[k]? = some (.push n)) (h3 : Mod noF wr w3)
    (o4 : w4.ownsRow 0 3 1 v4 ((stpN ops k).1.length + 1) ((stpN ops k).1.map (Value.int .i64) ++ [.int .i64 n])) (g4 : w3.grownBy w4 pile.ownBlock) (f4 : ∀ g, v4.ownBlock = some g → pile.ownBlock = some g ∨ w3.heap.size ≤ g) : SaL w w4 ops (k + 1) want v4 := by
  have m4 : Mod (fun x => pile.ownBlock = some x) wr w4 := h3.any.grown g4 fun j hj _ => hj
  have s3 := h3.size
  have s0 := C.mod.size
  have hs := stpN_succ hx
  refine ⟨C.mod.trans m4 fun x hx e => ?_, ?_, C.win, ?_, fun g hg => ?_, fun g hg e => ?_⟩
  · have := C.pin x e; omega
  · rw [hs]
    exact C.wnt.keep m4 fun g hg e => C.dis g e hg
  · rw [hs]; exact IOwn.snoc o4
  · rcases f4 g hg with h | h
    · exact C.pin g h
    · omega
  · rcases f4 g hg with h | h
    · exact C.dis g h e
    · have := C.wnt.lt e; omega
theorem SaL.same {wr : World} {k : Nat} {want pile : Value} (C : SaL w wr ops k want pile) {x : SOp} (hx : ops[k]? = some x) (he : stp (stpN ops k) x = stpN ops k) {w3 : World} (h3 : Mod noF wr w3) : SaL w w3 ops (k + 1) want pile := by
  have hs := stpN_succ hx
  rw [he] at hs
  exact ⟨C.mod.trans0 h3, by rw [hs]; exact C.wnt.keep h3 (fun _ _ e => e), C.win, by rw [hs]; exact C.pil.keep h3 (fun _ _ e => e), C.pin, C.dis⟩
theorem SaL.pop {wr w3 w4 : World} {k : Nat} {u : Int} {p : List Int} {pa : Option Addr} {c : Nat} {want v4 : Value} (C : SaL w wr ops k want (.slice pa (p.length + 1) c)) (hx : ops[k]? = some .pop) (hp : (stpN ops k).1 = p ++ [u]) (h3 : Mod noF wr w3)
    (o4 : w4.ownsRow 0 3 1 v4 ((stpN ops k).2.length + 1) ((stpN ops k).2.map (Value.int .i64) ++ [.int .i64 u])) (g4 : w3.grownBy w4 want.ownBlock) (f4 : ∀ g, v4.ownBlock = some g → want.ownBlock = some g ∨ w3.heap.size ≤ g) : SaL w w4 ops (k + 1) v4 (.slice pa p.length c) := by
  have m4 : Mod (fun x => want.ownBlock = some x) wr w4 := h3.any.grown g4 fun j hj _ => hj
  have s3 := h3.size
  have s0 := C.mod.size
  have hs : stpN ops (k + 1) = (p, (stpN ops k).2 ++ [u]) := by
    rw [stpN_succ hx]
    show (if (stpN ops k).1 = [] then _ else _) = _
    rw [if_neg (by rw [hp]; simp), hp]
    simp
  have hpl := C.pil
  rw [hp] at hpl
  obtain ⟨-, -, -, hpl2, -⟩ := hpl.pop
  have hob : ∀ g, (Value.slice pa p.length c).ownBlock = some g → (Value.slice pa (p.length + 1) c).ownBlock = some g := fun g h => by cases pa <;> exact h
  refine ⟨C.mod.trans m4 fun x hx e => ?_, ?_, fun g hg => ?_, ?_, fun g hg => C.pin g (hob g hg), fun g hg e => ?_⟩
  · have := C.win x e; omega
  · rw [hs]; exact IOwn.snoc o4
  · rcases f4 g hg with h | h
    · exact C.win g h
    · omega
  · rw [hs]
    exact hpl2.keep m4 fun g hg e => C.dis g (hob g hg) e
  · rcases f4 g e with h | h
    · exact C.dis g (hob g hg) h
    · have := C.pil.lt (hob g hg); omega
theorem nil_one {w : World} {oa : Option Addr} {n c : Nat} {b : Nat} {T : TypeId} (hn : oa = none → c = 0) (hb : w.heap[b]? = some (.cells #[.slice oa n c] T (0, 0))) : NilOk w (.slice (some ⟨b, 0, none⟩) 1 1) := fun b' off n' m i k c' e hi hc => by
  cases e
  obtain rfl : i = 0 := by omega
  rw [cell_of_heap hb] at hc
  simp at hc
  obtain ⟨rfl, rfl, rfl⟩ := hc
  exact hn rfl

set_option maxHeartbeats 4000000 in
theorem sa_out {f : Int} (H : RRow N w v z) (hz : z.length ≤ maxLen) (hg : ¬ (z.length ≤ 10 ∧ 1 ≤ f ∧ f ≤ 4)) :
    Calls Tryd.prog 5 #[.int .i64 f, v] w fun e w' => e = .returned (.bool true) ∧ Mod noF w w' := by
  obtain ⟨va, vc, rfl, -⟩ := H
  by_cases g1 : 10 < z.length
  · have d1 : decide ((10 : Int) < (z.length : Int)) = true := by simp; omega
    go_enter Tryd.func5, Tryd.ntmps5
    go_wp2_with fail
    refine (piled_ok _).mono ?_
    rintro e w1 ⟨rfl, hm1⟩
    have Hm1 := Lib.hid hm1
    clear hm1
    go_wp2
    go_ret
    exact ⟨rfl, Hm1.out⟩
  · have d1 : decide ((10 : Int) < (z.length : Int)) = false := by simp; omega
    by_cases g2 : f < 1
    · have d2 : decide (f < 1) = true := by simp; omega
      go_enter Tryd.func5, Tryd.ntmps5
      go_wp2_with fail
      refine (piled_ok _).mono ?_
      rintro e w1 ⟨rfl, hm1⟩
      have Hm1 := Lib.hid hm1
      clear hm1
      go_wp2
      go_ret
      exact ⟨rfl, Hm1.out⟩
    · have d2 : decide (f < 1) = false := by simp; omega
      have d3 : decide ((4 : Int) < f) = true := by simp; omega
      go_enter Tryd.func5, Tryd.ntmps5
      go_wp2_with fail
      refine (piled_ok _).mono ?_
      rintro e w1 ⟨rfl, hm1⟩
      have Hm1 := Lib.hid hm1
      clear hm1
      go_wp2
      go_ret
      exact ⟨rfl, Hm1.out⟩
set_option maxRecDepth 4000 in
set_option maxHeartbeats 16000000 in
theorem sa_bad (H : RRow w.heap.size w v z) (hz : z.length ≤ 10) (hf1 : 1 ≤ f) (hf4 : f ≤ 4) (hk : (kfG kPush [kPop, kFlsh] [z]).1 ≠ 0) :
    Calls Tryd.prog 5 #[.int .i64 f, v] w fun e w' => e = .returned (.bool true) ∧ Mod noF w w' := by
  have HH := Lib.hid H
  obtain ⟨va, vc, rfl, -⟩ := H
  have d1 : decide ((10 : Int) < (z.length : Int)) = false := by simp; omega
  have d2 : decide ((f : Int) < 1) = false := by simp; omega
  have d3 : decide ((4 : Int) < (f : Int)) = false := by simp; omega
  have hkp : 0 ≤ (kfG kPush [kPop, kFlsh] [z]).1 := by
    rcases kfG_pos (W := kPush) (ks := [kPop, kFlsh]) [z] with h | h | h
    · rw [h]; decide
    all_goals omega
  have dk : decide ((0 : Int) < (kfG kPush [kPop, kFlsh] [z]).1) = true := by simp; omega
  have h30 : ∀ l ∈ [z], l.length ≤ 30 := fun l hl => by rw [List.mem_singleton] at hl; subst hl; omega
  have hnf := fun c a w => faultField3 c a w
  clear hkp hk
  go_enter Tryd.func5, Tryd.ntmps5
  go_wp2_with fail
  refine (piled_ok _).mono ?_
  rintro e w1 ⟨rfl, hm1⟩
  have Hm1 := Lib.hid hm1
  clear hm1
  go_wp2_with fail
  have hq := ((Mod.refl noF w1).alloc (.cells #[.slice va z.length vc] 59)).alloc (.cells #[.string kPop, .string kFlsh] 9)
  have hb := ((Mod.refl noF (w1.alloc (.cells #[.slice va z.length vc] 59))).alloc (.cells #[.string kPop, .string kFlsh] 9)).heap (heap_alloc_new w1 (.cells #[.slice va z.length vc] 59)) (fun e => e)
  have hR := rin_one2 hb ((HH.out.keep (Hm1.out.trans0 hq) (fun _ _ e => e)).mono (by have := (Hm1.out.trans0 hq).size; exact this))
  refine (kindsG (W := kPush) (ks := [kPop, kFlsh]) hR (by simp) h30 (w1.heap.size + 1) (ks2 w1 _) (by decide)).mono ?_
  rintro e w2 ⟨rfl, hm2⟩
  have Hm2 := Lib.hid (hq.trans0 hm2)
  clear hq hb hR hm2
  generalize (kfG kPush [kPop, kFlsh] [z]).1 = fc at *
  generalize (kfG kPush [kPop, kFlsh] [z]).2 = fp at *
  go_wp2
  go_ret
  exact ⟨rfl, Hm1.out.trans0 Hm2.out⟩
set_option maxRecDepth 100000 in
set_option maxHeartbeats 64000000 in
theorem sa_good (E : ErrsS w a) (HT : TabW w) (H : RRow w.heap.size w v (ops.map sR)) (hnil : ∀ c, v = .slice none ops.length c → c = 0) (hz : ops.length ≤ 10) (hp : ∀ n, SOp.push n ∈ ops → 1 ≤ n ∧ n ≤ 1000) (hf1 : 1 ≤ f) (hf4 : f ≤ 4) (hk : (kfG kPush [kPop, kFlsh] [ops.map sR]).1 = 0) :
    Calls Tryd.prog 5 #[.int .i64 f, v] w fun e w' => e = .returned (.bool true) ∧ Mod noF w w' := by
  have HH := Lib.hid H
  obtain ⟨va, vc, rfl, hcell⟩ := H
  have Hcell := Lib.hid hcell
  rw [List.length_map] at HH hnil ⊢
  have Hnl := Lib.hid (show va = none → vc = 0 from fun e => hnil vc (by rw [e]))
  have d1 : decide ((10 : Int) < (ops.length : Int)) = false := by simp; omega
  have d2 : decide ((f : Int) < 1) = false := by simp; omega
  have d3 : decide ((4 : Int) < (f : Int)) = false := by simp; omega
  have h30 : ∀ l ∈ [ops.map sR], l.length ≤ 30 := fun l hl => by rw [List.mem_singleton] at hl; subst hl; rw [List.length_map]; omega
  have hnf := noFault4
  have Hk := Lib.hid hk
  have HE := Lib.hid E
  have HTW := Lib.hid HT
  have H30 := Lib.hid h30
  have Hp := Lib.hid hp
  obtain ⟨j0, htj, hy0, hy1, hy2⟩ := info_parts intInfo4
  clear hcell hnil hk E HT h30 hp
  go_enter Tryd.func5, Tryd.ntmps5
  go_wp2_with fail
  refine (piled_ok _).mono ?_
  rintro e w1 ⟨rfl, hm1⟩
  have Hm1 := Lib.hid hm1
  clear hm1
  go_wp2_with fail
  have hq := ((Mod.refl noF w1).alloc (.cells #[.slice va ops.length vc] 59)).alloc (.cells #[.string kPop, .string kFlsh] 9)
  have hb := ((Mod.refl noF (w1.alloc (.cells #[.slice va ops.length vc] 59))).alloc (.cells #[.string kPop, .string kFlsh] 9)).heap (heap_alloc_new w1 (.cells #[.slice va ops.length vc] 59)) (fun e => e)
  have hR := rin_one2 hb ((HH.out.keep (Hm1.out.trans0 hq) (fun _ _ e => e)).mono (by have := (Hm1.out.trans0 hq).size; exact this))
  refine (kindsG (W := kPush) (ks := [kPop, kFlsh]) hR (by simp) H30.out (w1.heap.size + 1) (ks2 w1 _) (by decide)).mono ?_
  rintro e w2 ⟨rfl, hm2⟩
  rw [Hk.out]
  have Hm2 := Lib.hid (Hm1.out.trans0 (hq.trans0 hm2))
  clear hq hb hR hm2
  generalize (kfG kPush [kPop, kFlsh] [ops.map sR]).2 = fp at *
  go_wp2_with fail
  have hq3 := (Mod.refl noF w2).alloc (.cells #[.slice va ops.length vc] 59)
  have hb3 := heap_alloc_new w2 (.cells #[.slice va ops.length vc] 59)
  have hR3 := rin_one2 hb3 ((HH.out.keep (Hm2.out.trans0 hq3) (fun _ _ e => e)).mono (by have := (Hm2.out.trans0 hq3).size; exact this))
  refine (opsOf_ok hR3 (nil_one Hnl.out hb3) (by simp) H30.out).mono ?_
  rintro e w3 ⟨x, rfl, hm3, hR3⟩
  have Hm3 := Lib.hid (Hm2.out.trans0 (hq3.trans0 hm3))
  have HR3 := Lib.hid hR3
  obtain ⟨xa, xc, rfl, -⟩ := hR3
  have h20 : ∀ l ∈ [ops], l.length ≤ 20 := fun l hl => by rw [List.mem_singleton] at hl; subst hl; omega
  have hpp : ∀ l ∈ [ops], ∀ n, SOp.push n ∈ l → 1 ≤ n ∧ n ≤ 1000 := fun l hl n hn => by
    rw [List.mem_singleton] at hl; subst hl; exact Hp.out n hn
  have hfn := s_fine (f := f) (q := [ops]) hf1 hf4 (by simp) h20 hpp
  have Hfn := Lib.hid hfn
  have hlaw := sk_law hf1 hf4 hz Hp.out (n := 10000) (by decide)
  have Hlaw := Lib.hid hlaw
  clear hm3 hq3 hb3 hlaw hfn hpp
  go_wp2_with fail
  refine (sbuild_ok (q := [ops]) (fun N0 f t h => freshB h) (HE.out.keep Hm3.out) (HTW.out.keep Hm3.out (fun e => e)) HR3.out (Nat.le_refl _) Hk.out (by simp) (by simp) h20 hf1 hf4).mono ?_
  rintro e w4 ⟨iv, rv, cv, vk4, rfl, hm4, hI, hR, hC⟩
  have HI := Lib.hid hI
  have HR := Lib.hid hR
  obtain ⟨ca, cc, rfl, hcx⟩ := hC
  have HC4 := Lib.hid (show CodesAt w4 (.slice ca (sCodes f [ops]).length cc) (sCodes f [ops]) vk4 from ⟨ca, cc, rfl, hcx⟩)
  rw [sCodes_len] at HC4 ⊢
  have Hm4 := Lib.hid (Hm3.out.trans0 hm4)
  obtain ⟨ia, ic, rfl, -⟩ := hI
  obtain ⟨ra, rc, rfl, -⟩ := hR
  rw [sInit_len] at HI ⊢
  rw [sRegs_len] at HR ⊢
  clear hm4 hcx HR3 h20
  generalize hq : [ops] = q at *
  have hq1 : q.length = 1 := by rw [← hq]; rfl
  rw [hq1] at HI HR HC4 ⊢
  go_wp2_with fail
  refine (backStart_ok 64 ia ra _ ic _ rc _).mono ?_
  rintro e w5 ⟨rfl, hm5⟩
  have hq4 := (Mod.refl noF w4).alloc (.cells #[.int .i64 64, .slice ia (1 + 4) ic, .slice ra 1 rc] 32)
  have hT5 := hm5.heap (heap_alloc_new w4 (.cells #[.int .i64 64, .slice ia (1 + 4) ic, .slice ra 1 rc] 32)) (fun e => e)
  have HT5 := Lib.hid hT5
  have Hm5 := Lib.hid (hq4.trans0 hm5)
  clear hm5 hq4 hT5
  go_wp2_with fail
  have hI5 := HI.out.keepM Hm5.out
  have hR5 := HR.out.keepM Hm5.out
  have hC5 := CodesAt.keepM HC4.out Hm5.out
  have hcl : (sCodes f q).length = 1 := by rw [sCodes_len, hq1]
  have hil : (sInit f q.length).length ≤ 64 := by rw [sInit_len, hq1]; decide
  have hrl : (sRegs q.length).length = (sCodes f q).length := by rw [sRegs_len, hcl, hq1]
  have hci := sInit_fine f q.length (by omega)
  have hcr := sRegs_fine q.length (by omega)
  rw [hq1] at hil hrl hci hcr
  refine (startFault_ok 64 _ _ _ (sInit f 1) (sRegs 1) _ _ _ hI5 hR5 hC5 (by omega) (by omega) (by rw [hcl]; decide) (by rw [hcl]; decide) hil (by rw [hrl]; exact Nat.le_refl _) hci hcr Hfn.out).mono ?_
  rintro e w6 ⟨rfl, hm6⟩
  have Hm6 := Lib.hid (Hm5.out.trans0 hm6)
  have HT6 := Lib.hid (hm6.heap HT5.out (fun e => e))
  have c0 := cell_of_heap HT6.out 0
  have c1 := cell_of_heap HT6.out 1
  have c2 := cell_of_heap HT6.out 2
  replace c0 : w6.cell? ⟨w4.heap.size, 0, none⟩ = some (.int .i64 64) := c0
  replace c1 : w6.cell? ⟨w4.heap.size, 1, none⟩ = some (.slice ia (1 + 4) ic) := c1
  replace c2 : w6.cell? ⟨w4.heap.size, 2, none⟩ = some (.slice ra 1 rc) := c2
  clear hm6 hI5 hR5 hC5 HT5
  go_wp2_with fail
  refine (backStart_ok 64 ia ra _ ic _ rc _).mono ?_
  rintro e w7 ⟨rfl, hm7⟩
  have Hm7 := Lib.hid (Hm6.out.trans0 hm7)
  clear hm7 c0 c1 c2 HT6
  go_wp2_with fail
  have hI7 := HI.out.keepM Hm7.out
  have hR7 := HR.out.keepM Hm7.out
  have hC7 := CodesAt.keepM HC4.out Hm7.out
  refine (newMachine_ok 64 _ _ _ (sInit f 1) (sRegs 1) _ _ _ hI7 hR7 hC7 (by omega) (by omega) (by rw [hcl]; decide) (by rw [hcl]; decide) hil hrl hci hcr Hfn.out).mono ?_
  rintro e w8 ⟨L, rfl, hX, hb8, hf8⟩
  have hsM : startM 64 (sInit f 1) (sRegs 1) (sCodes f q) = sM f q := by unfold sM; rw [hq1]
  rw [hsM] at hX hf8
  have HX := Lib.hid hX
  have hq8 := Mod.below hb8
  have Hm8 := Lib.hid (Hm4.out.trans0 (Hm7.out.trans0 hq8))
  have hT1 : (sM f q).T.length = 1 := by rw [s_Tlen, hq1]
  have hfw : ∀ j, Foot ty allK L (sM f q) j → w.heap.size ≤ j := fun j hj => by
    have h1 := hf8 j hj
    have h2 := (Hm4.out.trans0 Hm7.out).size
    omega
  have Hfw := Lib.hid hfw
  have HT1 := Lib.hid hT1
  clear hX hb8 hf8 hsM hq8 hT1 hfw hI7 hR7 hC7 HI HR HC4 Hm7 Hm6 Hm5 hci hcr hil hrl hcl Hm4 Hm3
  generalize sM f q = m at *
  go_wp2
  go_loopw [10] (fun i wr => ∃ k : Nat, k ≤ 10000 ∧ itsRel w8 L m k i wr) (fun i _ => 10000 - (intOf i).toNat)
  case atStart => exact ⟨0, Nat.zero_le _, itsRel.start HX.out (Mod.refl _ _)⟩
  case round =>
    generalize wr = w9 at *
    obtain ⟨k, hk, rfl, L9, U⟩ := hrel
    have HU := Lib.hid U
    clear U
    by_cases hlt : k < 10000
    · have hd : decide ((k : Int) < 10000) = true := by simp; omega
      have hki : (k : Int) < 10000 := by omega
      go_wp2_with fail
      refine (itsRel.turn HT1.out (by omega) HU.out).mono ?_
      rintro e w10 ⟨d, rfl, L2, U2⟩
      have HU2 := Lib.hid U2
      clear U2
      go_wp2
      go_roundw
      case rel => exact ⟨k + 1, by omega, by go_num, L2, HU2.out⟩
      case measure => simp [intOf]; omega
    · have hd : decide ((k : Int) < 10000) = false := by simp; omega
      have hk4 : k = 10000 := by omega
      have U := HU.out
      rw [hk4] at U
      have hX9 := U.mach
      have htop := U.top.1
      have E := Hlaw.out
      have h9 : Mod noF w w9 := Hm8.out.trans U.mod fun x hx hf => by have := Hfw.out x hf; omega
      have hdn := fun w' (h : Mod noF w9 w') => done_any (hX9.frame0 h) 0 (by rw [its_Tlen, HT1.out]; decide)
      rw [E.1, htop] at hdn
      have hmk := E.2.2
      generalize its 10000 m = m9 at hX9 E hmk hdn
      obtain ⟨ka, kc, htold, hmkc⟩ := hX9.told
      have hh := hX9.head
      rw [htop, htold, E.2.1] at hh
      have x3 : w9.cell? ⟨L.blk 0 0, 3, none⟩ = some (.int .i64 0) := by rw [cell_of_heap hh]; rfl
      have x2 : w9.cell? ⟨L.blk 0 0, 2, none⟩ = some (.slice ka m9.marks.length kc) := by rw [cell_of_heap hh]; rfl
      have H9 := Lib.hid h9
      have Hmkc := Lib.hid hmkc
      have Hmk := Lib.hid hmk
      have Hdn := Lib.hid hdn
      have h500 := hX9.ot.marks
      clear h9 hmkc hmk hdn hX9 htop E htold hh U HU HX Hm8 Hlaw Hfw hk4 hk hlt
      go_wp2
      go_loopw [11, 12, 13] (fun a p i wr => ∃ k : Nat, k ≤ ops.length ∧ i = .int .i64 k ∧ SaL w9 wr ops k a p) (fun _ _ i _ => ops.length - (intOf i).toNat)
      case atStart => exact ⟨0, Nat.zero_le _, rfl, SaL.start _ _⟩
      case round =>
        generalize wr = w10 at *
        obtain ⟨k, hk, rfl, hS⟩ := hrel
        obtain ⟨ta, tb, tc, rfl⟩ := slice_of_own hS.wnt
        obtain ⟨pa, pb, pc, rfl⟩ := slice_of_own hS.pil
        have HS := Lib.hid hS
        clear hS
        by_cases hlt : k < ops.length
        · have hd : decide ((k : Int) < (ops.length : Int)) = true := by simp; omega
          have hki : (k : Int) < (ops.length : Int) := by omega
          obtain ⟨x, hx⟩ : ∃ x, ops[k]? = some x := ⟨_, List.getElem?_eq_getElem hlt⟩
          obtain ⟨b, off, rfl, hb, hc0, hc1⟩ := Hcell.out k (sR x) (by rw [List.getElem?_map, hx]; rfl)
          have hc0 := (H9.out.trans0 HS.out.mod).cell hc0 (fun e => e)
          have hc1 := (H9.out.trans0 HS.out.mod).cell hc1 (fun e => e)
          have hlen2 := stpN_len ops k
          have hbw : b < w9.heap.size := Nat.lt_of_lt_of_le hb H9.out.size
          have Hx := Lib.hid hx
          have Hln := Lib.hid hlen2
          clear hx hlen2
          cases x with
          | push n =>
            replace hc0 : w10.cell? ⟨b, off + k * 2, none⟩ = some (.string ⟨#[112, 117, 115, 104]⟩) := hc0
            replace hc1 : w10.cell? ⟨b, off + k * 2 + 1, none⟩ = some (.int .i64 n) := hc1
            have hlp : (stpN ops k).1.length ≤ 10 := by have := Hln.out.1; omega
            have hbnd2 : (stpN ops k).1.length + 1 ≤ maxLen := by unfold maxLen; omega
            have hown : IOwn w10 (.slice pa pb pc) (stpN ops k).1 := HS.out.pil
            have Hown := Lib.hid hown
            clear hown
            go_wp2_with (at_builtin; refine wpList_append_mine _ rfl (.tmp 81) (.tmp 87) 23 rfl 3 j0 (.int .i64 0) 1 8 Tryd.underlying23 htj hy0 hy1 hy2 rfl (by decide) _ (stpN ops k).1.length ((stpN ops k).1.map (Value.int .i64)) rfl (by exact World.ownsRow.alloc Hown.out _) ⟨w10.heap.size, 0, none⟩ 1 1 [.int .i64 n] rfl rfl (by exact new_cells_at _ _ _ rfl) (int_one n) hbnd2 (by omega) ?_; intro v6 w11 hown hgr hfr _; obtain ⟨xa, xb, xc, rfl⟩ := slice_of_own hown; have Hown6 := Lib.hid hown; have Hgr6 := Lib.hid hgr; have Hfr6 := Lib.hid hfr; clear hown hgr hfr)
            go_wp2
            go_roundw
            case rel => exact ⟨k + 1, by omega, by go_num, HS.out.push Hx.out ((Mod.refl noF w10).alloc _) Hown6.out Hgr6.out Hfr6.out⟩
            case measure => simp [intOf]; omega
          | pop =>
            replace hc0 : w10.cell? ⟨b, off + k * 2, none⟩ = some (.string ⟨#[112, 111, 112]⟩) := hc0
            by_cases he : (stpN ops k).1 = []
            · have h0 : pb = 0 := by
                have h := HS.out.pil
                rw [he] at h
                rcases h.2 with ⟨e, -⟩ | ⟨g, cap, cur, e, -⟩
                · cases e; rfl
                · cases e; rfl
              subst h0
              go_wp2
              go_roundw
              case rel => exact ⟨k + 1, by omega, by go_num, HS.out.same Hx.out (by show (if _ then _ else _) = _; rw [if_pos he]) (Mod.refl _ _)⟩
              case measure => simp [intOf]; omega
            · obtain ⟨p, y, hpy⟩ : ∃ p y, (stpN ops k).1 = p ++ [y] := ⟨(stpN ops k).1.dropLast, (stpN ops k).1.getLast he, (List.dropLast_concat_getLast he).symm⟩
              have hpl := HS.out.pil
              rw [hpy] at hpl
              obtain ⟨e1, e2, e3, hpl2, g, rfl, hgc⟩ := hpl.pop
              subst e1
              have hlp := Hln.out.1
              have hlw := Hln.out.2
              rw [hpy, List.length_append, List.length_singleton] at hlp
              have hgp : w9.heap.size ≤ g := HS.out.pin g rfl
              have hnw : ¬ (Value.slice ta tb tc).ownBlock = some g := HS.out.dis g rfl
              have hown : IOwn w10 (.slice ta tb tc) (stpN ops k).2 := HS.out.wnt
              have hbnd2 : (stpN ops k).2.length + 1 ≤ maxLen := by unfold maxLen; omega
              have hsb : ((p.length : Int) + 1 - 1) = (p.length : Int) := by omega
              have hd5 : decide ((0 : Int) < (p.length : Int) + 1) = true := by rw [decide_eq_true_iff]; omega
              have hpos : (0 : Int) < (p.length : Int) + 1 := by omega
              have hpc : (p.length : Int) ≤ (pc : Int) := by omega
              have Hown := Lib.hid hown
              have Hpy := Lib.hid hpy
              clear hown hpy hpl hpl2 he
              go_wp2_with (at_builtin; refine wpList_append_mine _ rfl (.tmp 94) (.tmp 101) 23 rfl 3 j0 (.int .i64 0) 1 8 Tryd.underlying23 htj hy0 hy1 hy2 rfl (by decide) _ (stpN ops k).2.length ((stpN ops k).2.map (Value.int .i64)) rfl (by exact World.ownsRow.alloc Hown.out _) ⟨w10.heap.size, 0, none⟩ 1 1 [.int .i64 y] rfl rfl (by exact new_cells_at _ _ _ rfl) (int_one y) hbnd2 (by omega) ?_; intro v6 w11 hown hgr hfr _; obtain ⟨xa, xb, xc, rfl⟩ := slice_of_own hown; have Hown6 := Lib.hid hown; have Hgr6 := Lib.hid hgr; have Hfr6 := Lib.hid hfr; clear hown hgr hfr)
              go_wp2
              go_roundw
              case rel => exact ⟨k + 1, by omega, by go_num, HS.out.pop Hx.out Hpy.out ((Mod.refl noF w10).alloc _) Hown6.out Hgr6.out Hfr6.out⟩
              case measure => simp [intOf]; omega
          | flush =>
            replace hc0 : w10.cell? ⟨b, off + k * 2, none⟩ = some (.string ⟨#[102, 108, 117, 115, 104]⟩) := hc0
            go_wp2
            go_roundw
            case rel => exact ⟨k + 1, by omega, by go_num, HS.out.same Hx.out rfl (Mod.refl _ _)⟩
            case measure => simp [intOf]; omega
        · have hd : decide ((k : Int) < (ops.length : Int)) = false := by simp; omega
          obtain rfl : k = ops.length := by omega
          have hm10 := HS.out.mod
          have x3 := hm10.cell x3 (fun e => e)
          have x2 := hm10.cell x2 (fun e => e)
          have hdn := Hdn.out w10 hm10
          have Hm10 := Lib.hid hm10
          have Hdn2 := Lib.hid hdn
          clear hm10 hdn
          go_wp2_with fail
          refine Hdn2.out.mono ?_
          rintro e w11 ⟨rfl, hm11⟩
          have x2 := hm11.cell x2 (fun e => e)
          have Hm11 := Lib.hid hm11
          clear hm11 Hdn2
          go_wp2_with fail
          refine (marked_ok (L.blk 0 0) ka kc m9.marks x2 (fun i x hi => by
            obtain ⟨b, h1, h2, h3, h4⟩ := Hmkc.out i x hi
            exact ⟨b, h1, Nat.lt_of_lt_of_le h2 (Hm10.out.trans0 Hm11.out).size, (Hm10.out.trans0 Hm11.out).cell h3 (fun e => e), (Hm10.out.trans0 Hm11.out).cell h4 (fun e => e)⟩) h500).mono ?_
          rintro e w12 ⟨x, rfl, hm12, hx, -⟩
          have hwl := stpN_len ops ops.length
          have hx1 := hx.ints
          rw [Hmk.out, List.map_map, ← stpN_end] at hx1
          have e0 : ((stpN ops ops.length).2.map ((fun x : Int × Int => x.2) ∘ fun v => ((0 : Int), v))) = (stpN ops ops.length).2 := by
            conv => rhs; rw [← List.map_id (stpN ops ops.length).2]
            exact List.map_congr_left fun y hy => rfl
          rw [e0] at hx1
          have hy1 := (HS.out.wnt.keep (Hm11.out.trans0 hm12) (fun _ _ e => e)).ints
          have hcall := sameInts_same _ _ _ _ hx1 hy1 (by omega)
          have Hm12 := Lib.hid hm12
          have Hcall := Lib.hid hcall
          obtain ⟨xa2, xc2, rfl, -⟩ := hx1.at_
          clear hm12 hx hx1 hy1 hcall e0 hwl
          go_wp2_with fail
          refine Hcall.out.mono ?_
          rintro e w13 ⟨rfl, hm13⟩
          have Hm13 := Lib.hid hm13
          clear hm13
          go_wp2
          go_ret
          exact ⟨rfl, (((H9.out.trans0 Hm10.out).trans0 Hm11.out).trans0 Hm12.out).trans0 Hm13.out⟩
theorem stackAlone_any (a0 : Int) (a1 : Option Addr) (len1 cap1 : Nat) (z1 : List ROp) (w : World) (hw : (Lit.int .i64 a0).wf = true) (h0 : IsOps1 w a1 len1 cap1 z1) (hE : ∃ a, ErrsS w a) (HT : TabW w) :
    Calls Tryd.prog 5 #[.int .i64 a0, .slice a1 len1 cap1] w fun e w' => e = .returned (.bool true) ∧ Below w.heap.size w w' := by
  obtain ⟨H, hnil, h1⟩ := h0
  obtain ⟨a, E⟩ := hE
  have key : Calls Tryd.prog 5 #[.int .i64 a0, .slice a1 len1 cap1] w fun e w' => e = .returned (.bool true) ∧ Mod noF w w' := by
    by_cases hg : z1.length ≤ 10 ∧ 1 ≤ a0 ∧ a0 ≤ 4
    · obtain ⟨f, rfl⟩ : ∃ f : Nat, a0 = (f : Int) := ⟨a0.toNat, by omega⟩
      by_cases hk : (kfG kPush [kPop, kFlsh] [z1]).1 = 0
      · obtain ⟨q, hq, g1, g6, g20, gp⟩ := good_rawS hk
        obtain ⟨ops, rfl, rfl⟩ : ∃ ops, z1 = ops.map sR ∧ q = [ops] := by
          match q, hq with
          | [ops], hq => exact ⟨ops, by simpa [rawS] using hq, rfl⟩
          | [], hq => simp [rawS] at hq
          | _ :: _ :: _, hq => simp [rawS] at hq
        exact sa_good E HT H (fun c e => by cases e; exact hnil rfl) (by simpa using hg.1) (fun n hn => gp _ (by simp) n hn) (by omega) (by omega) hk
      · exact sa_bad H hg.1 (by omega) (by omega) hk
    · exact sa_out H h1 hg
  exact key.mono fun e w' ⟨he, hm⟩ => ⟨he, hm.under (Nat.le_refl _) fun k hk => hk.elim⟩
end Go.Proofs.YtppihkneeolomaaDoor
end
