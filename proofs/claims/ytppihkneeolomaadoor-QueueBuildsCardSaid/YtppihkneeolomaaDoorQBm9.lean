/- Texts that belong together, joined. -/
import Derived.Test.YtppihkneeolomaaDoorQBFaultCode
import Derived.Test.YtppihkneeolomaaDoorQBm8
import Derived.Test.YtppihkneeolomaaDoorQBm7
import Derived.Test.YtppihkneeolomaaDoorQBm2
import Derived.Outline
import Derived.Test.YtppihkneeolomaaDoorQBm1
import Derived.Test.YtppihkneeolomaaDoorQBm3
import Derived.Deep.RegionWith
import Derived.WalkSpells
import Derived.Deep.LoopGhost
import Derived.Test.YtppihkneeolomaaDoorQBSchain
import Derived.ChangeArms
set_option linter.unusedVariables false
set_option linter.unusedSimpArgs false
set_option linter.unusedSectionVars false
/- An error by its number and place; plain.Code, faulted of it. -/
section
namespace Go.Proofs.YtppihkneeolomaaDoor
open Go.RowKit Qs Qh
/-- What an error is: none, a sentinel, a sentinel with its place. -/
def ErrIs (a : Nat → Addr) (w : World) (v : Value) (c p : Int) : Prop :=
  (c = 0 ∧ p = -1 ∧ v = .nilIface) ∨ (∃ i : Nat, i < 9 ∧ c = (i : Int) + 1 ∧ p = -1 ∧ v = errV a i) ∨
    ∃ i pb : Nat, i < 9 ∧ c = (i : Int) + 1 ∧ v = .iface 124 (.pointer (some ⟨pb, 0, none⟩)) ∧ pb < w.heap.size ∧ w.cell? ⟨pb, 0, none⟩ = some (.int .i64 p) ∧ w.cell? ⟨pb, 1, none⟩ = some (errV a i)
variable {a : Nat → Addr} {w w' : World} {v : Value} {c p : Int}
theorem ErrIs.keep (h : ErrIs a w v c p) {F : Nat → Prop} (hM : Mod F w w') (hF : ∀ b, b < w.heap.size → ¬ F b) : ErrIs a w' v c p := by
  rcases h with h | h | ⟨i, pb, h1, h2, h3, h4, h5, h6⟩
  · exact .inl h
  · exact .inr (.inl h)
  · exact .inr (.inr ⟨i, pb, h1, h2, h3, Nat.lt_of_lt_of_le h4 hM.size, hM.cell h5 (hF pb h4), hM.cell h6 (hF pb h4)⟩)
theorem ErrIs.keepNe (h : ErrIs a w v c p) {F : Nat → Prop} (hM : Mod F w w') (hF : ∀ b, F b → w.cell? ⟨b, 1, none⟩ = some (.slice none 0 0)) : ErrIs a w' v c p := by
  rcases h with h | h | ⟨i, pb, h1, h2, h3, h4, h5, h6⟩
  · exact .inl h
  · exact .inr (.inl h)
  · have hn : ¬ F pb := fun e => by rw [hF pb e] at h6; cases h6
    exact .inr (.inr ⟨i, pb, h1, h2, h3, Nat.lt_of_lt_of_le h4 hM.size, hM.cell h5 hn, hM.cell h6 hn⟩)
theorem ErrIs.nil (h : ErrIs a w v 0 p) : v = .nilIface := by
  rcases h with h | ⟨i, h1, h2, _⟩ | ⟨i, pb, h1, h2, _⟩
  · exact h.2.2
  · omega
  · omega
theorem ErrIs.some (h : ErrIs a w v c p) (hc : c ≠ 0) : ∃ T x, v = .iface T (.pointer (some x)) := by
  rcases h with h | ⟨i, h1, h2, h3, h4⟩ | ⟨i, pb, h1, h2, h3, _⟩
  · exact absurd h.1 hc
  · exact ⟨_, _, h4⟩
  · exact ⟨_, _, h3⟩
theorem code_any (E : ErrsAt w a) (h : ErrIs a w v c p) : Calls Tryd.prog 48 #[v] w fun e w' => e = .returned (.tuple #[.int .i64 c, .int .i64 p]) ∧ Mod noF w w' := by
  rcases h with ⟨rfl, rfl, rfl⟩ | ⟨i, h1, rfl, rfl, rfl⟩ | ⟨i, pb, h1, rfl, rfl, h4, h5, h6⟩
  · exact (code_nil w).mono fun e w' h => ⟨h.1, h.2 ▸ Mod.refl _ _⟩
  · exact code_at E i h1
  · exact code_fault E i h1 pb p h5 h6
/-- Is an error what is told? -/
def faultB (c p c' p' : Int) : Bool := decide (c = c') && (decide (c = 0) || decide (p = p'))
theorem faultB_self (c p : Int) : faultB c p c p = true := by simp [faultB]
theorem faulted_any (E : ErrsAt w a) (h : ErrIs a w v c p) (c' p' : Int) : Calls Tryd.prog 23 #[v, .agg #[.int .i64 c', .int .i64 p']] w fun e w' => e = .returned (.bool (faultB c p c' p')) ∧ Mod noF w w' := by
  have hq := (Mod.refl noF w).alloc (.cells #[.int .i64 c', .int .i64 p'] 27)
  have Hc := Lib.hid (code_any (E.keep hq) (h.keep hq (fun _ _ e => e)))
  have f0 : (w.alloc (.cells #[.int .i64 c', .int .i64 p'] 27)).cell? ⟨w.heap.size, 0, none⟩ = some (.int .i64 c') := by simp
  have f1 : (w.alloc (.cells #[.int .i64 c', .int .i64 p'] 27)).cell? ⟨w.heap.size, 1, none⟩ = some (.int .i64 p') := by simp
  have Hf0 := Lib.hid f0
  have Hf1 := Lib.hid f1
  clear E h hq f0 f1
  unfold faultB
  by_cases h1 : c = c'
  · subst h1
    by_cases h2 : c = 0
    · subst h2
      go_enter Tryd.func23, Tryd.ntmps23
      go_wp2_with fail
      refine Hc.out.mono ?_
      rintro e w1 ⟨rfl, hm⟩
      have g0 := hm.cell Hf0.out (fun e => e)
      have g1 := hm.cell Hf1.out (fun e => e)
      have Hm := Lib.hid hm
      clear hm
      go_wp2
      go_ret
      exact ⟨rfl, ((Mod.refl noF w).alloc _).trans0 Hm.out⟩
    · have d2 : (c == 0) = false := by simpa using h2
      have d3 : decide (c = 0) = false := by simpa using h2
      by_cases h3 : p = p'
      · subst h3
        rw [d3]
        go_enter Tryd.func23, Tryd.ntmps23
        go_wp2_with fail
        refine Hc.out.mono ?_
        rintro e w1 ⟨rfl, hm⟩
        have g0 := hm.cell Hf0.out (fun e => e)
        have g1 := hm.cell Hf1.out (fun e => e)
        have Hm := Lib.hid hm
        clear hm
        go_wp2
        go_ret
        exact ⟨by simp, ((Mod.refl noF w).alloc _).trans0 Hm.out⟩
      · have d4 : (p == p') = false := by simpa using h3
        have d5 : decide (p = p') = false := by simpa using h3
        rw [d3, d5]
        go_enter Tryd.func23, Tryd.ntmps23
        go_wp2_with fail
        refine Hc.out.mono ?_
        rintro e w1 ⟨rfl, hm⟩
        have g0 := hm.cell Hf0.out (fun e => e)
        have g1 := hm.cell Hf1.out (fun e => e)
        have Hm := Lib.hid hm
        clear hm
        go_wp2
        go_ret
        exact ⟨by simp, ((Mod.refl noF w).alloc _).trans0 Hm.out⟩
  · have d1 : (c == c') = false := by simpa using h1
    have d5 : decide (c = c') = false := by simpa using h1
    rw [d5]
    go_enter Tryd.func23, Tryd.ntmps23
    go_wp2_with fail
    refine Hc.out.mono ?_
    rintro e w1 ⟨rfl, hm⟩
    have g0 := hm.cell Hf0.out (fun e => e)
    have g1 := hm.cell Hf1.out (fun e => e)
    have Hm := Lib.hid hm
    clear hm
    go_wp2
    go_ret
    exact ⟨by simp, ((Mod.refl noF w).alloc _).trans0 Hm.out⟩
end Go.Proofs.YtppihkneeolomaaDoor
end
/- stack.Check: over any lists of ops. -/
section
namespace Go.Proofs.YtppihkneeolomaaDoor
open Go.RowKit Qs Qh
variable {N : Nat} {w w' : World} {v u : Value} {ll : List (List ROp)} {l : List ROp} {W : ByteArray} {ks : List ByteArray}
def IdxPost (ks : List ByteArray) (s : ByteArray) (w : World) (e : Ending) (w' : World) : Prop := ∃ n : Int, e = .returned (.int .i64 n) ∧ w' = w ∧ (s ∈ ks → 0 ≤ n) ∧ (¬ s ∈ ks → n = -1)
def IdlPost (ll : List (List ROp)) (w : World) (e : Ending) (w' : World) : Prop := ∃ n : Int, e = .returned (.int .i64 n) ∧ w' = w ∧ ((∀ l ∈ ll, l.length ≤ 20) → n = -1) ∧ (¬ (∀ l ∈ ll, l.length ≤ 20) → 0 ≤ n)
theorem indexK (w : World) (g : Nat) (ks : List ByteArray) (s : ByteArray) (hg : KsAt w g ks) (hl : ks.length ≤ 1000) :
    Calls Tryd.prog 98 #[.slice (some ⟨g, 0, none⟩) ks.length ks.length, .string s] w (IdxPost ks s w) := by
  have Hg := Lib.hid hg
  clear hg
  go_enter Tryd.func98, Tryd.ntmps98
  go_wp2
  go_loop [5, 8] (fun j i => ∃ k : Nat, k ≤ ks.length ∧ i = .int .i64 k ∧ ¬ s ∈ ks.take k) (fun _ i => ks.length - (intOf i).toNat)
  case atStart => exact ⟨0, Nat.zero_le _, rfl, by simp⟩
  case round =>
    obtain ⟨k, hk, rfl, hno⟩ := hrel
    have Hno := Lib.hid hno
    clear hno
    by_cases hlt : k < ks.length
    · have hd : decide ((k : Int) < (ks.length : Int)) = true := by simp; omega
      have hki : (k : Int) < (ks.length : Int) := by omega
      obtain ⟨y, hy⟩ : ∃ y, ks[k]? = some y := ⟨_, List.getElem?_eq_getElem hlt⟩
      have hyc := Hg.out k y hy
      have hmem := List.mem_of_getElem? hy
      have htk : ks.take (k + 1) = ks.take k ++ [y] := by rw [List.take_add_one, hy]; rfl
      have Htk := Lib.hid htk
      have Hmem := Lib.hid hmem
      clear hy htk hmem
      by_cases hxy : y = s
      · subst hxy
        have ey := str_eq y
        go_wp2
        go_ret
        exact ⟨_, rfl, rfl, fun _ => by omega, fun h => absurd Hmem.out h⟩
      · have ey : (s.toList == y.toList) = false := str_ne fun e => hxy e.symm
        have ey2 : (y.toList == s.toList) = false := str_ne hxy
        go_wp2
        go_round
        case rel => exact ⟨k + 1, by omega, by go_num, by rw [Htk.out]; intro h; rcases List.mem_append.1 h with h | h; exact Hno.out h; exact hxy (List.mem_singleton.1 h).symm⟩
        case measure => simp [intOf]; omega
    · have hd : decide ((k : Int) < (ks.length : Int)) = false := by simp; omega
      obtain rfl : k = ks.length := by omega
      have hno := Hno.out
      rw [List.take_length] at hno
      go_wp2
      go_ret
      exact ⟨-1, rfl, rfl, fun h => absurd h hno, fun _ => rfl⟩
theorem containsK (w : World) (g : Nat) (ks : List ByteArray) (s : ByteArray) (hg : KsAt w g ks) (hl : ks.length ≤ 1000) :
    Calls Tryd.prog 67 #[.slice (some ⟨g, 0, none⟩) ks.length ks.length, .string s] w fun e w' => e = .returned (.bool (memK ks s)) ∧ w' = w := by
  have Hcall := Lib.hid (indexK w g ks s hg hl)
  clear hg
  by_cases hs : s ∈ ks
  · have ds : memK ks s = true := memK_iff.2 hs
    rw [ds]
    go_enter Tryd.func67, Tryd.ntmps67
    go_wp2_with fail
    refine Hcall.out.mono ?_
    rintro e w' ⟨n, rfl, rfl, h1, h2⟩
    have d : decide ((0 : Int) ≤ n) = true := by simpa using h1 hs
    clear h1 h2 hs
    go_wp2
    go_ret
    exact ⟨rfl, rfl⟩
  · have ds : memK ks s = false := by cases h : memK ks s with
      | true => exact absurd (memK_iff.1 h) hs
      | false => rfl
    rw [ds]
    go_enter Tryd.func67, Tryd.ntmps67
    go_wp2_with fail
    refine Hcall.out.mono ?_
    rintro e w' ⟨n, rfl, rfl, h1, h2⟩
    obtain rfl := h2 hs
    clear h1 h2 hs
    go_wp2
    go_ret
    exact ⟨rfl, rfl⟩
theorem longOpG (w : World) (a : Option Addr) (n c : Nat) (hn : n ≤ maxLen) : Calls Tryd.prog 66 #[.slice a n c] w fun e w' => e = .returned (.bool (decide (20 < n))) ∧ w' = w := by
  by_cases h : 20 < n
  · have d : decide ((20 : Int) < (n : Int)) = true := by simp; omega
    have d2 : decide (20 < n) = true := by simpa using h
    rw [d2]
    go_enter Tryd.func66, Tryd.ntmps66
    go_wp2
    go_ret
    exact ⟨rfl, rfl⟩
  · have d : decide ((20 : Int) < (n : Int)) = false := by simp; omega
    have d2 : decide (20 < n) = false := by simpa using h
    rw [d2]
    go_enter Tryd.func66, Tryd.ntmps66
    go_wp2
    go_ret
    exact ⟨rfl, rfl⟩
theorem indexLongG (H : RIn N w v ll) (hrow : ∀ l ∈ ll, l.length ≤ 30) (hl : ll.length ≤ 1000) :
    Calls Tryd.prog 97 #[v, .func (.func 66) #[] #[]] w (IdlPost ll w) := by
  obtain ⟨a, c, rfl, hx⟩ := H
  have Hx := Lib.hid hx
  have Hrow := Lib.hid hrow
  clear hx hrow
  go_enter Tryd.func97, Tryd.ntmps97
  go_wp2
  go_loop [8] (fun i => ∃ k : Nat, k ≤ ll.length ∧ i = .int .i64 k ∧ ∀ (j : Nat) y, j < k → ll[j]? = some y → y.length ≤ 20) (fun i => ll.length - (intOf i).toNat)
  case atStart => exact ⟨0, Nat.zero_le _, rfl, fun j y h => by omega⟩
  case round =>
    obtain ⟨k, hk, rfl, hall⟩ := hrel
    have Hall := Lib.hid hall
    clear hall
    by_cases hlt : k < ll.length
    · have hd : decide ((k : Int) < (ll.length : Int)) = true := by simp; omega
      have hki : (k : Int) < (ll.length : Int) := by omega
      obtain ⟨l, hl⟩ : ∃ l, ll[k]? = some l := ⟨_, List.getElem?_eq_getElem hlt⟩
      obtain ⟨b, off, u, rfl, hb, hc, ⟨ua, uc, rfl, -⟩⟩ := Hx.out k l hl
      have hmem := List.mem_of_getElem? hl
      have hcall := longOpG w ua l.length uc (by have := Hrow.out l hmem; unfold maxLen; omega)
      have Hl := Lib.hid hl
      have Hmem := Lib.hid hmem
      by_cases h20 : 20 < l.length
      · rw [show decide (20 < l.length) = true by simpa using h20] at hcall
        have Hcall := Lib.hid hcall
        clear hcall hl hmem
        go_wp2_with fail
        refine Hcall.out.mono ?_
        rintro e w' ⟨rfl, rfl⟩
        go_wp2
        go_ret
        exact ⟨_, rfl, rfl, fun h => by have := h l Hmem.out; omega, fun _ => by omega⟩
      · rw [show decide (20 < l.length) = false by simpa using h20] at hcall
        have Hcall := Lib.hid hcall
        clear hcall hl hmem
        go_wp2_with fail
        refine Hcall.out.mono ?_
        rintro e w' ⟨rfl, rfl⟩
        go_wp2
        go_round
        case rel =>
          refine ⟨k + 1, by omega, by go_num, fun j y hj hy => ?_⟩
          by_cases e : j = k
          · subst e
            rw [Hl.out] at hy; cases hy; omega
          · exact Hall.out j y (by omega) hy
        case measure => simp [intOf]; omega
    · have hd : decide ((k : Int) < (ll.length : Int)) = false := by simp; omega
      have hnone : ∀ l ∈ ll, l.length ≤ 20 := fun l hl => by
        obtain ⟨i, hi⟩ := List.getElem?_of_mem hl
        exact Hall.out i l (by have := (List.getElem?_eq_some_iff.1 hi).1; omega) hi
      go_wp2
      go_ret
      exact ⟨-1, rfl, rfl, fun _ => rfl, fun h => absurd hnone h⟩
theorem containsLongG (H : RIn N w v ll) (hrow : ∀ l ∈ ll, l.length ≤ 30) (hl : ll.length ≤ 1000) (b : Bool) (hb : b = true ↔ ¬ ∀ l ∈ ll, l.length ≤ 20) :
    Calls Tryd.prog 65 #[v, .func (.func 66) #[] #[]] w fun e w' => e = .returned (.bool b) ∧ w' = w := by
  have Hcall := Lib.hid (indexLongG H hrow hl)
  clear H hrow
  cases b with
  | true =>
    go_enter Tryd.func65, Tryd.ntmps65
    go_wp2_with fail
    refine Hcall.out.mono ?_
    rintro e w' ⟨n, rfl, rfl, h1, h2⟩
    have d : decide ((0 : Int) ≤ n) = true := by simpa using h2 (by simpa using hb)
    clear h1 h2 hb
    go_wp2
    go_ret
    exact ⟨rfl, rfl⟩
  | false =>
    go_enter Tryd.func65, Tryd.ntmps65
    go_wp2_with fail
    refine Hcall.out.mono ?_
    rintro e w' ⟨n, rfl, rfl, h1, h2⟩
    obtain rfl := h1 (by
      by_cases h : ∀ l ∈ ll, l.length ≤ 20
      · exact h
      · exact absurd (hb.2 h) (by simp))
    clear h1 h2 hb
    go_wp2
    go_ret
    exact ⟨rfl, rfl⟩
theorem manyB_iff : manyB ll = true ↔ 1 ≤ ll.length ∧ ll.length ≤ 6 ∧ ∀ l ∈ ll, l.length ≤ 20 := by
  unfold manyB
  simp [and_assoc]
theorem manyB_false (h : manyB ll = false) : ll.length < 1 ∨ 6 < ll.length ∨ ¬ ∀ l ∈ ll, l.length ≤ 20 := by
  by_cases h1 : ll.length < 1
  · exact .inl h1
  · by_cases h2 : 6 < ll.length
    · exact .inr (.inl h2)
    · refine .inr (.inr fun h3 => ?_)
      have := manyB_iff.2 ⟨by omega, by omega, h3⟩
      rw [this] at h; cases h
variable {a : Nat → Addr}
set_option maxHeartbeats 4000000 in
theorem checkG_many (E : ErrsAt w a) (H : RIn N w v ll) (g : Nat) (hlen : ll.length ≤ 10) (hrow : ∀ l ∈ ll, l.length ≤ 30) (hm : manyB ll = false) :
    Calls Tryd.prog 36 #[v, .string W, .slice (some ⟨g, 0, none⟩) ks.length ks.length] w fun e w' => ∃ ev, e = .returned ev ∧ ErrIs a w' ev 2 (-1) ∧ Mod noF w w' := by
  have hv := E.v1
  have fin : ∀ w', ErrIs a w' (errV a 1) 2 (-1) := fun w' => .inr (.inl ⟨1, by omega, rfl, rfl, rfl⟩)
  unfold errV at fin
  have Fin := Lib.hid fin
  clear fin E
  by_cases h1 : ll.length < 1
  · obtain ⟨a', c, rfl, hx⟩ := H
    have d1 : decide ((ll.length : Int) < 1) = true := by simp; omega
    clear hx
    go_enter Tryd.func36, Tryd.ntmps36
    go_wp2
    go_ret
    exact ⟨_, rfl, Fin.out _, Mod.refl _ _⟩
  have d1 : decide ((ll.length : Int) < 1) = false := by simp; omega
  by_cases h6 : 6 < ll.length
  · obtain ⟨a', c, rfl, hx⟩ := H
    have d2 : decide ((6 : Int) < (ll.length : Int)) = true := by simp; omega
    clear hx
    go_enter Tryd.func36, Tryd.ntmps36
    go_wp2
    go_ret
    exact ⟨_, rfl, Fin.out _, Mod.refl _ _⟩
  have d2 : decide ((6 : Int) < (ll.length : Int)) = false := by simp; omega
  have hcall := containsLongG H hrow (by omega) true ⟨fun _ => by
    rcases manyB_false hm with h | h | h
    · omega
    · omega
    · exact h, fun _ => rfl⟩
  have Hcall := Lib.hid hcall
  obtain ⟨a', c, rfl, hx⟩ := H
  clear hx hcall hrow hm
  go_enter Tryd.func36, Tryd.ntmps36
  go_wp2_with fail
  refine Hcall.out.mono ?_
  rintro e w' ⟨rfl, rfl⟩
  go_wp2
  go_ret
  exact ⟨_, rfl, Fin.out _, Mod.refl _ _⟩
set_option maxHeartbeats 8000000 in
theorem checkG_ok (E : ErrsAt w a) (H : RIn N w v ll) (g : Nat) (hg : KsAt w g ks) (hkl : ks.length ≤ 10) (hlen : ll.length ≤ 10) (hrow : ∀ l ∈ ll, l.length ≤ 30) (hm : manyB ll = true) :
    Calls Tryd.prog 36 #[v, .string W, .slice (some ⟨g, 0, none⟩) ks.length ks.length] w fun e w' => ∃ ev, e = .returned ev ∧ ErrIs a w' ev (allR (rowG W ks) 0 ll).1 (allR (rowG W ks) 0 ll).2 ∧ Mod noF w w' := by
  obtain ⟨hl1, hl6, h20⟩ := manyB_iff.1 hm
  have hcall := containsLongG H hrow (by omega) false (by constructor; (intro h; cases h); exact fun h => absurd h20 h)
  have HH := Lib.hid H
  obtain ⟨a', c, rfl, hx⟩ := H
  have d1 : decide ((ll.length : Int) < 1) = false := by simp; omega
  have d2 : decide ((6 : Int) < (ll.length : Int)) = false := by simp; omega
  obtain ⟨rc, ra, hres0⟩ : ∃ rc ra, allR (rowG W ks) 0 ll = (rc, ra) := ⟨_, _, rfl⟩
  rw [hres0]
  have Hres0 := Lib.hid hres0
  simp only
  have Hx := Lib.hid hx
  have H20 := Lib.hid h20
  have Hg := Lib.hid hg
  have HE := Lib.hid E
  have Hcall := Lib.hid hcall
  have e1 := str_eq W
  clear hx h20 hcall hg hres0 E hrow hm
  go_enter Tryd.func36, Tryd.ntmps36
  go_wp2_with fail
  refine Hcall.out.mono ?_
  rintro e w' ⟨rfl, rfl⟩
  go_wp2
  go_loopw [26] (fun i wr => ∃ k : Nat, k ≤ ll.length ∧ i = .int .i64 k ∧ Mod noF w' wr ∧ ∀ (j : Nat) y, j < k → ll[j]? = some y → rowG W ks y = none) (fun i _ => ll.length - (intOf i).toNat)
  case atStart => exact ⟨0, Nat.zero_le _, rfl, Mod.refl _ _, fun j y h => by omega⟩
  case round =>
    generalize wr = w2 at *
    obtain ⟨k, hk, rfl, hm, hall⟩ := hrel
    have Hall := Lib.hid hall
    clear hall
    by_cases hlt : k < ll.length
    · have hd : decide ((k : Int) < (ll.length : Int)) = true := by simp; omega
      have hki : (k : Int) < (ll.length : Int) := by omega
      obtain ⟨l, hl⟩ : ∃ l, ll[k]? = some l := ⟨_, List.getElem?_eq_getElem hlt⟩
      obtain ⟨b, off, u, rfl, hb, hc, hrow⟩ := Hx.out k l hl
      have hc2 := hm.cell hc (fun e => e)
      obtain ⟨ua, uc, rfl, hxx⟩ := hrow.keep hm (fun _ _ e => e)
      have Hxx := Lib.hid hxx
      have Hm := Lib.hid hm
      have h20l := H20.out l (List.mem_of_getElem? hl)
      have Hl := Lib.hid hl
      clear hxx hrow hc hl hm
      go_wp2
      go_loopw [33] (fun i wq => ∃ q : Nat, q ≤ l.length ∧ i = .int .i64 q ∧ Mod noF w2 wq ∧ ∀ (j : Nat) y, j < q → l[j]? = some y → kfOpG W ks y = 0) (fun i _ => l.length - (intOf i).toNat)
      case atStart => exact ⟨0, Nat.zero_le _, rfl, Mod.refl _ _, fun j y h => by omega⟩
      case round =>
        generalize wr = w3 at *
        obtain ⟨q, hq, rfl, hm2, hall⟩ := hrel
        have Hall3 := Lib.hid hall
        clear hall
        by_cases hlq : q < l.length
        · have hd2 : decide ((q : Int) < (l.length : Int)) = true := by simp; omega
          have hqi : (q : Int) < (l.length : Int) := by omega
          obtain ⟨x, hxl⟩ : ∃ x, l[q]? = some x := ⟨_, List.getElem?_eq_getElem hlq⟩
          obtain ⟨ub, uoff, rfl, hub, h0, h1⟩ := Hxx.out q x hxl
          have h0 := hm2.cell h0 (fun e => e)
          have h1 := hm2.cell h1 (fun e => e)
          have Hm2 := Lib.hid hm2
          have Hxl := Lib.hid hxl
          clear hxl hm2
          obtain ⟨xs, xn⟩ := x
          simp only at h0 h1
          have hE3 := (HE.out.keep (Hm.out.trans0 Hm2.out)).keep ((Mod.refl noF w3).alloc (.cells #[.string xs, .int .i64 xn] 63))
          have hbd := hE3.v1
          have hsh := hE3.v2
          by_cases hput : xs = W
          · subst hput
            by_cases hbad : xn < 1 ∨ 1000 < xn
            · have hf : kfOpG xs ks (xs, xn) = 2 := by unfold kfOpG; simp [hbad]
              have hrF := rowG_at l q _ Hxl.out Hall3.out (by rw [hf]; decide)
              rw [hf] at hrF
              have hres := allR_at ll 0 k l 2 Hl.out Hall.out hrF
              rw [Nat.zero_add] at hres
              obtain ⟨rfl, rfl⟩ := Prod.mk.inj (Hres0.out.symm.trans hres)
              clear hres hrF hf hE3
              by_cases hb1 : xn < 1
              · have d3 : decide (xn < 1) = true := by simpa using hb1
                go_wp2
                go_ret
                exact ⟨_, rfl, .inr (.inr ⟨1, _, by omega, rfl, rfl, by simp, by simp, by simp [errV]⟩), ((Hm.out.trans0 Hm2.out).alloc _).alloc _⟩
              · have d3 : decide (xn < 1) = false := by simpa using hb1
                have d4 : decide (1000 < xn) = true := by simp; omega
                go_wp2
                go_ret
                exact ⟨_, rfl, .inr (.inr ⟨1, _, by omega, rfl, rfl, by simp, by simp, by simp [errV]⟩), ((Hm.out.trans0 Hm2.out).alloc _).alloc _⟩
            · have d3 : decide (xn < 1) = false := by simp; omega
              have d4 : decide (1000 < xn) = false := by simp; omega
              have hf : kfOpG xs ks (xs, xn) = 0 := by unfold kfOpG; simp [hbad]
              have Hf := Lib.hid hf
              clear hf hE3
              go_wp2
              go_roundw
              case rel =>
                refine ⟨q + 1, by omega, by go_num, Hm2.out.alloc _, fun j y hj hy => ?_⟩
                by_cases e : j = q
                · subst e
                  rw [Hxl.out] at hy; cases hy; exact Hf.out
                · exact Hall3.out j y (by omega) hy
              case measure => simp [intOf]; omega
          · have ep : (xs.toList == W.toList) = false := str_ne hput
            have hgc := Hg.out.keep ((Hm.out.trans0 Hm2.out).alloc (.cells #[.string xs, .int .i64 xn] 63)) (fun e => e)
            have hcall := containsK _ g ks xs hgc (by omega)
            cases hmem : memK ks xs with
            | true =>
              rw [hmem] at hcall
              have Hcall := Lib.hid hcall
              clear hcall hgc
              by_cases hx0 : xn = 0
              · subst hx0
                have hf : kfOpG W ks (xs, 0) = 0 := by unfold kfOpG; rw [if_neg hput]; simp [hmem]
                have Hf := Lib.hid hf
                clear hf hE3 hmem
                go_wp2_with fail
                refine Hcall.out.mono ?_
                rintro e w9 ⟨rfl, rfl⟩
                go_wp2
                go_roundw
                case rel =>
                  refine ⟨q + 1, by omega, by go_num, Hm2.out.alloc _, fun j y hj hy => ?_⟩
                  by_cases e : j = q
                  · subst e
                    rw [Hxl.out] at hy; cases hy; exact Hf.out
                  · exact Hall3.out j y (by omega) hy
                case measure => simp [intOf]; omega
              · have n2 : (xn == 0) = false := by simpa using hx0
                have n1 : decide (xn = 0) = false := by simpa using hx0
                have hf : kfOpG W ks (xs, xn) = 3 := by unfold kfOpG; rw [if_neg hput]; simp [hx0]
                have hrF := rowG_at l q _ Hxl.out Hall3.out (by rw [hf]; decide)
                rw [hf] at hrF
                have hres := allR_at ll 0 k l 3 Hl.out Hall.out hrF
                rw [Nat.zero_add] at hres
                obtain ⟨rfl, rfl⟩ := Prod.mk.inj (Hres0.out.symm.trans hres)
                clear hres hrF hf hE3 hmem
                go_wp2_with fail
                refine Hcall.out.mono ?_
                rintro e w9 ⟨rfl, rfl⟩
                go_wp2
                go_ret
                exact ⟨_, rfl, .inr (.inr ⟨2, _, by omega, rfl, rfl, by simp, by simp, by simp [errV]⟩), ((Hm.out.trans0 Hm2.out).alloc _).alloc _⟩
            | false =>
              rw [hmem] at hcall
              have Hcall := Lib.hid hcall
              have hf : kfOpG W ks (xs, xn) = 3 := by unfold kfOpG; rw [if_neg hput]; simp [hmem]
              have hrF := rowG_at l q _ Hxl.out Hall3.out (by rw [hf]; decide)
              rw [hf] at hrF
              have hres := allR_at ll 0 k l 3 Hl.out Hall.out hrF
              rw [Nat.zero_add] at hres
              obtain ⟨rfl, rfl⟩ := Prod.mk.inj (Hres0.out.symm.trans hres)
              clear hcall hgc hres hrF hf hE3 hmem
              go_wp2_with fail
              refine Hcall.out.mono ?_
              rintro e w9 ⟨rfl, rfl⟩
              go_wp2
              go_ret
              exact ⟨_, rfl, .inr (.inr ⟨2, _, by omega, rfl, rfl, by simp, by simp, by simp [errV]⟩), ((Hm.out.trans0 Hm2.out).alloc _).alloc _⟩
        · have hd2 : decide ((q : Int) < (l.length : Int)) = false := by simp; omega
          have Hm2 := Lib.hid hm2
          have hrF : rowG W ks l = none := rowG_none fun j y hj => Hall3.out j y (by have := (List.getElem?_eq_some_iff.1 hj).1; omega) hj
          have HrF := Lib.hid hrF
          clear hm2 hrF
          go_wp2
          go_roundw
          case rel =>
            refine ⟨k + 1, by omega, by go_num, Hm.out.trans0 Hm2.out, fun j y hj hy => ?_⟩
            by_cases e : j = k
            · subst e
              rw [Hl.out] at hy; cases hy; exact HrF.out
            · exact Hall.out j y (by omega) hy
          case measure => simp [intOf]; omega
    · have hd : decide ((k : Int) < (ll.length : Int)) = false := by simp; omega
      have hres := allR_none (rf := rowG W ks) ll 0 fun j y hj => Hall.out j y (by have := (List.getElem?_eq_some_iff.1 hj).1; omega) hj
      obtain ⟨rfl, rfl⟩ := Prod.mk.inj (Hres0.out.symm.trans hres)
      have Hm := Lib.hid hm
      clear hm hres
      go_wp2
      go_ret
      exact ⟨_, rfl, .inl ⟨rfl, rfl, rfl⟩, Hm.out⟩
theorem checkG (E : ErrsAt w a) (H : RIn N w v ll) (g : Nat) (hg : KsAt w g ks) (hkl : ks.length ≤ 10) (hlen : ll.length ≤ 10) (hrow : ∀ l ∈ ll, l.length ≤ 30) :
    Calls Tryd.prog 36 #[v, .string W, .slice (some ⟨g, 0, none⟩) ks.length ks.length] w fun e w' => ∃ ev, e = .returned ev ∧ ErrIs a w' ev (kfG W ks ll).1 (kfG W ks ll).2 ∧ Mod noF w w' := by
  unfold kfG
  cases hm : manyB ll with
  | false => exact checkG_many E H g hlen hrow hm
  | true => exact checkG_ok E H g hg hkl hlen hrow hm
end Go.Proofs.YtppihkneeolomaaDoor
end
/- queue.Build: lists that are wrong. -/
section
namespace Go.Proofs.YtppihkneeolomaaDoor
open Go.RowKit Qs Qh
variable {N : Nat} {w w' : World} {v u : Value} {ll : List (List ROp)} {a : Nat → Addr}
theorem kfG_queue (ll : List (List ROp)) : kfG putS [takeS] ll = kf ll := by
  have h1 : ∀ x, kfOpG putS [takeS] x = kfOp x := fun x => by
    have hm : memK [takeS] x.1 = decide (takeS = x.1) := by simp [memK]
    unfold kfOpG kfOp
    rw [hm]
    by_cases h : x.1 = takeS
    · simp [h]
    · have h' : ¬ takeS = x.1 := fun e => h e.symm
      simp [h, h']
  have h2 : rowG putS [takeS] = rowF := by funext l; unfold rowG rowF; rw [show kfOpG putS [takeS] = kfOp from funext h1]
  have h3 : ∀ (ll : List (List ROp)) i, allR rowF i ll = allF i ll := by
    intro ll
    induction ll with
    | nil => intro i; rfl
    | cons y ll ih => intro i; cases h : rowF y <;> simp [allR, allF, h, ih]
  unfold kfG kf
  rw [h2, h3]
set_option maxHeartbeats 8000000 in
theorem qbuild_bad (E : ErrsAt w a) (H : RIn N w v ll) (hN : N ≤ w.heap.size) (hlen : ll.length ≤ 10) (hrow : ∀ l ∈ ll, l.length ≤ 30) (hk : (kf ll).1 ≠ 0) :
    Calls Tryd.prog 10 #[v] w fun e w' => ∃ ev, e = .returned (.tuple #[.agg #[.int .i64 0, .slice none 0 0, .slice none 0 0], .slice none 0 0, ev]) ∧ ErrIs a w' ev (kf ll).1 (kf ll).2 ∧ Mod noF w w' := by
  have HH := Lib.hid H
  have HE := Lib.hid E
  obtain ⟨oa, oc, rfl, -⟩ := H
  have Hrow := Lib.hid hrow
  clear hrow E
  go_enter Tryd.func10, Tryd.ntmps10
  go_wp2_with fail
  have hq := ((Mod.refl noF w).alloc (.cells #[.int .i64 0, .slice none 0 0, .slice none 0 0] 32)).alloc (.cells #[.string takeS] 9)
  refine (checkG (W := putS) (ks := [takeS]) (HE.out.keep hq) (HH.out.keep hq (fun _ _ e => e)) (w.heap.size + 1) (fun i x hi => by
    match i, hi with
    | 0, hi => cases hi; simp [takeS]
    | i + 1, hi => simp at hi) (by simp) hlen Hrow.out).mono ?_
  rintro e wc ⟨ev, rfl, hEv, hmc⟩
  rw [kfG_queue] at hEv
  obtain ⟨T, x, rfl⟩ := hEv.some hk
  have hres : wc.heap[w.heap.size]? = some (.cells #[.int .i64 0, .slice none 0 0, .slice none 0 0] 32 (0, 0)) := ((Mod.refl noF _).alloc _ |>.trans0 hmc).heap (heap_alloc_new w _) (fun e => e)
  have y0 : wc.cell? ⟨w.heap.size, 0, none⟩ = some (.int .i64 0) := by rw [cell_of_heap hres]; rfl
  have y1 : wc.cell? ⟨w.heap.size, 1, none⟩ = some (.slice none 0 0) := by rw [cell_of_heap hres]; rfl
  have y2 : wc.cell? ⟨w.heap.size, 2, none⟩ = some (.slice none 0 0) := by rw [cell_of_heap hres]; rfl
  have yf0 := free_of_heap hres 0
  have yf1 := free_of_heap hres 1
  have yf2 := free_of_heap hres 2
  have Hres := Lib.hid hres
  have HEv := Lib.hid hEv
  have Hmc := Lib.hid (hq.trans0 hmc)
  clear hres hEv hmc hq
  go_wp2
  obtain ⟨wf, hwf⟩ : ∃ wf, wf = (((wc.setCell ⟨w.heap.size, 0, none⟩ (.int .i64 0)).setCell ⟨w.heap.size, 1, none⟩ (.slice none 0 0)).setCell ⟨w.heap.size, 2, none⟩ (.slice none 0 0)) := ⟨_, rfl⟩
  have hMf : Mod (fun x => x = w.heap.size) wc wf := by rw [hwf]; exact (((Mod.refl (fun x => x = w.heap.size) wc).setCell (fun _ => rfl) _).setCell (fun _ => rfl) _).setCell (fun _ => rfl) _
  have hh : wf.heap[w.heap.size]? = some (.cells #[.int .i64 0, .slice none 0 0, .slice none 0 0] 32 (0, 0)) := by
    rw [hwf, Qh.heap_setCell_same (Qh.heap_setCell_same (Qh.heap_setCell_same Hres.out 0 _) 1 _) 2 _]; rfl
  have z0 : wf.cell? ⟨w.heap.size, 0, none⟩ = some (.int .i64 0) := by rw [cell_of_heap hh]; rfl
  have z1 : wf.cell? ⟨w.heap.size, 1, none⟩ = some (.slice none 0 0) := by rw [cell_of_heap hh]; rfl
  have z2 : wf.cell? ⟨w.heap.size, 2, none⟩ = some (.slice none 0 0) := by rw [cell_of_heap hh]; rfl
  rw [← hwf]
  refine bodyPost_ret (v := .tuple #[.agg #[.int .i64 0, .slice none 0 0, .slice none 0 0], .slice none 0 0, .iface T (.pointer (some x))]) (by simp [results, Tryd.results10, go_sem, z0, z1, z2]) rfl ⟨_, rfl, HEv.out.keepNe hMf (fun b hb => by rw [hb]; exact y1), Hmc.out.trans hMf fun x hx e => by omega⟩
end Go.Proofs.YtppihkneeolomaaDoor
end
/- quiescentlaw3.QueueSafe: its walk, over lists that are right. -/
section
namespace Go.Proofs.YtppihkneeolomaaDoor
open Go.RowKit Qs Qh
theorem faultField (c a : Int) (w : World) : (Go.Instr.field 27 (.agg #[.int .i64 c, .int .i64 a]) 0).run Tryd.prog w = .ok (.int .i64 c) w := by kernel_rfl
/-- Lists that are right, as they come in. -/
def rawOf (q : List (List Qu.Op)) : List (List ROp) := q.map (·.map opR)
end Go.Proofs.YtppihkneeolomaaDoor
end
/- quiescentlaw3.QueueSafe, whatever comes. -/
section
namespace Go.Proofs.YtppihkneeolomaaDoor
open Go.RowKit Qs Qh
def toQ (x : ROp) : Qu.Op := if x.1 = putS then .put x.2 else .take
theorem toQ_ok {x : ROp} (h : kfOp x = 0) : opR (toQ x) = x ∧ ∀ n, toQ x = .put n → 1 ≤ n ∧ n ≤ 1000 := by
  obtain ⟨a, n⟩ := x
  unfold kfOp at h
  unfold toQ
  simp only at h ⊢
  by_cases e : a = putS
  · rw [if_pos e] at h ⊢
    subst e
    refine ⟨rfl, fun k hk => ?_⟩
    cases hk
    by_cases hb : n < 1 ∨ 1000 < n
    · rw [if_pos hb] at h; cases h
    · omega
  · rw [if_neg e] at h ⊢
    by_cases hb : a = takeS ∧ n = 0
    · obtain ⟨rfl, rfl⟩ := hb
      exact ⟨rfl, fun k hk => by cases hk⟩
    · rw [if_neg hb] at h; cases h
theorem rowF_zero {l : List ROp} (h : rowF l = none) : ∀ x ∈ l, kfOp x = 0 := fun x hx => by
  unfold rowF at h
  rw [List.find?_eq_none] at h
  have := h (kfOp x) (List.mem_map.2 ⟨x, hx, rfl⟩)
  simpa using this
theorem rowF_ne {l : List ROp} {c : Int} (h : rowF l = some c) : c ≠ 0 := by
  unfold rowF at h
  have := List.find?_some h
  simpa using this
theorem allF_zero : ∀ (ll : List (List ROp)) (i : Nat), (allF i ll).1 = 0 → ∀ l ∈ ll, rowF l = none
  | [], i, _ => fun l hl => by cases hl
  | y :: ll, i, h => fun l hl => by
    unfold allF at h
    cases hr : rowF y with
    | some c => rw [hr] at h; exact absurd h (rowF_ne hr)
    | none =>
      rw [hr] at h
      rcases List.mem_cons.1 hl with rfl | hl
      · exact hr
      · exact allF_zero ll (i + 1) h l hl
theorem kfOp_pos (x : ROp) : 0 ≤ kfOp x := by
  unfold kfOp
  split
  · split <;> decide
  · split <;> decide
theorem kf_pos (ll : List (List ROp)) : 0 ≤ (kf ll).1 := by
  unfold kf
  split
  · have : ∀ (ll : List (List ROp)) (i : Nat), 0 ≤ (allF i ll).1 := by
      intro ll
      induction ll with
      | nil => intro i; exact Int.le_refl 0
      | cons y ll ih =>
        intro i
        unfold allF
        cases hr : rowF y with
        | none => exact ih (i + 1)
        | some c =>
          unfold rowF at hr
          obtain ⟨x, _, rfl⟩ := List.mem_map.1 (List.mem_of_find?_eq_some hr)
          exact kfOp_pos x
    exact this ll 0
  · decide
theorem good_raw {ll : List (List ROp)} (h : (kf ll).1 = 0) : ∃ q : List (List Qu.Op), ll = rawOf q ∧ 1 ≤ q.length ∧ q.length ≤ 6 ∧ (∀ l ∈ q, l.length ≤ 20) ∧ ∀ l ∈ q, ∀ n, Qu.Op.put n ∈ l → 1 ≤ n ∧ n ≤ 1000 := by
  unfold kf at h
  cases hm : manyB ll with
  | false => rw [hm] at h; cases h
  | true =>
    rw [hm] at h
    have hz := allF_zero ll 0 h
    unfold manyB at hm
    simp only [Bool.and_eq_true, decide_eq_true_eq, List.all_eq_true] at hm
    obtain ⟨⟨h1, h6⟩, h20⟩ := hm
    refine ⟨ll.map (·.map toQ), ?_, by simpa using h1, by simpa using h6, fun l hl => ?_, fun l hl n hn => ?_⟩
    · unfold rawOf
      rw [List.map_map]
      conv => lhs; rw [← List.map_id ll]
      refine List.map_congr_left fun l hl => ?_
      show l = (l.map toQ).map opR
      rw [List.map_map]
      conv => lhs; rw [← List.map_id l]
      exact List.map_congr_left fun x hx => (toQ_ok (rowF_zero (hz l hl) x hx)).1.symm
    · obtain ⟨l', hl', rfl⟩ := List.mem_map.1 hl
      rw [List.length_map]
      exact h20 l' hl'
    · obtain ⟨l', hl', rfl⟩ := List.mem_map.1 hl
      obtain ⟨x, hx, e⟩ := List.mem_map.1 hn
      exact (toQ_ok (rowF_zero (hz l' hl') x hx)).2 n e
end Go.Proofs.YtppihkneeolomaaDoor
end
/- Lists of lists of ops that came in. -/
section
namespace Go.Proofs.YtppihkneeolomaaDoor
open Go.ChangeShapes Go.WideShapes Go.ChangeAt Go.RowKit Qh
def opVals (x : ROp) : List Value := [.string x.1, .int .i64 x.2]
theorem opLen2 {l : List Value} (h : l.length = 2) : ∃ c0 c1 : Value, l = [c0, c1] := by
  match l, h with
  | [c0, c1], _ => exact ⟨c0, c1, rfl⟩
theorem Op_read {H : Type} {enc : TypeId × Value → H} {W : World} (n : Nat) (cs : List Value) (y : DataW H × List MemPlace) (h : DataW.trod enc Tryd.prog W 0 (fun _ => true) true n 63 cs = some y) : ∃ x : ROp, cs = opVals x ∧ True := by
  obtain ⟨xs, n', rfl, _, hlen, hxl, hf⟩ := DataW.trod_struct Tryd.underlying63 h
  rw [show Tryd.prog.cellsOf 63 = 2 by kernel_rfl] at hlen
  have k1 : Tryd.prog.cellsOf 3 = 1 := by kernel_rfl
  have k9 : Tryd.prog.cellsOf 9 = 1 := by kernel_rfl
  obtain ⟨c0, c1, rfl⟩ := opLen2 hlen
  have h0 := hf 0 ⟨"Kind", 9, 0, false, "", "", 0⟩ rfl
  rw [List.getElem?_eq_getElem (show 0 < xs.length by rw [hxl]; decide)] at h0
  obtain ⟨s0, e0, _, o0⟩ := DataW.trod_string Tryd.underlying9 h0
  simp only [k9, List.drop_succ_cons, List.drop_zero, List.take_succ_cons, List.take_zero, List.cons.injEq, and_true] at e0
  subst e0
  have h1 := hf 1 ⟨"N", 3, 1, false, "", "", 16⟩ rfl
  rw [List.getElem?_eq_getElem (show 1 < xs.length by rw [hxl]; decide)] at h1
  obtain ⟨s1, e1, _, o1⟩ := DataW.trod_int Tryd.underlying3 h1
  simp only [k1, List.drop_succ_cons, List.drop_zero, List.take_succ_cons, List.take_zero, List.cons.injEq, and_true] at e1
  subst e1
  exact ⟨⟨s0, s1⟩, rfl, trivial⟩
def OpsOk (W : World) (u : Value) : Prop := ∃ a l c z, u = .slice a l c ∧ RowsAt opVals 2 W (.slice a l c) z
theorem Row_read {H : Type} {enc : TypeId × Value → H} {W : World} (n : Nat) (cs : List Value) (y : DataW H × List MemPlace) (h : DataW.trod enc Tryd.prog W 0 (fun _ => true) true n 59 cs = some y) : ∃ u : Value, cs = [u] ∧ OpsOk W u := by
  rcases Go.Deep.open_slice Tryd.underlying59 h with ⟨hcs, _⟩ | ⟨A, l, c, m, n', D, Pl, hcs, _, hl, hm, hmm, _, hel⟩
  · exact ⟨.slice none 0 0, hcs, none, 0, 0, [], rfl, none, 0, rfl, by simp, by simp, fun _ => rfl, fun i x h => by simp at h⟩
  · subst hcs
    obtain ⟨z, hz, _⟩ := rowsAt_of (k := 2) (vals := opVals) (good := fun _ => True) (a := some A) (len := l) (cap := c) (by decide) Tryd.underlying59 (by kernel_rfl) Op_read (⟨n, h⟩ : DataW.Trod enc Tryd.prog W 0 (fun _ => true) true 59 (.slice (some A) l c) y.1 y.2)
    exact ⟨_, rfl, _, _, _, z, rfl, hz⟩
/-- Lists of lists of ops, as they come in. -/
def IsOps (w : World) (a : Option Addr) (len cap : Nat) (z : List (List ROp)) : Prop :=
  RIn w.heap.size w (.slice a len cap) z ∧ NilOk w (.slice a len cap) ∧ z.length ≤ maxLen ∧ ∀ l ∈ z, l.length ≤ maxLen
theorem isOps_of {H : Type} {enc : TypeId × Value → H} {W : World} {a : Option Addr} {len cap : Nat} {d : DataW H} {p : List MemPlace} (h : DataW.Trod enc Tryd.prog W 0 (fun _ => true) true 22 (.slice a len cap) d p) : ∃ z, IsOps W a len cap z := by
  obtain ⟨us, ⟨a', c', e', hlc, hcm, hn, hx⟩, hg⟩ := rowsAt_of (k := 1) (vals := fun u : Value => [u]) (good := OpsOk W) (by decide) Tryd.underlying22 (by kernel_rfl) Row_read h
  cases e'
  have hch : ∀ u, ∃ z : List ROp, u ∈ us → ∃ a l c, u = .slice a l c ∧ RowsAt opVals 2 W (.slice a l c) z := fun u => by
    by_cases hu : u ∈ us
    · obtain ⟨a, l, c, z, e, hz⟩ := hg u hu
      exact ⟨z, fun _ => ⟨a, l, c, e, hz⟩⟩
    · exact ⟨[], fun h => absurd h hu⟩
  let f := fun u => Classical.choose (hch u)
  have hf : ∀ u ∈ us, ∃ a l c, u = .slice a l c ∧ RowsAt opVals 2 W (.slice a l c) (f u) := fun u hu => Classical.choose_spec (hch u) hu
  have hat : ∀ (i : Nat) u, us[i]? = some u → ∃ b off, a = some ⟨b, off, none⟩ ∧ b < W.heap.size ∧ W.cell? ⟨b, off + i, none⟩ = some u := fun i u hi => by
    obtain ⟨b, off, e, hb, hc⟩ := hx i u hi
    refine ⟨b, off, e, hb, ?_⟩
    have := hc 0 u rfl
    rw [show off + i * 1 + 0 = off + i by omega] at this
    exact this
  refine ⟨us.map f, ⟨a, cap, by rw [List.length_map], fun i l hi => ?_⟩, fun b off n m i k c e hi hc => ?_, by rw [List.length_map]; omega, fun l hl => ?_⟩
  · rw [List.getElem?_map] at hi
    obtain ⟨u, hu, rfl⟩ := Option.map_eq_some_iff.1 hi
    obtain ⟨b, off, e, hb, hc⟩ := hat i u hu
    obtain ⟨ua, ul, uc, rfl, a2, c2, e2, h1, h2, h3, hxx⟩ := hf u (List.mem_of_getElem? hu)
    refine ⟨b, off, _, e, hb, hc, a2, c2, e2, fun j x hj => ?_⟩
    obtain ⟨b2, off2, e3, hb2, hc2⟩ := hxx j x hj
    exact ⟨b2, off2, e3, hb2, hc2 0 _ rfl, hc2 1 _ rfl⟩
  · cases e
    obtain ⟨u, hu⟩ : ∃ u, us[i]? = some u := ⟨_, List.getElem?_eq_getElem hi⟩
    obtain ⟨b2, off2, e, hb, hc'⟩ := hat i u hu
    cases e
    rw [hc] at hc'
    cases hc'
    obtain ⟨ua, ul, uc, e1, a2, c2, e2, h1, h2, h3, hxx⟩ := hf _ (List.mem_of_getElem? hu)
    cases e1
    have e3 := e2
    simp only [Value.slice.injEq] at e3
    exact e3.2.2.trans (h3 e3.1.symm)
  · obtain ⟨u, hu, rfl⟩ := List.mem_map.1 hl
    obtain ⟨ua, ul, uc, rfl, a2, c2, e2, h1, h2, h3, hxx⟩ := hf u hu
    omega
end Go.Proofs.YtppihkneeolomaaDoor
end
/- QueueBuilds: its walk. -/
section
namespace Go.Proofs.YtppihkneeolomaaDoor
open Go.RowKit Qs Qh
variable {N : Nat} {w w' : World} {v u : Value} {ll : List (List ROp)} {a : Nat → Addr}
theorem longB_false {ll : List (List ROp)} (h : longB ll = false) : ll.length ≤ 10 ∧ ∀ l ∈ ll, l.length ≤ 30 := by
  unfold longB at h
  simp only [Bool.or_eq_false_iff, decide_eq_false_iff_not] at h
  refine ⟨by omega, fun l hl => rowLong_false ?_⟩
  have := List.any_eq_false.1 h.2 l hl
  simpa using this
theorem qb_long (H : RIn N w v ll) (hll : ll.length ≤ maxLen) (hrl : ∀ l ∈ ll, l.length ≤ maxLen) (hL : longB ll = true) :
    Calls Tryd.prog 4 #[v] w fun e w' => e = .returned (.bool true) ∧ Mod noF w w' := by
  have hlg := fun w' (hm : Mod noF w w') => long_any (H.keep hm (fun _ _ e => e)) hll hrl
  rw [hL] at hlg
  have Hlg := Lib.hid hlg
  obtain ⟨oa, oc, rfl, -⟩ := H
  clear hlg hrl
  go_enter Tryd.func4, Tryd.ntmps4
  go_wp2_with fail
  refine (lined_ok _).mono ?_
  rintro e w1 ⟨rfl, hm1⟩
  have Hm1 := Lib.hid hm1
  clear hm1
  go_wp2_with fail
  refine (Hlg.out _ Hm1.out).mono ?_
  rintro e w1 ⟨rfl, rfl⟩
  go_wp2
  go_ret
  exact ⟨rfl, Hm1.out⟩
set_option maxHeartbeats 16000000 in
theorem qb_bad (E : ErrsAt w a) (H : RIn N w v ll) (hnil : NilOk w v) (hN : N ≤ w.heap.size) (hL : longB ll = false) (hk : (kf ll).1 ≠ 0) :
    Calls Tryd.prog 4 #[v] w fun e w' => e = .returned (.bool true) ∧ Mod noF w w' := by
  obtain ⟨h10, h30⟩ := longB_false hL
  have hlg := fun w' (hm : Mod noF w w') => long_any (H.keep hm (fun _ _ e => e)) (by unfold maxLen; omega) (fun l hl => by have := h30 l hl; unfold maxLen; omega)
  rw [hL] at hlg
  have Hlg := Lib.hid hlg
  have HH := Lib.hid H
  have Hnil := Lib.hid hnil
  have HE := Lib.hid E
  have H30 := Lib.hid h30
  have hkp := kf_pos ll
  have dk : decide ((0 : Int) < (kf ll).1) = true := by simp; omega
  have hff := faultField
  obtain ⟨oa, oc, rfl, -⟩ := H
  clear hlg hnil E h30
  go_enter Tryd.func4, Tryd.ntmps4
  go_wp2_with fail
  refine (lined_ok _).mono ?_
  rintro e w1 ⟨rfl, hm1⟩
  have Hm1 := Lib.hid hm1
  clear hm1
  go_wp2_with fail
  refine (Hlg.out _ Hm1.out).mono ?_
  rintro e w1 ⟨rfl, rfl⟩
  go_wp2_with fail
  refine (opsOf_ok (HH.out.keep Hm1.out (fun _ _ e => e)) (fun b off n m i k c e hi hc => by
    obtain ⟨a2, c2, e2, hx⟩ := HH.out
    cases e2
    cases e
    obtain ⟨l, hl⟩ : ∃ l, ll[i]? = some l := ⟨_, List.getElem?_eq_getElem hi⟩
    obtain ⟨b2, off2, u2, e3, hb2, hc2, -⟩ := hx i l hl
    cases e3
    have := Hm1.out.cell hc2 (fun e => e)
    rw [this] at hc
    cases hc
    exact Hnil.out b off _ _ i k c rfl hi hc2) (by omega) (fun l hl => by have := H30.out l hl; omega)).mono ?_
  rintro e w3 ⟨x, rfl, hm3, hR3⟩
  have HR3 := Lib.hid hR3
  obtain ⟨xa, xc, rfl, -⟩ := hR3
  have Hm3 := Lib.hid (Hm1.out.trans0 hm3)
  clear hm3
  go_wp2_with fail
  refine (qbuild_bad (HE.out.keep Hm3.out) HR3.out (Nat.le_refl _) (by omega) (fun l hl => by have := H30.out l hl; omega) hk).mono ?_
  rintro e w4 ⟨ev, rfl, hE4, hm4⟩
  have HE4 := Lib.hid hE4
  obtain ⟨T, x, rfl⟩ := hE4.some hk
  have Hm4 := Lib.hid (Hm3.out.trans0 hm4)
  clear hm4 hE4
  go_wp2_with fail
  have hq5 := ((Mod.refl noF w4).alloc (.cells #[.int .i64 0, .slice none 0 0, .slice none 0 0] 32)).alloc (.cells #[.string takeS] 9)
  refine (kinds_any (HH.out.keep (Hm4.out.trans0 hq5) (fun _ _ e => e)) h10 H30.out (w4.heap.size + 1) (by simp [takeS])).mono ?_
  rintro e w5 ⟨rfl, hm5⟩
  have Hm5 := Lib.hid (Hm4.out.trans0 (hq5.trans0 hm5))
  have HE5 := Lib.hid (HE4.out.keep (hq5.trans0 hm5) (fun _ _ e => e))
  have c0 := hm5.cell (show ((w4.alloc (.cells #[.int .i64 0, .slice none 0 0, .slice none 0 0] 32)).alloc (.cells #[.string takeS] 9)).cell? ⟨w4.heap.size, 0, none⟩ = some (.int .i64 0) by simp) (fun e => e)
  clear hm5 hq5
  have hq6 := (Mod.refl noF w5).alloc (.cells #[.int .i64 (kf ll).1, .int .i64 (kf ll).2] 27)
  have c0' := hq6.cell c0 (fun e => e)
  go_wp2_with fail
  refine (faulted_any ((HE.out.keep Hm5.out).keep hq6) (HE5.out.keep hq6 (fun _ _ e => e)) (kf ll).1 (kf ll).2).mono ?_
  rintro e w6 ⟨rfl, hm6⟩
  rw [faultB_self]
  have c0'' := hm6.cell c0' (fun e => e)
  have Hm6 := Lib.hid ((Hm5.out.trans0 hq6).trans0 hm6)
  clear hm6 hq6
  go_wp2
  go_ret
  exact ⟨rfl, Hm6.out⟩
set_option maxHeartbeats 16000000 in
theorem qb_good (q : List (List Qu.Op)) (H : RIn N w v (rawOf q)) (hnil : NilOk w v) (hN : N ≤ w.heap.size) (h1 : 1 ≤ q.length) (h6 : q.length ≤ 6) (h20 : ∀ l ∈ q, l.length ≤ 20) (hp : ∀ l ∈ q, ∀ n, Qu.Op.put n ∈ l → 1 ≤ n ∧ n ≤ 1000)
    (hlong : longB (rawOf q) = false) (hkf : (kf (rawOf q)).1 = 0) :
    Calls Tryd.prog 4 #[v] w fun e w' => e = .returned (.bool true) ∧ Mod noF w w' := by
  have hrl : (rawOf q).length = q.length := by simp [rawOf]
  have hrow : ∀ l ∈ rawOf q, l.length ≤ 20 := fun l hl => by
    obtain ⟨l', hl', rfl⟩ := List.mem_map.1 hl
    rw [List.length_map]; exact h20 l' hl'
  have HH := Lib.hid H
  have Hnil := Lib.hid hnil
  have Hrow := Lib.hid hrow
  have H20 := Lib.hid h20
  have Hp := Lib.hid hp
  obtain ⟨oa, oc, rfl, -⟩ := H
  rw [hrl]
  have Hlong := Lib.hid hlong
  have Hkf := Lib.hid hkf
  have hff := faultField
  clear hnil hrow h20 hp hlong hkf
  have HH2 : Hid (RIn N w (.slice oa q.length oc) (rawOf q)) := Lib.hid (by rw [← hrl]; exact HH.out)
  have Hnil2 : Hid (NilOk w (.slice oa q.length oc)) := Lib.hid (by rw [← hrl]; exact Hnil.out)
  clear HH Hnil
  go_enter Tryd.func4, Tryd.ntmps4
  go_wp2_with fail
  refine (lined_ok _).mono ?_
  rintro e w1 ⟨rfl, hm1⟩
  have Hm1 := Lib.hid hm1
  clear hm1
  go_wp2_with fail
  refine (long_any (HH2.out.keep Hm1.out (fun _ _ e => e)) (by rw [hrl]; unfold maxLen; omega) (fun l hl => by have := Hrow.out l hl; unfold maxLen; omega)).mono ?_
  rintro e w1 ⟨rfl, rfl⟩
  rw [Hlong.out]
  go_wp2_with fail
  refine (opsOf_ok (HH2.out.keep Hm1.out (fun _ _ e => e)) (fun b off n m i k c e hi hc => by
    obtain ⟨a2, c2, e2, hx⟩ := HH2.out
    rw [hrl] at e2
    cases e2
    cases e
    obtain ⟨l, hl⟩ : ∃ l, (rawOf q)[i]? = some l := ⟨_, List.getElem?_eq_getElem (by rw [hrl]; exact hi)⟩
    obtain ⟨b2, off2, u2, e3, hb2, hc2, -⟩ := hx i l hl
    cases e3
    have := Hm1.out.cell hc2 (fun e => e)
    rw [this] at hc
    cases hc
    exact Hnil2.out b off _ _ i k c rfl hi hc2) (by omega) (fun l hl => by have := Hrow.out l hl; omega)).mono ?_
  rintro e w3 ⟨x, rfl, hm3, hR3⟩
  have hO3 := RIn.ops hR3
  obtain ⟨xa, xc, rfl, -⟩ := hO3
  have HO3 := Lib.hid (RIn.ops hR3)
  have Hm3 := Lib.hid (Hm1.out.trans0 hm3)
  clear hm3 hR3
  go_wp2_with fail
  refine (build_ok HO3.out (Nat.le_refl _) h1 h6 H20.out Hp.out).mono ?_
  rintro e w4 ⟨iv, rv, cv, vk4, rfl, hm4, hI, hR, hC⟩
  have HI := Lib.hid hI
  have HR := Lib.hid hR
  have hcl : (q.map (Qu.codeOf Qu.labO 0)).length = q.length := by rw [List.length_map]
  obtain ⟨ca, cc, rfl, hcx⟩ := hC
  have hC : CodesAt w4 (.slice ca q.length cc) (q.map (Qu.codeOf Qu.labO 0)) vk4 := ⟨ca, cc, by rw [hcl], hcx⟩
  have HC := Lib.hid hC
  rw [hcl]
  have Hm4 := Lib.hid (Hm3.out.trans0 hm4)
  obtain ⟨ia, ic, rfl, -⟩ := hI
  obtain ⟨ra, rc, rfl, -⟩ := hR
  clear hm4 hC hcx hcl
  have hq5 := ((Mod.refl noF w4).alloc (.cells #[.int .i64 64, .slice ia qInit.length ic, .slice ra (qRegs q.length).length rc] 32)).alloc (.cells #[.string takeS] 9)
  go_wp2_with fail
  refine (kinds_any (HH2.out.keep (Hm4.out.trans0 hq5) (fun _ _ e => e)) (by omega) (fun l hl => by have := Hrow.out l hl; omega) (w4.heap.size + 1) (by simp [takeS])).mono ?_
  rintro e w5 ⟨rfl, hm5⟩
  rw [Hkf.out]
  have hm5' := hq5.trans0 hm5
  have HI5 := Lib.hid (HI.out.keepM hm5')
  have HR5 := Lib.hid (HR.out.keepM hm5')
  have HC5 := Lib.hid (HC.out.keepM hm5')
  have Hm5 := Lib.hid (Hm4.out.trans0 hm5')
  have c0 := hm5.cell (show ((w4.alloc (.cells #[.int .i64 64, .slice ia qInit.length ic, .slice ra (qRegs q.length).length rc] 32)).alloc (.cells #[.string takeS] 9)).cell? ⟨w4.heap.size, 0, none⟩ = some (.int .i64 64) by simp) (fun e => e)
  have c1 := hm5.cell (show ((w4.alloc (.cells #[.int .i64 64, .slice ia qInit.length ic, .slice ra (qRegs q.length).length rc] 32)).alloc (.cells #[.string takeS] 9)).cell? ⟨w4.heap.size, 1, none⟩ = some (.slice ia qInit.length ic) by simp) (fun e => e)
  have c2 := hm5.cell (show ((w4.alloc (.cells #[.int .i64 64, .slice ia qInit.length ic, .slice ra (qRegs q.length).length rc] 32)).alloc (.cells #[.string takeS] 9)).cell? ⟨w4.heap.size, 2, none⟩ = some (.slice ra (qRegs q.length).length rc) by simp) (fun e => e)
  clear hm5 hm5' hq5 HI HR HC
  have hq6 := (Mod.refl noF w5).alloc (.cells #[.int .i64 0, .int .i64 (kf (rawOf q)).2] 27)
  have c0 := hq6.cell c0 (fun e => e)
  have c1 := hq6.cell c1 (fun e => e)
  have c2 := hq6.cell c2 (fun e => e)
  have Hq6 := Lib.hid hq6
  clear hq6
  have hil : qInit.length = 2 := rfl
  go_wp2_with fail
  refine (backStart_ok 64 ia ra _ ic _ rc _).mono ?_
  rintro e w7 ⟨rfl, hm7⟩
  have Hm7 := Lib.hid (Hq6.out.trans0 hm7)
  clear hm7 c0 c1 c2
  go_wp2_with fail
  refine (startFault_ok 64 _ _ _ qInit (qRegs q.length) _ _ _ (HI5.out.keepM Hm7.out) (HR5.out.keepM Hm7.out) (HC5.out.keepM Hm7.out) (by omega) (by omega) (by rw [List.length_map]; omega) (by rw [List.length_map]; omega) (by decide) (by rw [List.length_map]; simp [qRegs]) qInit_fine (qRegs_fine _) (codes_fine H20.out Hp.out)).mono ?_
  rintro e w8 ⟨rfl, hm8⟩
  have Hm8 := Lib.hid ((Hm5.out.trans0 Hm7.out).trans0 hm8)
  clear hm8
  go_wp2
  go_ret
  exact ⟨rfl, Hm8.out⟩
theorem queueBuilds_any (a0 : Option Addr) (len0 cap0 : Nat) (z0 : List (List ROp)) (w : World) (h0 : IsOps w a0 len0 cap0 z0) (hE : ∃ a, ErrsAt w a) :
    Calls Tryd.prog 4 #[.slice a0 len0 cap0] w fun e w' => e = .returned (.bool true) ∧ Below w.heap.size w w' := by
  obtain ⟨H, hnil, h1, h2⟩ := h0
  obtain ⟨a, E⟩ := hE
  have key : Calls Tryd.prog 4 #[.slice a0 len0 cap0] w fun e w' => e = .returned (.bool true) ∧ Mod noF w w' := by
    cases hL : longB z0 with
    | true => exact qb_long H h1 h2 hL
    | false =>
      by_cases hk : (kf z0).1 = 0
      · obtain ⟨q, rfl, g1, g6, g20, gp⟩ := good_raw hk
        exact qb_good q H hnil (Nat.le_refl _) g1 g6 g20 gp hL hk
      · exact qb_bad E H hnil (Nat.le_refl _) hL hk
  exact key.mono fun e w' ⟨he, hm⟩ => ⟨he, hm.under (Nat.le_refl _) fun k hk => hk.elim⟩
end Go.Proofs.YtppihkneeolomaaDoor
end
