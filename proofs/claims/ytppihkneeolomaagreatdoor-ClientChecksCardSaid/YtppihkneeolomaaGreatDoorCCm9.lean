/- Texts that belong together, joined. -/
import Derived.Test.YtppihkneeolomaaGreatDoorCCFaultCode
import Derived.Test.YtppihkneeolomaaGreatDoorCCm8
import Derived.LaidLaws
import Derived.SliceStrings
import Derived.ChangeShapes
set_option linter.unusedVariables false
set_option linter.unusedSimpArgs false
set_option linter.unusedSectionVars false
/- An error by its number and place; plain.Code, faulted of it. -/
section
namespace Go.Proofs.YtppihkneeolomaaGreatDoor
open Go.RowKit Qs Qh
/-- What an error is: none, a sentinel, a sentinel with its place. -/
def ErrIs (a : Nat → Addr) (w : World) (v : Value) (c p : Int) : Prop :=
  (c = 0 ∧ p = -1 ∧ v = .nilIface) ∨ (∃ i : Nat, i < 9 ∧ c = (i : Int) + 1 ∧ p = -1 ∧ v = errV a i) ∨
    ∃ i pb : Nat, i < 9 ∧ c = (i : Int) + 1 ∧ v = .iface 125 (.pointer (some ⟨pb, 0, none⟩)) ∧ pb < w.heap.size ∧ w.cell? ⟨pb, 0, none⟩ = some (.int .i64 p) ∧ w.cell? ⟨pb, 1, none⟩ = some (errV a i)
variable {a : Nat → Addr} {w w' : World} {v : Value} {c p : Int}
theorem ErrIs.keep (h : ErrIs a w v c p) {F : Nat → Prop} (hM : Mod F w w') (hF : ∀ b, b < w.heap.size → ¬ F b) : ErrIs a w' v c p := by
  rcases h with h | h | ⟨i, pb, h1, h2, h3, h4, h5, h6⟩
  · exact .inl h
  · exact .inr (.inl h)
  · exact .inr (.inr ⟨i, pb, h1, h2, h3, Nat.lt_of_lt_of_le h4 hM.size, hM.cell h5 (hF pb h4), hM.cell h6 (hF pb h4)⟩)
theorem ErrIs.nil (h : ErrIs a w v 0 p) : v = .nilIface := by
  rcases h with h | ⟨i, h1, h2, _⟩ | ⟨i, pb, h1, h2, _⟩
  · exact h.2.2
  · omega
  · omega
theorem ErrIs.some (h : ErrIs a w v c p) (hc : c ≠ 0) : ∃ T x, v = .iface T (.pointer (some x)) := by
  rcases h with h | ⟨i, h1, h2, h3, h4⟩ | ⟨i, pb, h1, h2, h3, _⟩
  · exact absurd h.1 hc
  · exact ⟨_, _, h4⟩
  · exact ⟨_, _, h3⟩
theorem code_any (E : ErrsAt w a) (h : ErrIs a w v c p) : Calls Tryz.prog 59 #[v] w fun e w' => e = .returned (.tuple #[.int .i64 c, .int .i64 p]) ∧ Mod noF w w' := by
  rcases h with ⟨rfl, rfl, rfl⟩ | ⟨i, h1, rfl, rfl, rfl⟩ | ⟨i, pb, h1, rfl, rfl, h4, h5, h6⟩
  · exact (code_nil w).mono fun e w' h => ⟨h.1, h.2 ▸ Mod.refl _ _⟩
  · exact code_at E i h1
  · exact code_fault E i h1 pb p h5 h6
/-- Is an error what is told? -/
def faultB (c p c' p' : Int) : Bool := decide (c = c') && (decide (c = 0) || decide (p = p'))
theorem faultB_self (c p : Int) : faultB c p c p = true := by simp [faultB]
end Go.Proofs.YtppihkneeolomaaGreatDoor
end
/- stack.Check: over any lists of ops. -/
section
namespace Go.Proofs.YtppihkneeolomaaGreatDoor
open Go.RowKit Qs Qh
variable {N : Nat} {w w' : World} {v u : Value} {ll : List (List ROp)} {l : List ROp} {W : ByteArray} {ks : List ByteArray}
def IdxPost (ks : List ByteArray) (s : ByteArray) (w : World) (e : Ending) (w' : World) : Prop := ∃ n : Int, e = .returned (.int .i64 n) ∧ w' = w ∧ (s ∈ ks → 0 ≤ n) ∧ (¬ s ∈ ks → n = -1)
def IdlPost (ll : List (List ROp)) (w : World) (e : Ending) (w' : World) : Prop := ∃ n : Int, e = .returned (.int .i64 n) ∧ w' = w ∧ ((∀ l ∈ ll, l.length ≤ 20) → n = -1) ∧ (¬ (∀ l ∈ ll, l.length ≤ 20) → 0 ≤ n)
theorem manyB_iff : manyB ll = true ↔ 1 ≤ ll.length ∧ ll.length ≤ 6 ∧ ∀ l ∈ ll, l.length ≤ 20 := by
  unfold manyB
  simp [and_assoc]
theorem manyB_false (h : manyB ll = false) : ll.length < 1 ∨ 6 < ll.length ∨ ¬ ∀ l ∈ ll, l.length ≤ 20 := by
  by_cases h1 : ll.length < 1
  · exact .inl h1
  · by_cases h2 : 6 < ll.length
    · exact .inr (.inl h2)
    · refine .inr (.inr fun h3 => ?_)
      have := manyB_iff.2 ⟨by omega, by omega, h3⟩
      rw [this] at h; cases h
variable {a : Nat → Addr}
end Go.Proofs.YtppihkneeolomaaGreatDoor
end
/- package client: the kinds of its ops, laid in a variable; is a name one? -/
section
namespace Go.Proofs.YtppihkneeolomaaGreatDoor
open Go.RowKit Qs Qh
def kindsC : List ByteArray := [⟨#[101, 110, 116, 101, 114]⟩, ⟨#[108, 101, 97, 118, 101]⟩, ⟨#[114, 101, 115, 116]⟩, ⟨#[119, 97, 105, 116]⟩, ⟨#[114, 101, 97, 100]⟩, ⟨#[112, 117, 116]⟩, ⟨#[100, 114, 111, 112]⟩, ⟨#[108, 97, 116, 101, 114]⟩, ⟨#[102, 108, 117, 115, 104]⟩]
def kindsD : DataW Unit := .slice (ChangeShapes.strs kindsC) []
/-- The variable and its row. -/
def KindsW (w : World) : Prop := ∃ g off cap, w.cell? ⟨10, 0, none⟩ = some (.slice (some ⟨g, off, none⟩) 9 cap) ∧ ∀ (i : Nat) x, kindsC[i]? = some x → w.cell? ⟨g, off + i, none⟩ = some (.string x)
theorem KindsW.keep {w w' : World} (h : KindsW w) (hM : Mod noF w w') : KindsW w' := by
  obtain ⟨g, off, cap, h1, h2⟩ := h
  exact ⟨g, off, cap, hM.cell h1 (fun e => e), fun i x hi => hM.cell (h2 i x hi) (fun e => e)⟩
theorem indexK2 (w : World) (g off cap : Nat) (ks : List ByteArray) (s : ByteArray) (hg : ∀ (i : Nat) x, ks[i]? = some x → w.cell? ⟨g, off + i, none⟩ = some (.string x)) (hl : ks.length ≤ 1000) :
    Calls Tryz.prog 93 #[.slice (some ⟨g, off, none⟩) ks.length cap, .string s] w (IdxPost ks s w) := by
  have Hg := Lib.hid hg
  clear hg
  go_enter Tryz.func93, Tryz.ntmps93
  go_wp2
  go_loop [5, 8] (fun j i => ∃ k : Nat, k ≤ ks.length ∧ i = .int .i64 k ∧ ¬ s ∈ ks.take k) (fun _ i => ks.length - (intOf i).toNat)
  case atStart => exact ⟨0, Nat.zero_le _, rfl, by simp⟩
  case round =>
    obtain ⟨k, hk, rfl, hno⟩ := hrel
    have Hno := Lib.hid hno
    clear hno
    by_cases hlt : k < ks.length
    · have hd : decide ((k : Int) < (ks.length : Int)) = true := by simp; omega
      have hki : (k : Int) < (ks.length : Int) := by omega
      obtain ⟨y, hy⟩ : ∃ y, ks[k]? = some y := ⟨_, List.getElem?_eq_getElem hlt⟩
      have hyc := Hg.out k y hy
      have hmem := List.mem_of_getElem? hy
      have htk : ks.take (k + 1) = ks.take k ++ [y] := by rw [List.take_add_one, hy]; rfl
      have Htk := Lib.hid htk
      have Hmem := Lib.hid hmem
      clear hy htk hmem
      by_cases hxy : y = s
      · subst hxy
        have ey := str_eq y
        go_wp2
        go_ret
        exact ⟨_, rfl, rfl, fun _ => by omega, fun h => absurd Hmem.out h⟩
      · have ey : (s.toList == y.toList) = false := str_ne fun e => hxy e.symm
        have ey2 : (y.toList == s.toList) = false := str_ne hxy
        go_wp2
        go_round
        case rel => exact ⟨k + 1, by omega, by go_num, by rw [Htk.out]; intro h; rcases List.mem_append.1 h with h | h; exact Hno.out h; exact hxy (List.mem_singleton.1 h).symm⟩
        case measure => simp [intOf]; omega
    · have hd : decide ((k : Int) < (ks.length : Int)) = false := by simp; omega
      obtain rfl : k = ks.length := by omega
      have hno := Hno.out
      rw [List.take_length] at hno
      go_wp2
      go_ret
      exact ⟨-1, rfl, rfl, fun h => absurd h hno, fun _ => rfl⟩
theorem containsK2 (w : World) (g off cap : Nat) (ks : List ByteArray) (s : ByteArray) (hg : ∀ (i : Nat) x, ks[i]? = some x → w.cell? ⟨g, off + i, none⟩ = some (.string x)) (hl : ks.length ≤ 1000) :
    Calls Tryz.prog 68 #[.slice (some ⟨g, off, none⟩) ks.length cap, .string s] w fun e w' => e = .returned (.bool (memK ks s)) ∧ w' = w := by
  have Hcall := Lib.hid (indexK2 w g off cap ks s hg hl)
  clear hg
  by_cases hs : s ∈ ks
  · have ds : memK ks s = true := memK_iff.2 hs
    rw [ds]
    go_enter Tryz.func68, Tryz.ntmps68
    go_wp2_with fail
    refine Hcall.out.mono ?_
    rintro e w' ⟨n, rfl, rfl, h1, h2⟩
    have d : decide ((0 : Int) ≤ n) = true := by simpa using h1 hs
    clear h1 h2 hs
    go_wp2
    go_ret
    exact ⟨rfl, rfl⟩
  · have ds : memK ks s = false := by cases h : memK ks s with
      | true => exact absurd (memK_iff.1 h) hs
      | false => rfl
    rw [ds]
    go_enter Tryz.func68, Tryz.ntmps68
    go_wp2_with fail
    refine Hcall.out.mono ?_
    rintro e w' ⟨n, rfl, rfl, h1, h2⟩
    obtain rfl := h2 hs
    clear h1 h2 hs
    go_wp2
    go_ret
    exact ⟨rfl, rfl⟩
theorem strs_inj : ∀ {a b : List ByteArray}, (ChangeShapes.strs a : List (DataW Unit)) = ChangeShapes.strs b → a = b := by
  intro a b h
  have h1 := congrArg (List.map fun y : DataW Unit => match y with | .lit (.string bs) => (⟨bs.toArray⟩ : ByteArray) | _ => ByteArray.empty) h
  unfold ChangeShapes.strs at h1
  rw [List.map_map, List.map_map] at h1
  have h2 : ∀ l : List ByteArray, l.map ((fun y : DataW Unit => match y with | .lit (.string bs) => (⟨bs.toArray⟩ : ByteArray) | _ => ByteArray.empty) ∘ fun s => .lit (.string s.data.toList)) = l := fun l => by
    conv => rhs; rw [← List.map_id l]
    refine List.map_congr_left fun s _ => ?_
    cases s; simp
  rw [h2, h2] at h1
  exact h1
/-- What 'laid' gives a walk. -/
theorem kinds_of_vars {W : World} {nm : String} (hn : Tryz.prog.globalNamed nm = some 10) (ht : (Tryz.prog.globals[10]?).map (·.type) = some 29) {ps : List MemPlace} (h : DataW.LaidVars Tryz.prog W [(nm, kindsD)] ps) : KindsW W := by
  obtain ⟨g0, t0, cs0, f0, p0, q0, hg0, ht0, hv0, hd0, hr, e0⟩ := h
  obtain rfl := Option.some.inj (hn.symm.trans hg0)
  obtain rfl := Option.some.inj (ht.symm.trans ht0)
  obtain ⟨l0⟩ := cs0
  rcases ChangeShapes.open_strings Tryz.underlying29 Tryz.underlying9 (by kernel_rfl) hd0 with ⟨_, h2⟩ | ⟨a, len, cap, ss, hcs, _, hl, hm, hlen, hx, hcell, _⟩
  · simp [kindsD] at h2
  · simp only at hcs
    subst hcs
    simp only [if_true] at hlen
    have hx1 := congrArg Prod.fst hx
    simp only [kindsD] at hx1
    have hx2 : (ChangeShapes.strs kindsC : List (DataW Unit)) = ChangeShapes.strs (ss.take len) := by injection hx1
    have hk := strs_inj hx2
    have hl9 : len = 9 := by
      have := congrArg List.length hk
      rw [List.length_take, hlen] at this
      have h9 : kindsC.length = 9 := rfl
      omega
    subst hl9
    have hc0 := hcell 0 (by omega)
    have hsp : a.spot = none := by
      have := World.cell?_spot hc0
      unfold Addr.add at this
      split at this
      · assumption
      · simp_all
    obtain ⟨g, off, sp⟩ := a
    simp only at hsp
    subst hsp
    refine ⟨g, off, cap, ?_, fun i x hi => ?_⟩
    · simpa using World.var?_cell hg0 hv0 0
    · have hlt := (List.getElem?_eq_some_iff.1 hi).1
      have h9 : kindsC.length = 9 := rfl
      have := hcell i (by omega)
      rw [Go.WideShapes.add_plain] at this
      rw [this]
      have hi2 := hi
      rw [hk, List.getElem?_take, if_pos (by omega)] at hi2
      rw [List.getD_eq_getElem?_getD, hi2]; rfl
end Go.Proofs.YtppihkneeolomaaGreatDoor
end
/- What clients may do, in plain: the program's words. -/
section
namespace Go.Proofs.YtppihkneeolomaaGreatDoor
open Go.RowKit Qs Qh
def kEnter : ByteArray := ⟨#[101, 110, 116, 101, 114]⟩
def kLeave : ByteArray := ⟨#[108, 101, 97, 118, 101]⟩
def kRest : ByteArray := ⟨#[114, 101, 115, 116]⟩
def kWait : ByteArray := ⟨#[119, 97, 105, 116]⟩
def kRead : ByteArray := ⟨#[114, 101, 97, 100]⟩
def kPut : ByteArray := ⟨#[112, 117, 116]⟩
def kDrop : ByteArray := ⟨#[100, 114, 111, 112]⟩
def kLater : ByteArray := ⟨#[108, 97, 116, 101, 114]⟩
def kFlush : ByteArray := ⟨#[102, 108, 117, 115, 104]⟩
/-- A thread's state: how deep, whether something is retired, waited behind it, whether it is unsafe. -/
structure CSt where
  d : Nat
  r : Bool
  w : Bool
  u : Bool
deriving DecidableEq
/-- An op's fault, and the state behind it. -/
def cfOp (s : CSt) (x : ROp) : Int × CSt :=
  if memK kindsC x.1 = false ∨ (x.1 ≠ kPut ∧ x.2 ≠ 0) then (3, s)
  else if x.1 = kPut ∧ (x.2 < 1 ∨ 1000 < x.2) then (2, s)
  else if x.1 = kEnter then (0, { s with d := s.d + 1 })
  else if x.1 = kLeave then (if s.d = 0 then (8, s) else (0, { s with d := s.d - 1 }))
  else if x.1 = kRest ∨ x.1 = kWait ∨ x.1 = kFlush then (if s.d ≠ 0 then (8, s) else (0, { s with w := s.w || decide (x.1 ≠ kRest) }))
  else if x.1 = kRead then (if s.d = 0 then (8, s) else (0, s))
  else if x.1 = kPut then (if s.d ≠ 0 ∨ s.r = true then (8, s) else (0, { s with r := true, w := false }))
  else (if s.r = false then (5, s) else (0, { s with r := false, u := s.u || (decide (x.1 = kDrop) && !s.w) }))
/-- A thread's ops: the first fault, and the state there. -/
def cRun : CSt → List ROp → Int × CSt
  | s, [] => (0, s)
  | s, x :: l => if (cfOp s x).1 ≠ 0 then cfOp s x else cRun (cfOp s x).2 l
def c0 : CSt := ⟨0, false, false, false⟩
def cRowF (l : List ROp) : Option Int := if (cRun c0 l).1 ≠ 0 then some (cRun c0 l).1 else if (cRun c0 l).2.d ≠ 0 then some 8 else none
def cSafe (l : List ROp) : Bool := !(cRun c0 l).2.u
def cfG (ll : List (List ROp)) : Int × Int := if manyB ll then allR cRowF 0 ll else (2, -1)
/-- Is it safe? Where there is no fault. -/
def csG (ll : List (List ROp)) : Bool := decide ((cfG ll).1 = 0) && ll.all cSafe
theorem cRun_take_succ {x : ROp} {s : CSt} : ∀ (l : List ROp) (q : Nat) (s0 : CSt), l[q]? = some x → cRun s0 (l.take q) = (0, s) → cRun s0 (l.take (q + 1)) = (if (cfOp s x).1 ≠ 0 then cfOp s x else (0, (cfOp s x).2))
  | [], q, s0, h, _ => by simp at h
  | y :: l, 0, s0, h, h0 => by
    simp at h; subst h
    simp only [List.take_zero, cRun, Prod.mk.injEq, true_and] at h0
    subst h0
    simp [cRun]
  | y :: l, q + 1, s0, h, h0 => by
    rw [List.take_succ_cons] at h0 ⊢
    unfold cRun at h0 ⊢
    by_cases hf : (cfOp s0 y).1 ≠ 0
    · rw [if_pos hf] at h0
      rw [h0] at hf; exact absurd rfl hf
    · rw [if_neg hf] at h0 ⊢
      exact cRun_take_succ l q _ (by simpa using h) h0
theorem cRun_fault {x : ROp} {s : CSt} : ∀ (l : List ROp) (q : Nat) (s0 : CSt), l[q]? = some x → cRun s0 (l.take q) = (0, s) → (cfOp s x).1 ≠ 0 → cRun s0 l = cfOp s x
  | [], q, s0, h, _, _ => by simp at h
  | y :: l, 0, s0, h, h0, hf => by
    simp at h; subst h
    simp only [List.take_zero, cRun, Prod.mk.injEq, true_and] at h0
    subst h0
    unfold cRun
    rw [if_pos hf]
  | y :: l, q + 1, s0, h, h0, hf => by
    rw [List.take_succ_cons] at h0
    unfold cRun at h0 ⊢
    by_cases hg : (cfOp s0 y).1 ≠ 0
    · rw [if_pos hg] at h0
      rw [h0] at hg; exact absurd rfl hg
    · rw [if_neg hg] at h0 ⊢
      exact cRun_fault l q _ (by simpa using h) h0 hf
theorem cfOp_num (s : CSt) (x : ROp) : (cfOp s x).1 = 0 ∨ (cfOp s x).1 = 2 ∨ (cfOp s x).1 = 3 ∨ (cfOp s x).1 = 5 ∨ (cfOp s x).1 = 8 := by
  unfold cfOp
  repeat' split
  all_goals simp
theorem cRun_num : ∀ (l : List ROp) (s : CSt), (cRun s l).1 = 0 ∨ (cRun s l).1 = 2 ∨ (cRun s l).1 = 3 ∨ (cRun s l).1 = 5 ∨ (cRun s l).1 = 8
  | [], s => .inl rfl
  | x :: l, s => by
    unfold cRun
    split
    · exact cfOp_num s x
    · exact cRun_num l _
theorem cRowF_num {l : List ROp} {c : Int} (h : cRowF l = some c) : c = 2 ∨ c = 3 ∨ c = 5 ∨ c = 8 := by
  unfold cRowF at h
  split at h
  · rename_i hn
    have := cRun_num l c0
    have hc := Option.some.inj h
    omega
  · split at h
    · have := Option.some.inj h; omega
    · cases h
end Go.Proofs.YtppihkneeolomaaGreatDoor
end
/- package client: a thread's state and an op: every way. -/
section
namespace Go.Proofs.YtppihkneeolomaaGreatDoor
open Go.RowKit Qs Qh
/-- A thread's state in memory. -/
def StAt (w : World) (b : Nat) (s : CSt) : Prop := w.heap[b]? = some (.cells #[.int .i64 (s.d : Int), .bool s.r, .bool s.w, .bool s.u] 154 (0, 0))
def SopPost (a : Nat → Addr) (s : CSt) (x : ROp) (b : Nat) (w : World) (e : Ending) (w' : World) : Prop :=
  ∃ ev, e = .returned ev ∧ ((cfOp s x).1 = 0 → ev = .nilIface ∧ StAt w' b (cfOp s x).2) ∧ ((cfOp s x).1 ≠ 0 → ∃ i : Nat, i < 9 ∧ (cfOp s x).1 = (i : Int) + 1 ∧ ev = errV a i) ∧ Mod (fun k => k = b) w w'
variable {a : Nat → Addr} {w w' : World} {b d : Nat} {r wt u : Bool} {n : Int} {s s' : CSt} {x : ROp}
theorem sop_good (hcf : cfOp s x = (0, s')) (hS : StAt w' b s') (hM : Mod (fun k => k = b) w w') : SopPost a s x b w (.returned .nilIface) w' :=
  ⟨_, rfl, fun _ => ⟨rfl, by rw [hcf]; exact hS⟩, fun h => absurd (by rw [hcf]) h, hM⟩
theorem sop_bad {c : Int} (i : Nat) (hcf : cfOp s x = (c, s')) (hi : i < 9) (hc : c = (i : Int) + 1) (hM : Mod (fun k => k = b) w w') : SopPost a s x b w (.returned (errV a i)) w' :=
  ⟨_, rfl, fun h => by rw [hcf] at h; simp only at h; omega, fun _ => ⟨i, hi, by rw [hcf]; exact hc, rfl⟩, hM⟩
theorem sop_enter_n (E : ErrsAt w a) (HK : KindsW w) (hn : n ≠ 0) (hS : StAt w b ⟨d, r, wt, u⟩) :
    Calls Tryz.prog 90 #[.pointer (some ⟨b, 0, none⟩), .agg #[.string ⟨#[101, 110, 116, 101, 114]⟩, .int .i64 n]] w (SopPost a ⟨d, r, wt, u⟩ (kEnter, n) b w) := by
  have hq := (Mod.refl noF w).alloc (.cells #[.string ⟨#[101, 110, 116, 101, 114]⟩, .int .i64 n] 88)
  have hcf : cfOp ⟨d, r, wt, u⟩ (kEnter, n) = (3, ⟨d, r, wt, u⟩) := by
    unfold cfOp
    have hm : memK kindsC ⟨#[101, 110, 116, 101, 114]⟩ = true := by decide +kernel
    simp [hm, kEnter, kLeave, kRest, kWait, kRead, kPut, kDrop, kLater, kFlush, hn]
  have hS1 := hq.heap hS (fun e => e)
  have h0 := cell_of_heap hS1 0
  have h1 := cell_of_heap hS1 1
  have h2 := cell_of_heap hS1 2
  have h3 := cell_of_heap hS1 3
  have f0 := free_of_heap hS1 0
  have f1 := free_of_heap hS1 1
  have f2 := free_of_heap hS1 2
  have f3 := free_of_heap hS1 3
  replace h0 : (w.alloc (.cells #[.string ⟨#[101, 110, 116, 101, 114]⟩, .int .i64 n] 88)).cell? ⟨b, 0, none⟩ = some (.int .i64 ((d : Nat) : Int)) := h0
  replace h1 : (w.alloc (.cells #[.string ⟨#[101, 110, 116, 101, 114]⟩, .int .i64 n] 88)).cell? ⟨b, 1, none⟩ = some (.bool r) := h1
  replace h2 : (w.alloc (.cells #[.string ⟨#[101, 110, 116, 101, 114]⟩, .int .i64 n] 88)).cell? ⟨b, 2, none⟩ = some (.bool wt) := h2
  replace h3 : (w.alloc (.cells #[.string ⟨#[101, 110, 116, 101, 114]⟩, .int .i64 n] 88)).cell? ⟨b, 3, none⟩ = some (.bool u) := h3
  have E1 := E.keep hq
  obtain ⟨gk, off, cap, q0, qx⟩ := HK.keep hq
  have hcall := containsK2 (w.alloc (.cells #[.string ⟨#[101, 110, 116, 101, 114]⟩, .int .i64 n] 88)) gk off cap kindsC kEnter qx (by decide)
  rw [show memK kindsC kEnter = true by decide +kernel] at hcall
  have hl9 : kindsC.length = 9 := rfl
  rw [hl9] at hcall
  have v1 := E1.v1
  have v2 := E1.v2
  have v4 := E1.v4
  have v7 := E1.v7
  have e0 : ((⟨#[101, 110, 116, 101, 114]⟩ : ByteArray).toList == (⟨#[101, 110, 116, 101, 114]⟩ : ByteArray).toList) = true := by simp
  have e1 : ((⟨#[101, 110, 116, 101, 114]⟩ : ByteArray).toList == (⟨#[108, 101, 97, 118, 101]⟩ : ByteArray).toList) = false := by
    rw [ByteArray.toList_eq, ByteArray.toList_eq]; rfl
  have e2 : ((⟨#[101, 110, 116, 101, 114]⟩ : ByteArray).toList == (⟨#[114, 101, 115, 116]⟩ : ByteArray).toList) = false := by
    rw [ByteArray.toList_eq, ByteArray.toList_eq]; rfl
  have e3 : ((⟨#[101, 110, 116, 101, 114]⟩ : ByteArray).toList == (⟨#[119, 97, 105, 116]⟩ : ByteArray).toList) = false := by
    rw [ByteArray.toList_eq, ByteArray.toList_eq]; rfl
  have e4 : ((⟨#[101, 110, 116, 101, 114]⟩ : ByteArray).toList == (⟨#[102, 108, 117, 115, 104]⟩ : ByteArray).toList) = false := by
    rw [ByteArray.toList_eq, ByteArray.toList_eq]; rfl
  have e5 : ((⟨#[101, 110, 116, 101, 114]⟩ : ByteArray).toList == (⟨#[114, 101, 97, 100]⟩ : ByteArray).toList) = false := by
    rw [ByteArray.toList_eq, ByteArray.toList_eq]; rfl
  have e6 : ((⟨#[101, 110, 116, 101, 114]⟩ : ByteArray).toList == (⟨#[112, 117, 116]⟩ : ByteArray).toList) = false := by
    rw [ByteArray.toList_eq, ByteArray.toList_eq]; rfl
  have e7 : ((⟨#[101, 110, 116, 101, 114]⟩ : ByteArray).toList == (⟨#[100, 114, 111, 112]⟩ : ByteArray).toList) = false := by
    rw [ByteArray.toList_eq, ByteArray.toList_eq]; rfl
  have e8 : ((⟨#[101, 110, 116, 101, 114]⟩ : ByteArray).toList == (⟨#[108, 97, 116, 101, 114]⟩ : ByteArray).toList) = false := by
    rw [ByteArray.toList_eq, ByteArray.toList_eq]; rfl
  have n1 : (n == 0) = false := by simpa using hn
  have n2 : decide (n = 0) = false := by simpa using hn
  have HS1 := Lib.hid hS1
  have Hq := Lib.hid hq
  have Hcall := Lib.hid hcall
  have Hcf := Lib.hid hcf
  have hbz : w.heap.size ≠ b := by have := lt_of_block hS; omega
  clear E HK hS hq hcf hS1 E1 qx hcall hl9
  go_enter Tryz.func90, Tryz.ntmps90
  go_wp2_with fail
  refine Hcall.out.mono ?_
  rintro e w2 ⟨rfl, rfl⟩
  go_wp2
  go_ret
  exact sop_bad 2 Hcf.out (by omega) rfl Hq.out.any
theorem sop_leave_n (E : ErrsAt w a) (HK : KindsW w) (hn : n ≠ 0) (hS : StAt w b ⟨d, r, wt, u⟩) :
    Calls Tryz.prog 90 #[.pointer (some ⟨b, 0, none⟩), .agg #[.string ⟨#[108, 101, 97, 118, 101]⟩, .int .i64 n]] w (SopPost a ⟨d, r, wt, u⟩ (kLeave, n) b w) := by
  have hq := (Mod.refl noF w).alloc (.cells #[.string ⟨#[108, 101, 97, 118, 101]⟩, .int .i64 n] 88)
  have hcf : cfOp ⟨d, r, wt, u⟩ (kLeave, n) = (3, ⟨d, r, wt, u⟩) := by
    unfold cfOp
    have hm : memK kindsC ⟨#[108, 101, 97, 118, 101]⟩ = true := by decide +kernel
    simp [hm, kEnter, kLeave, kRest, kWait, kRead, kPut, kDrop, kLater, kFlush, hn]
  have hS1 := hq.heap hS (fun e => e)
  have h0 := cell_of_heap hS1 0
  have h1 := cell_of_heap hS1 1
  have h2 := cell_of_heap hS1 2
  have h3 := cell_of_heap hS1 3
  have f0 := free_of_heap hS1 0
  have f1 := free_of_heap hS1 1
  have f2 := free_of_heap hS1 2
  have f3 := free_of_heap hS1 3
  replace h0 : (w.alloc (.cells #[.string ⟨#[108, 101, 97, 118, 101]⟩, .int .i64 n] 88)).cell? ⟨b, 0, none⟩ = some (.int .i64 ((d : Nat) : Int)) := h0
  replace h1 : (w.alloc (.cells #[.string ⟨#[108, 101, 97, 118, 101]⟩, .int .i64 n] 88)).cell? ⟨b, 1, none⟩ = some (.bool r) := h1
  replace h2 : (w.alloc (.cells #[.string ⟨#[108, 101, 97, 118, 101]⟩, .int .i64 n] 88)).cell? ⟨b, 2, none⟩ = some (.bool wt) := h2
  replace h3 : (w.alloc (.cells #[.string ⟨#[108, 101, 97, 118, 101]⟩, .int .i64 n] 88)).cell? ⟨b, 3, none⟩ = some (.bool u) := h3
  have E1 := E.keep hq
  obtain ⟨gk, off, cap, q0, qx⟩ := HK.keep hq
  have hcall := containsK2 (w.alloc (.cells #[.string ⟨#[108, 101, 97, 118, 101]⟩, .int .i64 n] 88)) gk off cap kindsC kLeave qx (by decide)
  rw [show memK kindsC kLeave = true by decide +kernel] at hcall
  have hl9 : kindsC.length = 9 := rfl
  rw [hl9] at hcall
  have v1 := E1.v1
  have v2 := E1.v2
  have v4 := E1.v4
  have v7 := E1.v7
  have e0 : ((⟨#[108, 101, 97, 118, 101]⟩ : ByteArray).toList == (⟨#[101, 110, 116, 101, 114]⟩ : ByteArray).toList) = false := by
    rw [ByteArray.toList_eq, ByteArray.toList_eq]; rfl
  have e1 : ((⟨#[108, 101, 97, 118, 101]⟩ : ByteArray).toList == (⟨#[108, 101, 97, 118, 101]⟩ : ByteArray).toList) = true := by simp
  have e2 : ((⟨#[108, 101, 97, 118, 101]⟩ : ByteArray).toList == (⟨#[114, 101, 115, 116]⟩ : ByteArray).toList) = false := by
    rw [ByteArray.toList_eq, ByteArray.toList_eq]; rfl
  have e3 : ((⟨#[108, 101, 97, 118, 101]⟩ : ByteArray).toList == (⟨#[119, 97, 105, 116]⟩ : ByteArray).toList) = false := by
    rw [ByteArray.toList_eq, ByteArray.toList_eq]; rfl
  have e4 : ((⟨#[108, 101, 97, 118, 101]⟩ : ByteArray).toList == (⟨#[102, 108, 117, 115, 104]⟩ : ByteArray).toList) = false := by
    rw [ByteArray.toList_eq, ByteArray.toList_eq]; rfl
  have e5 : ((⟨#[108, 101, 97, 118, 101]⟩ : ByteArray).toList == (⟨#[114, 101, 97, 100]⟩ : ByteArray).toList) = false := by
    rw [ByteArray.toList_eq, ByteArray.toList_eq]; rfl
  have e6 : ((⟨#[108, 101, 97, 118, 101]⟩ : ByteArray).toList == (⟨#[112, 117, 116]⟩ : ByteArray).toList) = false := by
    rw [ByteArray.toList_eq, ByteArray.toList_eq]; rfl
  have e7 : ((⟨#[108, 101, 97, 118, 101]⟩ : ByteArray).toList == (⟨#[100, 114, 111, 112]⟩ : ByteArray).toList) = false := by
    rw [ByteArray.toList_eq, ByteArray.toList_eq]; rfl
  have e8 : ((⟨#[108, 101, 97, 118, 101]⟩ : ByteArray).toList == (⟨#[108, 97, 116, 101, 114]⟩ : ByteArray).toList) = false := by
    rw [ByteArray.toList_eq, ByteArray.toList_eq]; rfl
  have n1 : (n == 0) = false := by simpa using hn
  have n2 : decide (n = 0) = false := by simpa using hn
  have HS1 := Lib.hid hS1
  have Hq := Lib.hid hq
  have Hcall := Lib.hid hcall
  have Hcf := Lib.hid hcf
  have hbz : w.heap.size ≠ b := by have := lt_of_block hS; omega
  clear E HK hS hq hcf hS1 E1 qx hcall hl9
  go_enter Tryz.func90, Tryz.ntmps90
  go_wp2_with fail
  refine Hcall.out.mono ?_
  rintro e w2 ⟨rfl, rfl⟩
  go_wp2
  go_ret
  exact sop_bad 2 Hcf.out (by omega) rfl Hq.out.any
theorem sop_rest_n (E : ErrsAt w a) (HK : KindsW w) (hn : n ≠ 0) (hS : StAt w b ⟨d, r, wt, u⟩) :
    Calls Tryz.prog 90 #[.pointer (some ⟨b, 0, none⟩), .agg #[.string ⟨#[114, 101, 115, 116]⟩, .int .i64 n]] w (SopPost a ⟨d, r, wt, u⟩ (kRest, n) b w) := by
  have hq := (Mod.refl noF w).alloc (.cells #[.string ⟨#[114, 101, 115, 116]⟩, .int .i64 n] 88)
  have hcf : cfOp ⟨d, r, wt, u⟩ (kRest, n) = (3, ⟨d, r, wt, u⟩) := by
    unfold cfOp
    have hm : memK kindsC ⟨#[114, 101, 115, 116]⟩ = true := by decide +kernel
    simp [hm, kEnter, kLeave, kRest, kWait, kRead, kPut, kDrop, kLater, kFlush, hn]
  have hS1 := hq.heap hS (fun e => e)
  have h0 := cell_of_heap hS1 0
  have h1 := cell_of_heap hS1 1
  have h2 := cell_of_heap hS1 2
  have h3 := cell_of_heap hS1 3
  have f0 := free_of_heap hS1 0
  have f1 := free_of_heap hS1 1
  have f2 := free_of_heap hS1 2
  have f3 := free_of_heap hS1 3
  replace h0 : (w.alloc (.cells #[.string ⟨#[114, 101, 115, 116]⟩, .int .i64 n] 88)).cell? ⟨b, 0, none⟩ = some (.int .i64 ((d : Nat) : Int)) := h0
  replace h1 : (w.alloc (.cells #[.string ⟨#[114, 101, 115, 116]⟩, .int .i64 n] 88)).cell? ⟨b, 1, none⟩ = some (.bool r) := h1
  replace h2 : (w.alloc (.cells #[.string ⟨#[114, 101, 115, 116]⟩, .int .i64 n] 88)).cell? ⟨b, 2, none⟩ = some (.bool wt) := h2
  replace h3 : (w.alloc (.cells #[.string ⟨#[114, 101, 115, 116]⟩, .int .i64 n] 88)).cell? ⟨b, 3, none⟩ = some (.bool u) := h3
  have E1 := E.keep hq
  obtain ⟨gk, off, cap, q0, qx⟩ := HK.keep hq
  have hcall := containsK2 (w.alloc (.cells #[.string ⟨#[114, 101, 115, 116]⟩, .int .i64 n] 88)) gk off cap kindsC kRest qx (by decide)
  rw [show memK kindsC kRest = true by decide +kernel] at hcall
  have hl9 : kindsC.length = 9 := rfl
  rw [hl9] at hcall
  have v1 := E1.v1
  have v2 := E1.v2
  have v4 := E1.v4
  have v7 := E1.v7
  have e0 : ((⟨#[114, 101, 115, 116]⟩ : ByteArray).toList == (⟨#[101, 110, 116, 101, 114]⟩ : ByteArray).toList) = false := by
    rw [ByteArray.toList_eq, ByteArray.toList_eq]; rfl
  have e1 : ((⟨#[114, 101, 115, 116]⟩ : ByteArray).toList == (⟨#[108, 101, 97, 118, 101]⟩ : ByteArray).toList) = false := by
    rw [ByteArray.toList_eq, ByteArray.toList_eq]; rfl
  have e2 : ((⟨#[114, 101, 115, 116]⟩ : ByteArray).toList == (⟨#[114, 101, 115, 116]⟩ : ByteArray).toList) = true := by simp
  have e3 : ((⟨#[114, 101, 115, 116]⟩ : ByteArray).toList == (⟨#[119, 97, 105, 116]⟩ : ByteArray).toList) = false := by
    rw [ByteArray.toList_eq, ByteArray.toList_eq]; rfl
  have e4 : ((⟨#[114, 101, 115, 116]⟩ : ByteArray).toList == (⟨#[102, 108, 117, 115, 104]⟩ : ByteArray).toList) = false := by
    rw [ByteArray.toList_eq, ByteArray.toList_eq]; rfl
  have e5 : ((⟨#[114, 101, 115, 116]⟩ : ByteArray).toList == (⟨#[114, 101, 97, 100]⟩ : ByteArray).toList) = false := by
    rw [ByteArray.toList_eq, ByteArray.toList_eq]; rfl
  have e6 : ((⟨#[114, 101, 115, 116]⟩ : ByteArray).toList == (⟨#[112, 117, 116]⟩ : ByteArray).toList) = false := by
    rw [ByteArray.toList_eq, ByteArray.toList_eq]; rfl
  have e7 : ((⟨#[114, 101, 115, 116]⟩ : ByteArray).toList == (⟨#[100, 114, 111, 112]⟩ : ByteArray).toList) = false := by
    rw [ByteArray.toList_eq, ByteArray.toList_eq]; rfl
  have e8 : ((⟨#[114, 101, 115, 116]⟩ : ByteArray).toList == (⟨#[108, 97, 116, 101, 114]⟩ : ByteArray).toList) = false := by
    rw [ByteArray.toList_eq, ByteArray.toList_eq]; rfl
  have n1 : (n == 0) = false := by simpa using hn
  have n2 : decide (n = 0) = false := by simpa using hn
  have HS1 := Lib.hid hS1
  have Hq := Lib.hid hq
  have Hcall := Lib.hid hcall
  have Hcf := Lib.hid hcf
  have hbz : w.heap.size ≠ b := by have := lt_of_block hS; omega
  clear E HK hS hq hcf hS1 E1 qx hcall hl9
  go_enter Tryz.func90, Tryz.ntmps90
  go_wp2_with fail
  refine Hcall.out.mono ?_
  rintro e w2 ⟨rfl, rfl⟩
  go_wp2
  go_ret
  exact sop_bad 2 Hcf.out (by omega) rfl Hq.out.any
theorem sop_wait_n (E : ErrsAt w a) (HK : KindsW w) (hn : n ≠ 0) (hS : StAt w b ⟨d, r, wt, u⟩) :
    Calls Tryz.prog 90 #[.pointer (some ⟨b, 0, none⟩), .agg #[.string ⟨#[119, 97, 105, 116]⟩, .int .i64 n]] w (SopPost a ⟨d, r, wt, u⟩ (kWait, n) b w) := by
  have hq := (Mod.refl noF w).alloc (.cells #[.string ⟨#[119, 97, 105, 116]⟩, .int .i64 n] 88)
  have hcf : cfOp ⟨d, r, wt, u⟩ (kWait, n) = (3, ⟨d, r, wt, u⟩) := by
    unfold cfOp
    have hm : memK kindsC ⟨#[119, 97, 105, 116]⟩ = true := by decide +kernel
    simp [hm, kEnter, kLeave, kRest, kWait, kRead, kPut, kDrop, kLater, kFlush, hn]
  have hS1 := hq.heap hS (fun e => e)
  have h0 := cell_of_heap hS1 0
  have h1 := cell_of_heap hS1 1
  have h2 := cell_of_heap hS1 2
  have h3 := cell_of_heap hS1 3
  have f0 := free_of_heap hS1 0
  have f1 := free_of_heap hS1 1
  have f2 := free_of_heap hS1 2
  have f3 := free_of_heap hS1 3
  replace h0 : (w.alloc (.cells #[.string ⟨#[119, 97, 105, 116]⟩, .int .i64 n] 88)).cell? ⟨b, 0, none⟩ = some (.int .i64 ((d : Nat) : Int)) := h0
  replace h1 : (w.alloc (.cells #[.string ⟨#[119, 97, 105, 116]⟩, .int .i64 n] 88)).cell? ⟨b, 1, none⟩ = some (.bool r) := h1
  replace h2 : (w.alloc (.cells #[.string ⟨#[119, 97, 105, 116]⟩, .int .i64 n] 88)).cell? ⟨b, 2, none⟩ = some (.bool wt) := h2
  replace h3 : (w.alloc (.cells #[.string ⟨#[119, 97, 105, 116]⟩, .int .i64 n] 88)).cell? ⟨b, 3, none⟩ = some (.bool u) := h3
  have E1 := E.keep hq
  obtain ⟨gk, off, cap, q0, qx⟩ := HK.keep hq
  have hcall := containsK2 (w.alloc (.cells #[.string ⟨#[119, 97, 105, 116]⟩, .int .i64 n] 88)) gk off cap kindsC kWait qx (by decide)
  rw [show memK kindsC kWait = true by decide +kernel] at hcall
  have hl9 : kindsC.length = 9 := rfl
  rw [hl9] at hcall
  have v1 := E1.v1
  have v2 := E1.v2
  have v4 := E1.v4
  have v7 := E1.v7
  have e0 : ((⟨#[119, 97, 105, 116]⟩ : ByteArray).toList == (⟨#[101, 110, 116, 101, 114]⟩ : ByteArray).toList) = false := by
    rw [ByteArray.toList_eq, ByteArray.toList_eq]; rfl
  have e1 : ((⟨#[119, 97, 105, 116]⟩ : ByteArray).toList == (⟨#[108, 101, 97, 118, 101]⟩ : ByteArray).toList) = false := by
    rw [ByteArray.toList_eq, ByteArray.toList_eq]; rfl
  have e2 : ((⟨#[119, 97, 105, 116]⟩ : ByteArray).toList == (⟨#[114, 101, 115, 116]⟩ : ByteArray).toList) = false := by
    rw [ByteArray.toList_eq, ByteArray.toList_eq]; rfl
  have e3 : ((⟨#[119, 97, 105, 116]⟩ : ByteArray).toList == (⟨#[119, 97, 105, 116]⟩ : ByteArray).toList) = true := by simp
  have e4 : ((⟨#[119, 97, 105, 116]⟩ : ByteArray).toList == (⟨#[102, 108, 117, 115, 104]⟩ : ByteArray).toList) = false := by
    rw [ByteArray.toList_eq, ByteArray.toList_eq]; rfl
  have e5 : ((⟨#[119, 97, 105, 116]⟩ : ByteArray).toList == (⟨#[114, 101, 97, 100]⟩ : ByteArray).toList) = false := by
    rw [ByteArray.toList_eq, ByteArray.toList_eq]; rfl
  have e6 : ((⟨#[119, 97, 105, 116]⟩ : ByteArray).toList == (⟨#[112, 117, 116]⟩ : ByteArray).toList) = false := by
    rw [ByteArray.toList_eq, ByteArray.toList_eq]; rfl
  have e7 : ((⟨#[119, 97, 105, 116]⟩ : ByteArray).toList == (⟨#[100, 114, 111, 112]⟩ : ByteArray).toList) = false := by
    rw [ByteArray.toList_eq, ByteArray.toList_eq]; rfl
  have e8 : ((⟨#[119, 97, 105, 116]⟩ : ByteArray).toList == (⟨#[108, 97, 116, 101, 114]⟩ : ByteArray).toList) = false := by
    rw [ByteArray.toList_eq, ByteArray.toList_eq]; rfl
  have n1 : (n == 0) = false := by simpa using hn
  have n2 : decide (n = 0) = false := by simpa using hn
  have HS1 := Lib.hid hS1
  have Hq := Lib.hid hq
  have Hcall := Lib.hid hcall
  have Hcf := Lib.hid hcf
  have hbz : w.heap.size ≠ b := by have := lt_of_block hS; omega
  clear E HK hS hq hcf hS1 E1 qx hcall hl9
  go_enter Tryz.func90, Tryz.ntmps90
  go_wp2_with fail
  refine Hcall.out.mono ?_
  rintro e w2 ⟨rfl, rfl⟩
  go_wp2
  go_ret
  exact sop_bad 2 Hcf.out (by omega) rfl Hq.out.any
theorem sop_read_n (E : ErrsAt w a) (HK : KindsW w) (hn : n ≠ 0) (hS : StAt w b ⟨d, r, wt, u⟩) :
    Calls Tryz.prog 90 #[.pointer (some ⟨b, 0, none⟩), .agg #[.string ⟨#[114, 101, 97, 100]⟩, .int .i64 n]] w (SopPost a ⟨d, r, wt, u⟩ (kRead, n) b w) := by
  have hq := (Mod.refl noF w).alloc (.cells #[.string ⟨#[114, 101, 97, 100]⟩, .int .i64 n] 88)
  have hcf : cfOp ⟨d, r, wt, u⟩ (kRead, n) = (3, ⟨d, r, wt, u⟩) := by
    unfold cfOp
    have hm : memK kindsC ⟨#[114, 101, 97, 100]⟩ = true := by decide +kernel
    simp [hm, kEnter, kLeave, kRest, kWait, kRead, kPut, kDrop, kLater, kFlush, hn]
  have hS1 := hq.heap hS (fun e => e)
  have h0 := cell_of_heap hS1 0
  have h1 := cell_of_heap hS1 1
  have h2 := cell_of_heap hS1 2
  have h3 := cell_of_heap hS1 3
  have f0 := free_of_heap hS1 0
  have f1 := free_of_heap hS1 1
  have f2 := free_of_heap hS1 2
  have f3 := free_of_heap hS1 3
  replace h0 : (w.alloc (.cells #[.string ⟨#[114, 101, 97, 100]⟩, .int .i64 n] 88)).cell? ⟨b, 0, none⟩ = some (.int .i64 ((d : Nat) : Int)) := h0
  replace h1 : (w.alloc (.cells #[.string ⟨#[114, 101, 97, 100]⟩, .int .i64 n] 88)).cell? ⟨b, 1, none⟩ = some (.bool r) := h1
  replace h2 : (w.alloc (.cells #[.string ⟨#[114, 101, 97, 100]⟩, .int .i64 n] 88)).cell? ⟨b, 2, none⟩ = some (.bool wt) := h2
  replace h3 : (w.alloc (.cells #[.string ⟨#[114, 101, 97, 100]⟩, .int .i64 n] 88)).cell? ⟨b, 3, none⟩ = some (.bool u) := h3
  have E1 := E.keep hq
  obtain ⟨gk, off, cap, q0, qx⟩ := HK.keep hq
  have hcall := containsK2 (w.alloc (.cells #[.string ⟨#[114, 101, 97, 100]⟩, .int .i64 n] 88)) gk off cap kindsC kRead qx (by decide)
  rw [show memK kindsC kRead = true by decide +kernel] at hcall
  have hl9 : kindsC.length = 9 := rfl
  rw [hl9] at hcall
  have v1 := E1.v1
  have v2 := E1.v2
  have v4 := E1.v4
  have v7 := E1.v7
  have e0 : ((⟨#[114, 101, 97, 100]⟩ : ByteArray).toList == (⟨#[101, 110, 116, 101, 114]⟩ : ByteArray).toList) = false := by
    rw [ByteArray.toList_eq, ByteArray.toList_eq]; rfl
  have e1 : ((⟨#[114, 101, 97, 100]⟩ : ByteArray).toList == (⟨#[108, 101, 97, 118, 101]⟩ : ByteArray).toList) = false := by
    rw [ByteArray.toList_eq, ByteArray.toList_eq]; rfl
  have e2 : ((⟨#[114, 101, 97, 100]⟩ : ByteArray).toList == (⟨#[114, 101, 115, 116]⟩ : ByteArray).toList) = false := by
    rw [ByteArray.toList_eq, ByteArray.toList_eq]; rfl
  have e3 : ((⟨#[114, 101, 97, 100]⟩ : ByteArray).toList == (⟨#[119, 97, 105, 116]⟩ : ByteArray).toList) = false := by
    rw [ByteArray.toList_eq, ByteArray.toList_eq]; rfl
  have e4 : ((⟨#[114, 101, 97, 100]⟩ : ByteArray).toList == (⟨#[102, 108, 117, 115, 104]⟩ : ByteArray).toList) = false := by
    rw [ByteArray.toList_eq, ByteArray.toList_eq]; rfl
  have e5 : ((⟨#[114, 101, 97, 100]⟩ : ByteArray).toList == (⟨#[114, 101, 97, 100]⟩ : ByteArray).toList) = true := by simp
  have e6 : ((⟨#[114, 101, 97, 100]⟩ : ByteArray).toList == (⟨#[112, 117, 116]⟩ : ByteArray).toList) = false := by
    rw [ByteArray.toList_eq, ByteArray.toList_eq]; rfl
  have e7 : ((⟨#[114, 101, 97, 100]⟩ : ByteArray).toList == (⟨#[100, 114, 111, 112]⟩ : ByteArray).toList) = false := by
    rw [ByteArray.toList_eq, ByteArray.toList_eq]; rfl
  have e8 : ((⟨#[114, 101, 97, 100]⟩ : ByteArray).toList == (⟨#[108, 97, 116, 101, 114]⟩ : ByteArray).toList) = false := by
    rw [ByteArray.toList_eq, ByteArray.toList_eq]; rfl
  have n1 : (n == 0) = false := by simpa using hn
  have n2 : decide (n = 0) = false := by simpa using hn
  have HS1 := Lib.hid hS1
  have Hq := Lib.hid hq
  have Hcall := Lib.hid hcall
  have Hcf := Lib.hid hcf
  have hbz : w.heap.size ≠ b := by have := lt_of_block hS; omega
  clear E HK hS hq hcf hS1 E1 qx hcall hl9
  go_enter Tryz.func90, Tryz.ntmps90
  go_wp2_with fail
  refine Hcall.out.mono ?_
  rintro e w2 ⟨rfl, rfl⟩
  go_wp2
  go_ret
  exact sop_bad 2 Hcf.out (by omega) rfl Hq.out.any
theorem sop_drop_n (E : ErrsAt w a) (HK : KindsW w) (hn : n ≠ 0) (hS : StAt w b ⟨d, r, wt, u⟩) :
    Calls Tryz.prog 90 #[.pointer (some ⟨b, 0, none⟩), .agg #[.string ⟨#[100, 114, 111, 112]⟩, .int .i64 n]] w (SopPost a ⟨d, r, wt, u⟩ (kDrop, n) b w) := by
  have hq := (Mod.refl noF w).alloc (.cells #[.string ⟨#[100, 114, 111, 112]⟩, .int .i64 n] 88)
  have hcf : cfOp ⟨d, r, wt, u⟩ (kDrop, n) = (3, ⟨d, r, wt, u⟩) := by
    unfold cfOp
    have hm : memK kindsC ⟨#[100, 114, 111, 112]⟩ = true := by decide +kernel
    simp [hm, kEnter, kLeave, kRest, kWait, kRead, kPut, kDrop, kLater, kFlush, hn]
  have hS1 := hq.heap hS (fun e => e)
  have h0 := cell_of_heap hS1 0
  have h1 := cell_of_heap hS1 1
  have h2 := cell_of_heap hS1 2
  have h3 := cell_of_heap hS1 3
  have f0 := free_of_heap hS1 0
  have f1 := free_of_heap hS1 1
  have f2 := free_of_heap hS1 2
  have f3 := free_of_heap hS1 3
  replace h0 : (w.alloc (.cells #[.string ⟨#[100, 114, 111, 112]⟩, .int .i64 n] 88)).cell? ⟨b, 0, none⟩ = some (.int .i64 ((d : Nat) : Int)) := h0
  replace h1 : (w.alloc (.cells #[.string ⟨#[100, 114, 111, 112]⟩, .int .i64 n] 88)).cell? ⟨b, 1, none⟩ = some (.bool r) := h1
  replace h2 : (w.alloc (.cells #[.string ⟨#[100, 114, 111, 112]⟩, .int .i64 n] 88)).cell? ⟨b, 2, none⟩ = some (.bool wt) := h2
  replace h3 : (w.alloc (.cells #[.string ⟨#[100, 114, 111, 112]⟩, .int .i64 n] 88)).cell? ⟨b, 3, none⟩ = some (.bool u) := h3
  have E1 := E.keep hq
  obtain ⟨gk, off, cap, q0, qx⟩ := HK.keep hq
  have hcall := containsK2 (w.alloc (.cells #[.string ⟨#[100, 114, 111, 112]⟩, .int .i64 n] 88)) gk off cap kindsC kDrop qx (by decide)
  rw [show memK kindsC kDrop = true by decide +kernel] at hcall
  have hl9 : kindsC.length = 9 := rfl
  rw [hl9] at hcall
  have v1 := E1.v1
  have v2 := E1.v2
  have v4 := E1.v4
  have v7 := E1.v7
  have e0 : ((⟨#[100, 114, 111, 112]⟩ : ByteArray).toList == (⟨#[101, 110, 116, 101, 114]⟩ : ByteArray).toList) = false := by
    rw [ByteArray.toList_eq, ByteArray.toList_eq]; rfl
  have e1 : ((⟨#[100, 114, 111, 112]⟩ : ByteArray).toList == (⟨#[108, 101, 97, 118, 101]⟩ : ByteArray).toList) = false := by
    rw [ByteArray.toList_eq, ByteArray.toList_eq]; rfl
  have e2 : ((⟨#[100, 114, 111, 112]⟩ : ByteArray).toList == (⟨#[114, 101, 115, 116]⟩ : ByteArray).toList) = false := by
    rw [ByteArray.toList_eq, ByteArray.toList_eq]; rfl
  have e3 : ((⟨#[100, 114, 111, 112]⟩ : ByteArray).toList == (⟨#[119, 97, 105, 116]⟩ : ByteArray).toList) = false := by
    rw [ByteArray.toList_eq, ByteArray.toList_eq]; rfl
  have e4 : ((⟨#[100, 114, 111, 112]⟩ : ByteArray).toList == (⟨#[102, 108, 117, 115, 104]⟩ : ByteArray).toList) = false := by
    rw [ByteArray.toList_eq, ByteArray.toList_eq]; rfl
  have e5 : ((⟨#[100, 114, 111, 112]⟩ : ByteArray).toList == (⟨#[114, 101, 97, 100]⟩ : ByteArray).toList) = false := by
    rw [ByteArray.toList_eq, ByteArray.toList_eq]; rfl
  have e6 : ((⟨#[100, 114, 111, 112]⟩ : ByteArray).toList == (⟨#[112, 117, 116]⟩ : ByteArray).toList) = false := by
    rw [ByteArray.toList_eq, ByteArray.toList_eq]; rfl
  have e7 : ((⟨#[100, 114, 111, 112]⟩ : ByteArray).toList == (⟨#[100, 114, 111, 112]⟩ : ByteArray).toList) = true := by simp
  have e8 : ((⟨#[100, 114, 111, 112]⟩ : ByteArray).toList == (⟨#[108, 97, 116, 101, 114]⟩ : ByteArray).toList) = false := by
    rw [ByteArray.toList_eq, ByteArray.toList_eq]; rfl
  have n1 : (n == 0) = false := by simpa using hn
  have n2 : decide (n = 0) = false := by simpa using hn
  have HS1 := Lib.hid hS1
  have Hq := Lib.hid hq
  have Hcall := Lib.hid hcall
  have Hcf := Lib.hid hcf
  have hbz : w.heap.size ≠ b := by have := lt_of_block hS; omega
  clear E HK hS hq hcf hS1 E1 qx hcall hl9
  go_enter Tryz.func90, Tryz.ntmps90
  go_wp2_with fail
  refine Hcall.out.mono ?_
  rintro e w2 ⟨rfl, rfl⟩
  go_wp2
  go_ret
  exact sop_bad 2 Hcf.out (by omega) rfl Hq.out.any
theorem sop_later_n (E : ErrsAt w a) (HK : KindsW w) (hn : n ≠ 0) (hS : StAt w b ⟨d, r, wt, u⟩) :
    Calls Tryz.prog 90 #[.pointer (some ⟨b, 0, none⟩), .agg #[.string ⟨#[108, 97, 116, 101, 114]⟩, .int .i64 n]] w (SopPost a ⟨d, r, wt, u⟩ (kLater, n) b w) := by
  have hq := (Mod.refl noF w).alloc (.cells #[.string ⟨#[108, 97, 116, 101, 114]⟩, .int .i64 n] 88)
  have hcf : cfOp ⟨d, r, wt, u⟩ (kLater, n) = (3, ⟨d, r, wt, u⟩) := by
    unfold cfOp
    have hm : memK kindsC ⟨#[108, 97, 116, 101, 114]⟩ = true := by decide +kernel
    simp [hm, kEnter, kLeave, kRest, kWait, kRead, kPut, kDrop, kLater, kFlush, hn]
  have hS1 := hq.heap hS (fun e => e)
  have h0 := cell_of_heap hS1 0
  have h1 := cell_of_heap hS1 1
  have h2 := cell_of_heap hS1 2
  have h3 := cell_of_heap hS1 3
  have f0 := free_of_heap hS1 0
  have f1 := free_of_heap hS1 1
  have f2 := free_of_heap hS1 2
  have f3 := free_of_heap hS1 3
  replace h0 : (w.alloc (.cells #[.string ⟨#[108, 97, 116, 101, 114]⟩, .int .i64 n] 88)).cell? ⟨b, 0, none⟩ = some (.int .i64 ((d : Nat) : Int)) := h0
  replace h1 : (w.alloc (.cells #[.string ⟨#[108, 97, 116, 101, 114]⟩, .int .i64 n] 88)).cell? ⟨b, 1, none⟩ = some (.bool r) := h1
  replace h2 : (w.alloc (.cells #[.string ⟨#[108, 97, 116, 101, 114]⟩, .int .i64 n] 88)).cell? ⟨b, 2, none⟩ = some (.bool wt) := h2
  replace h3 : (w.alloc (.cells #[.string ⟨#[108, 97, 116, 101, 114]⟩, .int .i64 n] 88)).cell? ⟨b, 3, none⟩ = some (.bool u) := h3
  have E1 := E.keep hq
  obtain ⟨gk, off, cap, q0, qx⟩ := HK.keep hq
  have hcall := containsK2 (w.alloc (.cells #[.string ⟨#[108, 97, 116, 101, 114]⟩, .int .i64 n] 88)) gk off cap kindsC kLater qx (by decide)
  rw [show memK kindsC kLater = true by decide +kernel] at hcall
  have hl9 : kindsC.length = 9 := rfl
  rw [hl9] at hcall
  have v1 := E1.v1
  have v2 := E1.v2
  have v4 := E1.v4
  have v7 := E1.v7
  have e0 : ((⟨#[108, 97, 116, 101, 114]⟩ : ByteArray).toList == (⟨#[101, 110, 116, 101, 114]⟩ : ByteArray).toList) = false := by
    rw [ByteArray.toList_eq, ByteArray.toList_eq]; rfl
  have e1 : ((⟨#[108, 97, 116, 101, 114]⟩ : ByteArray).toList == (⟨#[108, 101, 97, 118, 101]⟩ : ByteArray).toList) = false := by
    rw [ByteArray.toList_eq, ByteArray.toList_eq]; rfl
  have e2 : ((⟨#[108, 97, 116, 101, 114]⟩ : ByteArray).toList == (⟨#[114, 101, 115, 116]⟩ : ByteArray).toList) = false := by
    rw [ByteArray.toList_eq, ByteArray.toList_eq]; rfl
  have e3 : ((⟨#[108, 97, 116, 101, 114]⟩ : ByteArray).toList == (⟨#[119, 97, 105, 116]⟩ : ByteArray).toList) = false := by
    rw [ByteArray.toList_eq, ByteArray.toList_eq]; rfl
  have e4 : ((⟨#[108, 97, 116, 101, 114]⟩ : ByteArray).toList == (⟨#[102, 108, 117, 115, 104]⟩ : ByteArray).toList) = false := by
    rw [ByteArray.toList_eq, ByteArray.toList_eq]; rfl
  have e5 : ((⟨#[108, 97, 116, 101, 114]⟩ : ByteArray).toList == (⟨#[114, 101, 97, 100]⟩ : ByteArray).toList) = false := by
    rw [ByteArray.toList_eq, ByteArray.toList_eq]; rfl
  have e6 : ((⟨#[108, 97, 116, 101, 114]⟩ : ByteArray).toList == (⟨#[112, 117, 116]⟩ : ByteArray).toList) = false := by
    rw [ByteArray.toList_eq, ByteArray.toList_eq]; rfl
  have e7 : ((⟨#[108, 97, 116, 101, 114]⟩ : ByteArray).toList == (⟨#[100, 114, 111, 112]⟩ : ByteArray).toList) = false := by
    rw [ByteArray.toList_eq, ByteArray.toList_eq]; rfl
  have e8 : ((⟨#[108, 97, 116, 101, 114]⟩ : ByteArray).toList == (⟨#[108, 97, 116, 101, 114]⟩ : ByteArray).toList) = true := by simp
  have n1 : (n == 0) = false := by simpa using hn
  have n2 : decide (n = 0) = false := by simpa using hn
  have HS1 := Lib.hid hS1
  have Hq := Lib.hid hq
  have Hcall := Lib.hid hcall
  have Hcf := Lib.hid hcf
  have hbz : w.heap.size ≠ b := by have := lt_of_block hS; omega
  clear E HK hS hq hcf hS1 E1 qx hcall hl9
  go_enter Tryz.func90, Tryz.ntmps90
  go_wp2_with fail
  refine Hcall.out.mono ?_
  rintro e w2 ⟨rfl, rfl⟩
  go_wp2
  go_ret
  exact sop_bad 2 Hcf.out (by omega) rfl Hq.out.any
theorem sop_flush_n (E : ErrsAt w a) (HK : KindsW w) (hn : n ≠ 0) (hS : StAt w b ⟨d, r, wt, u⟩) :
    Calls Tryz.prog 90 #[.pointer (some ⟨b, 0, none⟩), .agg #[.string ⟨#[102, 108, 117, 115, 104]⟩, .int .i64 n]] w (SopPost a ⟨d, r, wt, u⟩ (kFlush, n) b w) := by
  have hq := (Mod.refl noF w).alloc (.cells #[.string ⟨#[102, 108, 117, 115, 104]⟩, .int .i64 n] 88)
  have hcf : cfOp ⟨d, r, wt, u⟩ (kFlush, n) = (3, ⟨d, r, wt, u⟩) := by
    unfold cfOp
    have hm : memK kindsC ⟨#[102, 108, 117, 115, 104]⟩ = true := by decide +kernel
    simp [hm, kEnter, kLeave, kRest, kWait, kRead, kPut, kDrop, kLater, kFlush, hn]
  have hS1 := hq.heap hS (fun e => e)
  have h0 := cell_of_heap hS1 0
  have h1 := cell_of_heap hS1 1
  have h2 := cell_of_heap hS1 2
  have h3 := cell_of_heap hS1 3
  have f0 := free_of_heap hS1 0
  have f1 := free_of_heap hS1 1
  have f2 := free_of_heap hS1 2
  have f3 := free_of_heap hS1 3
  replace h0 : (w.alloc (.cells #[.string ⟨#[102, 108, 117, 115, 104]⟩, .int .i64 n] 88)).cell? ⟨b, 0, none⟩ = some (.int .i64 ((d : Nat) : Int)) := h0
  replace h1 : (w.alloc (.cells #[.string ⟨#[102, 108, 117, 115, 104]⟩, .int .i64 n] 88)).cell? ⟨b, 1, none⟩ = some (.bool r) := h1
  replace h2 : (w.alloc (.cells #[.string ⟨#[102, 108, 117, 115, 104]⟩, .int .i64 n] 88)).cell? ⟨b, 2, none⟩ = some (.bool wt) := h2
  replace h3 : (w.alloc (.cells #[.string ⟨#[102, 108, 117, 115, 104]⟩, .int .i64 n] 88)).cell? ⟨b, 3, none⟩ = some (.bool u) := h3
  have E1 := E.keep hq
  obtain ⟨gk, off, cap, q0, qx⟩ := HK.keep hq
  have hcall := containsK2 (w.alloc (.cells #[.string ⟨#[102, 108, 117, 115, 104]⟩, .int .i64 n] 88)) gk off cap kindsC kFlush qx (by decide)
  rw [show memK kindsC kFlush = true by decide +kernel] at hcall
  have hl9 : kindsC.length = 9 := rfl
  rw [hl9] at hcall
  have v1 := E1.v1
  have v2 := E1.v2
  have v4 := E1.v4
  have v7 := E1.v7
  have e0 : ((⟨#[102, 108, 117, 115, 104]⟩ : ByteArray).toList == (⟨#[101, 110, 116, 101, 114]⟩ : ByteArray).toList) = false := by
    rw [ByteArray.toList_eq, ByteArray.toList_eq]; rfl
  have e1 : ((⟨#[102, 108, 117, 115, 104]⟩ : ByteArray).toList == (⟨#[108, 101, 97, 118, 101]⟩ : ByteArray).toList) = false := by
    rw [ByteArray.toList_eq, ByteArray.toList_eq]; rfl
  have e2 : ((⟨#[102, 108, 117, 115, 104]⟩ : ByteArray).toList == (⟨#[114, 101, 115, 116]⟩ : ByteArray).toList) = false := by
    rw [ByteArray.toList_eq, ByteArray.toList_eq]; rfl
  have e3 : ((⟨#[102, 108, 117, 115, 104]⟩ : ByteArray).toList == (⟨#[119, 97, 105, 116]⟩ : ByteArray).toList) = false := by
    rw [ByteArray.toList_eq, ByteArray.toList_eq]; rfl
  have e4 : ((⟨#[102, 108, 117, 115, 104]⟩ : ByteArray).toList == (⟨#[102, 108, 117, 115, 104]⟩ : ByteArray).toList) = true := by simp
  have e5 : ((⟨#[102, 108, 117, 115, 104]⟩ : ByteArray).toList == (⟨#[114, 101, 97, 100]⟩ : ByteArray).toList) = false := by
    rw [ByteArray.toList_eq, ByteArray.toList_eq]; rfl
  have e6 : ((⟨#[102, 108, 117, 115, 104]⟩ : ByteArray).toList == (⟨#[112, 117, 116]⟩ : ByteArray).toList) = false := by
    rw [ByteArray.toList_eq, ByteArray.toList_eq]; rfl
  have e7 : ((⟨#[102, 108, 117, 115, 104]⟩ : ByteArray).toList == (⟨#[100, 114, 111, 112]⟩ : ByteArray).toList) = false := by
    rw [ByteArray.toList_eq, ByteArray.toList_eq]; rfl
  have e8 : ((⟨#[102, 108, 117, 115, 104]⟩ : ByteArray).toList == (⟨#[108, 97, 116, 101, 114]⟩ : ByteArray).toList) = false := by
    rw [ByteArray.toList_eq, ByteArray.toList_eq]; rfl
  have n1 : (n == 0) = false := by simpa using hn
  have n2 : decide (n = 0) = false := by simpa using hn
  have HS1 := Lib.hid hS1
  have Hq := Lib.hid hq
  have Hcall := Lib.hid hcall
  have Hcf := Lib.hid hcf
  have hbz : w.heap.size ≠ b := by have := lt_of_block hS; omega
  clear E HK hS hq hcf hS1 E1 qx hcall hl9
  go_enter Tryz.func90, Tryz.ntmps90
  go_wp2_with fail
  refine Hcall.out.mono ?_
  rintro e w2 ⟨rfl, rfl⟩
  go_wp2
  go_ret
  exact sop_bad 2 Hcf.out (by omega) rfl Hq.out.any
theorem sop_enter (E : ErrsAt w a) (HK : KindsW w) (hd : d ≤ 1000) (hS : StAt w b ⟨d, r, wt, u⟩) :
    Calls Tryz.prog 90 #[.pointer (some ⟨b, 0, none⟩), .agg #[.string ⟨#[101, 110, 116, 101, 114]⟩, .int .i64 0]] w (SopPost a ⟨d, r, wt, u⟩ (kEnter, 0) b w) := by
  have hq := (Mod.refl noF w).alloc (.cells #[.string ⟨#[101, 110, 116, 101, 114]⟩, .int .i64 0] 88)
  have hcf : cfOp ⟨d, r, wt, u⟩ (kEnter, 0) = (0, ⟨d + 1, r, wt, u⟩) := by
    unfold cfOp
    have hm : memK kindsC ⟨#[101, 110, 116, 101, 114]⟩ = true := by decide +kernel
    simp [hm, kEnter, kLeave, kRest, kWait, kRead, kPut, kDrop, kLater, kFlush]
  have hS1 := hq.heap hS (fun e => e)
  have h0 := cell_of_heap hS1 0
  have h1 := cell_of_heap hS1 1
  have h2 := cell_of_heap hS1 2
  have h3 := cell_of_heap hS1 3
  have f0 := free_of_heap hS1 0
  have f1 := free_of_heap hS1 1
  have f2 := free_of_heap hS1 2
  have f3 := free_of_heap hS1 3
  replace h0 : (w.alloc (.cells #[.string ⟨#[101, 110, 116, 101, 114]⟩, .int .i64 0] 88)).cell? ⟨b, 0, none⟩ = some (.int .i64 ((d : Nat) : Int)) := h0
  replace h1 : (w.alloc (.cells #[.string ⟨#[101, 110, 116, 101, 114]⟩, .int .i64 0] 88)).cell? ⟨b, 1, none⟩ = some (.bool r) := h1
  replace h2 : (w.alloc (.cells #[.string ⟨#[101, 110, 116, 101, 114]⟩, .int .i64 0] 88)).cell? ⟨b, 2, none⟩ = some (.bool wt) := h2
  replace h3 : (w.alloc (.cells #[.string ⟨#[101, 110, 116, 101, 114]⟩, .int .i64 0] 88)).cell? ⟨b, 3, none⟩ = some (.bool u) := h3
  have E1 := E.keep hq
  obtain ⟨gk, off, cap, q0, qx⟩ := HK.keep hq
  have hcall := containsK2 (w.alloc (.cells #[.string ⟨#[101, 110, 116, 101, 114]⟩, .int .i64 0] 88)) gk off cap kindsC kEnter qx (by decide)
  rw [show memK kindsC kEnter = true by decide +kernel] at hcall
  have hl9 : kindsC.length = 9 := rfl
  rw [hl9] at hcall
  have v1 := E1.v1
  have v2 := E1.v2
  have v4 := E1.v4
  have v7 := E1.v7
  have e0 : ((⟨#[101, 110, 116, 101, 114]⟩ : ByteArray).toList == (⟨#[101, 110, 116, 101, 114]⟩ : ByteArray).toList) = true := by simp
  have e1 : ((⟨#[101, 110, 116, 101, 114]⟩ : ByteArray).toList == (⟨#[108, 101, 97, 118, 101]⟩ : ByteArray).toList) = false := by
    rw [ByteArray.toList_eq, ByteArray.toList_eq]; rfl
  have e2 : ((⟨#[101, 110, 116, 101, 114]⟩ : ByteArray).toList == (⟨#[114, 101, 115, 116]⟩ : ByteArray).toList) = false := by
    rw [ByteArray.toList_eq, ByteArray.toList_eq]; rfl
  have e3 : ((⟨#[101, 110, 116, 101, 114]⟩ : ByteArray).toList == (⟨#[119, 97, 105, 116]⟩ : ByteArray).toList) = false := by
    rw [ByteArray.toList_eq, ByteArray.toList_eq]; rfl
  have e4 : ((⟨#[101, 110, 116, 101, 114]⟩ : ByteArray).toList == (⟨#[102, 108, 117, 115, 104]⟩ : ByteArray).toList) = false := by
    rw [ByteArray.toList_eq, ByteArray.toList_eq]; rfl
  have e5 : ((⟨#[101, 110, 116, 101, 114]⟩ : ByteArray).toList == (⟨#[114, 101, 97, 100]⟩ : ByteArray).toList) = false := by
    rw [ByteArray.toList_eq, ByteArray.toList_eq]; rfl
  have e6 : ((⟨#[101, 110, 116, 101, 114]⟩ : ByteArray).toList == (⟨#[112, 117, 116]⟩ : ByteArray).toList) = false := by
    rw [ByteArray.toList_eq, ByteArray.toList_eq]; rfl
  have e7 : ((⟨#[101, 110, 116, 101, 114]⟩ : ByteArray).toList == (⟨#[100, 114, 111, 112]⟩ : ByteArray).toList) = false := by
    rw [ByteArray.toList_eq, ByteArray.toList_eq]; rfl
  have e8 : ((⟨#[101, 110, 116, 101, 114]⟩ : ByteArray).toList == (⟨#[108, 97, 116, 101, 114]⟩ : ByteArray).toList) = false := by
    rw [ByteArray.toList_eq, ByteArray.toList_eq]; rfl
  have HS1 := Lib.hid hS1
  have Hq := Lib.hid hq
  have Hcall := Lib.hid hcall
  have Hcf := Lib.hid hcf
  have hbz : w.heap.size ≠ b := by have := lt_of_block hS; omega
  clear E HK hS hq hcf hS1 E1 qx hcall hl9
  go_enter Tryz.func90, Tryz.ntmps90
  go_wp2_with fail
  refine Hcall.out.mono ?_
  rintro e w2 ⟨rfl, rfl⟩
  go_wp2
  go_ret
  refine sop_good Hcf.out ?_ ((show Qh.Mod (fun k => k = b) w _ from Hq.out.any).setCell (fun _ => rfl) _)
  unfold StAt
  rw [show (((d + 1 : Nat)) : Int) = (d : Int) + 1 by omega]; rw [Qh.heap_setCell_same (HS1.out) 0 _]; rfl
theorem sop_leave_0 (E : ErrsAt w a) (HK : KindsW w) (hS : StAt w b ⟨0, r, wt, u⟩) :
    Calls Tryz.prog 90 #[.pointer (some ⟨b, 0, none⟩), .agg #[.string ⟨#[108, 101, 97, 118, 101]⟩, .int .i64 0]] w (SopPost a ⟨0, r, wt, u⟩ (kLeave, 0) b w) := by
  have hq := (Mod.refl noF w).alloc (.cells #[.string ⟨#[108, 101, 97, 118, 101]⟩, .int .i64 0] 88)
  have hcf : cfOp ⟨0, r, wt, u⟩ (kLeave, 0) = (8, ⟨0, r, wt, u⟩) := by
    unfold cfOp
    have hm : memK kindsC ⟨#[108, 101, 97, 118, 101]⟩ = true := by decide +kernel
    simp [hm, kEnter, kLeave, kRest, kWait, kRead, kPut, kDrop, kLater, kFlush]
  have hS1 := hq.heap hS (fun e => e)
  have h0 := cell_of_heap hS1 0
  have h1 := cell_of_heap hS1 1
  have h2 := cell_of_heap hS1 2
  have h3 := cell_of_heap hS1 3
  have f0 := free_of_heap hS1 0
  have f1 := free_of_heap hS1 1
  have f2 := free_of_heap hS1 2
  have f3 := free_of_heap hS1 3
  replace h0 : (w.alloc (.cells #[.string ⟨#[108, 101, 97, 118, 101]⟩, .int .i64 0] 88)).cell? ⟨b, 0, none⟩ = some (.int .i64 ((0 : Nat) : Int)) := h0
  replace h1 : (w.alloc (.cells #[.string ⟨#[108, 101, 97, 118, 101]⟩, .int .i64 0] 88)).cell? ⟨b, 1, none⟩ = some (.bool r) := h1
  replace h2 : (w.alloc (.cells #[.string ⟨#[108, 101, 97, 118, 101]⟩, .int .i64 0] 88)).cell? ⟨b, 2, none⟩ = some (.bool wt) := h2
  replace h3 : (w.alloc (.cells #[.string ⟨#[108, 101, 97, 118, 101]⟩, .int .i64 0] 88)).cell? ⟨b, 3, none⟩ = some (.bool u) := h3
  have E1 := E.keep hq
  obtain ⟨gk, off, cap, q0, qx⟩ := HK.keep hq
  have hcall := containsK2 (w.alloc (.cells #[.string ⟨#[108, 101, 97, 118, 101]⟩, .int .i64 0] 88)) gk off cap kindsC kLeave qx (by decide)
  rw [show memK kindsC kLeave = true by decide +kernel] at hcall
  have hl9 : kindsC.length = 9 := rfl
  rw [hl9] at hcall
  have v1 := E1.v1
  have v2 := E1.v2
  have v4 := E1.v4
  have v7 := E1.v7
  have e0 : ((⟨#[108, 101, 97, 118, 101]⟩ : ByteArray).toList == (⟨#[101, 110, 116, 101, 114]⟩ : ByteArray).toList) = false := by
    rw [ByteArray.toList_eq, ByteArray.toList_eq]; rfl
  have e1 : ((⟨#[108, 101, 97, 118, 101]⟩ : ByteArray).toList == (⟨#[108, 101, 97, 118, 101]⟩ : ByteArray).toList) = true := by simp
  have e2 : ((⟨#[108, 101, 97, 118, 101]⟩ : ByteArray).toList == (⟨#[114, 101, 115, 116]⟩ : ByteArray).toList) = false := by
    rw [ByteArray.toList_eq, ByteArray.toList_eq]; rfl
  have e3 : ((⟨#[108, 101, 97, 118, 101]⟩ : ByteArray).toList == (⟨#[119, 97, 105, 116]⟩ : ByteArray).toList) = false := by
    rw [ByteArray.toList_eq, ByteArray.toList_eq]; rfl
  have e4 : ((⟨#[108, 101, 97, 118, 101]⟩ : ByteArray).toList == (⟨#[102, 108, 117, 115, 104]⟩ : ByteArray).toList) = false := by
    rw [ByteArray.toList_eq, ByteArray.toList_eq]; rfl
  have e5 : ((⟨#[108, 101, 97, 118, 101]⟩ : ByteArray).toList == (⟨#[114, 101, 97, 100]⟩ : ByteArray).toList) = false := by
    rw [ByteArray.toList_eq, ByteArray.toList_eq]; rfl
  have e6 : ((⟨#[108, 101, 97, 118, 101]⟩ : ByteArray).toList == (⟨#[112, 117, 116]⟩ : ByteArray).toList) = false := by
    rw [ByteArray.toList_eq, ByteArray.toList_eq]; rfl
  have e7 : ((⟨#[108, 101, 97, 118, 101]⟩ : ByteArray).toList == (⟨#[100, 114, 111, 112]⟩ : ByteArray).toList) = false := by
    rw [ByteArray.toList_eq, ByteArray.toList_eq]; rfl
  have e8 : ((⟨#[108, 101, 97, 118, 101]⟩ : ByteArray).toList == (⟨#[108, 97, 116, 101, 114]⟩ : ByteArray).toList) = false := by
    rw [ByteArray.toList_eq, ByteArray.toList_eq]; rfl
  have HS1 := Lib.hid hS1
  have Hq := Lib.hid hq
  have Hcall := Lib.hid hcall
  have Hcf := Lib.hid hcf
  have hbz : w.heap.size ≠ b := by have := lt_of_block hS; omega
  clear E HK hS hq hcf hS1 E1 qx hcall hl9
  go_enter Tryz.func90, Tryz.ntmps90
  go_wp2_with fail
  refine Hcall.out.mono ?_
  rintro e w2 ⟨rfl, rfl⟩
  go_wp2
  go_ret
  exact sop_bad 7 Hcf.out (by omega) rfl Hq.out.any
theorem sop_leave (E : ErrsAt w a) (HK : KindsW w) (hd : 1 ≤ d) (hd2 : d ≤ 1000) (hS : StAt w b ⟨d, r, wt, u⟩) :
    Calls Tryz.prog 90 #[.pointer (some ⟨b, 0, none⟩), .agg #[.string ⟨#[108, 101, 97, 118, 101]⟩, .int .i64 0]] w (SopPost a ⟨d, r, wt, u⟩ (kLeave, 0) b w) := by
  have hq := (Mod.refl noF w).alloc (.cells #[.string ⟨#[108, 101, 97, 118, 101]⟩, .int .i64 0] 88)
  have hcf : cfOp ⟨d, r, wt, u⟩ (kLeave, 0) = (0, ⟨d - 1, r, wt, u⟩) := by
    unfold cfOp
    have hm : memK kindsC ⟨#[108, 101, 97, 118, 101]⟩ = true := by decide +kernel
    simp [hm, kEnter, kLeave, kRest, kWait, kRead, kPut, kDrop, kLater, kFlush, show ¬ d = 0 by omega]
  have hS1 := hq.heap hS (fun e => e)
  have h0 := cell_of_heap hS1 0
  have h1 := cell_of_heap hS1 1
  have h2 := cell_of_heap hS1 2
  have h3 := cell_of_heap hS1 3
  have f0 := free_of_heap hS1 0
  have f1 := free_of_heap hS1 1
  have f2 := free_of_heap hS1 2
  have f3 := free_of_heap hS1 3
  replace h0 : (w.alloc (.cells #[.string ⟨#[108, 101, 97, 118, 101]⟩, .int .i64 0] 88)).cell? ⟨b, 0, none⟩ = some (.int .i64 ((d : Nat) : Int)) := h0
  replace h1 : (w.alloc (.cells #[.string ⟨#[108, 101, 97, 118, 101]⟩, .int .i64 0] 88)).cell? ⟨b, 1, none⟩ = some (.bool r) := h1
  replace h2 : (w.alloc (.cells #[.string ⟨#[108, 101, 97, 118, 101]⟩, .int .i64 0] 88)).cell? ⟨b, 2, none⟩ = some (.bool wt) := h2
  replace h3 : (w.alloc (.cells #[.string ⟨#[108, 101, 97, 118, 101]⟩, .int .i64 0] 88)).cell? ⟨b, 3, none⟩ = some (.bool u) := h3
  have E1 := E.keep hq
  obtain ⟨gk, off, cap, q0, qx⟩ := HK.keep hq
  have hcall := containsK2 (w.alloc (.cells #[.string ⟨#[108, 101, 97, 118, 101]⟩, .int .i64 0] 88)) gk off cap kindsC kLeave qx (by decide)
  rw [show memK kindsC kLeave = true by decide +kernel] at hcall
  have hl9 : kindsC.length = 9 := rfl
  rw [hl9] at hcall
  have v1 := E1.v1
  have v2 := E1.v2
  have v4 := E1.v4
  have v7 := E1.v7
  have e0 : ((⟨#[108, 101, 97, 118, 101]⟩ : ByteArray).toList == (⟨#[101, 110, 116, 101, 114]⟩ : ByteArray).toList) = false := by
    rw [ByteArray.toList_eq, ByteArray.toList_eq]; rfl
  have e1 : ((⟨#[108, 101, 97, 118, 101]⟩ : ByteArray).toList == (⟨#[108, 101, 97, 118, 101]⟩ : ByteArray).toList) = true := by simp
  have e2 : ((⟨#[108, 101, 97, 118, 101]⟩ : ByteArray).toList == (⟨#[114, 101, 115, 116]⟩ : ByteArray).toList) = false := by
    rw [ByteArray.toList_eq, ByteArray.toList_eq]; rfl
  have e3 : ((⟨#[108, 101, 97, 118, 101]⟩ : ByteArray).toList == (⟨#[119, 97, 105, 116]⟩ : ByteArray).toList) = false := by
    rw [ByteArray.toList_eq, ByteArray.toList_eq]; rfl
  have e4 : ((⟨#[108, 101, 97, 118, 101]⟩ : ByteArray).toList == (⟨#[102, 108, 117, 115, 104]⟩ : ByteArray).toList) = false := by
    rw [ByteArray.toList_eq, ByteArray.toList_eq]; rfl
  have e5 : ((⟨#[108, 101, 97, 118, 101]⟩ : ByteArray).toList == (⟨#[114, 101, 97, 100]⟩ : ByteArray).toList) = false := by
    rw [ByteArray.toList_eq, ByteArray.toList_eq]; rfl
  have e6 : ((⟨#[108, 101, 97, 118, 101]⟩ : ByteArray).toList == (⟨#[112, 117, 116]⟩ : ByteArray).toList) = false := by
    rw [ByteArray.toList_eq, ByteArray.toList_eq]; rfl
  have e7 : ((⟨#[108, 101, 97, 118, 101]⟩ : ByteArray).toList == (⟨#[100, 114, 111, 112]⟩ : ByteArray).toList) = false := by
    rw [ByteArray.toList_eq, ByteArray.toList_eq]; rfl
  have e8 : ((⟨#[108, 101, 97, 118, 101]⟩ : ByteArray).toList == (⟨#[108, 97, 116, 101, 114]⟩ : ByteArray).toList) = false := by
    rw [ByteArray.toList_eq, ByteArray.toList_eq]; rfl
  have d1 : ((d : Int) == 0) = false := by simp; omega
  have d2 : decide ((d : Int) = 0) = false := by simp; omega
  have HS1 := Lib.hid hS1
  have Hq := Lib.hid hq
  have Hcall := Lib.hid hcall
  have Hcf := Lib.hid hcf
  have hbz : w.heap.size ≠ b := by have := lt_of_block hS; omega
  clear E HK hS hq hcf hS1 E1 qx hcall hl9
  go_enter Tryz.func90, Tryz.ntmps90
  go_wp2_with fail
  refine Hcall.out.mono ?_
  rintro e w2 ⟨rfl, rfl⟩
  go_wp2
  go_ret
  refine sop_good Hcf.out ?_ ((show Qh.Mod (fun k => k = b) w _ from Hq.out.any).setCell (fun _ => rfl) _)
  unfold StAt
  rw [show (((d - 1 : Nat)) : Int) = (d : Int) - 1 by omega]; rw [Qh.heap_setCell_same (HS1.out) 0 _]; rfl
theorem sop_rest_d (E : ErrsAt w a) (HK : KindsW w) (hd : 1 ≤ d) (hS : StAt w b ⟨d, r, wt, u⟩) :
    Calls Tryz.prog 90 #[.pointer (some ⟨b, 0, none⟩), .agg #[.string ⟨#[114, 101, 115, 116]⟩, .int .i64 0]] w (SopPost a ⟨d, r, wt, u⟩ (kRest, 0) b w) := by
  have hq := (Mod.refl noF w).alloc (.cells #[.string ⟨#[114, 101, 115, 116]⟩, .int .i64 0] 88)
  have hcf : cfOp ⟨d, r, wt, u⟩ (kRest, 0) = (8, ⟨d, r, wt, u⟩) := by
    unfold cfOp
    have hm : memK kindsC ⟨#[114, 101, 115, 116]⟩ = true := by decide +kernel
    simp [hm, kEnter, kLeave, kRest, kWait, kRead, kPut, kDrop, kLater, kFlush, show ¬ d = 0 by omega]
  have hS1 := hq.heap hS (fun e => e)
  have h0 := cell_of_heap hS1 0
  have h1 := cell_of_heap hS1 1
  have h2 := cell_of_heap hS1 2
  have h3 := cell_of_heap hS1 3
  have f0 := free_of_heap hS1 0
  have f1 := free_of_heap hS1 1
  have f2 := free_of_heap hS1 2
  have f3 := free_of_heap hS1 3
  replace h0 : (w.alloc (.cells #[.string ⟨#[114, 101, 115, 116]⟩, .int .i64 0] 88)).cell? ⟨b, 0, none⟩ = some (.int .i64 ((d : Nat) : Int)) := h0
  replace h1 : (w.alloc (.cells #[.string ⟨#[114, 101, 115, 116]⟩, .int .i64 0] 88)).cell? ⟨b, 1, none⟩ = some (.bool r) := h1
  replace h2 : (w.alloc (.cells #[.string ⟨#[114, 101, 115, 116]⟩, .int .i64 0] 88)).cell? ⟨b, 2, none⟩ = some (.bool wt) := h2
  replace h3 : (w.alloc (.cells #[.string ⟨#[114, 101, 115, 116]⟩, .int .i64 0] 88)).cell? ⟨b, 3, none⟩ = some (.bool u) := h3
  have E1 := E.keep hq
  obtain ⟨gk, off, cap, q0, qx⟩ := HK.keep hq
  have hcall := containsK2 (w.alloc (.cells #[.string ⟨#[114, 101, 115, 116]⟩, .int .i64 0] 88)) gk off cap kindsC kRest qx (by decide)
  rw [show memK kindsC kRest = true by decide +kernel] at hcall
  have hl9 : kindsC.length = 9 := rfl
  rw [hl9] at hcall
  have v1 := E1.v1
  have v2 := E1.v2
  have v4 := E1.v4
  have v7 := E1.v7
  have e0 : ((⟨#[114, 101, 115, 116]⟩ : ByteArray).toList == (⟨#[101, 110, 116, 101, 114]⟩ : ByteArray).toList) = false := by
    rw [ByteArray.toList_eq, ByteArray.toList_eq]; rfl
  have e1 : ((⟨#[114, 101, 115, 116]⟩ : ByteArray).toList == (⟨#[108, 101, 97, 118, 101]⟩ : ByteArray).toList) = false := by
    rw [ByteArray.toList_eq, ByteArray.toList_eq]; rfl
  have e2 : ((⟨#[114, 101, 115, 116]⟩ : ByteArray).toList == (⟨#[114, 101, 115, 116]⟩ : ByteArray).toList) = true := by simp
  have e3 : ((⟨#[114, 101, 115, 116]⟩ : ByteArray).toList == (⟨#[119, 97, 105, 116]⟩ : ByteArray).toList) = false := by
    rw [ByteArray.toList_eq, ByteArray.toList_eq]; rfl
  have e4 : ((⟨#[114, 101, 115, 116]⟩ : ByteArray).toList == (⟨#[102, 108, 117, 115, 104]⟩ : ByteArray).toList) = false := by
    rw [ByteArray.toList_eq, ByteArray.toList_eq]; rfl
  have e5 : ((⟨#[114, 101, 115, 116]⟩ : ByteArray).toList == (⟨#[114, 101, 97, 100]⟩ : ByteArray).toList) = false := by
    rw [ByteArray.toList_eq, ByteArray.toList_eq]; rfl
  have e6 : ((⟨#[114, 101, 115, 116]⟩ : ByteArray).toList == (⟨#[112, 117, 116]⟩ : ByteArray).toList) = false := by
    rw [ByteArray.toList_eq, ByteArray.toList_eq]; rfl
  have e7 : ((⟨#[114, 101, 115, 116]⟩ : ByteArray).toList == (⟨#[100, 114, 111, 112]⟩ : ByteArray).toList) = false := by
    rw [ByteArray.toList_eq, ByteArray.toList_eq]; rfl
  have e8 : ((⟨#[114, 101, 115, 116]⟩ : ByteArray).toList == (⟨#[108, 97, 116, 101, 114]⟩ : ByteArray).toList) = false := by
    rw [ByteArray.toList_eq, ByteArray.toList_eq]; rfl
  have d1 : ((d : Int) == 0) = false := by simp; omega
  have d2 : decide ((d : Int) = 0) = false := by simp; omega
  have HS1 := Lib.hid hS1
  have Hq := Lib.hid hq
  have Hcall := Lib.hid hcall
  have Hcf := Lib.hid hcf
  have hbz : w.heap.size ≠ b := by have := lt_of_block hS; omega
  clear E HK hS hq hcf hS1 E1 qx hcall hl9
  go_enter Tryz.func90, Tryz.ntmps90
  go_wp2_with fail
  refine Hcall.out.mono ?_
  rintro e w2 ⟨rfl, rfl⟩
  go_wp2
  go_ret
  exact sop_bad 7 Hcf.out (by omega) rfl Hq.out.any
theorem sop_rest_t (E : ErrsAt w a) (HK : KindsW w) (hS : StAt w b ⟨0, r, true, u⟩) :
    Calls Tryz.prog 90 #[.pointer (some ⟨b, 0, none⟩), .agg #[.string ⟨#[114, 101, 115, 116]⟩, .int .i64 0]] w (SopPost a ⟨0, r, true, u⟩ (kRest, 0) b w) := by
  have hq := (Mod.refl noF w).alloc (.cells #[.string ⟨#[114, 101, 115, 116]⟩, .int .i64 0] 88)
  have hcf : cfOp ⟨0, r, true, u⟩ (kRest, 0) = (0, ⟨0, r, true, u⟩) := by
    unfold cfOp
    have hm : memK kindsC ⟨#[114, 101, 115, 116]⟩ = true := by decide +kernel
    simp [hm, kEnter, kLeave, kRest, kWait, kRead, kPut, kDrop, kLater, kFlush]
  have hS1 := hq.heap hS (fun e => e)
  have h0 := cell_of_heap hS1 0
  have h1 := cell_of_heap hS1 1
  have h2 := cell_of_heap hS1 2
  have h3 := cell_of_heap hS1 3
  have f0 := free_of_heap hS1 0
  have f1 := free_of_heap hS1 1
  have f2 := free_of_heap hS1 2
  have f3 := free_of_heap hS1 3
  replace h0 : (w.alloc (.cells #[.string ⟨#[114, 101, 115, 116]⟩, .int .i64 0] 88)).cell? ⟨b, 0, none⟩ = some (.int .i64 ((0 : Nat) : Int)) := h0
  replace h1 : (w.alloc (.cells #[.string ⟨#[114, 101, 115, 116]⟩, .int .i64 0] 88)).cell? ⟨b, 1, none⟩ = some (.bool r) := h1
  replace h2 : (w.alloc (.cells #[.string ⟨#[114, 101, 115, 116]⟩, .int .i64 0] 88)).cell? ⟨b, 2, none⟩ = some (.bool true) := h2
  replace h3 : (w.alloc (.cells #[.string ⟨#[114, 101, 115, 116]⟩, .int .i64 0] 88)).cell? ⟨b, 3, none⟩ = some (.bool u) := h3
  have E1 := E.keep hq
  obtain ⟨gk, off, cap, q0, qx⟩ := HK.keep hq
  have hcall := containsK2 (w.alloc (.cells #[.string ⟨#[114, 101, 115, 116]⟩, .int .i64 0] 88)) gk off cap kindsC kRest qx (by decide)
  rw [show memK kindsC kRest = true by decide +kernel] at hcall
  have hl9 : kindsC.length = 9 := rfl
  rw [hl9] at hcall
  have v1 := E1.v1
  have v2 := E1.v2
  have v4 := E1.v4
  have v7 := E1.v7
  have e0 : ((⟨#[114, 101, 115, 116]⟩ : ByteArray).toList == (⟨#[101, 110, 116, 101, 114]⟩ : ByteArray).toList) = false := by
    rw [ByteArray.toList_eq, ByteArray.toList_eq]; rfl
  have e1 : ((⟨#[114, 101, 115, 116]⟩ : ByteArray).toList == (⟨#[108, 101, 97, 118, 101]⟩ : ByteArray).toList) = false := by
    rw [ByteArray.toList_eq, ByteArray.toList_eq]; rfl
  have e2 : ((⟨#[114, 101, 115, 116]⟩ : ByteArray).toList == (⟨#[114, 101, 115, 116]⟩ : ByteArray).toList) = true := by simp
  have e3 : ((⟨#[114, 101, 115, 116]⟩ : ByteArray).toList == (⟨#[119, 97, 105, 116]⟩ : ByteArray).toList) = false := by
    rw [ByteArray.toList_eq, ByteArray.toList_eq]; rfl
  have e4 : ((⟨#[114, 101, 115, 116]⟩ : ByteArray).toList == (⟨#[102, 108, 117, 115, 104]⟩ : ByteArray).toList) = false := by
    rw [ByteArray.toList_eq, ByteArray.toList_eq]; rfl
  have e5 : ((⟨#[114, 101, 115, 116]⟩ : ByteArray).toList == (⟨#[114, 101, 97, 100]⟩ : ByteArray).toList) = false := by
    rw [ByteArray.toList_eq, ByteArray.toList_eq]; rfl
  have e6 : ((⟨#[114, 101, 115, 116]⟩ : ByteArray).toList == (⟨#[112, 117, 116]⟩ : ByteArray).toList) = false := by
    rw [ByteArray.toList_eq, ByteArray.toList_eq]; rfl
  have e7 : ((⟨#[114, 101, 115, 116]⟩ : ByteArray).toList == (⟨#[100, 114, 111, 112]⟩ : ByteArray).toList) = false := by
    rw [ByteArray.toList_eq, ByteArray.toList_eq]; rfl
  have e8 : ((⟨#[114, 101, 115, 116]⟩ : ByteArray).toList == (⟨#[108, 97, 116, 101, 114]⟩ : ByteArray).toList) = false := by
    rw [ByteArray.toList_eq, ByteArray.toList_eq]; rfl
  have HS1 := Lib.hid hS1
  have Hq := Lib.hid hq
  have Hcall := Lib.hid hcall
  have Hcf := Lib.hid hcf
  have hbz : w.heap.size ≠ b := by have := lt_of_block hS; omega
  clear E HK hS hq hcf hS1 E1 qx hcall hl9
  go_enter Tryz.func90, Tryz.ntmps90
  go_wp2_with fail
  refine Hcall.out.mono ?_
  rintro e w2 ⟨rfl, rfl⟩
  go_wp2
  go_ret
  refine sop_good Hcf.out ?_ ((show Qh.Mod (fun k => k = b) w _ from Hq.out.any).setCell (fun _ => rfl) _)
  unfold StAt
  rw [Qh.heap_setCell_same (HS1.out) 2 _]; rfl
theorem sop_rest_f (E : ErrsAt w a) (HK : KindsW w) (hS : StAt w b ⟨0, r, false, u⟩) :
    Calls Tryz.prog 90 #[.pointer (some ⟨b, 0, none⟩), .agg #[.string ⟨#[114, 101, 115, 116]⟩, .int .i64 0]] w (SopPost a ⟨0, r, false, u⟩ (kRest, 0) b w) := by
  have hq := (Mod.refl noF w).alloc (.cells #[.string ⟨#[114, 101, 115, 116]⟩, .int .i64 0] 88)
  have hcf : cfOp ⟨0, r, false, u⟩ (kRest, 0) = (0, ⟨0, r, false, u⟩) := by
    unfold cfOp
    have hm : memK kindsC ⟨#[114, 101, 115, 116]⟩ = true := by decide +kernel
    simp [hm, kEnter, kLeave, kRest, kWait, kRead, kPut, kDrop, kLater, kFlush]
  have hS1 := hq.heap hS (fun e => e)
  have h0 := cell_of_heap hS1 0
  have h1 := cell_of_heap hS1 1
  have h2 := cell_of_heap hS1 2
  have h3 := cell_of_heap hS1 3
  have f0 := free_of_heap hS1 0
  have f1 := free_of_heap hS1 1
  have f2 := free_of_heap hS1 2
  have f3 := free_of_heap hS1 3
  replace h0 : (w.alloc (.cells #[.string ⟨#[114, 101, 115, 116]⟩, .int .i64 0] 88)).cell? ⟨b, 0, none⟩ = some (.int .i64 ((0 : Nat) : Int)) := h0
  replace h1 : (w.alloc (.cells #[.string ⟨#[114, 101, 115, 116]⟩, .int .i64 0] 88)).cell? ⟨b, 1, none⟩ = some (.bool r) := h1
  replace h2 : (w.alloc (.cells #[.string ⟨#[114, 101, 115, 116]⟩, .int .i64 0] 88)).cell? ⟨b, 2, none⟩ = some (.bool false) := h2
  replace h3 : (w.alloc (.cells #[.string ⟨#[114, 101, 115, 116]⟩, .int .i64 0] 88)).cell? ⟨b, 3, none⟩ = some (.bool u) := h3
  have E1 := E.keep hq
  obtain ⟨gk, off, cap, q0, qx⟩ := HK.keep hq
  have hcall := containsK2 (w.alloc (.cells #[.string ⟨#[114, 101, 115, 116]⟩, .int .i64 0] 88)) gk off cap kindsC kRest qx (by decide)
  rw [show memK kindsC kRest = true by decide +kernel] at hcall
  have hl9 : kindsC.length = 9 := rfl
  rw [hl9] at hcall
  have v1 := E1.v1
  have v2 := E1.v2
  have v4 := E1.v4
  have v7 := E1.v7
  have e0 : ((⟨#[114, 101, 115, 116]⟩ : ByteArray).toList == (⟨#[101, 110, 116, 101, 114]⟩ : ByteArray).toList) = false := by
    rw [ByteArray.toList_eq, ByteArray.toList_eq]; rfl
  have e1 : ((⟨#[114, 101, 115, 116]⟩ : ByteArray).toList == (⟨#[108, 101, 97, 118, 101]⟩ : ByteArray).toList) = false := by
    rw [ByteArray.toList_eq, ByteArray.toList_eq]; rfl
  have e2 : ((⟨#[114, 101, 115, 116]⟩ : ByteArray).toList == (⟨#[114, 101, 115, 116]⟩ : ByteArray).toList) = true := by simp
  have e3 : ((⟨#[114, 101, 115, 116]⟩ : ByteArray).toList == (⟨#[119, 97, 105, 116]⟩ : ByteArray).toList) = false := by
    rw [ByteArray.toList_eq, ByteArray.toList_eq]; rfl
  have e4 : ((⟨#[114, 101, 115, 116]⟩ : ByteArray).toList == (⟨#[102, 108, 117, 115, 104]⟩ : ByteArray).toList) = false := by
    rw [ByteArray.toList_eq, ByteArray.toList_eq]; rfl
  have e5 : ((⟨#[114, 101, 115, 116]⟩ : ByteArray).toList == (⟨#[114, 101, 97, 100]⟩ : ByteArray).toList) = false := by
    rw [ByteArray.toList_eq, ByteArray.toList_eq]; rfl
  have e6 : ((⟨#[114, 101, 115, 116]⟩ : ByteArray).toList == (⟨#[112, 117, 116]⟩ : ByteArray).toList) = false := by
    rw [ByteArray.toList_eq, ByteArray.toList_eq]; rfl
  have e7 : ((⟨#[114, 101, 115, 116]⟩ : ByteArray).toList == (⟨#[100, 114, 111, 112]⟩ : ByteArray).toList) = false := by
    rw [ByteArray.toList_eq, ByteArray.toList_eq]; rfl
  have e8 : ((⟨#[114, 101, 115, 116]⟩ : ByteArray).toList == (⟨#[108, 97, 116, 101, 114]⟩ : ByteArray).toList) = false := by
    rw [ByteArray.toList_eq, ByteArray.toList_eq]; rfl
  have HS1 := Lib.hid hS1
  have Hq := Lib.hid hq
  have Hcall := Lib.hid hcall
  have Hcf := Lib.hid hcf
  have hbz : w.heap.size ≠ b := by have := lt_of_block hS; omega
  clear E HK hS hq hcf hS1 E1 qx hcall hl9
  go_enter Tryz.func90, Tryz.ntmps90
  go_wp2_with fail
  refine Hcall.out.mono ?_
  rintro e w2 ⟨rfl, rfl⟩
  go_wp2
  go_ret
  refine sop_good Hcf.out ?_ ((show Qh.Mod (fun k => k = b) w _ from Hq.out.any).setCell (fun _ => rfl) _)
  unfold StAt
  rw [Qh.heap_setCell_same (HS1.out) 2 _]; rfl
theorem sop_wait_d (E : ErrsAt w a) (HK : KindsW w) (hd : 1 ≤ d) (hS : StAt w b ⟨d, r, wt, u⟩) :
    Calls Tryz.prog 90 #[.pointer (some ⟨b, 0, none⟩), .agg #[.string ⟨#[119, 97, 105, 116]⟩, .int .i64 0]] w (SopPost a ⟨d, r, wt, u⟩ (kWait, 0) b w) := by
  have hq := (Mod.refl noF w).alloc (.cells #[.string ⟨#[119, 97, 105, 116]⟩, .int .i64 0] 88)
  have hcf : cfOp ⟨d, r, wt, u⟩ (kWait, 0) = (8, ⟨d, r, wt, u⟩) := by
    unfold cfOp
    have hm : memK kindsC ⟨#[119, 97, 105, 116]⟩ = true := by decide +kernel
    simp [hm, kEnter, kLeave, kRest, kWait, kRead, kPut, kDrop, kLater, kFlush, show ¬ d = 0 by omega]
  have hS1 := hq.heap hS (fun e => e)
  have h0 := cell_of_heap hS1 0
  have h1 := cell_of_heap hS1 1
  have h2 := cell_of_heap hS1 2
  have h3 := cell_of_heap hS1 3
  have f0 := free_of_heap hS1 0
  have f1 := free_of_heap hS1 1
  have f2 := free_of_heap hS1 2
  have f3 := free_of_heap hS1 3
  replace h0 : (w.alloc (.cells #[.string ⟨#[119, 97, 105, 116]⟩, .int .i64 0] 88)).cell? ⟨b, 0, none⟩ = some (.int .i64 ((d : Nat) : Int)) := h0
  replace h1 : (w.alloc (.cells #[.string ⟨#[119, 97, 105, 116]⟩, .int .i64 0] 88)).cell? ⟨b, 1, none⟩ = some (.bool r) := h1
  replace h2 : (w.alloc (.cells #[.string ⟨#[119, 97, 105, 116]⟩, .int .i64 0] 88)).cell? ⟨b, 2, none⟩ = some (.bool wt) := h2
  replace h3 : (w.alloc (.cells #[.string ⟨#[119, 97, 105, 116]⟩, .int .i64 0] 88)).cell? ⟨b, 3, none⟩ = some (.bool u) := h3
  have E1 := E.keep hq
  obtain ⟨gk, off, cap, q0, qx⟩ := HK.keep hq
  have hcall := containsK2 (w.alloc (.cells #[.string ⟨#[119, 97, 105, 116]⟩, .int .i64 0] 88)) gk off cap kindsC kWait qx (by decide)
  rw [show memK kindsC kWait = true by decide +kernel] at hcall
  have hl9 : kindsC.length = 9 := rfl
  rw [hl9] at hcall
  have v1 := E1.v1
  have v2 := E1.v2
  have v4 := E1.v4
  have v7 := E1.v7
  have e0 : ((⟨#[119, 97, 105, 116]⟩ : ByteArray).toList == (⟨#[101, 110, 116, 101, 114]⟩ : ByteArray).toList) = false := by
    rw [ByteArray.toList_eq, ByteArray.toList_eq]; rfl
  have e1 : ((⟨#[119, 97, 105, 116]⟩ : ByteArray).toList == (⟨#[108, 101, 97, 118, 101]⟩ : ByteArray).toList) = false := by
    rw [ByteArray.toList_eq, ByteArray.toList_eq]; rfl
  have e2 : ((⟨#[119, 97, 105, 116]⟩ : ByteArray).toList == (⟨#[114, 101, 115, 116]⟩ : ByteArray).toList) = false := by
    rw [ByteArray.toList_eq, ByteArray.toList_eq]; rfl
  have e3 : ((⟨#[119, 97, 105, 116]⟩ : ByteArray).toList == (⟨#[119, 97, 105, 116]⟩ : ByteArray).toList) = true := by simp
  have e4 : ((⟨#[119, 97, 105, 116]⟩ : ByteArray).toList == (⟨#[102, 108, 117, 115, 104]⟩ : ByteArray).toList) = false := by
    rw [ByteArray.toList_eq, ByteArray.toList_eq]; rfl
  have e5 : ((⟨#[119, 97, 105, 116]⟩ : ByteArray).toList == (⟨#[114, 101, 97, 100]⟩ : ByteArray).toList) = false := by
    rw [ByteArray.toList_eq, ByteArray.toList_eq]; rfl
  have e6 : ((⟨#[119, 97, 105, 116]⟩ : ByteArray).toList == (⟨#[112, 117, 116]⟩ : ByteArray).toList) = false := by
    rw [ByteArray.toList_eq, ByteArray.toList_eq]; rfl
  have e7 : ((⟨#[119, 97, 105, 116]⟩ : ByteArray).toList == (⟨#[100, 114, 111, 112]⟩ : ByteArray).toList) = false := by
    rw [ByteArray.toList_eq, ByteArray.toList_eq]; rfl
  have e8 : ((⟨#[119, 97, 105, 116]⟩ : ByteArray).toList == (⟨#[108, 97, 116, 101, 114]⟩ : ByteArray).toList) = false := by
    rw [ByteArray.toList_eq, ByteArray.toList_eq]; rfl
  have d1 : ((d : Int) == 0) = false := by simp; omega
  have d2 : decide ((d : Int) = 0) = false := by simp; omega
  have HS1 := Lib.hid hS1
  have Hq := Lib.hid hq
  have Hcall := Lib.hid hcall
  have Hcf := Lib.hid hcf
  have hbz : w.heap.size ≠ b := by have := lt_of_block hS; omega
  clear E HK hS hq hcf hS1 E1 qx hcall hl9
  go_enter Tryz.func90, Tryz.ntmps90
  go_wp2_with fail
  refine Hcall.out.mono ?_
  rintro e w2 ⟨rfl, rfl⟩
  go_wp2
  go_ret
  exact sop_bad 7 Hcf.out (by omega) rfl Hq.out.any
theorem sop_wait_t (E : ErrsAt w a) (HK : KindsW w) (hS : StAt w b ⟨0, r, true, u⟩) :
    Calls Tryz.prog 90 #[.pointer (some ⟨b, 0, none⟩), .agg #[.string ⟨#[119, 97, 105, 116]⟩, .int .i64 0]] w (SopPost a ⟨0, r, true, u⟩ (kWait, 0) b w) := by
  have hq := (Mod.refl noF w).alloc (.cells #[.string ⟨#[119, 97, 105, 116]⟩, .int .i64 0] 88)
  have hcf : cfOp ⟨0, r, true, u⟩ (kWait, 0) = (0, ⟨0, r, true, u⟩) := by
    unfold cfOp
    have hm : memK kindsC ⟨#[119, 97, 105, 116]⟩ = true := by decide +kernel
    simp [hm, kEnter, kLeave, kRest, kWait, kRead, kPut, kDrop, kLater, kFlush]
  have hS1 := hq.heap hS (fun e => e)
  have h0 := cell_of_heap hS1 0
  have h1 := cell_of_heap hS1 1
  have h2 := cell_of_heap hS1 2
  have h3 := cell_of_heap hS1 3
  have f0 := free_of_heap hS1 0
  have f1 := free_of_heap hS1 1
  have f2 := free_of_heap hS1 2
  have f3 := free_of_heap hS1 3
  replace h0 : (w.alloc (.cells #[.string ⟨#[119, 97, 105, 116]⟩, .int .i64 0] 88)).cell? ⟨b, 0, none⟩ = some (.int .i64 ((0 : Nat) : Int)) := h0
  replace h1 : (w.alloc (.cells #[.string ⟨#[119, 97, 105, 116]⟩, .int .i64 0] 88)).cell? ⟨b, 1, none⟩ = some (.bool r) := h1
  replace h2 : (w.alloc (.cells #[.string ⟨#[119, 97, 105, 116]⟩, .int .i64 0] 88)).cell? ⟨b, 2, none⟩ = some (.bool true) := h2
  replace h3 : (w.alloc (.cells #[.string ⟨#[119, 97, 105, 116]⟩, .int .i64 0] 88)).cell? ⟨b, 3, none⟩ = some (.bool u) := h3
  have E1 := E.keep hq
  obtain ⟨gk, off, cap, q0, qx⟩ := HK.keep hq
  have hcall := containsK2 (w.alloc (.cells #[.string ⟨#[119, 97, 105, 116]⟩, .int .i64 0] 88)) gk off cap kindsC kWait qx (by decide)
  rw [show memK kindsC kWait = true by decide +kernel] at hcall
  have hl9 : kindsC.length = 9 := rfl
  rw [hl9] at hcall
  have v1 := E1.v1
  have v2 := E1.v2
  have v4 := E1.v4
  have v7 := E1.v7
  have e0 : ((⟨#[119, 97, 105, 116]⟩ : ByteArray).toList == (⟨#[101, 110, 116, 101, 114]⟩ : ByteArray).toList) = false := by
    rw [ByteArray.toList_eq, ByteArray.toList_eq]; rfl
  have e1 : ((⟨#[119, 97, 105, 116]⟩ : ByteArray).toList == (⟨#[108, 101, 97, 118, 101]⟩ : ByteArray).toList) = false := by
    rw [ByteArray.toList_eq, ByteArray.toList_eq]; rfl
  have e2 : ((⟨#[119, 97, 105, 116]⟩ : ByteArray).toList == (⟨#[114, 101, 115, 116]⟩ : ByteArray).toList) = false := by
    rw [ByteArray.toList_eq, ByteArray.toList_eq]; rfl
  have e3 : ((⟨#[119, 97, 105, 116]⟩ : ByteArray).toList == (⟨#[119, 97, 105, 116]⟩ : ByteArray).toList) = true := by simp
  have e4 : ((⟨#[119, 97, 105, 116]⟩ : ByteArray).toList == (⟨#[102, 108, 117, 115, 104]⟩ : ByteArray).toList) = false := by
    rw [ByteArray.toList_eq, ByteArray.toList_eq]; rfl
  have e5 : ((⟨#[119, 97, 105, 116]⟩ : ByteArray).toList == (⟨#[114, 101, 97, 100]⟩ : ByteArray).toList) = false := by
    rw [ByteArray.toList_eq, ByteArray.toList_eq]; rfl
  have e6 : ((⟨#[119, 97, 105, 116]⟩ : ByteArray).toList == (⟨#[112, 117, 116]⟩ : ByteArray).toList) = false := by
    rw [ByteArray.toList_eq, ByteArray.toList_eq]; rfl
  have e7 : ((⟨#[119, 97, 105, 116]⟩ : ByteArray).toList == (⟨#[100, 114, 111, 112]⟩ : ByteArray).toList) = false := by
    rw [ByteArray.toList_eq, ByteArray.toList_eq]; rfl
  have e8 : ((⟨#[119, 97, 105, 116]⟩ : ByteArray).toList == (⟨#[108, 97, 116, 101, 114]⟩ : ByteArray).toList) = false := by
    rw [ByteArray.toList_eq, ByteArray.toList_eq]; rfl
  have HS1 := Lib.hid hS1
  have Hq := Lib.hid hq
  have Hcall := Lib.hid hcall
  have Hcf := Lib.hid hcf
  have hbz : w.heap.size ≠ b := by have := lt_of_block hS; omega
  clear E HK hS hq hcf hS1 E1 qx hcall hl9
  go_enter Tryz.func90, Tryz.ntmps90
  go_wp2_with fail
  refine Hcall.out.mono ?_
  rintro e w2 ⟨rfl, rfl⟩
  go_wp2
  go_ret
  refine sop_good Hcf.out ?_ ((show Qh.Mod (fun k => k = b) w _ from Hq.out.any).setCell (fun _ => rfl) _)
  unfold StAt
  rw [Qh.heap_setCell_same (HS1.out) 2 _]; rfl
theorem sop_wait_f (E : ErrsAt w a) (HK : KindsW w) (hS : StAt w b ⟨0, r, false, u⟩) :
    Calls Tryz.prog 90 #[.pointer (some ⟨b, 0, none⟩), .agg #[.string ⟨#[119, 97, 105, 116]⟩, .int .i64 0]] w (SopPost a ⟨0, r, false, u⟩ (kWait, 0) b w) := by
  have hq := (Mod.refl noF w).alloc (.cells #[.string ⟨#[119, 97, 105, 116]⟩, .int .i64 0] 88)
  have hcf : cfOp ⟨0, r, false, u⟩ (kWait, 0) = (0, ⟨0, r, true, u⟩) := by
    unfold cfOp
    have hm : memK kindsC ⟨#[119, 97, 105, 116]⟩ = true := by decide +kernel
    simp [hm, kEnter, kLeave, kRest, kWait, kRead, kPut, kDrop, kLater, kFlush]
  have hS1 := hq.heap hS (fun e => e)
  have h0 := cell_of_heap hS1 0
  have h1 := cell_of_heap hS1 1
  have h2 := cell_of_heap hS1 2
  have h3 := cell_of_heap hS1 3
  have f0 := free_of_heap hS1 0
  have f1 := free_of_heap hS1 1
  have f2 := free_of_heap hS1 2
  have f3 := free_of_heap hS1 3
  replace h0 : (w.alloc (.cells #[.string ⟨#[119, 97, 105, 116]⟩, .int .i64 0] 88)).cell? ⟨b, 0, none⟩ = some (.int .i64 ((0 : Nat) : Int)) := h0
  replace h1 : (w.alloc (.cells #[.string ⟨#[119, 97, 105, 116]⟩, .int .i64 0] 88)).cell? ⟨b, 1, none⟩ = some (.bool r) := h1
  replace h2 : (w.alloc (.cells #[.string ⟨#[119, 97, 105, 116]⟩, .int .i64 0] 88)).cell? ⟨b, 2, none⟩ = some (.bool false) := h2
  replace h3 : (w.alloc (.cells #[.string ⟨#[119, 97, 105, 116]⟩, .int .i64 0] 88)).cell? ⟨b, 3, none⟩ = some (.bool u) := h3
  have E1 := E.keep hq
  obtain ⟨gk, off, cap, q0, qx⟩ := HK.keep hq
  have hcall := containsK2 (w.alloc (.cells #[.string ⟨#[119, 97, 105, 116]⟩, .int .i64 0] 88)) gk off cap kindsC kWait qx (by decide)
  rw [show memK kindsC kWait = true by decide +kernel] at hcall
  have hl9 : kindsC.length = 9 := rfl
  rw [hl9] at hcall
  have v1 := E1.v1
  have v2 := E1.v2
  have v4 := E1.v4
  have v7 := E1.v7
  have e0 : ((⟨#[119, 97, 105, 116]⟩ : ByteArray).toList == (⟨#[101, 110, 116, 101, 114]⟩ : ByteArray).toList) = false := by
    rw [ByteArray.toList_eq, ByteArray.toList_eq]; rfl
  have e1 : ((⟨#[119, 97, 105, 116]⟩ : ByteArray).toList == (⟨#[108, 101, 97, 118, 101]⟩ : ByteArray).toList) = false := by
    rw [ByteArray.toList_eq, ByteArray.toList_eq]; rfl
  have e2 : ((⟨#[119, 97, 105, 116]⟩ : ByteArray).toList == (⟨#[114, 101, 115, 116]⟩ : ByteArray).toList) = false := by
    rw [ByteArray.toList_eq, ByteArray.toList_eq]; rfl
  have e3 : ((⟨#[119, 97, 105, 116]⟩ : ByteArray).toList == (⟨#[119, 97, 105, 116]⟩ : ByteArray).toList) = true := by simp
  have e4 : ((⟨#[119, 97, 105, 116]⟩ : ByteArray).toList == (⟨#[102, 108, 117, 115, 104]⟩ : ByteArray).toList) = false := by
    rw [ByteArray.toList_eq, ByteArray.toList_eq]; rfl
  have e5 : ((⟨#[119, 97, 105, 116]⟩ : ByteArray).toList == (⟨#[114, 101, 97, 100]⟩ : ByteArray).toList) = false := by
    rw [ByteArray.toList_eq, ByteArray.toList_eq]; rfl
  have e6 : ((⟨#[119, 97, 105, 116]⟩ : ByteArray).toList == (⟨#[112, 117, 116]⟩ : ByteArray).toList) = false := by
    rw [ByteArray.toList_eq, ByteArray.toList_eq]; rfl
  have e7 : ((⟨#[119, 97, 105, 116]⟩ : ByteArray).toList == (⟨#[100, 114, 111, 112]⟩ : ByteArray).toList) = false := by
    rw [ByteArray.toList_eq, ByteArray.toList_eq]; rfl
  have e8 : ((⟨#[119, 97, 105, 116]⟩ : ByteArray).toList == (⟨#[108, 97, 116, 101, 114]⟩ : ByteArray).toList) = false := by
    rw [ByteArray.toList_eq, ByteArray.toList_eq]; rfl
  have HS1 := Lib.hid hS1
  have Hq := Lib.hid hq
  have Hcall := Lib.hid hcall
  have Hcf := Lib.hid hcf
  have hbz : w.heap.size ≠ b := by have := lt_of_block hS; omega
  clear E HK hS hq hcf hS1 E1 qx hcall hl9
  go_enter Tryz.func90, Tryz.ntmps90
  go_wp2_with fail
  refine Hcall.out.mono ?_
  rintro e w2 ⟨rfl, rfl⟩
  go_wp2
  go_ret
  refine sop_good Hcf.out ?_ ((show Qh.Mod (fun k => k = b) w _ from Hq.out.any).setCell (fun _ => rfl) _)
  unfold StAt
  rw [Qh.heap_setCell_same (HS1.out) 2 _]; rfl
theorem sop_flush_d (E : ErrsAt w a) (HK : KindsW w) (hd : 1 ≤ d) (hS : StAt w b ⟨d, r, wt, u⟩) :
    Calls Tryz.prog 90 #[.pointer (some ⟨b, 0, none⟩), .agg #[.string ⟨#[102, 108, 117, 115, 104]⟩, .int .i64 0]] w (SopPost a ⟨d, r, wt, u⟩ (kFlush, 0) b w) := by
  have hq := (Mod.refl noF w).alloc (.cells #[.string ⟨#[102, 108, 117, 115, 104]⟩, .int .i64 0] 88)
  have hcf : cfOp ⟨d, r, wt, u⟩ (kFlush, 0) = (8, ⟨d, r, wt, u⟩) := by
    unfold cfOp
    have hm : memK kindsC ⟨#[102, 108, 117, 115, 104]⟩ = true := by decide +kernel
    simp [hm, kEnter, kLeave, kRest, kWait, kRead, kPut, kDrop, kLater, kFlush, show ¬ d = 0 by omega]
  have hS1 := hq.heap hS (fun e => e)
  have h0 := cell_of_heap hS1 0
  have h1 := cell_of_heap hS1 1
  have h2 := cell_of_heap hS1 2
  have h3 := cell_of_heap hS1 3
  have f0 := free_of_heap hS1 0
  have f1 := free_of_heap hS1 1
  have f2 := free_of_heap hS1 2
  have f3 := free_of_heap hS1 3
  replace h0 : (w.alloc (.cells #[.string ⟨#[102, 108, 117, 115, 104]⟩, .int .i64 0] 88)).cell? ⟨b, 0, none⟩ = some (.int .i64 ((d : Nat) : Int)) := h0
  replace h1 : (w.alloc (.cells #[.string ⟨#[102, 108, 117, 115, 104]⟩, .int .i64 0] 88)).cell? ⟨b, 1, none⟩ = some (.bool r) := h1
  replace h2 : (w.alloc (.cells #[.string ⟨#[102, 108, 117, 115, 104]⟩, .int .i64 0] 88)).cell? ⟨b, 2, none⟩ = some (.bool wt) := h2
  replace h3 : (w.alloc (.cells #[.string ⟨#[102, 108, 117, 115, 104]⟩, .int .i64 0] 88)).cell? ⟨b, 3, none⟩ = some (.bool u) := h3
  have E1 := E.keep hq
  obtain ⟨gk, off, cap, q0, qx⟩ := HK.keep hq
  have hcall := containsK2 (w.alloc (.cells #[.string ⟨#[102, 108, 117, 115, 104]⟩, .int .i64 0] 88)) gk off cap kindsC kFlush qx (by decide)
  rw [show memK kindsC kFlush = true by decide +kernel] at hcall
  have hl9 : kindsC.length = 9 := rfl
  rw [hl9] at hcall
  have v1 := E1.v1
  have v2 := E1.v2
  have v4 := E1.v4
  have v7 := E1.v7
  have e0 : ((⟨#[102, 108, 117, 115, 104]⟩ : ByteArray).toList == (⟨#[101, 110, 116, 101, 114]⟩ : ByteArray).toList) = false := by
    rw [ByteArray.toList_eq, ByteArray.toList_eq]; rfl
  have e1 : ((⟨#[102, 108, 117, 115, 104]⟩ : ByteArray).toList == (⟨#[108, 101, 97, 118, 101]⟩ : ByteArray).toList) = false := by
    rw [ByteArray.toList_eq, ByteArray.toList_eq]; rfl
  have e2 : ((⟨#[102, 108, 117, 115, 104]⟩ : ByteArray).toList == (⟨#[114, 101, 115, 116]⟩ : ByteArray).toList) = false := by
    rw [ByteArray.toList_eq, ByteArray.toList_eq]; rfl
  have e3 : ((⟨#[102, 108, 117, 115, 104]⟩ : ByteArray).toList == (⟨#[119, 97, 105, 116]⟩ : ByteArray).toList) = false := by
    rw [ByteArray.toList_eq, ByteArray.toList_eq]; rfl
  have e4 : ((⟨#[102, 108, 117, 115, 104]⟩ : ByteArray).toList == (⟨#[102, 108, 117, 115, 104]⟩ : ByteArray).toList) = true := by simp
  have e5 : ((⟨#[102, 108, 117, 115, 104]⟩ : ByteArray).toList == (⟨#[114, 101, 97, 100]⟩ : ByteArray).toList) = false := by
    rw [ByteArray.toList_eq, ByteArray.toList_eq]; rfl
  have e6 : ((⟨#[102, 108, 117, 115, 104]⟩ : ByteArray).toList == (⟨#[112, 117, 116]⟩ : ByteArray).toList) = false := by
    rw [ByteArray.toList_eq, ByteArray.toList_eq]; rfl
  have e7 : ((⟨#[102, 108, 117, 115, 104]⟩ : ByteArray).toList == (⟨#[100, 114, 111, 112]⟩ : ByteArray).toList) = false := by
    rw [ByteArray.toList_eq, ByteArray.toList_eq]; rfl
  have e8 : ((⟨#[102, 108, 117, 115, 104]⟩ : ByteArray).toList == (⟨#[108, 97, 116, 101, 114]⟩ : ByteArray).toList) = false := by
    rw [ByteArray.toList_eq, ByteArray.toList_eq]; rfl
  have d1 : ((d : Int) == 0) = false := by simp; omega
  have d2 : decide ((d : Int) = 0) = false := by simp; omega
  have HS1 := Lib.hid hS1
  have Hq := Lib.hid hq
  have Hcall := Lib.hid hcall
  have Hcf := Lib.hid hcf
  have hbz : w.heap.size ≠ b := by have := lt_of_block hS; omega
  clear E HK hS hq hcf hS1 E1 qx hcall hl9
  go_enter Tryz.func90, Tryz.ntmps90
  go_wp2_with fail
  refine Hcall.out.mono ?_
  rintro e w2 ⟨rfl, rfl⟩
  go_wp2
  go_ret
  exact sop_bad 7 Hcf.out (by omega) rfl Hq.out.any
theorem sop_flush_t (E : ErrsAt w a) (HK : KindsW w) (hS : StAt w b ⟨0, r, true, u⟩) :
    Calls Tryz.prog 90 #[.pointer (some ⟨b, 0, none⟩), .agg #[.string ⟨#[102, 108, 117, 115, 104]⟩, .int .i64 0]] w (SopPost a ⟨0, r, true, u⟩ (kFlush, 0) b w) := by
  have hq := (Mod.refl noF w).alloc (.cells #[.string ⟨#[102, 108, 117, 115, 104]⟩, .int .i64 0] 88)
  have hcf : cfOp ⟨0, r, true, u⟩ (kFlush, 0) = (0, ⟨0, r, true, u⟩) := by
    unfold cfOp
    have hm : memK kindsC ⟨#[102, 108, 117, 115, 104]⟩ = true := by decide +kernel
    simp [hm, kEnter, kLeave, kRest, kWait, kRead, kPut, kDrop, kLater, kFlush]
  have hS1 := hq.heap hS (fun e => e)
  have h0 := cell_of_heap hS1 0
  have h1 := cell_of_heap hS1 1
  have h2 := cell_of_heap hS1 2
  have h3 := cell_of_heap hS1 3
  have f0 := free_of_heap hS1 0
  have f1 := free_of_heap hS1 1
  have f2 := free_of_heap hS1 2
  have f3 := free_of_heap hS1 3
  replace h0 : (w.alloc (.cells #[.string ⟨#[102, 108, 117, 115, 104]⟩, .int .i64 0] 88)).cell? ⟨b, 0, none⟩ = some (.int .i64 ((0 : Nat) : Int)) := h0
  replace h1 : (w.alloc (.cells #[.string ⟨#[102, 108, 117, 115, 104]⟩, .int .i64 0] 88)).cell? ⟨b, 1, none⟩ = some (.bool r) := h1
  replace h2 : (w.alloc (.cells #[.string ⟨#[102, 108, 117, 115, 104]⟩, .int .i64 0] 88)).cell? ⟨b, 2, none⟩ = some (.bool true) := h2
  replace h3 : (w.alloc (.cells #[.string ⟨#[102, 108, 117, 115, 104]⟩, .int .i64 0] 88)).cell? ⟨b, 3, none⟩ = some (.bool u) := h3
  have E1 := E.keep hq
  obtain ⟨gk, off, cap, q0, qx⟩ := HK.keep hq
  have hcall := containsK2 (w.alloc (.cells #[.string ⟨#[102, 108, 117, 115, 104]⟩, .int .i64 0] 88)) gk off cap kindsC kFlush qx (by decide)
  rw [show memK kindsC kFlush = true by decide +kernel] at hcall
  have hl9 : kindsC.length = 9 := rfl
  rw [hl9] at hcall
  have v1 := E1.v1
  have v2 := E1.v2
  have v4 := E1.v4
  have v7 := E1.v7
  have e0 : ((⟨#[102, 108, 117, 115, 104]⟩ : ByteArray).toList == (⟨#[101, 110, 116, 101, 114]⟩ : ByteArray).toList) = false := by
    rw [ByteArray.toList_eq, ByteArray.toList_eq]; rfl
  have e1 : ((⟨#[102, 108, 117, 115, 104]⟩ : ByteArray).toList == (⟨#[108, 101, 97, 118, 101]⟩ : ByteArray).toList) = false := by
    rw [ByteArray.toList_eq, ByteArray.toList_eq]; rfl
  have e2 : ((⟨#[102, 108, 117, 115, 104]⟩ : ByteArray).toList == (⟨#[114, 101, 115, 116]⟩ : ByteArray).toList) = false := by
    rw [ByteArray.toList_eq, ByteArray.toList_eq]; rfl
  have e3 : ((⟨#[102, 108, 117, 115, 104]⟩ : ByteArray).toList == (⟨#[119, 97, 105, 116]⟩ : ByteArray).toList) = false := by
    rw [ByteArray.toList_eq, ByteArray.toList_eq]; rfl
  have e4 : ((⟨#[102, 108, 117, 115, 104]⟩ : ByteArray).toList == (⟨#[102, 108, 117, 115, 104]⟩ : ByteArray).toList) = true := by simp
  have e5 : ((⟨#[102, 108, 117, 115, 104]⟩ : ByteArray).toList == (⟨#[114, 101, 97, 100]⟩ : ByteArray).toList) = false := by
    rw [ByteArray.toList_eq, ByteArray.toList_eq]; rfl
  have e6 : ((⟨#[102, 108, 117, 115, 104]⟩ : ByteArray).toList == (⟨#[112, 117, 116]⟩ : ByteArray).toList) = false := by
    rw [ByteArray.toList_eq, ByteArray.toList_eq]; rfl
  have e7 : ((⟨#[102, 108, 117, 115, 104]⟩ : ByteArray).toList == (⟨#[100, 114, 111, 112]⟩ : ByteArray).toList) = false := by
    rw [ByteArray.toList_eq, ByteArray.toList_eq]; rfl
  have e8 : ((⟨#[102, 108, 117, 115, 104]⟩ : ByteArray).toList == (⟨#[108, 97, 116, 101, 114]⟩ : ByteArray).toList) = false := by
    rw [ByteArray.toList_eq, ByteArray.toList_eq]; rfl
  have HS1 := Lib.hid hS1
  have Hq := Lib.hid hq
  have Hcall := Lib.hid hcall
  have Hcf := Lib.hid hcf
  have hbz : w.heap.size ≠ b := by have := lt_of_block hS; omega
  clear E HK hS hq hcf hS1 E1 qx hcall hl9
  go_enter Tryz.func90, Tryz.ntmps90
  go_wp2_with fail
  refine Hcall.out.mono ?_
  rintro e w2 ⟨rfl, rfl⟩
  go_wp2
  go_ret
  refine sop_good Hcf.out ?_ ((show Qh.Mod (fun k => k = b) w _ from Hq.out.any).setCell (fun _ => rfl) _)
  unfold StAt
  rw [Qh.heap_setCell_same (HS1.out) 2 _]; rfl
theorem sop_flush_f (E : ErrsAt w a) (HK : KindsW w) (hS : StAt w b ⟨0, r, false, u⟩) :
    Calls Tryz.prog 90 #[.pointer (some ⟨b, 0, none⟩), .agg #[.string ⟨#[102, 108, 117, 115, 104]⟩, .int .i64 0]] w (SopPost a ⟨0, r, false, u⟩ (kFlush, 0) b w) := by
  have hq := (Mod.refl noF w).alloc (.cells #[.string ⟨#[102, 108, 117, 115, 104]⟩, .int .i64 0] 88)
  have hcf : cfOp ⟨0, r, false, u⟩ (kFlush, 0) = (0, ⟨0, r, true, u⟩) := by
    unfold cfOp
    have hm : memK kindsC ⟨#[102, 108, 117, 115, 104]⟩ = true := by decide +kernel
    simp [hm, kEnter, kLeave, kRest, kWait, kRead, kPut, kDrop, kLater, kFlush]
  have hS1 := hq.heap hS (fun e => e)
  have h0 := cell_of_heap hS1 0
  have h1 := cell_of_heap hS1 1
  have h2 := cell_of_heap hS1 2
  have h3 := cell_of_heap hS1 3
  have f0 := free_of_heap hS1 0
  have f1 := free_of_heap hS1 1
  have f2 := free_of_heap hS1 2
  have f3 := free_of_heap hS1 3
  replace h0 : (w.alloc (.cells #[.string ⟨#[102, 108, 117, 115, 104]⟩, .int .i64 0] 88)).cell? ⟨b, 0, none⟩ = some (.int .i64 ((0 : Nat) : Int)) := h0
  replace h1 : (w.alloc (.cells #[.string ⟨#[102, 108, 117, 115, 104]⟩, .int .i64 0] 88)).cell? ⟨b, 1, none⟩ = some (.bool r) := h1
  replace h2 : (w.alloc (.cells #[.string ⟨#[102, 108, 117, 115, 104]⟩, .int .i64 0] 88)).cell? ⟨b, 2, none⟩ = some (.bool false) := h2
  replace h3 : (w.alloc (.cells #[.string ⟨#[102, 108, 117, 115, 104]⟩, .int .i64 0] 88)).cell? ⟨b, 3, none⟩ = some (.bool u) := h3
  have E1 := E.keep hq
  obtain ⟨gk, off, cap, q0, qx⟩ := HK.keep hq
  have hcall := containsK2 (w.alloc (.cells #[.string ⟨#[102, 108, 117, 115, 104]⟩, .int .i64 0] 88)) gk off cap kindsC kFlush qx (by decide)
  rw [show memK kindsC kFlush = true by decide +kernel] at hcall
  have hl9 : kindsC.length = 9 := rfl
  rw [hl9] at hcall
  have v1 := E1.v1
  have v2 := E1.v2
  have v4 := E1.v4
  have v7 := E1.v7
  have e0 : ((⟨#[102, 108, 117, 115, 104]⟩ : ByteArray).toList == (⟨#[101, 110, 116, 101, 114]⟩ : ByteArray).toList) = false := by
    rw [ByteArray.toList_eq, ByteArray.toList_eq]; rfl
  have e1 : ((⟨#[102, 108, 117, 115, 104]⟩ : ByteArray).toList == (⟨#[108, 101, 97, 118, 101]⟩ : ByteArray).toList) = false := by
    rw [ByteArray.toList_eq, ByteArray.toList_eq]; rfl
  have e2 : ((⟨#[102, 108, 117, 115, 104]⟩ : ByteArray).toList == (⟨#[114, 101, 115, 116]⟩ : ByteArray).toList) = false := by
    rw [ByteArray.toList_eq, ByteArray.toList_eq]; rfl
  have e3 : ((⟨#[102, 108, 117, 115, 104]⟩ : ByteArray).toList == (⟨#[119, 97, 105, 116]⟩ : ByteArray).toList) = false := by
    rw [ByteArray.toList_eq, ByteArray.toList_eq]; rfl
  have e4 : ((⟨#[102, 108, 117, 115, 104]⟩ : ByteArray).toList == (⟨#[102, 108, 117, 115, 104]⟩ : ByteArray).toList) = true := by simp
  have e5 : ((⟨#[102, 108, 117, 115, 104]⟩ : ByteArray).toList == (⟨#[114, 101, 97, 100]⟩ : ByteArray).toList) = false := by
    rw [ByteArray.toList_eq, ByteArray.toList_eq]; rfl
  have e6 : ((⟨#[102, 108, 117, 115, 104]⟩ : ByteArray).toList == (⟨#[112, 117, 116]⟩ : ByteArray).toList) = false := by
    rw [ByteArray.toList_eq, ByteArray.toList_eq]; rfl
  have e7 : ((⟨#[102, 108, 117, 115, 104]⟩ : ByteArray).toList == (⟨#[100, 114, 111, 112]⟩ : ByteArray).toList) = false := by
    rw [ByteArray.toList_eq, ByteArray.toList_eq]; rfl
  have e8 : ((⟨#[102, 108, 117, 115, 104]⟩ : ByteArray).toList == (⟨#[108, 97, 116, 101, 114]⟩ : ByteArray).toList) = false := by
    rw [ByteArray.toList_eq, ByteArray.toList_eq]; rfl
  have HS1 := Lib.hid hS1
  have Hq := Lib.hid hq
  have Hcall := Lib.hid hcall
  have Hcf := Lib.hid hcf
  have hbz : w.heap.size ≠ b := by have := lt_of_block hS; omega
  clear E HK hS hq hcf hS1 E1 qx hcall hl9
  go_enter Tryz.func90, Tryz.ntmps90
  go_wp2_with fail
  refine Hcall.out.mono ?_
  rintro e w2 ⟨rfl, rfl⟩
  go_wp2
  go_ret
  refine sop_good Hcf.out ?_ ((show Qh.Mod (fun k => k = b) w _ from Hq.out.any).setCell (fun _ => rfl) _)
  unfold StAt
  rw [Qh.heap_setCell_same (HS1.out) 2 _]; rfl
theorem sop_read_0 (E : ErrsAt w a) (HK : KindsW w) (hS : StAt w b ⟨0, r, wt, u⟩) :
    Calls Tryz.prog 90 #[.pointer (some ⟨b, 0, none⟩), .agg #[.string ⟨#[114, 101, 97, 100]⟩, .int .i64 0]] w (SopPost a ⟨0, r, wt, u⟩ (kRead, 0) b w) := by
  have hq := (Mod.refl noF w).alloc (.cells #[.string ⟨#[114, 101, 97, 100]⟩, .int .i64 0] 88)
  have hcf : cfOp ⟨0, r, wt, u⟩ (kRead, 0) = (8, ⟨0, r, wt, u⟩) := by
    unfold cfOp
    have hm : memK kindsC ⟨#[114, 101, 97, 100]⟩ = true := by decide +kernel
    simp [hm, kEnter, kLeave, kRest, kWait, kRead, kPut, kDrop, kLater, kFlush]
  have hS1 := hq.heap hS (fun e => e)
  have h0 := cell_of_heap hS1 0
  have h1 := cell_of_heap hS1 1
  have h2 := cell_of_heap hS1 2
  have h3 := cell_of_heap hS1 3
  have f0 := free_of_heap hS1 0
  have f1 := free_of_heap hS1 1
  have f2 := free_of_heap hS1 2
  have f3 := free_of_heap hS1 3
  replace h0 : (w.alloc (.cells #[.string ⟨#[114, 101, 97, 100]⟩, .int .i64 0] 88)).cell? ⟨b, 0, none⟩ = some (.int .i64 ((0 : Nat) : Int)) := h0
  replace h1 : (w.alloc (.cells #[.string ⟨#[114, 101, 97, 100]⟩, .int .i64 0] 88)).cell? ⟨b, 1, none⟩ = some (.bool r) := h1
  replace h2 : (w.alloc (.cells #[.string ⟨#[114, 101, 97, 100]⟩, .int .i64 0] 88)).cell? ⟨b, 2, none⟩ = some (.bool wt) := h2
  replace h3 : (w.alloc (.cells #[.string ⟨#[114, 101, 97, 100]⟩, .int .i64 0] 88)).cell? ⟨b, 3, none⟩ = some (.bool u) := h3
  have E1 := E.keep hq
  obtain ⟨gk, off, cap, q0, qx⟩ := HK.keep hq
  have hcall := containsK2 (w.alloc (.cells #[.string ⟨#[114, 101, 97, 100]⟩, .int .i64 0] 88)) gk off cap kindsC kRead qx (by decide)
  rw [show memK kindsC kRead = true by decide +kernel] at hcall
  have hl9 : kindsC.length = 9 := rfl
  rw [hl9] at hcall
  have v1 := E1.v1
  have v2 := E1.v2
  have v4 := E1.v4
  have v7 := E1.v7
  have e0 : ((⟨#[114, 101, 97, 100]⟩ : ByteArray).toList == (⟨#[101, 110, 116, 101, 114]⟩ : ByteArray).toList) = false := by
    rw [ByteArray.toList_eq, ByteArray.toList_eq]; rfl
  have e1 : ((⟨#[114, 101, 97, 100]⟩ : ByteArray).toList == (⟨#[108, 101, 97, 118, 101]⟩ : ByteArray).toList) = false := by
    rw [ByteArray.toList_eq, ByteArray.toList_eq]; rfl
  have e2 : ((⟨#[114, 101, 97, 100]⟩ : ByteArray).toList == (⟨#[114, 101, 115, 116]⟩ : ByteArray).toList) = false := by
    rw [ByteArray.toList_eq, ByteArray.toList_eq]; rfl
  have e3 : ((⟨#[114, 101, 97, 100]⟩ : ByteArray).toList == (⟨#[119, 97, 105, 116]⟩ : ByteArray).toList) = false := by
    rw [ByteArray.toList_eq, ByteArray.toList_eq]; rfl
  have e4 : ((⟨#[114, 101, 97, 100]⟩ : ByteArray).toList == (⟨#[102, 108, 117, 115, 104]⟩ : ByteArray).toList) = false := by
    rw [ByteArray.toList_eq, ByteArray.toList_eq]; rfl
  have e5 : ((⟨#[114, 101, 97, 100]⟩ : ByteArray).toList == (⟨#[114, 101, 97, 100]⟩ : ByteArray).toList) = true := by simp
  have e6 : ((⟨#[114, 101, 97, 100]⟩ : ByteArray).toList == (⟨#[112, 117, 116]⟩ : ByteArray).toList) = false := by
    rw [ByteArray.toList_eq, ByteArray.toList_eq]; rfl
  have e7 : ((⟨#[114, 101, 97, 100]⟩ : ByteArray).toList == (⟨#[100, 114, 111, 112]⟩ : ByteArray).toList) = false := by
    rw [ByteArray.toList_eq, ByteArray.toList_eq]; rfl
  have e8 : ((⟨#[114, 101, 97, 100]⟩ : ByteArray).toList == (⟨#[108, 97, 116, 101, 114]⟩ : ByteArray).toList) = false := by
    rw [ByteArray.toList_eq, ByteArray.toList_eq]; rfl
  have HS1 := Lib.hid hS1
  have Hq := Lib.hid hq
  have Hcall := Lib.hid hcall
  have Hcf := Lib.hid hcf
  have hbz : w.heap.size ≠ b := by have := lt_of_block hS; omega
  clear E HK hS hq hcf hS1 E1 qx hcall hl9
  go_enter Tryz.func90, Tryz.ntmps90
  go_wp2_with fail
  refine Hcall.out.mono ?_
  rintro e w2 ⟨rfl, rfl⟩
  go_wp2
  go_ret
  exact sop_bad 7 Hcf.out (by omega) rfl Hq.out.any
theorem sop_read (E : ErrsAt w a) (HK : KindsW w) (hd : 1 ≤ d) (hS : StAt w b ⟨d, r, wt, u⟩) :
    Calls Tryz.prog 90 #[.pointer (some ⟨b, 0, none⟩), .agg #[.string ⟨#[114, 101, 97, 100]⟩, .int .i64 0]] w (SopPost a ⟨d, r, wt, u⟩ (kRead, 0) b w) := by
  have hq := (Mod.refl noF w).alloc (.cells #[.string ⟨#[114, 101, 97, 100]⟩, .int .i64 0] 88)
  have hcf : cfOp ⟨d, r, wt, u⟩ (kRead, 0) = (0, ⟨d, r, wt, u⟩) := by
    unfold cfOp
    have hm : memK kindsC ⟨#[114, 101, 97, 100]⟩ = true := by decide +kernel
    simp [hm, kEnter, kLeave, kRest, kWait, kRead, kPut, kDrop, kLater, kFlush, show ¬ d = 0 by omega]
  have hS1 := hq.heap hS (fun e => e)
  have h0 := cell_of_heap hS1 0
  have h1 := cell_of_heap hS1 1
  have h2 := cell_of_heap hS1 2
  have h3 := cell_of_heap hS1 3
  have f0 := free_of_heap hS1 0
  have f1 := free_of_heap hS1 1
  have f2 := free_of_heap hS1 2
  have f3 := free_of_heap hS1 3
  replace h0 : (w.alloc (.cells #[.string ⟨#[114, 101, 97, 100]⟩, .int .i64 0] 88)).cell? ⟨b, 0, none⟩ = some (.int .i64 ((d : Nat) : Int)) := h0
  replace h1 : (w.alloc (.cells #[.string ⟨#[114, 101, 97, 100]⟩, .int .i64 0] 88)).cell? ⟨b, 1, none⟩ = some (.bool r) := h1
  replace h2 : (w.alloc (.cells #[.string ⟨#[114, 101, 97, 100]⟩, .int .i64 0] 88)).cell? ⟨b, 2, none⟩ = some (.bool wt) := h2
  replace h3 : (w.alloc (.cells #[.string ⟨#[114, 101, 97, 100]⟩, .int .i64 0] 88)).cell? ⟨b, 3, none⟩ = some (.bool u) := h3
  have E1 := E.keep hq
  obtain ⟨gk, off, cap, q0, qx⟩ := HK.keep hq
  have hcall := containsK2 (w.alloc (.cells #[.string ⟨#[114, 101, 97, 100]⟩, .int .i64 0] 88)) gk off cap kindsC kRead qx (by decide)
  rw [show memK kindsC kRead = true by decide +kernel] at hcall
  have hl9 : kindsC.length = 9 := rfl
  rw [hl9] at hcall
  have v1 := E1.v1
  have v2 := E1.v2
  have v4 := E1.v4
  have v7 := E1.v7
  have e0 : ((⟨#[114, 101, 97, 100]⟩ : ByteArray).toList == (⟨#[101, 110, 116, 101, 114]⟩ : ByteArray).toList) = false := by
    rw [ByteArray.toList_eq, ByteArray.toList_eq]; rfl
  have e1 : ((⟨#[114, 101, 97, 100]⟩ : ByteArray).toList == (⟨#[108, 101, 97, 118, 101]⟩ : ByteArray).toList) = false := by
    rw [ByteArray.toList_eq, ByteArray.toList_eq]; rfl
  have e2 : ((⟨#[114, 101, 97, 100]⟩ : ByteArray).toList == (⟨#[114, 101, 115, 116]⟩ : ByteArray).toList) = false := by
    rw [ByteArray.toList_eq, ByteArray.toList_eq]; rfl
  have e3 : ((⟨#[114, 101, 97, 100]⟩ : ByteArray).toList == (⟨#[119, 97, 105, 116]⟩ : ByteArray).toList) = false := by
    rw [ByteArray.toList_eq, ByteArray.toList_eq]; rfl
  have e4 : ((⟨#[114, 101, 97, 100]⟩ : ByteArray).toList == (⟨#[102, 108, 117, 115, 104]⟩ : ByteArray).toList) = false := by
    rw [ByteArray.toList_eq, ByteArray.toList_eq]; rfl
  have e5 : ((⟨#[114, 101, 97, 100]⟩ : ByteArray).toList == (⟨#[114, 101, 97, 100]⟩ : ByteArray).toList) = true := by simp
  have e6 : ((⟨#[114, 101, 97, 100]⟩ : ByteArray).toList == (⟨#[112, 117, 116]⟩ : ByteArray).toList) = false := by
    rw [ByteArray.toList_eq, ByteArray.toList_eq]; rfl
  have e7 : ((⟨#[114, 101, 97, 100]⟩ : ByteArray).toList == (⟨#[100, 114, 111, 112]⟩ : ByteArray).toList) = false := by
    rw [ByteArray.toList_eq, ByteArray.toList_eq]; rfl
  have e8 : ((⟨#[114, 101, 97, 100]⟩ : ByteArray).toList == (⟨#[108, 97, 116, 101, 114]⟩ : ByteArray).toList) = false := by
    rw [ByteArray.toList_eq, ByteArray.toList_eq]; rfl
  have d1 : ((d : Int) == 0) = false := by simp; omega
  have d2 : decide ((d : Int) = 0) = false := by simp; omega
  have HS1 := Lib.hid hS1
  have Hq := Lib.hid hq
  have Hcall := Lib.hid hcall
  have Hcf := Lib.hid hcf
  have hbz : w.heap.size ≠ b := by have := lt_of_block hS; omega
  clear E HK hS hq hcf hS1 E1 qx hcall hl9
  go_enter Tryz.func90, Tryz.ntmps90
  go_wp2_with fail
  refine Hcall.out.mono ?_
  rintro e w2 ⟨rfl, rfl⟩
  go_wp2
  go_ret
  exact sop_good Hcf.out HS1.out Hq.out.any
theorem sop_put_lo (E : ErrsAt w a) (HK : KindsW w) (hn : n < 1) (hS : StAt w b ⟨d, r, wt, u⟩) :
    Calls Tryz.prog 90 #[.pointer (some ⟨b, 0, none⟩), .agg #[.string ⟨#[112, 117, 116]⟩, .int .i64 n]] w (SopPost a ⟨d, r, wt, u⟩ (kPut, n) b w) := by
  have hq := (Mod.refl noF w).alloc (.cells #[.string ⟨#[112, 117, 116]⟩, .int .i64 n] 88)
  have hcf : cfOp ⟨d, r, wt, u⟩ (kPut, n) = (2, ⟨d, r, wt, u⟩) := by
    unfold cfOp
    have hm : memK kindsC ⟨#[112, 117, 116]⟩ = true := by decide +kernel
    simp [hm, kEnter, kLeave, kRest, kWait, kRead, kPut, kDrop, kLater, kFlush, hn]
  have hS1 := hq.heap hS (fun e => e)
  have h0 := cell_of_heap hS1 0
  have h1 := cell_of_heap hS1 1
  have h2 := cell_of_heap hS1 2
  have h3 := cell_of_heap hS1 3
  have f0 := free_of_heap hS1 0
  have f1 := free_of_heap hS1 1
  have f2 := free_of_heap hS1 2
  have f3 := free_of_heap hS1 3
  replace h0 : (w.alloc (.cells #[.string ⟨#[112, 117, 116]⟩, .int .i64 n] 88)).cell? ⟨b, 0, none⟩ = some (.int .i64 ((d : Nat) : Int)) := h0
  replace h1 : (w.alloc (.cells #[.string ⟨#[112, 117, 116]⟩, .int .i64 n] 88)).cell? ⟨b, 1, none⟩ = some (.bool r) := h1
  replace h2 : (w.alloc (.cells #[.string ⟨#[112, 117, 116]⟩, .int .i64 n] 88)).cell? ⟨b, 2, none⟩ = some (.bool wt) := h2
  replace h3 : (w.alloc (.cells #[.string ⟨#[112, 117, 116]⟩, .int .i64 n] 88)).cell? ⟨b, 3, none⟩ = some (.bool u) := h3
  have E1 := E.keep hq
  obtain ⟨gk, off, cap, q0, qx⟩ := HK.keep hq
  have hcall := containsK2 (w.alloc (.cells #[.string ⟨#[112, 117, 116]⟩, .int .i64 n] 88)) gk off cap kindsC kPut qx (by decide)
  rw [show memK kindsC kPut = true by decide +kernel] at hcall
  have hl9 : kindsC.length = 9 := rfl
  rw [hl9] at hcall
  have v1 := E1.v1
  have v2 := E1.v2
  have v4 := E1.v4
  have v7 := E1.v7
  have e0 : ((⟨#[112, 117, 116]⟩ : ByteArray).toList == (⟨#[101, 110, 116, 101, 114]⟩ : ByteArray).toList) = false := by
    rw [ByteArray.toList_eq, ByteArray.toList_eq]; rfl
  have e1 : ((⟨#[112, 117, 116]⟩ : ByteArray).toList == (⟨#[108, 101, 97, 118, 101]⟩ : ByteArray).toList) = false := by
    rw [ByteArray.toList_eq, ByteArray.toList_eq]; rfl
  have e2 : ((⟨#[112, 117, 116]⟩ : ByteArray).toList == (⟨#[114, 101, 115, 116]⟩ : ByteArray).toList) = false := by
    rw [ByteArray.toList_eq, ByteArray.toList_eq]; rfl
  have e3 : ((⟨#[112, 117, 116]⟩ : ByteArray).toList == (⟨#[119, 97, 105, 116]⟩ : ByteArray).toList) = false := by
    rw [ByteArray.toList_eq, ByteArray.toList_eq]; rfl
  have e4 : ((⟨#[112, 117, 116]⟩ : ByteArray).toList == (⟨#[102, 108, 117, 115, 104]⟩ : ByteArray).toList) = false := by
    rw [ByteArray.toList_eq, ByteArray.toList_eq]; rfl
  have e5 : ((⟨#[112, 117, 116]⟩ : ByteArray).toList == (⟨#[114, 101, 97, 100]⟩ : ByteArray).toList) = false := by
    rw [ByteArray.toList_eq, ByteArray.toList_eq]; rfl
  have e6 : ((⟨#[112, 117, 116]⟩ : ByteArray).toList == (⟨#[112, 117, 116]⟩ : ByteArray).toList) = true := by simp
  have e7 : ((⟨#[112, 117, 116]⟩ : ByteArray).toList == (⟨#[100, 114, 111, 112]⟩ : ByteArray).toList) = false := by
    rw [ByteArray.toList_eq, ByteArray.toList_eq]; rfl
  have e8 : ((⟨#[112, 117, 116]⟩ : ByteArray).toList == (⟨#[108, 97, 116, 101, 114]⟩ : ByteArray).toList) = false := by
    rw [ByteArray.toList_eq, ByteArray.toList_eq]; rfl
  have n1 : decide (n < 1) = true := by simpa using hn
  have HS1 := Lib.hid hS1
  have Hq := Lib.hid hq
  have Hcall := Lib.hid hcall
  have Hcf := Lib.hid hcf
  have hbz : w.heap.size ≠ b := by have := lt_of_block hS; omega
  clear E HK hS hq hcf hS1 E1 qx hcall hl9
  go_enter Tryz.func90, Tryz.ntmps90
  go_wp2_with fail
  refine Hcall.out.mono ?_
  rintro e w2 ⟨rfl, rfl⟩
  go_wp2
  go_ret
  exact sop_bad 1 Hcf.out (by omega) rfl Hq.out.any
theorem sop_put_hi (E : ErrsAt w a) (HK : KindsW w) (hn : 1000 < n) (hS : StAt w b ⟨d, r, wt, u⟩) :
    Calls Tryz.prog 90 #[.pointer (some ⟨b, 0, none⟩), .agg #[.string ⟨#[112, 117, 116]⟩, .int .i64 n]] w (SopPost a ⟨d, r, wt, u⟩ (kPut, n) b w) := by
  have hq := (Mod.refl noF w).alloc (.cells #[.string ⟨#[112, 117, 116]⟩, .int .i64 n] 88)
  have hcf : cfOp ⟨d, r, wt, u⟩ (kPut, n) = (2, ⟨d, r, wt, u⟩) := by
    unfold cfOp
    have hm : memK kindsC ⟨#[112, 117, 116]⟩ = true := by decide +kernel
    simp [hm, kEnter, kLeave, kRest, kWait, kRead, kPut, kDrop, kLater, kFlush, hn, show ¬ n < 1 by omega]
  have hS1 := hq.heap hS (fun e => e)
  have h0 := cell_of_heap hS1 0
  have h1 := cell_of_heap hS1 1
  have h2 := cell_of_heap hS1 2
  have h3 := cell_of_heap hS1 3
  have f0 := free_of_heap hS1 0
  have f1 := free_of_heap hS1 1
  have f2 := free_of_heap hS1 2
  have f3 := free_of_heap hS1 3
  replace h0 : (w.alloc (.cells #[.string ⟨#[112, 117, 116]⟩, .int .i64 n] 88)).cell? ⟨b, 0, none⟩ = some (.int .i64 ((d : Nat) : Int)) := h0
  replace h1 : (w.alloc (.cells #[.string ⟨#[112, 117, 116]⟩, .int .i64 n] 88)).cell? ⟨b, 1, none⟩ = some (.bool r) := h1
  replace h2 : (w.alloc (.cells #[.string ⟨#[112, 117, 116]⟩, .int .i64 n] 88)).cell? ⟨b, 2, none⟩ = some (.bool wt) := h2
  replace h3 : (w.alloc (.cells #[.string ⟨#[112, 117, 116]⟩, .int .i64 n] 88)).cell? ⟨b, 3, none⟩ = some (.bool u) := h3
  have E1 := E.keep hq
  obtain ⟨gk, off, cap, q0, qx⟩ := HK.keep hq
  have hcall := containsK2 (w.alloc (.cells #[.string ⟨#[112, 117, 116]⟩, .int .i64 n] 88)) gk off cap kindsC kPut qx (by decide)
  rw [show memK kindsC kPut = true by decide +kernel] at hcall
  have hl9 : kindsC.length = 9 := rfl
  rw [hl9] at hcall
  have v1 := E1.v1
  have v2 := E1.v2
  have v4 := E1.v4
  have v7 := E1.v7
  have e0 : ((⟨#[112, 117, 116]⟩ : ByteArray).toList == (⟨#[101, 110, 116, 101, 114]⟩ : ByteArray).toList) = false := by
    rw [ByteArray.toList_eq, ByteArray.toList_eq]; rfl
  have e1 : ((⟨#[112, 117, 116]⟩ : ByteArray).toList == (⟨#[108, 101, 97, 118, 101]⟩ : ByteArray).toList) = false := by
    rw [ByteArray.toList_eq, ByteArray.toList_eq]; rfl
  have e2 : ((⟨#[112, 117, 116]⟩ : ByteArray).toList == (⟨#[114, 101, 115, 116]⟩ : ByteArray).toList) = false := by
    rw [ByteArray.toList_eq, ByteArray.toList_eq]; rfl
  have e3 : ((⟨#[112, 117, 116]⟩ : ByteArray).toList == (⟨#[119, 97, 105, 116]⟩ : ByteArray).toList) = false := by
    rw [ByteArray.toList_eq, ByteArray.toList_eq]; rfl
  have e4 : ((⟨#[112, 117, 116]⟩ : ByteArray).toList == (⟨#[102, 108, 117, 115, 104]⟩ : ByteArray).toList) = false := by
    rw [ByteArray.toList_eq, ByteArray.toList_eq]; rfl
  have e5 : ((⟨#[112, 117, 116]⟩ : ByteArray).toList == (⟨#[114, 101, 97, 100]⟩ : ByteArray).toList) = false := by
    rw [ByteArray.toList_eq, ByteArray.toList_eq]; rfl
  have e6 : ((⟨#[112, 117, 116]⟩ : ByteArray).toList == (⟨#[112, 117, 116]⟩ : ByteArray).toList) = true := by simp
  have e7 : ((⟨#[112, 117, 116]⟩ : ByteArray).toList == (⟨#[100, 114, 111, 112]⟩ : ByteArray).toList) = false := by
    rw [ByteArray.toList_eq, ByteArray.toList_eq]; rfl
  have e8 : ((⟨#[112, 117, 116]⟩ : ByteArray).toList == (⟨#[108, 97, 116, 101, 114]⟩ : ByteArray).toList) = false := by
    rw [ByteArray.toList_eq, ByteArray.toList_eq]; rfl
  have n1 : decide (n < 1) = false := by simp; omega
  have n2 : decide (1000 < n) = true := by simpa using hn
  have HS1 := Lib.hid hS1
  have Hq := Lib.hid hq
  have Hcall := Lib.hid hcall
  have Hcf := Lib.hid hcf
  have hbz : w.heap.size ≠ b := by have := lt_of_block hS; omega
  clear E HK hS hq hcf hS1 E1 qx hcall hl9
  go_enter Tryz.func90, Tryz.ntmps90
  go_wp2_with fail
  refine Hcall.out.mono ?_
  rintro e w2 ⟨rfl, rfl⟩
  go_wp2
  go_ret
  exact sop_bad 1 Hcf.out (by omega) rfl Hq.out.any
theorem sop_put_d (E : ErrsAt w a) (HK : KindsW w) (hn : 1 ≤ n) (hn2 : n ≤ 1000) (hd : 1 ≤ d) (hS : StAt w b ⟨d, r, wt, u⟩) :
    Calls Tryz.prog 90 #[.pointer (some ⟨b, 0, none⟩), .agg #[.string ⟨#[112, 117, 116]⟩, .int .i64 n]] w (SopPost a ⟨d, r, wt, u⟩ (kPut, n) b w) := by
  have hq := (Mod.refl noF w).alloc (.cells #[.string ⟨#[112, 117, 116]⟩, .int .i64 n] 88)
  have hcf : cfOp ⟨d, r, wt, u⟩ (kPut, n) = (8, ⟨d, r, wt, u⟩) := by
    unfold cfOp
    have hm : memK kindsC ⟨#[112, 117, 116]⟩ = true := by decide +kernel
    simp [hm, kEnter, kLeave, kRest, kWait, kRead, kPut, kDrop, kLater, kFlush, show ¬ n < 1 by omega, show ¬ 1000 < n by omega, show ¬ d = 0 by omega]
  have hS1 := hq.heap hS (fun e => e)
  have h0 := cell_of_heap hS1 0
  have h1 := cell_of_heap hS1 1
  have h2 := cell_of_heap hS1 2
  have h3 := cell_of_heap hS1 3
  have f0 := free_of_heap hS1 0
  have f1 := free_of_heap hS1 1
  have f2 := free_of_heap hS1 2
  have f3 := free_of_heap hS1 3
  replace h0 : (w.alloc (.cells #[.string ⟨#[112, 117, 116]⟩, .int .i64 n] 88)).cell? ⟨b, 0, none⟩ = some (.int .i64 ((d : Nat) : Int)) := h0
  replace h1 : (w.alloc (.cells #[.string ⟨#[112, 117, 116]⟩, .int .i64 n] 88)).cell? ⟨b, 1, none⟩ = some (.bool r) := h1
  replace h2 : (w.alloc (.cells #[.string ⟨#[112, 117, 116]⟩, .int .i64 n] 88)).cell? ⟨b, 2, none⟩ = some (.bool wt) := h2
  replace h3 : (w.alloc (.cells #[.string ⟨#[112, 117, 116]⟩, .int .i64 n] 88)).cell? ⟨b, 3, none⟩ = some (.bool u) := h3
  have E1 := E.keep hq
  obtain ⟨gk, off, cap, q0, qx⟩ := HK.keep hq
  have hcall := containsK2 (w.alloc (.cells #[.string ⟨#[112, 117, 116]⟩, .int .i64 n] 88)) gk off cap kindsC kPut qx (by decide)
  rw [show memK kindsC kPut = true by decide +kernel] at hcall
  have hl9 : kindsC.length = 9 := rfl
  rw [hl9] at hcall
  have v1 := E1.v1
  have v2 := E1.v2
  have v4 := E1.v4
  have v7 := E1.v7
  have e0 : ((⟨#[112, 117, 116]⟩ : ByteArray).toList == (⟨#[101, 110, 116, 101, 114]⟩ : ByteArray).toList) = false := by
    rw [ByteArray.toList_eq, ByteArray.toList_eq]; rfl
  have e1 : ((⟨#[112, 117, 116]⟩ : ByteArray).toList == (⟨#[108, 101, 97, 118, 101]⟩ : ByteArray).toList) = false := by
    rw [ByteArray.toList_eq, ByteArray.toList_eq]; rfl
  have e2 : ((⟨#[112, 117, 116]⟩ : ByteArray).toList == (⟨#[114, 101, 115, 116]⟩ : ByteArray).toList) = false := by
    rw [ByteArray.toList_eq, ByteArray.toList_eq]; rfl
  have e3 : ((⟨#[112, 117, 116]⟩ : ByteArray).toList == (⟨#[119, 97, 105, 116]⟩ : ByteArray).toList) = false := by
    rw [ByteArray.toList_eq, ByteArray.toList_eq]; rfl
  have e4 : ((⟨#[112, 117, 116]⟩ : ByteArray).toList == (⟨#[102, 108, 117, 115, 104]⟩ : ByteArray).toList) = false := by
    rw [ByteArray.toList_eq, ByteArray.toList_eq]; rfl
  have e5 : ((⟨#[112, 117, 116]⟩ : ByteArray).toList == (⟨#[114, 101, 97, 100]⟩ : ByteArray).toList) = false := by
    rw [ByteArray.toList_eq, ByteArray.toList_eq]; rfl
  have e6 : ((⟨#[112, 117, 116]⟩ : ByteArray).toList == (⟨#[112, 117, 116]⟩ : ByteArray).toList) = true := by simp
  have e7 : ((⟨#[112, 117, 116]⟩ : ByteArray).toList == (⟨#[100, 114, 111, 112]⟩ : ByteArray).toList) = false := by
    rw [ByteArray.toList_eq, ByteArray.toList_eq]; rfl
  have e8 : ((⟨#[112, 117, 116]⟩ : ByteArray).toList == (⟨#[108, 97, 116, 101, 114]⟩ : ByteArray).toList) = false := by
    rw [ByteArray.toList_eq, ByteArray.toList_eq]; rfl
  have n1 : decide (n < 1) = false := by simp; omega
  have n2 : decide (1000 < n) = false := by simp; omega
  have d1 : ((d : Int) == 0) = false := by simp; omega
  have d2 : decide ((d : Int) = 0) = false := by simp; omega
  have HS1 := Lib.hid hS1
  have Hq := Lib.hid hq
  have Hcall := Lib.hid hcall
  have Hcf := Lib.hid hcf
  have hbz : w.heap.size ≠ b := by have := lt_of_block hS; omega
  clear E HK hS hq hcf hS1 E1 qx hcall hl9
  go_enter Tryz.func90, Tryz.ntmps90
  go_wp2_with fail
  refine Hcall.out.mono ?_
  rintro e w2 ⟨rfl, rfl⟩
  go_wp2
  go_ret
  exact sop_bad 7 Hcf.out (by omega) rfl Hq.out.any
theorem sop_put_r (E : ErrsAt w a) (HK : KindsW w) (hn : 1 ≤ n) (hn2 : n ≤ 1000) (hS : StAt w b ⟨0, true, wt, u⟩) :
    Calls Tryz.prog 90 #[.pointer (some ⟨b, 0, none⟩), .agg #[.string ⟨#[112, 117, 116]⟩, .int .i64 n]] w (SopPost a ⟨0, true, wt, u⟩ (kPut, n) b w) := by
  have hq := (Mod.refl noF w).alloc (.cells #[.string ⟨#[112, 117, 116]⟩, .int .i64 n] 88)
  have hcf : cfOp ⟨0, true, wt, u⟩ (kPut, n) = (8, ⟨0, true, wt, u⟩) := by
    unfold cfOp
    have hm : memK kindsC ⟨#[112, 117, 116]⟩ = true := by decide +kernel
    simp [hm, kEnter, kLeave, kRest, kWait, kRead, kPut, kDrop, kLater, kFlush, show ¬ n < 1 by omega, show ¬ 1000 < n by omega]
  have hS1 := hq.heap hS (fun e => e)
  have h0 := cell_of_heap hS1 0
  have h1 := cell_of_heap hS1 1
  have h2 := cell_of_heap hS1 2
  have h3 := cell_of_heap hS1 3
  have f0 := free_of_heap hS1 0
  have f1 := free_of_heap hS1 1
  have f2 := free_of_heap hS1 2
  have f3 := free_of_heap hS1 3
  replace h0 : (w.alloc (.cells #[.string ⟨#[112, 117, 116]⟩, .int .i64 n] 88)).cell? ⟨b, 0, none⟩ = some (.int .i64 ((0 : Nat) : Int)) := h0
  replace h1 : (w.alloc (.cells #[.string ⟨#[112, 117, 116]⟩, .int .i64 n] 88)).cell? ⟨b, 1, none⟩ = some (.bool true) := h1
  replace h2 : (w.alloc (.cells #[.string ⟨#[112, 117, 116]⟩, .int .i64 n] 88)).cell? ⟨b, 2, none⟩ = some (.bool wt) := h2
  replace h3 : (w.alloc (.cells #[.string ⟨#[112, 117, 116]⟩, .int .i64 n] 88)).cell? ⟨b, 3, none⟩ = some (.bool u) := h3
  have E1 := E.keep hq
  obtain ⟨gk, off, cap, q0, qx⟩ := HK.keep hq
  have hcall := containsK2 (w.alloc (.cells #[.string ⟨#[112, 117, 116]⟩, .int .i64 n] 88)) gk off cap kindsC kPut qx (by decide)
  rw [show memK kindsC kPut = true by decide +kernel] at hcall
  have hl9 : kindsC.length = 9 := rfl
  rw [hl9] at hcall
  have v1 := E1.v1
  have v2 := E1.v2
  have v4 := E1.v4
  have v7 := E1.v7
  have e0 : ((⟨#[112, 117, 116]⟩ : ByteArray).toList == (⟨#[101, 110, 116, 101, 114]⟩ : ByteArray).toList) = false := by
    rw [ByteArray.toList_eq, ByteArray.toList_eq]; rfl
  have e1 : ((⟨#[112, 117, 116]⟩ : ByteArray).toList == (⟨#[108, 101, 97, 118, 101]⟩ : ByteArray).toList) = false := by
    rw [ByteArray.toList_eq, ByteArray.toList_eq]; rfl
  have e2 : ((⟨#[112, 117, 116]⟩ : ByteArray).toList == (⟨#[114, 101, 115, 116]⟩ : ByteArray).toList) = false := by
    rw [ByteArray.toList_eq, ByteArray.toList_eq]; rfl
  have e3 : ((⟨#[112, 117, 116]⟩ : ByteArray).toList == (⟨#[119, 97, 105, 116]⟩ : ByteArray).toList) = false := by
    rw [ByteArray.toList_eq, ByteArray.toList_eq]; rfl
  have e4 : ((⟨#[112, 117, 116]⟩ : ByteArray).toList == (⟨#[102, 108, 117, 115, 104]⟩ : ByteArray).toList) = false := by
    rw [ByteArray.toList_eq, ByteArray.toList_eq]; rfl
  have e5 : ((⟨#[112, 117, 116]⟩ : ByteArray).toList == (⟨#[114, 101, 97, 100]⟩ : ByteArray).toList) = false := by
    rw [ByteArray.toList_eq, ByteArray.toList_eq]; rfl
  have e6 : ((⟨#[112, 117, 116]⟩ : ByteArray).toList == (⟨#[112, 117, 116]⟩ : ByteArray).toList) = true := by simp
  have e7 : ((⟨#[112, 117, 116]⟩ : ByteArray).toList == (⟨#[100, 114, 111, 112]⟩ : ByteArray).toList) = false := by
    rw [ByteArray.toList_eq, ByteArray.toList_eq]; rfl
  have e8 : ((⟨#[112, 117, 116]⟩ : ByteArray).toList == (⟨#[108, 97, 116, 101, 114]⟩ : ByteArray).toList) = false := by
    rw [ByteArray.toList_eq, ByteArray.toList_eq]; rfl
  have n1 : decide (n < 1) = false := by simp; omega
  have n2 : decide (1000 < n) = false := by simp; omega
  have HS1 := Lib.hid hS1
  have Hq := Lib.hid hq
  have Hcall := Lib.hid hcall
  have Hcf := Lib.hid hcf
  have hbz : w.heap.size ≠ b := by have := lt_of_block hS; omega
  clear E HK hS hq hcf hS1 E1 qx hcall hl9
  go_enter Tryz.func90, Tryz.ntmps90
  go_wp2_with fail
  refine Hcall.out.mono ?_
  rintro e w2 ⟨rfl, rfl⟩
  go_wp2
  go_ret
  exact sop_bad 7 Hcf.out (by omega) rfl Hq.out.any
theorem sop_put (E : ErrsAt w a) (HK : KindsW w) (hn : 1 ≤ n) (hn2 : n ≤ 1000) (hS : StAt w b ⟨0, false, wt, u⟩) :
    Calls Tryz.prog 90 #[.pointer (some ⟨b, 0, none⟩), .agg #[.string ⟨#[112, 117, 116]⟩, .int .i64 n]] w (SopPost a ⟨0, false, wt, u⟩ (kPut, n) b w) := by
  have hq := (Mod.refl noF w).alloc (.cells #[.string ⟨#[112, 117, 116]⟩, .int .i64 n] 88)
  have hcf : cfOp ⟨0, false, wt, u⟩ (kPut, n) = (0, ⟨0, true, false, u⟩) := by
    unfold cfOp
    have hm : memK kindsC ⟨#[112, 117, 116]⟩ = true := by decide +kernel
    simp [hm, kEnter, kLeave, kRest, kWait, kRead, kPut, kDrop, kLater, kFlush, show ¬ n < 1 by omega, show ¬ 1000 < n by omega]
  have hS1 := hq.heap hS (fun e => e)
  have h0 := cell_of_heap hS1 0
  have h1 := cell_of_heap hS1 1
  have h2 := cell_of_heap hS1 2
  have h3 := cell_of_heap hS1 3
  have f0 := free_of_heap hS1 0
  have f1 := free_of_heap hS1 1
  have f2 := free_of_heap hS1 2
  have f3 := free_of_heap hS1 3
  replace h0 : (w.alloc (.cells #[.string ⟨#[112, 117, 116]⟩, .int .i64 n] 88)).cell? ⟨b, 0, none⟩ = some (.int .i64 ((0 : Nat) : Int)) := h0
  replace h1 : (w.alloc (.cells #[.string ⟨#[112, 117, 116]⟩, .int .i64 n] 88)).cell? ⟨b, 1, none⟩ = some (.bool false) := h1
  replace h2 : (w.alloc (.cells #[.string ⟨#[112, 117, 116]⟩, .int .i64 n] 88)).cell? ⟨b, 2, none⟩ = some (.bool wt) := h2
  replace h3 : (w.alloc (.cells #[.string ⟨#[112, 117, 116]⟩, .int .i64 n] 88)).cell? ⟨b, 3, none⟩ = some (.bool u) := h3
  have E1 := E.keep hq
  obtain ⟨gk, off, cap, q0, qx⟩ := HK.keep hq
  have hcall := containsK2 (w.alloc (.cells #[.string ⟨#[112, 117, 116]⟩, .int .i64 n] 88)) gk off cap kindsC kPut qx (by decide)
  rw [show memK kindsC kPut = true by decide +kernel] at hcall
  have hl9 : kindsC.length = 9 := rfl
  rw [hl9] at hcall
  have v1 := E1.v1
  have v2 := E1.v2
  have v4 := E1.v4
  have v7 := E1.v7
  have e0 : ((⟨#[112, 117, 116]⟩ : ByteArray).toList == (⟨#[101, 110, 116, 101, 114]⟩ : ByteArray).toList) = false := by
    rw [ByteArray.toList_eq, ByteArray.toList_eq]; rfl
  have e1 : ((⟨#[112, 117, 116]⟩ : ByteArray).toList == (⟨#[108, 101, 97, 118, 101]⟩ : ByteArray).toList) = false := by
    rw [ByteArray.toList_eq, ByteArray.toList_eq]; rfl
  have e2 : ((⟨#[112, 117, 116]⟩ : ByteArray).toList == (⟨#[114, 101, 115, 116]⟩ : ByteArray).toList) = false := by
    rw [ByteArray.toList_eq, ByteArray.toList_eq]; rfl
  have e3 : ((⟨#[112, 117, 116]⟩ : ByteArray).toList == (⟨#[119, 97, 105, 116]⟩ : ByteArray).toList) = false := by
    rw [ByteArray.toList_eq, ByteArray.toList_eq]; rfl
  have e4 : ((⟨#[112, 117, 116]⟩ : ByteArray).toList == (⟨#[102, 108, 117, 115, 104]⟩ : ByteArray).toList) = false := by
    rw [ByteArray.toList_eq, ByteArray.toList_eq]; rfl
  have e5 : ((⟨#[112, 117, 116]⟩ : ByteArray).toList == (⟨#[114, 101, 97, 100]⟩ : ByteArray).toList) = false := by
    rw [ByteArray.toList_eq, ByteArray.toList_eq]; rfl
  have e6 : ((⟨#[112, 117, 116]⟩ : ByteArray).toList == (⟨#[112, 117, 116]⟩ : ByteArray).toList) = true := by simp
  have e7 : ((⟨#[112, 117, 116]⟩ : ByteArray).toList == (⟨#[100, 114, 111, 112]⟩ : ByteArray).toList) = false := by
    rw [ByteArray.toList_eq, ByteArray.toList_eq]; rfl
  have e8 : ((⟨#[112, 117, 116]⟩ : ByteArray).toList == (⟨#[108, 97, 116, 101, 114]⟩ : ByteArray).toList) = false := by
    rw [ByteArray.toList_eq, ByteArray.toList_eq]; rfl
  have n1 : decide (n < 1) = false := by simp; omega
  have n2 : decide (1000 < n) = false := by simp; omega
  have HS1 := Lib.hid hS1
  have Hq := Lib.hid hq
  have Hcall := Lib.hid hcall
  have Hcf := Lib.hid hcf
  have hbz : w.heap.size ≠ b := by have := lt_of_block hS; omega
  clear E HK hS hq hcf hS1 E1 qx hcall hl9
  go_enter Tryz.func90, Tryz.ntmps90
  go_wp2_with fail
  refine Hcall.out.mono ?_
  rintro e w2 ⟨rfl, rfl⟩
  go_wp2
  go_ret
  refine sop_good Hcf.out ?_ (((show Qh.Mod (fun k => k = b) w _ from Hq.out.any).setCell (fun _ => rfl) _).setCell (fun _ => rfl) _)
  unfold StAt
  rw [Qh.heap_setCell_same (Qh.heap_setCell_same (HS1.out) 1 _) 2 _]; rfl
theorem sop_drop_r (E : ErrsAt w a) (HK : KindsW w) (hS : StAt w b ⟨d, false, wt, u⟩) :
    Calls Tryz.prog 90 #[.pointer (some ⟨b, 0, none⟩), .agg #[.string ⟨#[100, 114, 111, 112]⟩, .int .i64 0]] w (SopPost a ⟨d, false, wt, u⟩ (kDrop, 0) b w) := by
  have hq := (Mod.refl noF w).alloc (.cells #[.string ⟨#[100, 114, 111, 112]⟩, .int .i64 0] 88)
  have hcf : cfOp ⟨d, false, wt, u⟩ (kDrop, 0) = (5, ⟨d, false, wt, u⟩) := by
    unfold cfOp
    have hm : memK kindsC ⟨#[100, 114, 111, 112]⟩ = true := by decide +kernel
    simp [hm, kEnter, kLeave, kRest, kWait, kRead, kPut, kDrop, kLater, kFlush]
  have hS1 := hq.heap hS (fun e => e)
  have h0 := cell_of_heap hS1 0
  have h1 := cell_of_heap hS1 1
  have h2 := cell_of_heap hS1 2
  have h3 := cell_of_heap hS1 3
  have f0 := free_of_heap hS1 0
  have f1 := free_of_heap hS1 1
  have f2 := free_of_heap hS1 2
  have f3 := free_of_heap hS1 3
  replace h0 : (w.alloc (.cells #[.string ⟨#[100, 114, 111, 112]⟩, .int .i64 0] 88)).cell? ⟨b, 0, none⟩ = some (.int .i64 ((d : Nat) : Int)) := h0
  replace h1 : (w.alloc (.cells #[.string ⟨#[100, 114, 111, 112]⟩, .int .i64 0] 88)).cell? ⟨b, 1, none⟩ = some (.bool false) := h1
  replace h2 : (w.alloc (.cells #[.string ⟨#[100, 114, 111, 112]⟩, .int .i64 0] 88)).cell? ⟨b, 2, none⟩ = some (.bool wt) := h2
  replace h3 : (w.alloc (.cells #[.string ⟨#[100, 114, 111, 112]⟩, .int .i64 0] 88)).cell? ⟨b, 3, none⟩ = some (.bool u) := h3
  have E1 := E.keep hq
  obtain ⟨gk, off, cap, q0, qx⟩ := HK.keep hq
  have hcall := containsK2 (w.alloc (.cells #[.string ⟨#[100, 114, 111, 112]⟩, .int .i64 0] 88)) gk off cap kindsC kDrop qx (by decide)
  rw [show memK kindsC kDrop = true by decide +kernel] at hcall
  have hl9 : kindsC.length = 9 := rfl
  rw [hl9] at hcall
  have v1 := E1.v1
  have v2 := E1.v2
  have v4 := E1.v4
  have v7 := E1.v7
  have e0 : ((⟨#[100, 114, 111, 112]⟩ : ByteArray).toList == (⟨#[101, 110, 116, 101, 114]⟩ : ByteArray).toList) = false := by
    rw [ByteArray.toList_eq, ByteArray.toList_eq]; rfl
  have e1 : ((⟨#[100, 114, 111, 112]⟩ : ByteArray).toList == (⟨#[108, 101, 97, 118, 101]⟩ : ByteArray).toList) = false := by
    rw [ByteArray.toList_eq, ByteArray.toList_eq]; rfl
  have e2 : ((⟨#[100, 114, 111, 112]⟩ : ByteArray).toList == (⟨#[114, 101, 115, 116]⟩ : ByteArray).toList) = false := by
    rw [ByteArray.toList_eq, ByteArray.toList_eq]; rfl
  have e3 : ((⟨#[100, 114, 111, 112]⟩ : ByteArray).toList == (⟨#[119, 97, 105, 116]⟩ : ByteArray).toList) = false := by
    rw [ByteArray.toList_eq, ByteArray.toList_eq]; rfl
  have e4 : ((⟨#[100, 114, 111, 112]⟩ : ByteArray).toList == (⟨#[102, 108, 117, 115, 104]⟩ : ByteArray).toList) = false := by
    rw [ByteArray.toList_eq, ByteArray.toList_eq]; rfl
  have e5 : ((⟨#[100, 114, 111, 112]⟩ : ByteArray).toList == (⟨#[114, 101, 97, 100]⟩ : ByteArray).toList) = false := by
    rw [ByteArray.toList_eq, ByteArray.toList_eq]; rfl
  have e6 : ((⟨#[100, 114, 111, 112]⟩ : ByteArray).toList == (⟨#[112, 117, 116]⟩ : ByteArray).toList) = false := by
    rw [ByteArray.toList_eq, ByteArray.toList_eq]; rfl
  have e7 : ((⟨#[100, 114, 111, 112]⟩ : ByteArray).toList == (⟨#[100, 114, 111, 112]⟩ : ByteArray).toList) = true := by simp
  have e8 : ((⟨#[100, 114, 111, 112]⟩ : ByteArray).toList == (⟨#[108, 97, 116, 101, 114]⟩ : ByteArray).toList) = false := by
    rw [ByteArray.toList_eq, ByteArray.toList_eq]; rfl
  have HS1 := Lib.hid hS1
  have Hq := Lib.hid hq
  have Hcall := Lib.hid hcall
  have Hcf := Lib.hid hcf
  have hbz : w.heap.size ≠ b := by have := lt_of_block hS; omega
  clear E HK hS hq hcf hS1 E1 qx hcall hl9
  go_enter Tryz.func90, Tryz.ntmps90
  go_wp2_with fail
  refine Hcall.out.mono ?_
  rintro e w2 ⟨rfl, rfl⟩
  go_wp2
  go_ret
  exact sop_bad 4 Hcf.out (by omega) rfl Hq.out.any
theorem sop_drop_u (E : ErrsAt w a) (HK : KindsW w) (hS : StAt w b ⟨d, true, wt, true⟩) :
    Calls Tryz.prog 90 #[.pointer (some ⟨b, 0, none⟩), .agg #[.string ⟨#[100, 114, 111, 112]⟩, .int .i64 0]] w (SopPost a ⟨d, true, wt, true⟩ (kDrop, 0) b w) := by
  have hq := (Mod.refl noF w).alloc (.cells #[.string ⟨#[100, 114, 111, 112]⟩, .int .i64 0] 88)
  have hcf : cfOp ⟨d, true, wt, true⟩ (kDrop, 0) = (0, ⟨d, false, wt, true⟩) := by
    unfold cfOp
    have hm : memK kindsC ⟨#[100, 114, 111, 112]⟩ = true := by decide +kernel
    simp [hm, kEnter, kLeave, kRest, kWait, kRead, kPut, kDrop, kLater, kFlush]
  have hS1 := hq.heap hS (fun e => e)
  have h0 := cell_of_heap hS1 0
  have h1 := cell_of_heap hS1 1
  have h2 := cell_of_heap hS1 2
  have h3 := cell_of_heap hS1 3
  have f0 := free_of_heap hS1 0
  have f1 := free_of_heap hS1 1
  have f2 := free_of_heap hS1 2
  have f3 := free_of_heap hS1 3
  replace h0 : (w.alloc (.cells #[.string ⟨#[100, 114, 111, 112]⟩, .int .i64 0] 88)).cell? ⟨b, 0, none⟩ = some (.int .i64 ((d : Nat) : Int)) := h0
  replace h1 : (w.alloc (.cells #[.string ⟨#[100, 114, 111, 112]⟩, .int .i64 0] 88)).cell? ⟨b, 1, none⟩ = some (.bool true) := h1
  replace h2 : (w.alloc (.cells #[.string ⟨#[100, 114, 111, 112]⟩, .int .i64 0] 88)).cell? ⟨b, 2, none⟩ = some (.bool wt) := h2
  replace h3 : (w.alloc (.cells #[.string ⟨#[100, 114, 111, 112]⟩, .int .i64 0] 88)).cell? ⟨b, 3, none⟩ = some (.bool true) := h3
  have E1 := E.keep hq
  obtain ⟨gk, off, cap, q0, qx⟩ := HK.keep hq
  have hcall := containsK2 (w.alloc (.cells #[.string ⟨#[100, 114, 111, 112]⟩, .int .i64 0] 88)) gk off cap kindsC kDrop qx (by decide)
  rw [show memK kindsC kDrop = true by decide +kernel] at hcall
  have hl9 : kindsC.length = 9 := rfl
  rw [hl9] at hcall
  have v1 := E1.v1
  have v2 := E1.v2
  have v4 := E1.v4
  have v7 := E1.v7
  have e0 : ((⟨#[100, 114, 111, 112]⟩ : ByteArray).toList == (⟨#[101, 110, 116, 101, 114]⟩ : ByteArray).toList) = false := by
    rw [ByteArray.toList_eq, ByteArray.toList_eq]; rfl
  have e1 : ((⟨#[100, 114, 111, 112]⟩ : ByteArray).toList == (⟨#[108, 101, 97, 118, 101]⟩ : ByteArray).toList) = false := by
    rw [ByteArray.toList_eq, ByteArray.toList_eq]; rfl
  have e2 : ((⟨#[100, 114, 111, 112]⟩ : ByteArray).toList == (⟨#[114, 101, 115, 116]⟩ : ByteArray).toList) = false := by
    rw [ByteArray.toList_eq, ByteArray.toList_eq]; rfl
  have e3 : ((⟨#[100, 114, 111, 112]⟩ : ByteArray).toList == (⟨#[119, 97, 105, 116]⟩ : ByteArray).toList) = false := by
    rw [ByteArray.toList_eq, ByteArray.toList_eq]; rfl
  have e4 : ((⟨#[100, 114, 111, 112]⟩ : ByteArray).toList == (⟨#[102, 108, 117, 115, 104]⟩ : ByteArray).toList) = false := by
    rw [ByteArray.toList_eq, ByteArray.toList_eq]; rfl
  have e5 : ((⟨#[100, 114, 111, 112]⟩ : ByteArray).toList == (⟨#[114, 101, 97, 100]⟩ : ByteArray).toList) = false := by
    rw [ByteArray.toList_eq, ByteArray.toList_eq]; rfl
  have e6 : ((⟨#[100, 114, 111, 112]⟩ : ByteArray).toList == (⟨#[112, 117, 116]⟩ : ByteArray).toList) = false := by
    rw [ByteArray.toList_eq, ByteArray.toList_eq]; rfl
  have e7 : ((⟨#[100, 114, 111, 112]⟩ : ByteArray).toList == (⟨#[100, 114, 111, 112]⟩ : ByteArray).toList) = true := by simp
  have e8 : ((⟨#[100, 114, 111, 112]⟩ : ByteArray).toList == (⟨#[108, 97, 116, 101, 114]⟩ : ByteArray).toList) = false := by
    rw [ByteArray.toList_eq, ByteArray.toList_eq]; rfl
  have HS1 := Lib.hid hS1
  have Hq := Lib.hid hq
  have Hcall := Lib.hid hcall
  have Hcf := Lib.hid hcf
  have hbz : w.heap.size ≠ b := by have := lt_of_block hS; omega
  clear E HK hS hq hcf hS1 E1 qx hcall hl9
  go_enter Tryz.func90, Tryz.ntmps90
  go_wp2_with fail
  refine Hcall.out.mono ?_
  rintro e w2 ⟨rfl, rfl⟩
  go_wp2
  go_ret
  refine sop_good Hcf.out ?_ (((show Qh.Mod (fun k => k = b) w _ from Hq.out.any).setCell (fun _ => rfl) _).setCell (fun _ => rfl) _)
  unfold StAt
  rw [Qh.heap_setCell_same (Qh.heap_setCell_same (HS1.out) 1 _) 3 _]; rfl
theorem sop_later_r (E : ErrsAt w a) (HK : KindsW w) (hS : StAt w b ⟨d, false, wt, u⟩) :
    Calls Tryz.prog 90 #[.pointer (some ⟨b, 0, none⟩), .agg #[.string ⟨#[108, 97, 116, 101, 114]⟩, .int .i64 0]] w (SopPost a ⟨d, false, wt, u⟩ (kLater, 0) b w) := by
  have hq := (Mod.refl noF w).alloc (.cells #[.string ⟨#[108, 97, 116, 101, 114]⟩, .int .i64 0] 88)
  have hcf : cfOp ⟨d, false, wt, u⟩ (kLater, 0) = (5, ⟨d, false, wt, u⟩) := by
    unfold cfOp
    have hm : memK kindsC ⟨#[108, 97, 116, 101, 114]⟩ = true := by decide +kernel
    simp [hm, kEnter, kLeave, kRest, kWait, kRead, kPut, kDrop, kLater, kFlush]
  have hS1 := hq.heap hS (fun e => e)
  have h0 := cell_of_heap hS1 0
  have h1 := cell_of_heap hS1 1
  have h2 := cell_of_heap hS1 2
  have h3 := cell_of_heap hS1 3
  have f0 := free_of_heap hS1 0
  have f1 := free_of_heap hS1 1
  have f2 := free_of_heap hS1 2
  have f3 := free_of_heap hS1 3
  replace h0 : (w.alloc (.cells #[.string ⟨#[108, 97, 116, 101, 114]⟩, .int .i64 0] 88)).cell? ⟨b, 0, none⟩ = some (.int .i64 ((d : Nat) : Int)) := h0
  replace h1 : (w.alloc (.cells #[.string ⟨#[108, 97, 116, 101, 114]⟩, .int .i64 0] 88)).cell? ⟨b, 1, none⟩ = some (.bool false) := h1
  replace h2 : (w.alloc (.cells #[.string ⟨#[108, 97, 116, 101, 114]⟩, .int .i64 0] 88)).cell? ⟨b, 2, none⟩ = some (.bool wt) := h2
  replace h3 : (w.alloc (.cells #[.string ⟨#[108, 97, 116, 101, 114]⟩, .int .i64 0] 88)).cell? ⟨b, 3, none⟩ = some (.bool u) := h3
  have E1 := E.keep hq
  obtain ⟨gk, off, cap, q0, qx⟩ := HK.keep hq
  have hcall := containsK2 (w.alloc (.cells #[.string ⟨#[108, 97, 116, 101, 114]⟩, .int .i64 0] 88)) gk off cap kindsC kLater qx (by decide)
  rw [show memK kindsC kLater = true by decide +kernel] at hcall
  have hl9 : kindsC.length = 9 := rfl
  rw [hl9] at hcall
  have v1 := E1.v1
  have v2 := E1.v2
  have v4 := E1.v4
  have v7 := E1.v7
  have e0 : ((⟨#[108, 97, 116, 101, 114]⟩ : ByteArray).toList == (⟨#[101, 110, 116, 101, 114]⟩ : ByteArray).toList) = false := by
    rw [ByteArray.toList_eq, ByteArray.toList_eq]; rfl
  have e1 : ((⟨#[108, 97, 116, 101, 114]⟩ : ByteArray).toList == (⟨#[108, 101, 97, 118, 101]⟩ : ByteArray).toList) = false := by
    rw [ByteArray.toList_eq, ByteArray.toList_eq]; rfl
  have e2 : ((⟨#[108, 97, 116, 101, 114]⟩ : ByteArray).toList == (⟨#[114, 101, 115, 116]⟩ : ByteArray).toList) = false := by
    rw [ByteArray.toList_eq, ByteArray.toList_eq]; rfl
  have e3 : ((⟨#[108, 97, 116, 101, 114]⟩ : ByteArray).toList == (⟨#[119, 97, 105, 116]⟩ : ByteArray).toList) = false := by
    rw [ByteArray.toList_eq, ByteArray.toList_eq]; rfl
  have e4 : ((⟨#[108, 97, 116, 101, 114]⟩ : ByteArray).toList == (⟨#[102, 108, 117, 115, 104]⟩ : ByteArray).toList) = false := by
    rw [ByteArray.toList_eq, ByteArray.toList_eq]; rfl
  have e5 : ((⟨#[108, 97, 116, 101, 114]⟩ : ByteArray).toList == (⟨#[114, 101, 97, 100]⟩ : ByteArray).toList) = false := by
    rw [ByteArray.toList_eq, ByteArray.toList_eq]; rfl
  have e6 : ((⟨#[108, 97, 116, 101, 114]⟩ : ByteArray).toList == (⟨#[112, 117, 116]⟩ : ByteArray).toList) = false := by
    rw [ByteArray.toList_eq, ByteArray.toList_eq]; rfl
  have e7 : ((⟨#[108, 97, 116, 101, 114]⟩ : ByteArray).toList == (⟨#[100, 114, 111, 112]⟩ : ByteArray).toList) = false := by
    rw [ByteArray.toList_eq, ByteArray.toList_eq]; rfl
  have e8 : ((⟨#[108, 97, 116, 101, 114]⟩ : ByteArray).toList == (⟨#[108, 97, 116, 101, 114]⟩ : ByteArray).toList) = true := by simp
  have HS1 := Lib.hid hS1
  have Hq := Lib.hid hq
  have Hcall := Lib.hid hcall
  have Hcf := Lib.hid hcf
  have hbz : w.heap.size ≠ b := by have := lt_of_block hS; omega
  clear E HK hS hq hcf hS1 E1 qx hcall hl9
  go_enter Tryz.func90, Tryz.ntmps90
  go_wp2_with fail
  refine Hcall.out.mono ?_
  rintro e w2 ⟨rfl, rfl⟩
  go_wp2
  go_ret
  exact sop_bad 4 Hcf.out (by omega) rfl Hq.out.any
theorem sop_later_u (E : ErrsAt w a) (HK : KindsW w) (hS : StAt w b ⟨d, true, wt, true⟩) :
    Calls Tryz.prog 90 #[.pointer (some ⟨b, 0, none⟩), .agg #[.string ⟨#[108, 97, 116, 101, 114]⟩, .int .i64 0]] w (SopPost a ⟨d, true, wt, true⟩ (kLater, 0) b w) := by
  have hq := (Mod.refl noF w).alloc (.cells #[.string ⟨#[108, 97, 116, 101, 114]⟩, .int .i64 0] 88)
  have hcf : cfOp ⟨d, true, wt, true⟩ (kLater, 0) = (0, ⟨d, false, wt, true⟩) := by
    unfold cfOp
    have hm : memK kindsC ⟨#[108, 97, 116, 101, 114]⟩ = true := by decide +kernel
    simp [hm, kEnter, kLeave, kRest, kWait, kRead, kPut, kDrop, kLater, kFlush]
  have hS1 := hq.heap hS (fun e => e)
  have h0 := cell_of_heap hS1 0
  have h1 := cell_of_heap hS1 1
  have h2 := cell_of_heap hS1 2
  have h3 := cell_of_heap hS1 3
  have f0 := free_of_heap hS1 0
  have f1 := free_of_heap hS1 1
  have f2 := free_of_heap hS1 2
  have f3 := free_of_heap hS1 3
  replace h0 : (w.alloc (.cells #[.string ⟨#[108, 97, 116, 101, 114]⟩, .int .i64 0] 88)).cell? ⟨b, 0, none⟩ = some (.int .i64 ((d : Nat) : Int)) := h0
  replace h1 : (w.alloc (.cells #[.string ⟨#[108, 97, 116, 101, 114]⟩, .int .i64 0] 88)).cell? ⟨b, 1, none⟩ = some (.bool true) := h1
  replace h2 : (w.alloc (.cells #[.string ⟨#[108, 97, 116, 101, 114]⟩, .int .i64 0] 88)).cell? ⟨b, 2, none⟩ = some (.bool wt) := h2
  replace h3 : (w.alloc (.cells #[.string ⟨#[108, 97, 116, 101, 114]⟩, .int .i64 0] 88)).cell? ⟨b, 3, none⟩ = some (.bool true) := h3
  have E1 := E.keep hq
  obtain ⟨gk, off, cap, q0, qx⟩ := HK.keep hq
  have hcall := containsK2 (w.alloc (.cells #[.string ⟨#[108, 97, 116, 101, 114]⟩, .int .i64 0] 88)) gk off cap kindsC kLater qx (by decide)
  rw [show memK kindsC kLater = true by decide +kernel] at hcall
  have hl9 : kindsC.length = 9 := rfl
  rw [hl9] at hcall
  have v1 := E1.v1
  have v2 := E1.v2
  have v4 := E1.v4
  have v7 := E1.v7
  have e0 : ((⟨#[108, 97, 116, 101, 114]⟩ : ByteArray).toList == (⟨#[101, 110, 116, 101, 114]⟩ : ByteArray).toList) = false := by
    rw [ByteArray.toList_eq, ByteArray.toList_eq]; rfl
  have e1 : ((⟨#[108, 97, 116, 101, 114]⟩ : ByteArray).toList == (⟨#[108, 101, 97, 118, 101]⟩ : ByteArray).toList) = false := by
    rw [ByteArray.toList_eq, ByteArray.toList_eq]; rfl
  have e2 : ((⟨#[108, 97, 116, 101, 114]⟩ : ByteArray).toList == (⟨#[114, 101, 115, 116]⟩ : ByteArray).toList) = false := by
    rw [ByteArray.toList_eq, ByteArray.toList_eq]; rfl
  have e3 : ((⟨#[108, 97, 116, 101, 114]⟩ : ByteArray).toList == (⟨#[119, 97, 105, 116]⟩ : ByteArray).toList) = false := by
    rw [ByteArray.toList_eq, ByteArray.toList_eq]; rfl
  have e4 : ((⟨#[108, 97, 116, 101, 114]⟩ : ByteArray).toList == (⟨#[102, 108, 117, 115, 104]⟩ : ByteArray).toList) = false := by
    rw [ByteArray.toList_eq, ByteArray.toList_eq]; rfl
  have e5 : ((⟨#[108, 97, 116, 101, 114]⟩ : ByteArray).toList == (⟨#[114, 101, 97, 100]⟩ : ByteArray).toList) = false := by
    rw [ByteArray.toList_eq, ByteArray.toList_eq]; rfl
  have e6 : ((⟨#[108, 97, 116, 101, 114]⟩ : ByteArray).toList == (⟨#[112, 117, 116]⟩ : ByteArray).toList) = false := by
    rw [ByteArray.toList_eq, ByteArray.toList_eq]; rfl
  have e7 : ((⟨#[108, 97, 116, 101, 114]⟩ : ByteArray).toList == (⟨#[100, 114, 111, 112]⟩ : ByteArray).toList) = false := by
    rw [ByteArray.toList_eq, ByteArray.toList_eq]; rfl
  have e8 : ((⟨#[108, 97, 116, 101, 114]⟩ : ByteArray).toList == (⟨#[108, 97, 116, 101, 114]⟩ : ByteArray).toList) = true := by simp
  have HS1 := Lib.hid hS1
  have Hq := Lib.hid hq
  have Hcall := Lib.hid hcall
  have Hcf := Lib.hid hcf
  have hbz : w.heap.size ≠ b := by have := lt_of_block hS; omega
  clear E HK hS hq hcf hS1 E1 qx hcall hl9
  go_enter Tryz.func90, Tryz.ntmps90
  go_wp2_with fail
  refine Hcall.out.mono ?_
  rintro e w2 ⟨rfl, rfl⟩
  go_wp2
  go_ret
  refine sop_good Hcf.out ?_ (((show Qh.Mod (fun k => k = b) w _ from Hq.out.any).setCell (fun _ => rfl) _).setCell (fun _ => rfl) _)
  unfold StAt
  rw [Qh.heap_setCell_same (Qh.heap_setCell_same (HS1.out) 1 _) 3 _]; rfl
theorem sop_drop_w (E : ErrsAt w a) (HK : KindsW w) (hS : StAt w b ⟨d, true, true, false⟩) :
    Calls Tryz.prog 90 #[.pointer (some ⟨b, 0, none⟩), .agg #[.string ⟨#[100, 114, 111, 112]⟩, .int .i64 0]] w (SopPost a ⟨d, true, true, false⟩ (kDrop, 0) b w) := by
  have hq := (Mod.refl noF w).alloc (.cells #[.string ⟨#[100, 114, 111, 112]⟩, .int .i64 0] 88)
  have hcf : cfOp ⟨d, true, true, false⟩ (kDrop, 0) = (0, ⟨d, false, true, false⟩) := by
    unfold cfOp
    have hm : memK kindsC ⟨#[100, 114, 111, 112]⟩ = true := by decide +kernel
    simp [hm, kEnter, kLeave, kRest, kWait, kRead, kPut, kDrop, kLater, kFlush]
  have hS1 := hq.heap hS (fun e => e)
  have h0 := cell_of_heap hS1 0
  have h1 := cell_of_heap hS1 1
  have h2 := cell_of_heap hS1 2
  have h3 := cell_of_heap hS1 3
  have f0 := free_of_heap hS1 0
  have f1 := free_of_heap hS1 1
  have f2 := free_of_heap hS1 2
  have f3 := free_of_heap hS1 3
  replace h0 : (w.alloc (.cells #[.string ⟨#[100, 114, 111, 112]⟩, .int .i64 0] 88)).cell? ⟨b, 0, none⟩ = some (.int .i64 ((d : Nat) : Int)) := h0
  replace h1 : (w.alloc (.cells #[.string ⟨#[100, 114, 111, 112]⟩, .int .i64 0] 88)).cell? ⟨b, 1, none⟩ = some (.bool true) := h1
  replace h2 : (w.alloc (.cells #[.string ⟨#[100, 114, 111, 112]⟩, .int .i64 0] 88)).cell? ⟨b, 2, none⟩ = some (.bool true) := h2
  replace h3 : (w.alloc (.cells #[.string ⟨#[100, 114, 111, 112]⟩, .int .i64 0] 88)).cell? ⟨b, 3, none⟩ = some (.bool false) := h3
  have E1 := E.keep hq
  obtain ⟨gk, off, cap, q0, qx⟩ := HK.keep hq
  have hcall := containsK2 (w.alloc (.cells #[.string ⟨#[100, 114, 111, 112]⟩, .int .i64 0] 88)) gk off cap kindsC kDrop qx (by decide)
  rw [show memK kindsC kDrop = true by decide +kernel] at hcall
  have hl9 : kindsC.length = 9 := rfl
  rw [hl9] at hcall
  have v1 := E1.v1
  have v2 := E1.v2
  have v4 := E1.v4
  have v7 := E1.v7
  have e0 : ((⟨#[100, 114, 111, 112]⟩ : ByteArray).toList == (⟨#[101, 110, 116, 101, 114]⟩ : ByteArray).toList) = false := by
    rw [ByteArray.toList_eq, ByteArray.toList_eq]; rfl
  have e1 : ((⟨#[100, 114, 111, 112]⟩ : ByteArray).toList == (⟨#[108, 101, 97, 118, 101]⟩ : ByteArray).toList) = false := by
    rw [ByteArray.toList_eq, ByteArray.toList_eq]; rfl
  have e2 : ((⟨#[100, 114, 111, 112]⟩ : ByteArray).toList == (⟨#[114, 101, 115, 116]⟩ : ByteArray).toList) = false := by
    rw [ByteArray.toList_eq, ByteArray.toList_eq]; rfl
  have e3 : ((⟨#[100, 114, 111, 112]⟩ : ByteArray).toList == (⟨#[119, 97, 105, 116]⟩ : ByteArray).toList) = false := by
    rw [ByteArray.toList_eq, ByteArray.toList_eq]; rfl
  have e4 : ((⟨#[100, 114, 111, 112]⟩ : ByteArray).toList == (⟨#[102, 108, 117, 115, 104]⟩ : ByteArray).toList) = false := by
    rw [ByteArray.toList_eq, ByteArray.toList_eq]; rfl
  have e5 : ((⟨#[100, 114, 111, 112]⟩ : ByteArray).toList == (⟨#[114, 101, 97, 100]⟩ : ByteArray).toList) = false := by
    rw [ByteArray.toList_eq, ByteArray.toList_eq]; rfl
  have e6 : ((⟨#[100, 114, 111, 112]⟩ : ByteArray).toList == (⟨#[112, 117, 116]⟩ : ByteArray).toList) = false := by
    rw [ByteArray.toList_eq, ByteArray.toList_eq]; rfl
  have e7 : ((⟨#[100, 114, 111, 112]⟩ : ByteArray).toList == (⟨#[100, 114, 111, 112]⟩ : ByteArray).toList) = true := by simp
  have e8 : ((⟨#[100, 114, 111, 112]⟩ : ByteArray).toList == (⟨#[108, 97, 116, 101, 114]⟩ : ByteArray).toList) = false := by
    rw [ByteArray.toList_eq, ByteArray.toList_eq]; rfl
  have HS1 := Lib.hid hS1
  have Hq := Lib.hid hq
  have Hcall := Lib.hid hcall
  have Hcf := Lib.hid hcf
  have hbz : w.heap.size ≠ b := by have := lt_of_block hS; omega
  clear E HK hS hq hcf hS1 E1 qx hcall hl9
  go_enter Tryz.func90, Tryz.ntmps90
  go_wp2_with fail
  refine Hcall.out.mono ?_
  rintro e w2 ⟨rfl, rfl⟩
  go_wp2
  go_ret
  refine sop_good Hcf.out ?_ (((show Qh.Mod (fun k => k = b) w _ from Hq.out.any).setCell (fun _ => rfl) _).setCell (fun _ => rfl) _)
  unfold StAt
  rw [Qh.heap_setCell_same (Qh.heap_setCell_same (HS1.out) 1 _) 3 _]; rfl
theorem sop_drop_f (E : ErrsAt w a) (HK : KindsW w) (hS : StAt w b ⟨d, true, false, false⟩) :
    Calls Tryz.prog 90 #[.pointer (some ⟨b, 0, none⟩), .agg #[.string ⟨#[100, 114, 111, 112]⟩, .int .i64 0]] w (SopPost a ⟨d, true, false, false⟩ (kDrop, 0) b w) := by
  have hq := (Mod.refl noF w).alloc (.cells #[.string ⟨#[100, 114, 111, 112]⟩, .int .i64 0] 88)
  have hcf : cfOp ⟨d, true, false, false⟩ (kDrop, 0) = (0, ⟨d, false, false, true⟩) := by
    unfold cfOp
    have hm : memK kindsC ⟨#[100, 114, 111, 112]⟩ = true := by decide +kernel
    simp [hm, kEnter, kLeave, kRest, kWait, kRead, kPut, kDrop, kLater, kFlush]
  have hS1 := hq.heap hS (fun e => e)
  have h0 := cell_of_heap hS1 0
  have h1 := cell_of_heap hS1 1
  have h2 := cell_of_heap hS1 2
  have h3 := cell_of_heap hS1 3
  have f0 := free_of_heap hS1 0
  have f1 := free_of_heap hS1 1
  have f2 := free_of_heap hS1 2
  have f3 := free_of_heap hS1 3
  replace h0 : (w.alloc (.cells #[.string ⟨#[100, 114, 111, 112]⟩, .int .i64 0] 88)).cell? ⟨b, 0, none⟩ = some (.int .i64 ((d : Nat) : Int)) := h0
  replace h1 : (w.alloc (.cells #[.string ⟨#[100, 114, 111, 112]⟩, .int .i64 0] 88)).cell? ⟨b, 1, none⟩ = some (.bool true) := h1
  replace h2 : (w.alloc (.cells #[.string ⟨#[100, 114, 111, 112]⟩, .int .i64 0] 88)).cell? ⟨b, 2, none⟩ = some (.bool false) := h2
  replace h3 : (w.alloc (.cells #[.string ⟨#[100, 114, 111, 112]⟩, .int .i64 0] 88)).cell? ⟨b, 3, none⟩ = some (.bool false) := h3
  have E1 := E.keep hq
  obtain ⟨gk, off, cap, q0, qx⟩ := HK.keep hq
  have hcall := containsK2 (w.alloc (.cells #[.string ⟨#[100, 114, 111, 112]⟩, .int .i64 0] 88)) gk off cap kindsC kDrop qx (by decide)
  rw [show memK kindsC kDrop = true by decide +kernel] at hcall
  have hl9 : kindsC.length = 9 := rfl
  rw [hl9] at hcall
  have v1 := E1.v1
  have v2 := E1.v2
  have v4 := E1.v4
  have v7 := E1.v7
  have e0 : ((⟨#[100, 114, 111, 112]⟩ : ByteArray).toList == (⟨#[101, 110, 116, 101, 114]⟩ : ByteArray).toList) = false := by
    rw [ByteArray.toList_eq, ByteArray.toList_eq]; rfl
  have e1 : ((⟨#[100, 114, 111, 112]⟩ : ByteArray).toList == (⟨#[108, 101, 97, 118, 101]⟩ : ByteArray).toList) = false := by
    rw [ByteArray.toList_eq, ByteArray.toList_eq]; rfl
  have e2 : ((⟨#[100, 114, 111, 112]⟩ : ByteArray).toList == (⟨#[114, 101, 115, 116]⟩ : ByteArray).toList) = false := by
    rw [ByteArray.toList_eq, ByteArray.toList_eq]; rfl
  have e3 : ((⟨#[100, 114, 111, 112]⟩ : ByteArray).toList == (⟨#[119, 97, 105, 116]⟩ : ByteArray).toList) = false := by
    rw [ByteArray.toList_eq, ByteArray.toList_eq]; rfl
  have e4 : ((⟨#[100, 114, 111, 112]⟩ : ByteArray).toList == (⟨#[102, 108, 117, 115, 104]⟩ : ByteArray).toList) = false := by
    rw [ByteArray.toList_eq, ByteArray.toList_eq]; rfl
  have e5 : ((⟨#[100, 114, 111, 112]⟩ : ByteArray).toList == (⟨#[114, 101, 97, 100]⟩ : ByteArray).toList) = false := by
    rw [ByteArray.toList_eq, ByteArray.toList_eq]; rfl
  have e6 : ((⟨#[100, 114, 111, 112]⟩ : ByteArray).toList == (⟨#[112, 117, 116]⟩ : ByteArray).toList) = false := by
    rw [ByteArray.toList_eq, ByteArray.toList_eq]; rfl
  have e7 : ((⟨#[100, 114, 111, 112]⟩ : ByteArray).toList == (⟨#[100, 114, 111, 112]⟩ : ByteArray).toList) = true := by simp
  have e8 : ((⟨#[100, 114, 111, 112]⟩ : ByteArray).toList == (⟨#[108, 97, 116, 101, 114]⟩ : ByteArray).toList) = false := by
    rw [ByteArray.toList_eq, ByteArray.toList_eq]; rfl
  have HS1 := Lib.hid hS1
  have Hq := Lib.hid hq
  have Hcall := Lib.hid hcall
  have Hcf := Lib.hid hcf
  have hbz : w.heap.size ≠ b := by have := lt_of_block hS; omega
  clear E HK hS hq hcf hS1 E1 qx hcall hl9
  go_enter Tryz.func90, Tryz.ntmps90
  go_wp2_with fail
  refine Hcall.out.mono ?_
  rintro e w2 ⟨rfl, rfl⟩
  go_wp2
  go_ret
  refine sop_good Hcf.out ?_ (((show Qh.Mod (fun k => k = b) w _ from Hq.out.any).setCell (fun _ => rfl) _).setCell (fun _ => rfl) _)
  unfold StAt
  rw [Qh.heap_setCell_same (Qh.heap_setCell_same (HS1.out) 1 _) 3 _]; rfl
theorem sop_later_f (E : ErrsAt w a) (HK : KindsW w) (hS : StAt w b ⟨d, true, wt, false⟩) :
    Calls Tryz.prog 90 #[.pointer (some ⟨b, 0, none⟩), .agg #[.string ⟨#[108, 97, 116, 101, 114]⟩, .int .i64 0]] w (SopPost a ⟨d, true, wt, false⟩ (kLater, 0) b w) := by
  have hq := (Mod.refl noF w).alloc (.cells #[.string ⟨#[108, 97, 116, 101, 114]⟩, .int .i64 0] 88)
  have hcf : cfOp ⟨d, true, wt, false⟩ (kLater, 0) = (0, ⟨d, false, wt, false⟩) := by
    unfold cfOp
    have hm : memK kindsC ⟨#[108, 97, 116, 101, 114]⟩ = true := by decide +kernel
    simp [hm, kEnter, kLeave, kRest, kWait, kRead, kPut, kDrop, kLater, kFlush]
  have hS1 := hq.heap hS (fun e => e)
  have h0 := cell_of_heap hS1 0
  have h1 := cell_of_heap hS1 1
  have h2 := cell_of_heap hS1 2
  have h3 := cell_of_heap hS1 3
  have f0 := free_of_heap hS1 0
  have f1 := free_of_heap hS1 1
  have f2 := free_of_heap hS1 2
  have f3 := free_of_heap hS1 3
  replace h0 : (w.alloc (.cells #[.string ⟨#[108, 97, 116, 101, 114]⟩, .int .i64 0] 88)).cell? ⟨b, 0, none⟩ = some (.int .i64 ((d : Nat) : Int)) := h0
  replace h1 : (w.alloc (.cells #[.string ⟨#[108, 97, 116, 101, 114]⟩, .int .i64 0] 88)).cell? ⟨b, 1, none⟩ = some (.bool true) := h1
  replace h2 : (w.alloc (.cells #[.string ⟨#[108, 97, 116, 101, 114]⟩, .int .i64 0] 88)).cell? ⟨b, 2, none⟩ = some (.bool wt) := h2
  replace h3 : (w.alloc (.cells #[.string ⟨#[108, 97, 116, 101, 114]⟩, .int .i64 0] 88)).cell? ⟨b, 3, none⟩ = some (.bool false) := h3
  have E1 := E.keep hq
  obtain ⟨gk, off, cap, q0, qx⟩ := HK.keep hq
  have hcall := containsK2 (w.alloc (.cells #[.string ⟨#[108, 97, 116, 101, 114]⟩, .int .i64 0] 88)) gk off cap kindsC kLater qx (by decide)
  rw [show memK kindsC kLater = true by decide +kernel] at hcall
  have hl9 : kindsC.length = 9 := rfl
  rw [hl9] at hcall
  have v1 := E1.v1
  have v2 := E1.v2
  have v4 := E1.v4
  have v7 := E1.v7
  have e0 : ((⟨#[108, 97, 116, 101, 114]⟩ : ByteArray).toList == (⟨#[101, 110, 116, 101, 114]⟩ : ByteArray).toList) = false := by
    rw [ByteArray.toList_eq, ByteArray.toList_eq]; rfl
  have e1 : ((⟨#[108, 97, 116, 101, 114]⟩ : ByteArray).toList == (⟨#[108, 101, 97, 118, 101]⟩ : ByteArray).toList) = false := by
    rw [ByteArray.toList_eq, ByteArray.toList_eq]; rfl
  have e2 : ((⟨#[108, 97, 116, 101, 114]⟩ : ByteArray).toList == (⟨#[114, 101, 115, 116]⟩ : ByteArray).toList) = false := by
    rw [ByteArray.toList_eq, ByteArray.toList_eq]; rfl
  have e3 : ((⟨#[108, 97, 116, 101, 114]⟩ : ByteArray).toList == (⟨#[119, 97, 105, 116]⟩ : ByteArray).toList) = false := by
    rw [ByteArray.toList_eq, ByteArray.toList_eq]; rfl
  have e4 : ((⟨#[108, 97, 116, 101, 114]⟩ : ByteArray).toList == (⟨#[102, 108, 117, 115, 104]⟩ : ByteArray).toList) = false := by
    rw [ByteArray.toList_eq, ByteArray.toList_eq]; rfl
  have e5 : ((⟨#[108, 97, 116, 101, 114]⟩ : ByteArray).toList == (⟨#[114, 101, 97, 100]⟩ : ByteArray).toList) = false := by
    rw [ByteArray.toList_eq, ByteArray.toList_eq]; rfl
  have e6 : ((⟨#[108, 97, 116, 101, 114]⟩ : ByteArray).toList == (⟨#[112, 117, 116]⟩ : ByteArray).toList) = false := by
    rw [ByteArray.toList_eq, ByteArray.toList_eq]; rfl
  have e7 : ((⟨#[108, 97, 116, 101, 114]⟩ : ByteArray).toList == (⟨#[100, 114, 111, 112]⟩ : ByteArray).toList) = false := by
    rw [ByteArray.toList_eq, ByteArray.toList_eq]; rfl
  have e8 : ((⟨#[108, 97, 116, 101, 114]⟩ : ByteArray).toList == (⟨#[108, 97, 116, 101, 114]⟩ : ByteArray).toList) = true := by simp
  have HS1 := Lib.hid hS1
  have Hq := Lib.hid hq
  have Hcall := Lib.hid hcall
  have Hcf := Lib.hid hcf
  have hbz : w.heap.size ≠ b := by have := lt_of_block hS; omega
  clear E HK hS hq hcf hS1 E1 qx hcall hl9
  go_enter Tryz.func90, Tryz.ntmps90
  go_wp2_with fail
  refine Hcall.out.mono ?_
  rintro e w2 ⟨rfl, rfl⟩
  go_wp2
  go_ret
  refine sop_good Hcf.out ?_ (((show Qh.Mod (fun k => k = b) w _ from Hq.out.any).setCell (fun _ => rfl) _).setCell (fun _ => rfl) _)
  unfold StAt
  rw [Qh.heap_setCell_same (Qh.heap_setCell_same (HS1.out) 1 _) 3 _]; rfl
end Go.Proofs.YtppihkneeolomaaGreatDoor
end
/- package client: a thread's state and an op. -/
section
namespace Go.Proofs.YtppihkneeolomaaGreatDoor
open Go.RowKit Qs Qh
variable {a : Nat → Addr} {w w' : World} {b d : Nat} {r wt u : Bool} {n : Int} {s s' : CSt} {x : ROp}
theorem sop_none (E : ErrsAt w a) (HK : KindsW w) (hS : StAt w b s) (k : ByteArray) (hk : memK kindsC k = false) :
    Calls Tryz.prog 90 #[.pointer (some ⟨b, 0, none⟩), .agg #[.string k, .int .i64 n]] w (SopPost a s (k, n) b w) := by
  have hq := (Mod.refl noF w).alloc (.cells #[.string k, .int .i64 n] 88)
  have hcf : cfOp s (k, n) = (3, s) := by
    unfold cfOp
    simp [hk]
  have E1 := E.keep hq
  obtain ⟨gk, off, cap, q0, qx⟩ := HK.keep hq
  have hcall := containsK2 (w.alloc (.cells #[.string k, .int .i64 n] 88)) gk off cap kindsC k qx (by decide)
  rw [hk] at hcall
  have hl9 : kindsC.length = 9 := rfl
  rw [hl9] at hcall
  have v2 := E1.v2
  have Hq := Lib.hid hq
  have Hcall := Lib.hid hcall
  have Hcf := Lib.hid hcf
  clear E HK hS hq hcf E1 qx hcall hl9 hk
  go_enter Tryz.func90, Tryz.ntmps90
  go_wp2_with fail
  refine Hcall.out.mono ?_
  rintro e w2 ⟨rfl, rfl⟩
  go_wp2
  go_ret
  exact sop_bad 2 Hcf.out (by omega) rfl Hq.out.any
theorem kinds_cases {k : ByteArray} (h : memK kindsC k = true) : k = kEnter ∨ k = kLeave ∨ k = kRest ∨ k = kWait ∨ k = kRead ∨ k = kPut ∨ k = kDrop ∨ k = kLater ∨ k = kFlush := by
  have := memK_iff.1 h
  simpa [kindsC, kEnter, kLeave, kRest, kWait, kRead, kPut, kDrop, kLater, kFlush] using this
theorem sop_any (E : ErrsAt w a) (HK : KindsW w) (hS : StAt w b s) (hd : s.d ≤ 1000) (x : ROp) :
    Calls Tryz.prog 90 #[.pointer (some ⟨b, 0, none⟩), .agg #[.string x.1, .int .i64 x.2]] w (SopPost a s x b w) := by
  obtain ⟨k, n⟩ := x
  cases hk : memK kindsC k with
  | false => exact sop_none E HK hS k hk
  | true =>
    obtain ⟨d, r, wt, u⟩ := s
    simp only at hd
    have hdd : d = 0 ∨ 1 ≤ d := by omega
    rcases kinds_cases hk with rfl | rfl | rfl | rfl | rfl | rfl | rfl | rfl | rfl
    · by_cases hn : n = 0
      · subst hn; exact sop_enter E HK hd hS
      · exact sop_enter_n E HK hn hS
    · by_cases hn : n = 0
      · subst hn
        rcases hdd with rfl | h
        · exact sop_leave_0 E HK hS
        · exact sop_leave E HK h hd hS
      · exact sop_leave_n E HK hn hS
    · by_cases hn : n = 0
      · subst hn
        rcases hdd with rfl | h
        · cases wt
          · exact sop_rest_f E HK hS
          · exact sop_rest_t E HK hS
        · exact sop_rest_d E HK h hS
      · exact sop_rest_n E HK hn hS
    · by_cases hn : n = 0
      · subst hn
        rcases hdd with rfl | h
        · cases wt
          · exact sop_wait_f E HK hS
          · exact sop_wait_t E HK hS
        · exact sop_wait_d E HK h hS
      · exact sop_wait_n E HK hn hS
    · by_cases hn : n = 0
      · subst hn
        rcases hdd with rfl | h
        · exact sop_read_0 E HK hS
        · exact sop_read E HK h hS
      · exact sop_read_n E HK hn hS
    · by_cases hlo : n < 1
      · exact sop_put_lo E HK hlo hS
      · by_cases hhi : 1000 < n
        · exact sop_put_hi E HK hhi hS
        · rcases hdd with rfl | h
          · cases r
            · exact sop_put E HK (by omega) (by omega) hS
            · exact sop_put_r E HK (by omega) (by omega) hS
          · exact sop_put_d E HK (by omega) (by omega) h hS
    · by_cases hn : n = 0
      · subst hn
        cases r
        · exact sop_drop_r E HK hS
        · cases u
          · cases wt
            · exact sop_drop_f E HK hS
            · exact sop_drop_w E HK hS
          · exact sop_drop_u E HK hS
      · exact sop_drop_n E HK hn hS
    · by_cases hn : n = 0
      · subst hn
        cases r
        · exact sop_later_r E HK hS
        · cases u
          · exact sop_later_f E HK hS
          · exact sop_later_u E HK hS
      · exact sop_later_n E HK hn hS
    · by_cases hn : n = 0
      · subst hn
        rcases hdd with rfl | h
        · cases wt
          · exact sop_flush_f E HK hS
          · exact sop_flush_t E HK hS
        · exact sop_flush_d E HK h hS
      · exact sop_flush_n E HK hn hS
end Go.Proofs.YtppihkneeolomaaGreatDoor
end
/- package client: check: over any lists of ops. -/
section
namespace Go.Proofs.YtppihkneeolomaaGreatDoor
open Go.RowKit Qs Qh
variable {N : Nat} {w w' : World} {v u : Value} {ll : List (List ROp)} {l : List ROp} {a : Nat → Addr}
theorem longOpC (w : World) (a : Option Addr) (n c : Nat) (hn : n ≤ maxLen) : Calls Tryz.prog 89 #[.slice a n c] w fun e w' => e = .returned (.bool (decide (20 < n))) ∧ w' = w := by
  by_cases h : 20 < n
  · have d : decide ((20 : Int) < (n : Int)) = true := by simp; omega
    have d2 : decide (20 < n) = true := by simpa using h
    rw [d2]
    go_enter Tryz.func89, Tryz.ntmps89
    go_wp2
    go_ret
    exact ⟨rfl, rfl⟩
  · have d : decide ((20 : Int) < (n : Int)) = false := by simp; omega
    have d2 : decide (20 < n) = false := by simpa using h
    rw [d2]
    go_enter Tryz.func89, Tryz.ntmps89
    go_wp2
    go_ret
    exact ⟨rfl, rfl⟩
theorem indexLongC (H : RIn N w v ll) (hrow : ∀ l ∈ ll, l.length ≤ 30) (hl : ll.length ≤ 1000) :
    Calls Tryz.prog 92 #[v, .func (.func 89) #[] #[]] w (IdlPost ll w) := by
  obtain ⟨a, c, rfl, hx⟩ := H
  have Hx := Lib.hid hx
  have Hrow := Lib.hid hrow
  clear hx hrow
  go_enter Tryz.func92, Tryz.ntmps92
  go_wp2
  go_loop [8] (fun i => ∃ k : Nat, k ≤ ll.length ∧ i = .int .i64 k ∧ ∀ (j : Nat) y, j < k → ll[j]? = some y → y.length ≤ 20) (fun i => ll.length - (intOf i).toNat)
  case atStart => exact ⟨0, Nat.zero_le _, rfl, fun j y h => by omega⟩
  case round =>
    obtain ⟨k, hk, rfl, hall⟩ := hrel
    have Hall := Lib.hid hall
    clear hall
    by_cases hlt : k < ll.length
    · have hd : decide ((k : Int) < (ll.length : Int)) = true := by simp; omega
      have hki : (k : Int) < (ll.length : Int) := by omega
      obtain ⟨l, hl⟩ : ∃ l, ll[k]? = some l := ⟨_, List.getElem?_eq_getElem hlt⟩
      obtain ⟨b, off, u, rfl, hb, hc, ⟨ua, uc, rfl, -⟩⟩ := Hx.out k l hl
      have hmem := List.mem_of_getElem? hl
      have hcall := longOpC w ua l.length uc (by have := Hrow.out l hmem; unfold maxLen; omega)
      have Hl := Lib.hid hl
      have Hmem := Lib.hid hmem
      by_cases h20 : 20 < l.length
      · rw [show decide (20 < l.length) = true by simpa using h20] at hcall
        have Hcall := Lib.hid hcall
        clear hcall hl hmem
        go_wp2_with fail
        refine Hcall.out.mono ?_
        rintro e w' ⟨rfl, rfl⟩
        go_wp2
        go_ret
        exact ⟨_, rfl, rfl, fun h => by have := h l Hmem.out; omega, fun _ => by omega⟩
      · rw [show decide (20 < l.length) = false by simpa using h20] at hcall
        have Hcall := Lib.hid hcall
        clear hcall hl hmem
        go_wp2_with fail
        refine Hcall.out.mono ?_
        rintro e w' ⟨rfl, rfl⟩
        go_wp2
        go_round
        case rel =>
          refine ⟨k + 1, by omega, by go_num, fun j y hj hy => ?_⟩
          by_cases e : j = k
          · subst e
            rw [Hl.out] at hy; cases hy; omega
          · exact Hall.out j y (by omega) hy
        case measure => simp [intOf]; omega
    · have hd : decide ((k : Int) < (ll.length : Int)) = false := by simp; omega
      have hnone : ∀ l ∈ ll, l.length ≤ 20 := fun l hl => by
        obtain ⟨i, hi⟩ := List.getElem?_of_mem hl
        exact Hall.out i l (by have := (List.getElem?_eq_some_iff.1 hi).1; omega) hi
      go_wp2
      go_ret
      exact ⟨-1, rfl, rfl, fun _ => rfl, fun h => absurd hnone h⟩
theorem containsLongC (H : RIn N w v ll) (hrow : ∀ l ∈ ll, l.length ≤ 30) (hl : ll.length ≤ 1000) (b : Bool) (hb : b = true ↔ ¬ ∀ l ∈ ll, l.length ≤ 20) :
    Calls Tryz.prog 66 #[v, .func (.func 89) #[] #[]] w fun e w' => e = .returned (.bool b) ∧ w' = w := by
  have Hcall := Lib.hid (indexLongC H hrow hl)
  clear H hrow
  cases b with
  | true =>
    go_enter Tryz.func66, Tryz.ntmps66
    go_wp2_with fail
    refine Hcall.out.mono ?_
    rintro e w' ⟨n, rfl, rfl, h1, h2⟩
    have d : decide ((0 : Int) ≤ n) = true := by simpa using h2 (by simpa using hb)
    clear h1 h2 hb
    go_wp2
    go_ret
    exact ⟨rfl, rfl⟩
  | false =>
    go_enter Tryz.func66, Tryz.ntmps66
    go_wp2_with fail
    refine Hcall.out.mono ?_
    rintro e w' ⟨n, rfl, rfl, h1, h2⟩
    obtain rfl := h1 (by
      by_cases h : ∀ l ∈ ll, l.length ≤ 20
      · exact h
      · exact absurd (hb.2 h) (by simp))
    clear h1 h2 hb
    go_wp2
    go_ret
    exact ⟨rfl, rfl⟩
theorem cfOp_d (s : CSt) (x : ROp) : (cfOp s x).2.d ≤ s.d + 1 := by
  unfold cfOp
  repeat' split
  all_goals simp <;> omega
set_option maxHeartbeats 4000000 in
theorem ccheck_many (E : ErrsAt w a) (H : RIn N w v ll) (hlen : ll.length ≤ 10) (hrow : ∀ l ∈ ll, l.length ≤ 30) (hm : manyB ll = false) :
    Calls Tryz.prog 62 #[v] w fun e w' => ∃ ev, e = .returned (.tuple #[.bool false, ev]) ∧ ErrIs a w' ev 2 (-1) ∧ Mod noF w w' := by
  have hv := E.v1
  have fin : ∀ w', ErrIs a w' (errV a 1) 2 (-1) := fun w' => .inr (.inl ⟨1, by omega, rfl, rfl, rfl⟩)
  unfold errV at fin
  have Fin := Lib.hid fin
  clear fin E
  by_cases h1 : ll.length < 1
  · obtain ⟨a', c, rfl, hx⟩ := H
    have d1 : decide ((ll.length : Int) < 1) = true := by simp; omega
    clear hx
    go_enter Tryz.func62, Tryz.ntmps62
    go_wp2
    go_region
    go_wp2
    go_ret2
    exact ⟨_, rfl, Fin.out _, by repeat (first | exact Mod.refl _ _ | refine Mod.drew ?_ | refine Mod.drewN ?_ _)⟩
  have d1 : decide ((ll.length : Int) < 1) = false := by simp; omega
  by_cases h6 : 6 < ll.length
  · obtain ⟨a', c, rfl, hx⟩ := H
    have d2 : decide ((6 : Int) < (ll.length : Int)) = true := by simp; omega
    clear hx
    go_enter Tryz.func62, Tryz.ntmps62
    go_wp2
    go_region
    go_wp2
    go_ret2
    exact ⟨_, rfl, Fin.out _, by repeat (first | exact Mod.refl _ _ | refine Mod.drew ?_ | refine Mod.drewN ?_ _)⟩
  have d2 : decide ((6 : Int) < (ll.length : Int)) = false := by simp; omega
  have hcall := containsLongC H hrow (by omega) true ⟨fun _ => by
    rcases manyB_false hm with h | h | h
    · omega
    · omega
    · exact h, fun _ => rfl⟩
  have Hcall := Lib.hid hcall
  obtain ⟨a', c, rfl, hx⟩ := H
  clear hx hcall hrow hm
  go_enter Tryz.func62, Tryz.ntmps62
  go_wp2_with fail
  refine Hcall.out.mono ?_
  rintro e w' ⟨rfl, rfl⟩
  go_wp2
  go_region
  go_wp2
  go_ret2
  exact ⟨_, rfl, Fin.out _, by repeat (first | exact Mod.refl _ _ | refine Mod.drew ?_ | refine Mod.drewN ?_ _)⟩
end Go.Proofs.YtppihkneeolomaaGreatDoor
end
/- package client: check, Check, Safe: over any lists of ops. -/
section
namespace Go.Proofs.YtppihkneeolomaaGreatDoor
open Go.RowKit Qs Qh
variable {N : Nat} {w w' : World} {v u : Value} {ll : List (List ROp)} {l : List ROp} {a : Nat → Addr}
theorem cSafe_row {l : List ROp} {s : CSt} (h : cRun c0 l = (0, s)) : cSafe l = !s.u := by unfold cSafe; rw [h]
theorem cRowF_fault {l : List ROp} {q : Nat} {x : ROp} {s : CSt} (hx : l[q]? = some x) (h : cRun c0 (l.take q) = (0, s)) (hf : (cfOp s x).1 ≠ 0) : cRowF l = some (cfOp s x).1 := by
  have := cRun_fault l q c0 hx h hf
  unfold cRowF
  rw [this, if_pos hf]
theorem cRowF_deep {l : List ROp} {s : CSt} (h : cRun c0 l = (0, s)) (hd : s.d ≠ 0) : cRowF l = some 8 := by
  unfold cRowF
  rw [h]
  simp [hd]
theorem cRowF_fine {l : List ROp} {s : CSt} (h : cRun c0 l = (0, s)) (hd : s.d = 0) : cRowF l = none := by
  unfold cRowF
  rw [h]
  simp [hd]
set_option maxRecDepth 4000 in
set_option maxHeartbeats 16000000 in
theorem ccheck_ok (E : ErrsAt w a) (HK : KindsW w) (H : RIn N w v ll) (hlen : ll.length ≤ 10) (hrow : ∀ l ∈ ll, l.length ≤ 30) (hm : manyB ll = true) :
    Calls Tryz.prog 62 #[v] w fun e w' => ∃ ev, e = .returned (.tuple #[.bool (decide ((allR cRowF 0 ll).1 = 0) && ll.all cSafe), ev]) ∧ ErrIs a w' ev (allR cRowF 0 ll).1 (allR cRowF 0 ll).2 ∧ Mod noF w w' := by
  obtain ⟨hl1, hl6, h20⟩ := manyB_iff.1 hm
  have hcall := containsLongC H hrow (by omega) false (by constructor; (intro h; cases h); exact fun h => absurd h20 h)
  have HH := Lib.hid H
  obtain ⟨a', c, rfl, hx⟩ := H
  have d1 : decide ((ll.length : Int) < 1) = false := by simp; omega
  have d2 : decide ((6 : Int) < (ll.length : Int)) = false := by simp; omega
  obtain ⟨rc, ra, hres0⟩ : ∃ rc ra, allR cRowF 0 ll = (rc, ra) := ⟨_, _, rfl⟩
  rw [hres0]
  have Hres0 := Lib.hid hres0
  simp only
  have Hx := Lib.hid hx
  have H20 := Lib.hid h20
  have HKW := Lib.hid HK
  have HE := Lib.hid E
  have Hcall := Lib.hid hcall
  obtain ⟨res, hres⟩ : ∃ res, (decide (rc = 0) && ll.all cSafe) = res := ⟨_, rfl⟩
  rw [hres]
  have Hres := Lib.hid hres
  clear hx h20 hcall hres0 E hrow hm HK hres
  go_enter Tryz.func62, Tryz.ntmps62
  go_wp2_with fail
  refine Hcall.out.mono ?_
  rintro e w' ⟨rfl, rfl⟩
  go_wp2
  go_loopw [2, 25] (fun b i wr => ∃ k : Nat, k ≤ ll.length ∧ i = .int .i64 k ∧ b = .bool ((ll.take k).all cSafe) ∧ Mod noF w' wr ∧ ∀ (j : Nat) y, j < k → ll[j]? = some y → cRowF y = none) (fun _ i _ => ll.length - (intOf i).toNat)
  case atStart => exact ⟨0, Nat.zero_le _, rfl, rfl, Mod.refl _ _, fun j y h => by omega⟩
  case round =>
    generalize wr = w2 at *
    obtain ⟨k, hk, rfl, rfl, hm, hall⟩ := hrel
    have Hall := Lib.hid hall
    clear hall
    generalize hsf : (ll.take k).all cSafe = sf at *
    have Hsf := Lib.hid hsf
    clear hsf
    by_cases hlt : k < ll.length
    · have hd : decide ((k : Int) < (ll.length : Int)) = true := by simp; omega
      have hki : (k : Int) < (ll.length : Int) := by omega
      obtain ⟨l, hl⟩ : ∃ l, ll[k]? = some l := ⟨_, List.getElem?_eq_getElem hlt⟩
      obtain ⟨b, off, u, rfl, hb, hc, hrow⟩ := Hx.out k l hl
      have hc2 := hm.cell hc (fun e => e)
      obtain ⟨ua, uc, rfl, hxx⟩ := hrow.keep hm (fun _ _ e => e)
      have Hxx := Lib.hid hxx
      have Hm := Lib.hid hm
      have h20l := H20.out l (List.mem_of_getElem? hl)
      have Hl := Lib.hid hl
      clear hxx hrow hc hl hm
      go_wp2
      go_name_world wA hwA
      have hmA : Mod noF w2 wA := by rw [← hwA]; exact (Mod.refl noF w2).alloc _
      have hSA : StAt wA w2.heap.size c0 := by rw [← hwA]; exact heap_alloc_new w2 _
      have HmA := Lib.hid hmA
      have HSA := Lib.hid hSA
      have hlB : w2.heap.size < wA.heap.size := lt_of_block hSA
      clear hmA hSA hwA
      go_loopw [2, 34] (fun b i wq => ∃ q : Nat, q ≤ l.length ∧ i = .int .i64 q ∧ b = .bool sf ∧ ∃ s, cRun c0 (l.take q) = (0, s) ∧ StAt wq w2.heap.size s ∧ s.d ≤ q ∧ Mod (fun x => x = w2.heap.size) wA wq) (fun _ i _ => l.length - (intOf i).toNat)
      case atStart => exact ⟨0, Nat.zero_le _, rfl, rfl, c0, rfl, HSA.out, Nat.le_refl _, Mod.refl _ _⟩
      case round =>
        generalize wr = w3 at *
        obtain ⟨q, hq, rfl, rfl, s, hrun, hS, hsd, hm2⟩ := hrel
        have Hrun := Lib.hid hrun
        have HS := Lib.hid hS
        have hmw : Mod noF w' w3 := (Hm.out.trans0 HmA.out).trans hm2 (fun x hx e => by have := Hm.out.size; omega)
        have Hmw := Lib.hid hmw
        clear hrun
        by_cases hlq : q < l.length
        · have hd2 : decide ((q : Int) < (l.length : Int)) = true := by simp; omega
          have hqi : (q : Int) < (l.length : Int) := by omega
          obtain ⟨x, hxl⟩ : ∃ x, l[q]? = some x := ⟨_, List.getElem?_eq_getElem hlq⟩
          obtain ⟨ub, uoff, rfl, hub, h0, h1⟩ := Hxx.out q x hxl
          have hmm : Mod noF w2 w3 := HmA.out.trans hm2 (fun x hx e => by omega)
          have h0 := hmm.cell h0 (fun e => e)
          have h1 := hmm.cell h1 (fun e => e)
          have Hm2 := Lib.hid hm2
          have Hxl := Lib.hid hxl
          have hq4 := (Mod.refl noF w3).alloc (.cells #[.string x.1, .int .i64 x.2] 88)
          have hcal := sop_any ((HE.out.keep hmw).keep hq4) ((HKW.out.keep hmw).keep hq4) (hq4.heap hS (fun e => e)) (by omega) x
          have Hcal := Lib.hid hcal
          have hlb3 := lt_of_block hS
          clear hxl hm2 hS hmw hmm hq4 hcal
          obtain ⟨xs, xn⟩ := x
          simp only at h0 h1
          go_wp2_with fail
          refine Hcal.out.mono ?_
          rintro e w5 ⟨ev, rfl, hz, hnz, hm5⟩
          have hm35 : Mod (fun x => x = w2.heap.size) w3 w5 := ((Mod.refl noF w3).alloc (.cells #[.string xs, .int .i64 xn] 88)).any.trans hm5 (fun x _ e => e)
          have hmw5 : Mod noF w' w5 := Hmw.out.trans hm35 (fun x hx e => by have := Hm.out.size; omega)
          by_cases hcf : (cfOp s (xs, xn)).1 = 0
          · obtain ⟨rfl, hS5⟩ := hz hcf
            have hts := cRun_take_succ l q c0 Hxl.out Hrun.out
            rw [if_neg (by rw [hcf]; exact fun h => h rfl)] at hts
            have hdd := cfOp_d s (xs, xn)
            have Hts := Lib.hid hts
            have HS5 := Lib.hid hS5
            have Hm35 := Lib.hid (Hm2.out.trans hm35 (fun x _ e => e))
            clear hz hnz hm5 hm35 hmw5 hcf hts hS5
            go_wp2
            go_roundw
            case rel => exact ⟨q + 1, by omega, by go_num, rfl, _, Hts.out, HS5.out, by omega, Hm35.out⟩
            case measure => simp [intOf]; omega
          · obtain ⟨i, hi9, hci, rfl⟩ := hnz hcf
            have hrF := cRowF_fault Hxl.out Hrun.out hcf
            rw [hci] at hrF
            have hre := allR_at ll 0 k l _ Hl.out Hall.out hrF
            rw [Nat.zero_add] at hre
            obtain ⟨rfl, rfl⟩ := Prod.mk.inj (Hres0.out.symm.trans hre)
            have hrs : res = false := by rw [← Hres.out]; simp; omega
            subst hrs
            have Hmw5 := Lib.hid hmw5
            unfold errV
            clear hz hnz hm5 hm35 hmw5 hcf hci hrF hre
            go_wp2
            go_ret2
            exact ⟨_, rfl, .inr (.inr ⟨i, _, hi9, rfl, rfl, by simp, by simp, by simp [errV]⟩), (Hmw5.out).alloc _⟩
        · have hd2 : decide ((q : Int) < (l.length : Int)) = false := by simp; omega
          obtain rfl : q = l.length := by omega
          have hrun := Hrun.out
          rw [List.take_length] at hrun
          have s0 := cell_of_heap hS 0
          have s3 := cell_of_heap hS 3
          replace s0 : w3.cell? ⟨w2.heap.size, 0, none⟩ = some (.int .i64 (s.d : Int)) := s0
          replace s3 : w3.cell? ⟨w2.heap.size, 3, none⟩ = some (.bool s.u) := s3
          have v7 := (HE.out.keep hmw).v7
          by_cases hdp : s.d = 0
          · have hrF := cRowF_fine hrun hdp
            have hsr := cSafe_row hrun
            rw [hdp] at s0
            have d3 : decide ((0 : Int) < ((0 : Nat) : Int)) = false := by decide
            have HrF := Lib.hid hrF
            have Hsr := Lib.hid hsr
            have htk : ll.take (k + 1) = ll.take k ++ [l] := by rw [List.take_add_one, Hl.out]; rfl
            have Htk := Lib.hid htk
            clear hrun hS hm2 hdp hrF hsr hmw htk
            cases hsu : s.u with
            | true =>
              rw [hsu] at s3
              have hnx : (ll.take (k + 1)).all cSafe = false := by rw [Htk.out, List.all_append]; simp [Hsr.out, hsu]
              have Hnx := Lib.hid hnx
              cases sf with
              | true =>
                clear hnx
                go_wp2
                go_roundw
                case rel =>
                  refine ⟨k + 1, by omega, by go_num, by rw [Hnx.out], Hmw.out, fun j y hj hy => ?_⟩
                  by_cases e : j = k
                  · subst e
                    rw [Hl.out] at hy; cases hy; exact HrF.out
                  · exact Hall.out j y (by omega) hy
                case measure => simp [intOf]; omega
              | false =>
                clear hnx
                go_wp2
                go_roundw
                case rel =>
                  refine ⟨k + 1, by omega, by go_num, by rw [Hnx.out], Hmw.out, fun j y hj hy => ?_⟩
                  by_cases e : j = k
                  · subst e
                    rw [Hl.out] at hy; cases hy; exact HrF.out
                  · exact Hall.out j y (by omega) hy
                case measure => simp [intOf]; omega
            | false =>
              rw [hsu] at s3
              have hnx : (ll.take (k + 1)).all cSafe = sf := by rw [Htk.out, List.all_append, Hsf.out]; simp [Hsr.out, hsu]
              have Hnx := Lib.hid hnx
              cases sf with
              | true =>
                clear hnx
                go_wp2
                go_roundw
                case rel =>
                  refine ⟨k + 1, by omega, by go_num, by rw [Hnx.out], Hmw.out, fun j y hj hy => ?_⟩
                  by_cases e : j = k
                  · subst e
                    rw [Hl.out] at hy; cases hy; exact HrF.out
                  · exact Hall.out j y (by omega) hy
                case measure => simp [intOf]; omega
              | false =>
                clear hnx
                go_wp2
                go_roundw
                case rel =>
                  refine ⟨k + 1, by omega, by go_num, by rw [Hnx.out], Hmw.out, fun j y hj hy => ?_⟩
                  by_cases e : j = k
                  · subst e
                    rw [Hl.out] at hy; cases hy; exact HrF.out
                  · exact Hall.out j y (by omega) hy
                case measure => simp [intOf]; omega
          · obtain ⟨z, hz⟩ : ∃ z : Int, (s.d : Int) = z := ⟨_, rfl⟩
            rw [hz] at s0
            have d3 : decide (0 < z) = true := by simp; omega
            clear hz
            have hrF := cRowF_deep hrun hdp
            have hre := allR_at ll 0 k l _ Hl.out Hall.out hrF
            rw [Nat.zero_add] at hre
            obtain ⟨rfl, rfl⟩ := Prod.mk.inj (Hres0.out.symm.trans hre)
            have hrs : res = false := by rw [← Hres.out]; simp
            subst hrs
            clear hrun hS hm2 hdp hrF hre hmw
            go_wp2
            refine wp_region_held_drew (S := (fun W => W.cell? ⟨7, 0, none⟩ = some (.iface 225 (.pointer (some (a 7)))))) (by kernel_rfl) ((Mod.refl noF _).drew.cell v7 (fun e => e)) (fun hHeld => ?_)
            refine wpAnyH_take (i := 0) (oi := ?oZ0) (v := ?vZ0) ?qZ0 (by kernel_rfl) ?fZ0 ?gZ0 ?pZ0 ?uZ0 (by assumption) ?rZ0
            case qZ0 => (rw [List.getElem?_toArray]; rfl)
            case fZ0 => kernel_rfl
            case gZ0 => kernel_rfl
            case pZ0 => exact (fun _ _ _ h => h)
            case uZ0 => (refine Or.inl ⟨by rfl, ?_⟩; intro w hSw; (try dsimp only at hSw); go_simp; (try rw [if_neg (by omega)]); try with_reducible rfl)
            try simp only [Act.put, List.setIfInBounds_toArray, List.set_cons_zero, List.set_cons_succ]
            refine wpAnyH_take (i := 1) (oi := ?oZ1) (v := ?vZ1) ?qZ1 (by kernel_rfl) ?fZ1 ?gZ1 ?pZ1 ?uZ1 (by assumption) ?rZ1
            case qZ1 => (rw [List.getElem?_toArray]; rfl)
            case fZ1 => kernel_rfl
            case gZ1 => kernel_rfl
            case pZ1 => exact (fun _ _ _ h => h)
            case uZ1 => (refine Or.inl ⟨by rfl, ?_⟩; intro w hSw; (try dsimp only at hSw); go_simp; (try rw [if_neg (by omega)]); try with_reducible rfl)
            try simp only [Act.put, List.setIfInBounds_toArray, List.set_cons_zero, List.set_cons_succ]
            refine wpAnyH_take (i := 2) (oi := ?oZ2) (v := ?vZ2) ?qZ2 (by kernel_rfl) ?fZ2 ?gZ2 ?pZ2 ?uZ2 (by assumption) ?rZ2
            case qZ2 => (rw [List.getElem?_toArray]; rfl)
            case fZ2 => kernel_rfl
            case gZ2 => kernel_rfl
            case pZ2 => exact (fun _ _ _ h => h)
            case uZ2 => (refine Or.inl ⟨by rfl, ?_⟩; intro w hSw; (try dsimp only at hSw); go_simp; (try rw [if_neg (by omega)]); try with_reducible rfl)
            try simp only [Act.put, List.setIfInBounds_toArray, List.set_cons_zero, List.set_cons_succ]
            refine wpAnyH_take (i := 5) (oi := ?oZ5) (v := ?vZ5) ?qZ5 (by kernel_rfl) ?fZ5 ?gZ5 ?pZ5 ?uZ5 (by assumption) ?rZ5
            case qZ5 => (rw [List.getElem?_toArray]; rfl)
            case fZ5 => kernel_rfl
            case gZ5 => kernel_rfl
            case pZ5 => exact (fun _ _ _ h => h)
            case uZ5 => (refine Or.inl ⟨by rfl, ?_⟩; intro w hSw; (try dsimp only at hSw); go_simp; (try rw [if_neg (by omega)]); try with_reducible rfl)
            try simp only [Act.put, List.setIfInBounds_toArray, List.set_cons_zero, List.set_cons_succ]
            refine wpAnyH_ready (rs := [3]) (by kernel_rfl) (by simp) ?_
            refine AllReadyH.cons rfl (fun K hK => ?_) AllReadyH.nil
            go_simp
            refine Shut.out hK _ _ (((Mod.refl noF _).alloc _).cell hHeld (fun e => e)) (fun hS4 => ?_)
            try simp only [Act.put, List.setIfInBounds_toArray, List.set_cons_zero, List.set_cons_succ]
            refine wpAnyH_take (i := 4) (oi := ?oZ4) (v := ?vZ4) ?qZ4 (by kernel_rfl) ?fZ4 ?gZ4 ?pZ4 ?uZ4 (by assumption) ?rZ4
            case qZ4 => (rw [List.getElem?_toArray]; rfl)
            case fZ4 => kernel_rfl
            case gZ4 => kernel_rfl
            case pZ4 => exact (fun _ _ _ h => h)
            case uZ4 => (refine Or.inl ⟨by rfl, ?_⟩; intro w hSw; (try dsimp only at hSw); go_simp; (try rw [if_neg (by omega)]); try with_reducible rfl)
            try simp only [Act.put, List.setIfInBounds_toArray, List.set_cons_zero, List.set_cons_succ]
            refine wpAnyH_take (i := 6) (oi := ?oZ6) (v := ?vZ6) ?qZ6 (by kernel_rfl) ?fZ6 ?gZ6 ?pZ6 ?uZ6 (by assumption) ?rZ6
            case qZ6 => (rw [List.getElem?_toArray]; rfl)
            case fZ6 => kernel_rfl
            case gZ6 => kernel_rfl
            case pZ6 => exact (fun _ _ _ h => h)
            case uZ6 => (refine Or.inl ⟨by rfl, ?_⟩; intro w hSw; (try dsimp only at hSw); go_simp; (try rw [if_neg (by omega)]); try with_reducible rfl)
            try simp only [Act.put, List.setIfInBounds_toArray, List.set_cons_zero, List.set_cons_succ]
            refine wpAnyH_done (by kernel_rfl) ?_ _
            go_wp2
            go_ret2
            exact ⟨_, rfl, .inr (.inr ⟨7, _, by omega, rfl, rfl, by simp, by simp, by simp [errV]⟩), by repeat (first | exact Hmw.out | refine Mod.drew ?_ | refine Mod.drewN ?_ _ | refine Mod.alloc ?_ _)⟩
    · have hd : decide ((k : Int) < (ll.length : Int)) = false := by simp; omega
      have hre := allR_none (rf := cRowF) ll 0 fun j y hj => Hall.out j y (by have := (List.getElem?_eq_some_iff.1 hj).1; omega) hj
      obtain ⟨rfl, rfl⟩ := Prod.mk.inj (Hres0.out.symm.trans hre)
      have hsf := Hsf.out
      rw [List.take_of_length_le (by omega)] at hsf
      have hrs : res = sf := by rw [← Hres.out, hsf]; simp
      subst hrs
      have Hm := Lib.hid hm
      clear hm hre hsf
      go_wp2
      go_ret2
      exact ⟨_, rfl, .inl ⟨rfl, rfl, rfl⟩, Hm.out⟩
theorem ccheck (E : ErrsAt w a) (HK : KindsW w) (H : RIn N w v ll) (hlen : ll.length ≤ 10) (hrow : ∀ l ∈ ll, l.length ≤ 30) :
    Calls Tryz.prog 62 #[v] w fun e w' => ∃ ev, e = .returned (.tuple #[.bool (csG ll), ev]) ∧ ErrIs a w' ev (cfG ll).1 (cfG ll).2 ∧ Mod noF w w' := by
  unfold csG cfG
  cases hm : manyB ll with
  | false => exact ccheck_many E H hlen hrow hm
  | true => exact ccheck_ok E HK H hlen hrow hm
theorem cCheck (E : ErrsAt w a) (HK : KindsW w) (H : RIn N w v ll) (hlen : ll.length ≤ 10) (hrow : ∀ l ∈ ll, l.length ≤ 30) :
    Calls Tryz.prog 37 #[v] w fun e w' => ∃ ev, e = .returned ev ∧ ErrIs a w' ev (cfG ll).1 (cfG ll).2 ∧ Mod noF w w' := by
  have Hcall := Lib.hid (ccheck E HK H hlen hrow)
  generalize csG ll = sb at *
  clear E HK H hrow
  go_enter Tryz.func37, Tryz.ntmps37
  go_wp2_with fail
  refine Hcall.out.mono ?_
  rintro e w1 ⟨ev, rfl, hE, hm⟩
  have HE1 := Lib.hid hE
  have Hm := Lib.hid hm
  clear hE hm
  go_wp2
  go_ret
  exact ⟨ev, rfl, HE1.out, Hm.out⟩
end Go.Proofs.YtppihkneeolomaaGreatDoor
end
/- quiescentlaw2.faulted -/
section
namespace Go.Proofs.YtppihkneeolomaaGreatDoor
open Go.RowKit Qs Qh
variable {a : Nat → Addr} {w w' : World} {v : Value} {c p : Int}
theorem faulted2_any (E : ErrsAt w a) (h : ErrIs a w v c p) (c' p' : Int) : Calls Tryz.prog 33 #[v, .agg #[.int .i64 c', .int .i64 p']] w fun e w' => e = .returned (.bool (faultB c p c' p')) ∧ Mod noF w w' := by
  have hq := (Mod.refl noF w).alloc (.cells #[.int .i64 c', .int .i64 p'] 27)
  have Hc := Lib.hid (code_any (E.keep hq) (h.keep hq (fun _ _ e => e)))
  have f0 : (w.alloc (.cells #[.int .i64 c', .int .i64 p'] 27)).cell? ⟨w.heap.size, 0, none⟩ = some (.int .i64 c') := by simp
  have f1 : (w.alloc (.cells #[.int .i64 c', .int .i64 p'] 27)).cell? ⟨w.heap.size, 1, none⟩ = some (.int .i64 p') := by simp
  have Hf0 := Lib.hid f0
  have Hf1 := Lib.hid f1
  clear E h hq f0 f1
  unfold faultB
  by_cases h1 : c = c'
  · subst h1
    by_cases h2 : c = 0
    · subst h2
      go_enter Tryz.func33, Tryz.ntmps33
      go_wp2_with fail
      refine Hc.out.mono ?_
      rintro e w1 ⟨rfl, hm⟩
      have g0 := hm.cell Hf0.out (fun e => e)
      have g1 := hm.cell Hf1.out (fun e => e)
      have Hm := Lib.hid hm
      clear hm
      go_wp2
      go_ret
      exact ⟨rfl, ((Mod.refl noF w).alloc _).trans0 Hm.out⟩
    · have d2 : (c == 0) = false := by simpa using h2
      have d3 : decide (c = 0) = false := by simpa using h2
      by_cases h3 : p = p'
      · subst h3
        rw [d3]
        go_enter Tryz.func33, Tryz.ntmps33
        go_wp2_with fail
        refine Hc.out.mono ?_
        rintro e w1 ⟨rfl, hm⟩
        have g0 := hm.cell Hf0.out (fun e => e)
        have g1 := hm.cell Hf1.out (fun e => e)
        have Hm := Lib.hid hm
        clear hm
        go_wp2
        go_ret
        exact ⟨by simp, ((Mod.refl noF w).alloc _).trans0 Hm.out⟩
      · have d4 : (p == p') = false := by simpa using h3
        have d5 : decide (p = p') = false := by simpa using h3
        rw [d3, d5]
        go_enter Tryz.func33, Tryz.ntmps33
        go_wp2_with fail
        refine Hc.out.mono ?_
        rintro e w1 ⟨rfl, hm⟩
        have g0 := hm.cell Hf0.out (fun e => e)
        have g1 := hm.cell Hf1.out (fun e => e)
        have Hm := Lib.hid hm
        clear hm
        go_wp2
        go_ret
        exact ⟨by simp, ((Mod.refl noF w).alloc _).trans0 Hm.out⟩
  · have d1 : (c == c') = false := by simpa using h1
    have d5 : decide (c = c') = false := by simpa using h1
    rw [d5]
    go_enter Tryz.func33, Tryz.ntmps33
    go_wp2_with fail
    refine Hc.out.mono ?_
    rintro e w1 ⟨rfl, hm⟩
    have g0 := hm.cell Hf0.out (fun e => e)
    have g1 := hm.cell Hf1.out (fun e => e)
    have Hm := Lib.hid hm
    clear hm
    go_wp2
    go_ret
    exact ⟨by simp, ((Mod.refl noF w).alloc _).trans0 Hm.out⟩
end Go.Proofs.YtppihkneeolomaaGreatDoor
end
