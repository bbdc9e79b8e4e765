/- Texts that belong together, joined. -/
import Derived.Test.YtppihkneeolomaaDoorCOSkinds2
import Derived.Test.YtppihkneeolomaaDoorCOm3
import Derived.LaidLaws
import Derived.SliceStrings
import Derived.ChangeShapes
import Derived.Test.YtppihkneeolomaaDoorCOm7
import Derived.Test.YtppihkneeolomaaDoorCOm6
import Derived.Test.YtppihkneeolomaaDoorCOm5
import Derived.Test.YtppihkneeolomaaDoorCOm1
set_option linter.unusedVariables false
set_option linter.unusedSimpArgs false
set_option linter.unusedSectionVars false
/- Faults of lists of ops, in plain: which ops, which numbers. -/
section
namespace Go.Proofs.YtppihkneeolomaaDoor
open Go.RowKit Qs Qh
variable {N : Nat} {w w' : World} {v u : Value} {ll : List (List ROp)} {l : List ROp} {rf : List ROp → Option Int}
/-- The first thread's fault. -/
def allR (rf : List ROp → Option Int) : Nat → List (List ROp) → Int × Int
  | _, [] => (0, -1)
  | i, l :: r => match rf l with
    | some c => (c, i)
    | none => allR rf (i + 1) r
theorem allR_at : ∀ (ll : List (List ROp)) (i k : Nat) (l : List ROp) (c : Int), ll[k]? = some l → (∀ (j : Nat) y, j < k → ll[j]? = some y → rf y = none) → rf l = some c → allR rf i ll = (c, ((i + k : Nat) : Int))
  | [], i, k, l, c, h, _, _ => by simp at h
  | y :: ll, i, 0, l, c, h, _, h0 => by
    simp at h; subst h
    unfold allR; rw [h0]; rfl
  | y :: ll, i, k + 1, l, c, h, ha, h0 => by
    have hy := ha 0 y (by omega) rfl
    have := allR_at ll (i + 1) k l c (by simpa using h) (fun j z hj hz => ha (j + 1) z (by omega) (by simpa using hz)) h0
    unfold allR; rw [hy]
    show allR rf (i + 1) ll = _
    rw [this, show i + 1 + k = i + (k + 1) by omega]
theorem allR_none : ∀ (ll : List (List ROp)) (i : Nat), (∀ (j : Nat) y, ll[j]? = some y → rf y = none) → allR rf i ll = (0, -1)
  | [], i, _ => rfl
  | y :: ll, i, h => by
    unfold allR; rw [h 0 y rfl]
    exact allR_none ll (i + 1) fun j z hz => h (j + 1) z (by simpa using hz)
/-- What is told of lists is a fault of one, or none. -/
theorem allR_cases : ∀ (ll : List (List ROp)) (i : Nat), (allR rf i ll = (0, -1) ∧ ∀ l ∈ ll, rf l = none) ∨ ∃ (k : Nat) (l : List ROp) (c : Int), ll[k]? = some l ∧ rf l = some c ∧ allR rf i ll = (c, ((i + k : Nat) : Int)) ∧ ∀ (j : Nat) y, j < k → ll[j]? = some y → rf y = none
  | [], i => .inl ⟨rfl, fun _ h => by cases h⟩
  | y :: ll, i => by
    cases hy : rf y with
    | some c => exact .inr ⟨0, y, c, rfl, hy, by unfold allR; rw [hy]; rfl, fun j z hj => by omega⟩
    | none =>
      rcases allR_cases ll (i + 1) with ⟨h, h2⟩ | ⟨k, l, c, h1, h2, h3, h4⟩
      · refine .inl ⟨by unfold allR; rw [hy]; exact h, fun l hl => ?_⟩
        rcases List.mem_cons.1 hl with rfl | hl
        · exact hy
        · exact h2 l hl
      · refine .inr ⟨k + 1, l, c, by simpa using h1, h2, ?_, fun j z hj hz => ?_⟩
        · unfold allR; rw [hy]
          show allR rf (i + 1) ll = _
          rw [h3, show i + 1 + k = i + (k + 1) by omega]
        · cases j with
          | zero => simp at hz; subst hz; exact hy
          | succ j => exact h4 j z (by omega) (by simpa using hz)
/-- Is a name among names? -/
def memK (ks : List ByteArray) (s : ByteArray) : Bool := ks.any fun k => decide (k = s)
theorem memK_iff {ks : List ByteArray} {s : ByteArray} : memK ks s = true ↔ s ∈ ks := by
  unfold memK
  rw [List.any_eq_true]
  constructor
  · rintro ⟨k, h, e⟩; rw [← of_decide_eq_true e]; exact h
  · exact fun h => ⟨s, h, by simp⟩
variable {W : ByteArray} {ks : List ByteArray}
end Go.Proofs.YtppihkneeolomaaDoor
end
/- stack.Check: over any lists of ops. -/
section
namespace Go.Proofs.YtppihkneeolomaaDoor
open Go.RowKit Qs Qh
variable {N : Nat} {w w' : World} {v u : Value} {ll : List (List ROp)} {l : List ROp} {W : ByteArray} {ks : List ByteArray}
def IdxPost (ks : List ByteArray) (s : ByteArray) (w : World) (e : Ending) (w' : World) : Prop := ∃ n : Int, e = .returned (.int .i64 n) ∧ w' = w ∧ (s ∈ ks → 0 ≤ n) ∧ (¬ s ∈ ks → n = -1)
def IdlPost (ll : List (List ROp)) (w : World) (e : Ending) (w' : World) : Prop := ∃ n : Int, e = .returned (.int .i64 n) ∧ w' = w ∧ ((∀ l ∈ ll, l.length ≤ 20) → n = -1) ∧ (¬ (∀ l ∈ ll, l.length ≤ 20) → 0 ≤ n)
theorem manyB_iff : manyB ll = true ↔ 1 ≤ ll.length ∧ ll.length ≤ 6 ∧ ∀ l ∈ ll, l.length ≤ 20 := by
  unfold manyB
  simp [and_assoc]
theorem manyB_false (h : manyB ll = false) : ll.length < 1 ∨ 6 < ll.length ∨ ¬ ∀ l ∈ ll, l.length ≤ 20 := by
  by_cases h1 : ll.length < 1
  · exact .inl h1
  · by_cases h2 : 6 < ll.length
    · exact .inr (.inl h2)
    · refine .inr (.inr fun h3 => ?_)
      have := manyB_iff.2 ⟨by omega, by omega, h3⟩
      rw [this] at h; cases h
variable {a : Nat → Addr}
end Go.Proofs.YtppihkneeolomaaDoor
end
/- package client: the kinds of its ops, laid in a variable; is a name one? -/
section
namespace Go.Proofs.YtppihkneeolomaaDoor
open Go.RowKit Qs Qh
def kindsC : List ByteArray := [⟨#[101, 110, 116, 101, 114]⟩, ⟨#[108, 101, 97, 118, 101]⟩, ⟨#[114, 101, 115, 116]⟩, ⟨#[119, 97, 105, 116]⟩, ⟨#[114, 101, 97, 100]⟩, ⟨#[112, 117, 116]⟩, ⟨#[100, 114, 111, 112]⟩, ⟨#[108, 97, 116, 101, 114]⟩, ⟨#[102, 108, 117, 115, 104]⟩]
def kindsD : DataW Unit := .slice (ChangeShapes.strs kindsC) []
/-- The variable and its row. -/
def KindsW (w : World) : Prop := ∃ g off cap, w.cell? ⟨10, 0, none⟩ = some (.slice (some ⟨g, off, none⟩) 9 cap) ∧ ∀ (i : Nat) x, kindsC[i]? = some x → w.cell? ⟨g, off + i, none⟩ = some (.string x)
theorem KindsW.keep {w w' : World} (h : KindsW w) (hM : Mod noF w w') : KindsW w' := by
  obtain ⟨g, off, cap, h1, h2⟩ := h
  exact ⟨g, off, cap, hM.cell h1 (fun e => e), fun i x hi => hM.cell (h2 i x hi) (fun e => e)⟩
theorem indexK2 (w : World) (g off cap : Nat) (ks : List ByteArray) (s : ByteArray) (hg : ∀ (i : Nat) x, ks[i]? = some x → w.cell? ⟨g, off + i, none⟩ = some (.string x)) (hl : ks.length ≤ 1000) :
    Calls Tryd.prog 98 #[.slice (some ⟨g, off, none⟩) ks.length cap, .string s] w (IdxPost ks s w) := by
  have Hg := Lib.hid hg
  clear hg
  go_enter Tryd.func98, Tryd.ntmps98
  go_wp2
  go_loop [5, 8] (fun j i => ∃ k : Nat, k ≤ ks.length ∧ i = .int .i64 k ∧ ¬ s ∈ ks.take k) (fun _ i => ks.length - (intOf i).toNat)
  case atStart => exact ⟨0, Nat.zero_le _, rfl, by simp⟩
  case round =>
    obtain ⟨k, hk, rfl, hno⟩ := hrel
    have Hno := Lib.hid hno
    clear hno
    by_cases hlt : k < ks.length
    · have hd : decide ((k : Int) < (ks.length : Int)) = true := by simp; omega
      have hki : (k : Int) < (ks.length : Int) := by omega
      obtain ⟨y, hy⟩ : ∃ y, ks[k]? = some y := ⟨_, List.getElem?_eq_getElem hlt⟩
      have hyc := Hg.out k y hy
      have hmem := List.mem_of_getElem? hy
      have htk : ks.take (k + 1) = ks.take k ++ [y] := by rw [List.take_add_one, hy]; rfl
      have Htk := Lib.hid htk
      have Hmem := Lib.hid hmem
      clear hy htk hmem
      by_cases hxy : y = s
      · subst hxy
        have ey := str_eq y
        go_wp2
        go_ret
        exact ⟨_, rfl, rfl, fun _ => by omega, fun h => absurd Hmem.out h⟩
      · have ey : (s.toList == y.toList) = false := str_ne fun e => hxy e.symm
        have ey2 : (y.toList == s.toList) = false := str_ne hxy
        go_wp2
        go_round
        case rel => exact ⟨k + 1, by omega, by go_num, by rw [Htk.out]; intro h; rcases List.mem_append.1 h with h | h; exact Hno.out h; exact hxy (List.mem_singleton.1 h).symm⟩
        case measure => simp [intOf]; omega
    · have hd : decide ((k : Int) < (ks.length : Int)) = false := by simp; omega
      obtain rfl : k = ks.length := by omega
      have hno := Hno.out
      rw [List.take_length] at hno
      go_wp2
      go_ret
      exact ⟨-1, rfl, rfl, fun h => absurd h hno, fun _ => rfl⟩
theorem containsK2 (w : World) (g off cap : Nat) (ks : List ByteArray) (s : ByteArray) (hg : ∀ (i : Nat) x, ks[i]? = some x → w.cell? ⟨g, off + i, none⟩ = some (.string x)) (hl : ks.length ≤ 1000) :
    Calls Tryd.prog 67 #[.slice (some ⟨g, off, none⟩) ks.length cap, .string s] w fun e w' => e = .returned (.bool (memK ks s)) ∧ w' = w := by
  have Hcall := Lib.hid (indexK2 w g off cap ks s hg hl)
  clear hg
  by_cases hs : s ∈ ks
  · have ds : memK ks s = true := memK_iff.2 hs
    rw [ds]
    go_enter Tryd.func67, Tryd.ntmps67
    go_wp2_with fail
    refine Hcall.out.mono ?_
    rintro e w' ⟨n, rfl, rfl, h1, h2⟩
    have d : decide ((0 : Int) ≤ n) = true := by simpa using h1 hs
    clear h1 h2 hs
    go_wp2
    go_ret
    exact ⟨rfl, rfl⟩
  · have ds : memK ks s = false := by cases h : memK ks s with
      | true => exact absurd (memK_iff.1 h) hs
      | false => rfl
    rw [ds]
    go_enter Tryd.func67, Tryd.ntmps67
    go_wp2_with fail
    refine Hcall.out.mono ?_
    rintro e w' ⟨n, rfl, rfl, h1, h2⟩
    obtain rfl := h2 hs
    clear h1 h2 hs
    go_wp2
    go_ret
    exact ⟨rfl, rfl⟩
theorem strs_inj : ∀ {a b : List ByteArray}, (ChangeShapes.strs a : List (DataW Unit)) = ChangeShapes.strs b → a = b := by
  intro a b h
  have h1 := congrArg (List.map fun y : DataW Unit => match y with | .lit (.string bs) => (⟨bs.toArray⟩ : ByteArray) | _ => ByteArray.empty) h
  unfold ChangeShapes.strs at h1
  rw [List.map_map, List.map_map] at h1
  have h2 : ∀ l : List ByteArray, l.map ((fun y : DataW Unit => match y with | .lit (.string bs) => (⟨bs.toArray⟩ : ByteArray) | _ => ByteArray.empty) ∘ fun s => .lit (.string s.data.toList)) = l := fun l => by
    conv => rhs; rw [← List.map_id l]
    refine List.map_congr_left fun s _ => ?_
    cases s; simp
  rw [h2, h2] at h1
  exact h1
/-- What 'laid' gives a walk. -/
theorem kinds_of_vars {W : World} {nm : String} (hn : Tryd.prog.globalNamed nm = some 10) (ht : (Tryd.prog.globals[10]?).map (·.type) = some 29) {ps : List MemPlace} (h : DataW.LaidVars Tryd.prog W [(nm, kindsD)] ps) : KindsW W := by
  obtain ⟨g0, t0, cs0, f0, p0, q0, hg0, ht0, hv0, hd0, hr, e0⟩ := h
  obtain rfl := Option.some.inj (hn.symm.trans hg0)
  obtain rfl := Option.some.inj (ht.symm.trans ht0)
  obtain ⟨l0⟩ := cs0
  rcases ChangeShapes.open_strings Tryd.underlying29 Tryd.underlying9 (by kernel_rfl) hd0 with ⟨_, h2⟩ | ⟨a, len, cap, ss, hcs, _, hl, hm, hlen, hx, hcell, _⟩
  · simp [kindsD] at h2
  · simp only at hcs
    subst hcs
    simp only [if_true] at hlen
    have hx1 := congrArg Prod.fst hx
    simp only [kindsD] at hx1
    have hx2 : (ChangeShapes.strs kindsC : List (DataW Unit)) = ChangeShapes.strs (ss.take len) := by injection hx1
    have hk := strs_inj hx2
    have hl9 : len = 9 := by
      have := congrArg List.length hk
      rw [List.length_take, hlen] at this
      have h9 : kindsC.length = 9 := rfl
      omega
    subst hl9
    have hc0 := hcell 0 (by omega)
    have hsp : a.spot = none := by
      have := World.cell?_spot hc0
      unfold Addr.add at this
      split at this
      · assumption
      · simp_all
    obtain ⟨g, off, sp⟩ := a
    simp only at hsp
    subst hsp
    refine ⟨g, off, cap, ?_, fun i x hi => ?_⟩
    · simpa using World.var?_cell hg0 hv0 0
    · have hlt := (List.getElem?_eq_some_iff.1 hi).1
      have h9 : kindsC.length = 9 := rfl
      have := hcell i (by omega)
      rw [Go.WideShapes.add_plain] at this
      rw [this]
      have hi2 := hi
      rw [hk, List.getElem?_take, if_pos (by omega)] at hi2
      rw [List.getD_eq_getElem?_getD, hi2]; rfl
end Go.Proofs.YtppihkneeolomaaDoor
end
/- What clients may do, in plain: the program's words. -/
section
namespace Go.Proofs.YtppihkneeolomaaDoor
open Go.RowKit Qs Qh
def kEnter : ByteArray := ⟨#[101, 110, 116, 101, 114]⟩
def kLeave : ByteArray := ⟨#[108, 101, 97, 118, 101]⟩
def kRest : ByteArray := ⟨#[114, 101, 115, 116]⟩
def kWait : ByteArray := ⟨#[119, 97, 105, 116]⟩
def kRead : ByteArray := ⟨#[114, 101, 97, 100]⟩
def kPut : ByteArray := ⟨#[112, 117, 116]⟩
def kDrop : ByteArray := ⟨#[100, 114, 111, 112]⟩
def kLater : ByteArray := ⟨#[108, 97, 116, 101, 114]⟩
def kFlush : ByteArray := ⟨#[102, 108, 117, 115, 104]⟩
/-- A thread's state: how deep, whether something is retired, waited behind it, whether it is unsafe. -/
structure CSt where
  d : Nat
  r : Bool
  w : Bool
  u : Bool
deriving DecidableEq
/-- An op's fault, and the state behind it. -/
def cfOp (s : CSt) (x : ROp) : Int × CSt :=
  if memK kindsC x.1 = false ∨ (x.1 ≠ kPut ∧ x.2 ≠ 0) then (3, s)
  else if x.1 = kPut ∧ (x.2 < 1 ∨ 1000 < x.2) then (2, s)
  else if x.1 = kEnter then (0, { s with d := s.d + 1 })
  else if x.1 = kLeave then (if s.d = 0 then (8, s) else (0, { s with d := s.d - 1 }))
  else if x.1 = kRest ∨ x.1 = kWait ∨ x.1 = kFlush then (if s.d ≠ 0 then (8, s) else (0, { s with w := s.w || decide (x.1 ≠ kRest) }))
  else if x.1 = kRead then (if s.d = 0 then (8, s) else (0, s))
  else if x.1 = kPut then (if s.d ≠ 0 ∨ s.r = true then (8, s) else (0, { s with r := true, w := false }))
  else (if s.r = false then (5, s) else (0, { s with r := false, u := s.u || (decide (x.1 = kDrop) && !s.w) }))
/-- A thread's ops: the first fault, and the state there. -/
def cRun : CSt → List ROp → Int × CSt
  | s, [] => (0, s)
  | s, x :: l => if (cfOp s x).1 ≠ 0 then cfOp s x else cRun (cfOp s x).2 l
def c0 : CSt := ⟨0, false, false, false⟩
def cRowF (l : List ROp) : Option Int := if (cRun c0 l).1 ≠ 0 then some (cRun c0 l).1 else if (cRun c0 l).2.d ≠ 0 then some 8 else none
def cSafe (l : List ROp) : Bool := !(cRun c0 l).2.u
def cfG (ll : List (List ROp)) : Int × Int := if manyB ll then allR cRowF 0 ll else (2, -1)
/-- Is it safe? Where there is no fault. -/
def csG (ll : List (List ROp)) : Bool := decide ((cfG ll).1 = 0) && ll.all cSafe
theorem cRun_take_succ {x : ROp} {s : CSt} : ∀ (l : List ROp) (q : Nat) (s0 : CSt), l[q]? = some x → cRun s0 (l.take q) = (0, s) → cRun s0 (l.take (q + 1)) = (if (cfOp s x).1 ≠ 0 then cfOp s x else (0, (cfOp s x).2))
  | [], q, s0, h, _ => by simp at h
  | y :: l, 0, s0, h, h0 => by
    simp at h; subst h
    simp only [List.take_zero, cRun, Prod.mk.injEq, true_and] at h0
    subst h0
    simp [cRun]
  | y :: l, q + 1, s0, h, h0 => by
    rw [List.take_succ_cons] at h0 ⊢
    unfold cRun at h0 ⊢
    by_cases hf : (cfOp s0 y).1 ≠ 0
    · rw [if_pos hf] at h0
      rw [h0] at hf; exact absurd rfl hf
    · rw [if_neg hf] at h0 ⊢
      exact cRun_take_succ l q _ (by simpa using h) h0
theorem cRun_fault {x : ROp} {s : CSt} : ∀ (l : List ROp) (q : Nat) (s0 : CSt), l[q]? = some x → cRun s0 (l.take q) = (0, s) → (cfOp s x).1 ≠ 0 → cRun s0 l = cfOp s x
  | [], q, s0, h, _, _ => by simp at h
  | y :: l, 0, s0, h, h0, hf => by
    simp at h; subst h
    simp only [List.take_zero, cRun, Prod.mk.injEq, true_and] at h0
    subst h0
    unfold cRun
    rw [if_pos hf]
  | y :: l, q + 1, s0, h, h0, hf => by
    rw [List.take_succ_cons] at h0
    unfold cRun at h0 ⊢
    by_cases hg : (cfOp s0 y).1 ≠ 0
    · rw [if_pos hg] at h0
      rw [h0] at hg; exact absurd rfl hg
    · rw [if_neg hg] at h0 ⊢
      exact cRun_fault l q _ (by simpa using h) h0 hf
end Go.Proofs.YtppihkneeolomaaDoor
end
/- package client: a thread's state and an op: every way. -/
section
namespace Go.Proofs.YtppihkneeolomaaDoor
open Go.RowKit Qs Qh
/-- A thread's state in memory. -/
def StAt (w : World) (b : Nat) (s : CSt) : Prop := w.heap[b]? = some (.cells #[.int .i64 (s.d : Int), .bool s.r, .bool s.w, .bool s.u] 187 (0, 0))
def SopPost (a : Nat → Addr) (s : CSt) (x : ROp) (b : Nat) (w : World) (e : Ending) (w' : World) : Prop :=
  ∃ ev, e = .returned ev ∧ ((cfOp s x).1 = 0 → ev = .nilIface ∧ StAt w' b (cfOp s x).2) ∧ ((cfOp s x).1 ≠ 0 → ∃ i : Nat, i < 9 ∧ (cfOp s x).1 = (i : Int) + 1 ∧ ev = errV a i) ∧ Mod (fun k => k = b) w w'
variable {a : Nat → Addr} {w w' : World} {b d : Nat} {r wt u : Bool} {n : Int} {s s' : CSt} {x : ROp}
theorem sop_good (hcf : cfOp s x = (0, s')) (hS : StAt w' b s') (hM : Mod (fun k => k = b) w w') : SopPost a s x b w (.returned .nilIface) w' :=
  ⟨_, rfl, fun _ => ⟨rfl, by rw [hcf]; exact hS⟩, fun h => absurd (by rw [hcf]) h, hM⟩
theorem sop_bad {c : Int} (i : Nat) (hcf : cfOp s x = (c, s')) (hi : i < 9) (hc : c = (i : Int) + 1) (hM : Mod (fun k => k = b) w w') : SopPost a s x b w (.returned (errV a i)) w' :=
  ⟨_, rfl, fun h => by rw [hcf] at h; simp only at h; omega, fun _ => ⟨i, hi, by rw [hcf]; exact hc, rfl⟩, hM⟩
theorem st_cells {W : World} (h : StAt W b ⟨d, r, wt, u⟩) : W.cell? ⟨b, 0, none⟩ = some (.int .i64 ((d : Nat) : Int)) ∧ W.cell? ⟨b, 1, none⟩ = some (.bool r) ∧ W.cell? ⟨b, 2, none⟩ = some (.bool wt) ∧ W.cell? ⟨b, 3, none⟩ = some (.bool u) ∧ W.frozen? ⟨b, 0, none⟩ = false ∧ W.frozen? ⟨b, 1, none⟩ = false ∧ W.frozen? ⟨b, 2, none⟩ = false ∧ W.frozen? ⟨b, 3, none⟩ = false :=
  ⟨cell_of_heap h 0, cell_of_heap h 1, cell_of_heap h 2, cell_of_heap h 3, free_of_heap h 0, free_of_heap h 1, free_of_heap h 2, free_of_heap h 3⟩
theorem sopE0 : ((⟨#[101, 110, 116, 101, 114]⟩ : ByteArray).toList == (⟨#[101, 110, 116, 101, 114]⟩ : ByteArray).toList) = true ∧ ((⟨#[101, 110, 116, 101, 114]⟩ : ByteArray).toList == (⟨#[108, 101, 97, 118, 101]⟩ : ByteArray).toList) = false ∧ ((⟨#[101, 110, 116, 101, 114]⟩ : ByteArray).toList == (⟨#[114, 101, 115, 116]⟩ : ByteArray).toList) = false ∧ ((⟨#[101, 110, 116, 101, 114]⟩ : ByteArray).toList == (⟨#[119, 97, 105, 116]⟩ : ByteArray).toList) = false ∧ ((⟨#[101, 110, 116, 101, 114]⟩ : ByteArray).toList == (⟨#[102, 108, 117, 115, 104]⟩ : ByteArray).toList) = false ∧ ((⟨#[101, 110, 116, 101, 114]⟩ : ByteArray).toList == (⟨#[114, 101, 97, 100]⟩ : ByteArray).toList) = false ∧ ((⟨#[101, 110, 116, 101, 114]⟩ : ByteArray).toList == (⟨#[112, 117, 116]⟩ : ByteArray).toList) = false ∧ ((⟨#[101, 110, 116, 101, 114]⟩ : ByteArray).toList == (⟨#[100, 114, 111, 112]⟩ : ByteArray).toList) = false ∧ ((⟨#[101, 110, 116, 101, 114]⟩ : ByteArray).toList == (⟨#[108, 97, 116, 101, 114]⟩ : ByteArray).toList) = false :=
  ⟨(by simp), (by rw [ByteArray.toList_eq, ByteArray.toList_eq]; rfl), (by rw [ByteArray.toList_eq, ByteArray.toList_eq]; rfl), (by rw [ByteArray.toList_eq, ByteArray.toList_eq]; rfl), (by rw [ByteArray.toList_eq, ByteArray.toList_eq]; rfl), (by rw [ByteArray.toList_eq, ByteArray.toList_eq]; rfl), (by rw [ByteArray.toList_eq, ByteArray.toList_eq]; rfl), (by rw [ByteArray.toList_eq, ByteArray.toList_eq]; rfl), (by rw [ByteArray.toList_eq, ByteArray.toList_eq]; rfl)⟩
theorem sopE1 : ((⟨#[108, 101, 97, 118, 101]⟩ : ByteArray).toList == (⟨#[101, 110, 116, 101, 114]⟩ : ByteArray).toList) = false ∧ ((⟨#[108, 101, 97, 118, 101]⟩ : ByteArray).toList == (⟨#[108, 101, 97, 118, 101]⟩ : ByteArray).toList) = true ∧ ((⟨#[108, 101, 97, 118, 101]⟩ : ByteArray).toList == (⟨#[114, 101, 115, 116]⟩ : ByteArray).toList) = false ∧ ((⟨#[108, 101, 97, 118, 101]⟩ : ByteArray).toList == (⟨#[119, 97, 105, 116]⟩ : ByteArray).toList) = false ∧ ((⟨#[108, 101, 97, 118, 101]⟩ : ByteArray).toList == (⟨#[102, 108, 117, 115, 104]⟩ : ByteArray).toList) = false ∧ ((⟨#[108, 101, 97, 118, 101]⟩ : ByteArray).toList == (⟨#[114, 101, 97, 100]⟩ : ByteArray).toList) = false ∧ ((⟨#[108, 101, 97, 118, 101]⟩ : ByteArray).toList == (⟨#[112, 117, 116]⟩ : ByteArray).toList) = false ∧ ((⟨#[108, 101, 97, 118, 101]⟩ : ByteArray).toList == (⟨#[100, 114, 111, 112]⟩ : ByteArray).toList) = false ∧ ((⟨#[108, 101, 97, 118, 101]⟩ : ByteArray).toList == (⟨#[108, 97, 116, 101, 114]⟩ : ByteArray).toList) = false :=
  ⟨(by rw [ByteArray.toList_eq, ByteArray.toList_eq]; rfl), (by simp), (by rw [ByteArray.toList_eq, ByteArray.toList_eq]; rfl), (by rw [ByteArray.toList_eq, ByteArray.toList_eq]; rfl), (by rw [ByteArray.toList_eq, ByteArray.toList_eq]; rfl), (by rw [ByteArray.toList_eq, ByteArray.toList_eq]; rfl), (by rw [ByteArray.toList_eq, ByteArray.toList_eq]; rfl), (by rw [ByteArray.toList_eq, ByteArray.toList_eq]; rfl), (by rw [ByteArray.toList_eq, ByteArray.toList_eq]; rfl)⟩
theorem sopE2 : ((⟨#[114, 101, 115, 116]⟩ : ByteArray).toList == (⟨#[101, 110, 116, 101, 114]⟩ : ByteArray).toList) = false ∧ ((⟨#[114, 101, 115, 116]⟩ : ByteArray).toList == (⟨#[108, 101, 97, 118, 101]⟩ : ByteArray).toList) = false ∧ ((⟨#[114, 101, 115, 116]⟩ : ByteArray).toList == (⟨#[114, 101, 115, 116]⟩ : ByteArray).toList) = true ∧ ((⟨#[114, 101, 115, 116]⟩ : ByteArray).toList == (⟨#[119, 97, 105, 116]⟩ : ByteArray).toList) = false ∧ ((⟨#[114, 101, 115, 116]⟩ : ByteArray).toList == (⟨#[102, 108, 117, 115, 104]⟩ : ByteArray).toList) = false ∧ ((⟨#[114, 101, 115, 116]⟩ : ByteArray).toList == (⟨#[114, 101, 97, 100]⟩ : ByteArray).toList) = false ∧ ((⟨#[114, 101, 115, 116]⟩ : ByteArray).toList == (⟨#[112, 117, 116]⟩ : ByteArray).toList) = false ∧ ((⟨#[114, 101, 115, 116]⟩ : ByteArray).toList == (⟨#[100, 114, 111, 112]⟩ : ByteArray).toList) = false ∧ ((⟨#[114, 101, 115, 116]⟩ : ByteArray).toList == (⟨#[108, 97, 116, 101, 114]⟩ : ByteArray).toList) = false :=
  ⟨(by rw [ByteArray.toList_eq, ByteArray.toList_eq]; rfl), (by rw [ByteArray.toList_eq, ByteArray.toList_eq]; rfl), (by simp), (by rw [ByteArray.toList_eq, ByteArray.toList_eq]; rfl), (by rw [ByteArray.toList_eq, ByteArray.toList_eq]; rfl), (by rw [ByteArray.toList_eq, ByteArray.toList_eq]; rfl), (by rw [ByteArray.toList_eq, ByteArray.toList_eq]; rfl), (by rw [ByteArray.toList_eq, ByteArray.toList_eq]; rfl), (by rw [ByteArray.toList_eq, ByteArray.toList_eq]; rfl)⟩
theorem sopE3 : ((⟨#[119, 97, 105, 116]⟩ : ByteArray).toList == (⟨#[101, 110, 116, 101, 114]⟩ : ByteArray).toList) = false ∧ ((⟨#[119, 97, 105, 116]⟩ : ByteArray).toList == (⟨#[108, 101, 97, 118, 101]⟩ : ByteArray).toList) = false ∧ ((⟨#[119, 97, 105, 116]⟩ : ByteArray).toList == (⟨#[114, 101, 115, 116]⟩ : ByteArray).toList) = false ∧ ((⟨#[119, 97, 105, 116]⟩ : ByteArray).toList == (⟨#[119, 97, 105, 116]⟩ : ByteArray).toList) = true ∧ ((⟨#[119, 97, 105, 116]⟩ : ByteArray).toList == (⟨#[102, 108, 117, 115, 104]⟩ : ByteArray).toList) = false ∧ ((⟨#[119, 97, 105, 116]⟩ : ByteArray).toList == (⟨#[114, 101, 97, 100]⟩ : ByteArray).toList) = false ∧ ((⟨#[119, 97, 105, 116]⟩ : ByteArray).toList == (⟨#[112, 117, 116]⟩ : ByteArray).toList) = false ∧ ((⟨#[119, 97, 105, 116]⟩ : ByteArray).toList == (⟨#[100, 114, 111, 112]⟩ : ByteArray).toList) = false ∧ ((⟨#[119, 97, 105, 116]⟩ : ByteArray).toList == (⟨#[108, 97, 116, 101, 114]⟩ : ByteArray).toList) = false :=
  ⟨(by rw [ByteArray.toList_eq, ByteArray.toList_eq]; rfl), (by rw [ByteArray.toList_eq, ByteArray.toList_eq]; rfl), (by rw [ByteArray.toList_eq, ByteArray.toList_eq]; rfl), (by simp), (by rw [ByteArray.toList_eq, ByteArray.toList_eq]; rfl), (by rw [ByteArray.toList_eq, ByteArray.toList_eq]; rfl), (by rw [ByteArray.toList_eq, ByteArray.toList_eq]; rfl), (by rw [ByteArray.toList_eq, ByteArray.toList_eq]; rfl), (by rw [ByteArray.toList_eq, ByteArray.toList_eq]; rfl)⟩
theorem sopE4 : ((⟨#[114, 101, 97, 100]⟩ : ByteArray).toList == (⟨#[101, 110, 116, 101, 114]⟩ : ByteArray).toList) = false ∧ ((⟨#[114, 101, 97, 100]⟩ : ByteArray).toList == (⟨#[108, 101, 97, 118, 101]⟩ : ByteArray).toList) = false ∧ ((⟨#[114, 101, 97, 100]⟩ : ByteArray).toList == (⟨#[114, 101, 115, 116]⟩ : ByteArray).toList) = false ∧ ((⟨#[114, 101, 97, 100]⟩ : ByteArray).toList == (⟨#[119, 97, 105, 116]⟩ : ByteArray).toList) = false ∧ ((⟨#[114, 101, 97, 100]⟩ : ByteArray).toList == (⟨#[102, 108, 117, 115, 104]⟩ : ByteArray).toList) = false ∧ ((⟨#[114, 101, 97, 100]⟩ : ByteArray).toList == (⟨#[114, 101, 97, 100]⟩ : ByteArray).toList) = true ∧ ((⟨#[114, 101, 97, 100]⟩ : ByteArray).toList == (⟨#[112, 117, 116]⟩ : ByteArray).toList) = false ∧ ((⟨#[114, 101, 97, 100]⟩ : ByteArray).toList == (⟨#[100, 114, 111, 112]⟩ : ByteArray).toList) = false ∧ ((⟨#[114, 101, 97, 100]⟩ : ByteArray).toList == (⟨#[108, 97, 116, 101, 114]⟩ : ByteArray).toList) = false :=
  ⟨(by rw [ByteArray.toList_eq, ByteArray.toList_eq]; rfl), (by rw [ByteArray.toList_eq, ByteArray.toList_eq]; rfl), (by rw [ByteArray.toList_eq, ByteArray.toList_eq]; rfl), (by rw [ByteArray.toList_eq, ByteArray.toList_eq]; rfl), (by rw [ByteArray.toList_eq, ByteArray.toList_eq]; rfl), (by simp), (by rw [ByteArray.toList_eq, ByteArray.toList_eq]; rfl), (by rw [ByteArray.toList_eq, ByteArray.toList_eq]; rfl), (by rw [ByteArray.toList_eq, ByteArray.toList_eq]; rfl)⟩
theorem sopE5 : ((⟨#[100, 114, 111, 112]⟩ : ByteArray).toList == (⟨#[101, 110, 116, 101, 114]⟩ : ByteArray).toList) = false ∧ ((⟨#[100, 114, 111, 112]⟩ : ByteArray).toList == (⟨#[108, 101, 97, 118, 101]⟩ : ByteArray).toList) = false ∧ ((⟨#[100, 114, 111, 112]⟩ : ByteArray).toList == (⟨#[114, 101, 115, 116]⟩ : ByteArray).toList) = false ∧ ((⟨#[100, 114, 111, 112]⟩ : ByteArray).toList == (⟨#[119, 97, 105, 116]⟩ : ByteArray).toList) = false ∧ ((⟨#[100, 114, 111, 112]⟩ : ByteArray).toList == (⟨#[102, 108, 117, 115, 104]⟩ : ByteArray).toList) = false ∧ ((⟨#[100, 114, 111, 112]⟩ : ByteArray).toList == (⟨#[114, 101, 97, 100]⟩ : ByteArray).toList) = false ∧ ((⟨#[100, 114, 111, 112]⟩ : ByteArray).toList == (⟨#[112, 117, 116]⟩ : ByteArray).toList) = false ∧ ((⟨#[100, 114, 111, 112]⟩ : ByteArray).toList == (⟨#[100, 114, 111, 112]⟩ : ByteArray).toList) = true ∧ ((⟨#[100, 114, 111, 112]⟩ : ByteArray).toList == (⟨#[108, 97, 116, 101, 114]⟩ : ByteArray).toList) = false :=
  ⟨(by rw [ByteArray.toList_eq, ByteArray.toList_eq]; rfl), (by rw [ByteArray.toList_eq, ByteArray.toList_eq]; rfl), (by rw [ByteArray.toList_eq, ByteArray.toList_eq]; rfl), (by rw [ByteArray.toList_eq, ByteArray.toList_eq]; rfl), (by rw [ByteArray.toList_eq, ByteArray.toList_eq]; rfl), (by rw [ByteArray.toList_eq, ByteArray.toList_eq]; rfl), (by rw [ByteArray.toList_eq, ByteArray.toList_eq]; rfl), (by simp), (by rw [ByteArray.toList_eq, ByteArray.toList_eq]; rfl)⟩
theorem sopE6 : ((⟨#[108, 97, 116, 101, 114]⟩ : ByteArray).toList == (⟨#[101, 110, 116, 101, 114]⟩ : ByteArray).toList) = false ∧ ((⟨#[108, 97, 116, 101, 114]⟩ : ByteArray).toList == (⟨#[108, 101, 97, 118, 101]⟩ : ByteArray).toList) = false ∧ ((⟨#[108, 97, 116, 101, 114]⟩ : ByteArray).toList == (⟨#[114, 101, 115, 116]⟩ : ByteArray).toList) = false ∧ ((⟨#[108, 97, 116, 101, 114]⟩ : ByteArray).toList == (⟨#[119, 97, 105, 116]⟩ : ByteArray).toList) = false ∧ ((⟨#[108, 97, 116, 101, 114]⟩ : ByteArray).toList == (⟨#[102, 108, 117, 115, 104]⟩ : ByteArray).toList) = false ∧ ((⟨#[108, 97, 116, 101, 114]⟩ : ByteArray).toList == (⟨#[114, 101, 97, 100]⟩ : ByteArray).toList) = false ∧ ((⟨#[108, 97, 116, 101, 114]⟩ : ByteArray).toList == (⟨#[112, 117, 116]⟩ : ByteArray).toList) = false ∧ ((⟨#[108, 97, 116, 101, 114]⟩ : ByteArray).toList == (⟨#[100, 114, 111, 112]⟩ : ByteArray).toList) = false ∧ ((⟨#[108, 97, 116, 101, 114]⟩ : ByteArray).toList == (⟨#[108, 97, 116, 101, 114]⟩ : ByteArray).toList) = true :=
  ⟨(by rw [ByteArray.toList_eq, ByteArray.toList_eq]; rfl), (by rw [ByteArray.toList_eq, ByteArray.toList_eq]; rfl), (by rw [ByteArray.toList_eq, ByteArray.toList_eq]; rfl), (by rw [ByteArray.toList_eq, ByteArray.toList_eq]; rfl), (by rw [ByteArray.toList_eq, ByteArray.toList_eq]; rfl), (by rw [ByteArray.toList_eq, ByteArray.toList_eq]; rfl), (by rw [ByteArray.toList_eq, ByteArray.toList_eq]; rfl), (by rw [ByteArray.toList_eq, ByteArray.toList_eq]; rfl), (by simp)⟩
theorem sopE7 : ((⟨#[102, 108, 117, 115, 104]⟩ : ByteArray).toList == (⟨#[101, 110, 116, 101, 114]⟩ : ByteArray).toList) = false ∧ ((⟨#[102, 108, 117, 115, 104]⟩ : ByteArray).toList == (⟨#[108, 101, 97, 118, 101]⟩ : ByteArray).toList) = false ∧ ((⟨#[102, 108, 117, 115, 104]⟩ : ByteArray).toList == (⟨#[114, 101, 115, 116]⟩ : ByteArray).toList) = false ∧ ((⟨#[102, 108, 117, 115, 104]⟩ : ByteArray).toList == (⟨#[119, 97, 105, 116]⟩ : ByteArray).toList) = false ∧ ((⟨#[102, 108, 117, 115, 104]⟩ : ByteArray).toList == (⟨#[102, 108, 117, 115, 104]⟩ : ByteArray).toList) = true ∧ ((⟨#[102, 108, 117, 115, 104]⟩ : ByteArray).toList == (⟨#[114, 101, 97, 100]⟩ : ByteArray).toList) = false ∧ ((⟨#[102, 108, 117, 115, 104]⟩ : ByteArray).toList == (⟨#[112, 117, 116]⟩ : ByteArray).toList) = false ∧ ((⟨#[102, 108, 117, 115, 104]⟩ : ByteArray).toList == (⟨#[100, 114, 111, 112]⟩ : ByteArray).toList) = false ∧ ((⟨#[102, 108, 117, 115, 104]⟩ : ByteArray).toList == (⟨#[108, 97, 116, 101, 114]⟩ : ByteArray).toList) = false :=
  ⟨(by rw [ByteArray.toList_eq, ByteArray.toList_eq]; rfl), (by rw [ByteArray.toList_eq, ByteArray.toList_eq]; rfl), (by rw [ByteArray.toList_eq, ByteArray.toList_eq]; rfl), (by rw [ByteArray.toList_eq, ByteArray.toList_eq]; rfl), (by simp), (by rw [ByteArray.toList_eq, ByteArray.toList_eq]; rfl), (by rw [ByteArray.toList_eq, ByteArray.toList_eq]; rfl), (by rw [ByteArray.toList_eq, ByteArray.toList_eq]; rfl), (by rw [ByteArray.toList_eq, ByteArray.toList_eq]; rfl)⟩
theorem sopE8 : ((⟨#[112, 117, 116]⟩ : ByteArray).toList == (⟨#[101, 110, 116, 101, 114]⟩ : ByteArray).toList) = false ∧ ((⟨#[112, 117, 116]⟩ : ByteArray).toList == (⟨#[108, 101, 97, 118, 101]⟩ : ByteArray).toList) = false ∧ ((⟨#[112, 117, 116]⟩ : ByteArray).toList == (⟨#[114, 101, 115, 116]⟩ : ByteArray).toList) = false ∧ ((⟨#[112, 117, 116]⟩ : ByteArray).toList == (⟨#[119, 97, 105, 116]⟩ : ByteArray).toList) = false ∧ ((⟨#[112, 117, 116]⟩ : ByteArray).toList == (⟨#[102, 108, 117, 115, 104]⟩ : ByteArray).toList) = false ∧ ((⟨#[112, 117, 116]⟩ : ByteArray).toList == (⟨#[114, 101, 97, 100]⟩ : ByteArray).toList) = false ∧ ((⟨#[112, 117, 116]⟩ : ByteArray).toList == (⟨#[112, 117, 116]⟩ : ByteArray).toList) = true ∧ ((⟨#[112, 117, 116]⟩ : ByteArray).toList == (⟨#[100, 114, 111, 112]⟩ : ByteArray).toList) = false ∧ ((⟨#[112, 117, 116]⟩ : ByteArray).toList == (⟨#[108, 97, 116, 101, 114]⟩ : ByteArray).toList) = false :=
  ⟨(by rw [ByteArray.toList_eq, ByteArray.toList_eq]; rfl), (by rw [ByteArray.toList_eq, ByteArray.toList_eq]; rfl), (by rw [ByteArray.toList_eq, ByteArray.toList_eq]; rfl), (by rw [ByteArray.toList_eq, ByteArray.toList_eq]; rfl), (by rw [ByteArray.toList_eq, ByteArray.toList_eq]; rfl), (by rw [ByteArray.toList_eq, ByteArray.toList_eq]; rfl), (by simp), (by rw [ByteArray.toList_eq, ByteArray.toList_eq]; rfl), (by rw [ByteArray.toList_eq, ByteArray.toList_eq]; rfl)⟩
theorem sop_enter_n (E : ErrsC w a) (HK : KindsW w) (hn : n ≠ 0) (hS : StAt w b ⟨d, r, wt, u⟩) :
    Calls Tryd.prog 114 #[.pointer (some ⟨b, 0, none⟩), .agg #[.string ⟨#[101, 110, 116, 101, 114]⟩, .int .i64 n]] w (SopPost a ⟨d, r, wt, u⟩ (kEnter, n) b w) := by
  have hq := (Mod.refl noF w).alloc (.cells #[.string ⟨#[101, 110, 116, 101, 114]⟩, .int .i64 n] 63)
  have hcf : cfOp ⟨d, r, wt, u⟩ (kEnter, n) = (3, ⟨d, r, wt, u⟩) := by
    unfold cfOp
    have hm : memK kindsC ⟨#[101, 110, 116, 101, 114]⟩ = true := by decide +kernel
    simp [hm, kEnter, kLeave, kRest, kWait, kRead, kPut, kDrop, kLater, kFlush, hn]
  have hS1 := hq.heap hS (fun e => e)
  obtain ⟨h0, h1, h2, h3, f0, f1, f2, f3⟩ := st_cells hS1
  have E1 := E.keep hq
  obtain ⟨gk, off, cap, q0, qx⟩ := HK.keep hq
  have hcall := containsK2 (w.alloc (.cells #[.string ⟨#[101, 110, 116, 101, 114]⟩, .int .i64 n] 63)) gk off cap kindsC kEnter qx (by decide)
  rw [show memK kindsC kEnter = true by decide +kernel] at hcall
  have hl9 : kindsC.length = 9 := rfl
  rw [hl9] at hcall
  have v1 := E1.v1
  have v2 := E1.v2
  have v4 := E1.v4
  have v7 := E1.v7
  obtain ⟨e0, e1, e2, e3, e4, e5, e6, e7, e8⟩ := sopE0
  have n1 : (n == 0) = false := by simpa using hn
  have n2 : decide (n = 0) = false := by simpa using hn
  have HS1 := Lib.hid hS1
  have Hq := Lib.hid hq
  have Hcall := Lib.hid hcall
  have Hcf := Lib.hid hcf
  have hbz : w.heap.size ≠ b := by have := lt_of_block hS; omega
  clear E HK hS hq hcf hS1 E1 qx hcall hl9
  go_enter Tryd.func114, Tryd.ntmps114
  go_wp2_with fail
  refine Hcall.out.mono ?_
  rintro e w2 ⟨rfl, rfl⟩
  go_wp2
  go_ret
  exact sop_bad 2 Hcf.out (by omega) rfl Hq.out.any
theorem sop_leave_n (E : ErrsC w a) (HK : KindsW w) (hn : n ≠ 0) (hS : StAt w b ⟨d, r, wt, u⟩) :
    Calls Tryd.prog 114 #[.pointer (some ⟨b, 0, none⟩), .agg #[.string ⟨#[108, 101, 97, 118, 101]⟩, .int .i64 n]] w (SopPost a ⟨d, r, wt, u⟩ (kLeave, n) b w) := by
  have hq := (Mod.refl noF w).alloc (.cells #[.string ⟨#[108, 101, 97, 118, 101]⟩, .int .i64 n] 63)
  have hcf : cfOp ⟨d, r, wt, u⟩ (kLeave, n) = (3, ⟨d, r, wt, u⟩) := by
    unfold cfOp
    have hm : memK kindsC ⟨#[108, 101, 97, 118, 101]⟩ = true := by decide +kernel
    simp [hm, kEnter, kLeave, kRest, kWait, kRead, kPut, kDrop, kLater, kFlush, hn]
  have hS1 := hq.heap hS (fun e => e)
  obtain ⟨h0, h1, h2, h3, f0, f1, f2, f3⟩ := st_cells hS1
  have E1 := E.keep hq
  obtain ⟨gk, off, cap, q0, qx⟩ := HK.keep hq
  have hcall := containsK2 (w.alloc (.cells #[.string ⟨#[108, 101, 97, 118, 101]⟩, .int .i64 n] 63)) gk off cap kindsC kLeave qx (by decide)
  rw [show memK kindsC kLeave = true by decide +kernel] at hcall
  have hl9 : kindsC.length = 9 := rfl
  rw [hl9] at hcall
  have v1 := E1.v1
  have v2 := E1.v2
  have v4 := E1.v4
  have v7 := E1.v7
  obtain ⟨e0, e1, e2, e3, e4, e5, e6, e7, e8⟩ := sopE1
  have n1 : (n == 0) = false := by simpa using hn
  have n2 : decide (n = 0) = false := by simpa using hn
  have HS1 := Lib.hid hS1
  have Hq := Lib.hid hq
  have Hcall := Lib.hid hcall
  have Hcf := Lib.hid hcf
  have hbz : w.heap.size ≠ b := by have := lt_of_block hS; omega
  clear E HK hS hq hcf hS1 E1 qx hcall hl9
  go_enter Tryd.func114, Tryd.ntmps114
  go_wp2_with fail
  refine Hcall.out.mono ?_
  rintro e w2 ⟨rfl, rfl⟩
  go_wp2
  go_ret
  exact sop_bad 2 Hcf.out (by omega) rfl Hq.out.any
theorem sop_rest_n (E : ErrsC w a) (HK : KindsW w) (hn : n ≠ 0) (hS : StAt w b ⟨d, r, wt, u⟩) :
    Calls Tryd.prog 114 #[.pointer (some ⟨b, 0, none⟩), .agg #[.string ⟨#[114, 101, 115, 116]⟩, .int .i64 n]] w (SopPost a ⟨d, r, wt, u⟩ (kRest, n) b w) := by
  have hq := (Mod.refl noF w).alloc (.cells #[.string ⟨#[114, 101, 115, 116]⟩, .int .i64 n] 63)
  have hcf : cfOp ⟨d, r, wt, u⟩ (kRest, n) = (3, ⟨d, r, wt, u⟩) := by
    unfold cfOp
    have hm : memK kindsC ⟨#[114, 101, 115, 116]⟩ = true := by decide +kernel
    simp [hm, kEnter, kLeave, kRest, kWait, kRead, kPut, kDrop, kLater, kFlush, hn]
  have hS1 := hq.heap hS (fun e => e)
  obtain ⟨h0, h1, h2, h3, f0, f1, f2, f3⟩ := st_cells hS1
  have E1 := E.keep hq
  obtain ⟨gk, off, cap, q0, qx⟩ := HK.keep hq
  have hcall := containsK2 (w.alloc (.cells #[.string ⟨#[114, 101, 115, 116]⟩, .int .i64 n] 63)) gk off cap kindsC kRest qx (by decide)
  rw [show memK kindsC kRest = true by decide +kernel] at hcall
  have hl9 : kindsC.length = 9 := rfl
  rw [hl9] at hcall
  have v1 := E1.v1
  have v2 := E1.v2
  have v4 := E1.v4
  have v7 := E1.v7
  obtain ⟨e0, e1, e2, e3, e4, e5, e6, e7, e8⟩ := sopE2
  have n1 : (n == 0) = false := by simpa using hn
  have n2 : decide (n = 0) = false := by simpa using hn
  have HS1 := Lib.hid hS1
  have Hq := Lib.hid hq
  have Hcall := Lib.hid hcall
  have Hcf := Lib.hid hcf
  have hbz : w.heap.size ≠ b := by have := lt_of_block hS; omega
  clear E HK hS hq hcf hS1 E1 qx hcall hl9
  go_enter Tryd.func114, Tryd.ntmps114
  go_wp2_with fail
  refine Hcall.out.mono ?_
  rintro e w2 ⟨rfl, rfl⟩
  go_wp2
  go_ret
  exact sop_bad 2 Hcf.out (by omega) rfl Hq.out.any
theorem sop_wait_n (E : ErrsC w a) (HK : KindsW w) (hn : n ≠ 0) (hS : StAt w b ⟨d, r, wt, u⟩) :
    Calls Tryd.prog 114 #[.pointer (some ⟨b, 0, none⟩), .agg #[.string ⟨#[119, 97, 105, 116]⟩, .int .i64 n]] w (SopPost a ⟨d, r, wt, u⟩ (kWait, n) b w) := by
  have hq := (Mod.refl noF w).alloc (.cells #[.string ⟨#[119, 97, 105, 116]⟩, .int .i64 n] 63)
  have hcf : cfOp ⟨d, r, wt, u⟩ (kWait, n) = (3, ⟨d, r, wt, u⟩) := by
    unfold cfOp
    have hm : memK kindsC ⟨#[119, 97, 105, 116]⟩ = true := by decide +kernel
    simp [hm, kEnter, kLeave, kRest, kWait, kRead, kPut, kDrop, kLater, kFlush, hn]
  have hS1 := hq.heap hS (fun e => e)
  obtain ⟨h0, h1, h2, h3, f0, f1, f2, f3⟩ := st_cells hS1
  have E1 := E.keep hq
  obtain ⟨gk, off, cap, q0, qx⟩ := HK.keep hq
  have hcall := containsK2 (w.alloc (.cells #[.string ⟨#[119, 97, 105, 116]⟩, .int .i64 n] 63)) gk off cap kindsC kWait qx (by decide)
  rw [show memK kindsC kWait = true by decide +kernel] at hcall
  have hl9 : kindsC.length = 9 := rfl
  rw [hl9] at hcall
  have v1 := E1.v1
  have v2 := E1.v2
  have v4 := E1.v4
  have v7 := E1.v7
  obtain ⟨e0, e1, e2, e3, e4, e5, e6, e7, e8⟩ := sopE3
  have n1 : (n == 0) = false := by simpa using hn
  have n2 : decide (n = 0) = false := by simpa using hn
  have HS1 := Lib.hid hS1
  have Hq := Lib.hid hq
  have Hcall := Lib.hid hcall
  have Hcf := Lib.hid hcf
  have hbz : w.heap.size ≠ b := by have := lt_of_block hS; omega
  clear E HK hS hq hcf hS1 E1 qx hcall hl9
  go_enter Tryd.func114, Tryd.ntmps114
  go_wp2_with fail
  refine Hcall.out.mono ?_
  rintro e w2 ⟨rfl, rfl⟩
  go_wp2
  go_ret
  exact sop_bad 2 Hcf.out (by omega) rfl Hq.out.any
theorem sop_read_n (E : ErrsC w a) (HK : KindsW w) (hn : n ≠ 0) (hS : StAt w b ⟨d, r, wt, u⟩) :
    Calls Tryd.prog 114 #[.pointer (some ⟨b, 0, none⟩), .agg #[.string ⟨#[114, 101, 97, 100]⟩, .int .i64 n]] w (SopPost a ⟨d, r, wt, u⟩ (kRead, n) b w) := by
  have hq := (Mod.refl noF w).alloc (.cells #[.string ⟨#[114, 101, 97, 100]⟩, .int .i64 n] 63)
  have hcf : cfOp ⟨d, r, wt, u⟩ (kRead, n) = (3, ⟨d, r, wt, u⟩) := by
    unfold cfOp
    have hm : memK kindsC ⟨#[114, 101, 97, 100]⟩ = true := by decide +kernel
    simp [hm, kEnter, kLeave, kRest, kWait, kRead, kPut, kDrop, kLater, kFlush, hn]
  have hS1 := hq.heap hS (fun e => e)
  obtain ⟨h0, h1, h2, h3, f0, f1, f2, f3⟩ := st_cells hS1
  have E1 := E.keep hq
  obtain ⟨gk, off, cap, q0, qx⟩ := HK.keep hq
  have hcall := containsK2 (w.alloc (.cells #[.string ⟨#[114, 101, 97, 100]⟩, .int .i64 n] 63)) gk off cap kindsC kRead qx (by decide)
  rw [show memK kindsC kRead = true by decide +kernel] at hcall
  have hl9 : kindsC.length = 9 := rfl
  rw [hl9] at hcall
  have v1 := E1.v1
  have v2 := E1.v2
  have v4 := E1.v4
  have v7 := E1.v7
  obtain ⟨e0, e1, e2, e3, e4, e5, e6, e7, e8⟩ := sopE4
  have n1 : (n == 0) = false := by simpa using hn
  have n2 : decide (n = 0) = false := by simpa using hn
  have HS1 := Lib.hid hS1
  have Hq := Lib.hid hq
  have Hcall := Lib.hid hcall
  have Hcf := Lib.hid hcf
  have hbz : w.heap.size ≠ b := by have := lt_of_block hS; omega
  clear E HK hS hq hcf hS1 E1 qx hcall hl9
  go_enter Tryd.func114, Tryd.ntmps114
  go_wp2_with fail
  refine Hcall.out.mono ?_
  rintro e w2 ⟨rfl, rfl⟩
  go_wp2
  go_ret
  exact sop_bad 2 Hcf.out (by omega) rfl Hq.out.any
theorem sop_drop_n (E : ErrsC w a) (HK : KindsW w) (hn : n ≠ 0) (hS : StAt w b ⟨d, r, wt, u⟩) :
    Calls Tryd.prog 114 #[.pointer (some ⟨b, 0, none⟩), .agg #[.string ⟨#[100, 114, 111, 112]⟩, .int .i64 n]] w (SopPost a ⟨d, r, wt, u⟩ (kDrop, n) b w) := by
  have hq := (Mod.refl noF w).alloc (.cells #[.string ⟨#[100, 114, 111, 112]⟩, .int .i64 n] 63)
  have hcf : cfOp ⟨d, r, wt, u⟩ (kDrop, n) = (3, ⟨d, r, wt, u⟩) := by
    unfold cfOp
    have hm : memK kindsC ⟨#[100, 114, 111, 112]⟩ = true := by decide +kernel
    simp [hm, kEnter, kLeave, kRest, kWait, kRead, kPut, kDrop, kLater, kFlush, hn]
  have hS1 := hq.heap hS (fun e => e)
  obtain ⟨h0, h1, h2, h3, f0, f1, f2, f3⟩ := st_cells hS1
  have E1 := E.keep hq
  obtain ⟨gk, off, cap, q0, qx⟩ := HK.keep hq
  have hcall := containsK2 (w.alloc (.cells #[.string ⟨#[100, 114, 111, 112]⟩, .int .i64 n] 63)) gk off cap kindsC kDrop qx (by decide)
  rw [show memK kindsC kDrop = true by decide +kernel] at hcall
  have hl9 : kindsC.length = 9 := rfl
  rw [hl9] at hcall
  have v1 := E1.v1
  have v2 := E1.v2
  have v4 := E1.v4
  have v7 := E1.v7
  obtain ⟨e0, e1, e2, e3, e4, e5, e6, e7, e8⟩ := sopE5
  have n1 : (n == 0) = false := by simpa using hn
  have n2 : decide (n = 0) = false := by simpa using hn
  have HS1 := Lib.hid hS1
  have Hq := Lib.hid hq
  have Hcall := Lib.hid hcall
  have Hcf := Lib.hid hcf
  have hbz : w.heap.size ≠ b := by have := lt_of_block hS; omega
  clear E HK hS hq hcf hS1 E1 qx hcall hl9
  go_enter Tryd.func114, Tryd.ntmps114
  go_wp2_with fail
  refine Hcall.out.mono ?_
  rintro e w2 ⟨rfl, rfl⟩
  go_wp2
  go_ret
  exact sop_bad 2 Hcf.out (by omega) rfl Hq.out.any
theorem sop_later_n (E : ErrsC w a) (HK : KindsW w) (hn : n ≠ 0) (hS : StAt w b ⟨d, r, wt, u⟩) :
    Calls Tryd.prog 114 #[.pointer (some ⟨b, 0, none⟩), .agg #[.string ⟨#[108, 97, 116, 101, 114]⟩, .int .i64 n]] w (SopPost a ⟨d, r, wt, u⟩ (kLater, n) b w) := by
  have hq := (Mod.refl noF w).alloc (.cells #[.string ⟨#[108, 97, 116, 101, 114]⟩, .int .i64 n] 63)
  have hcf : cfOp ⟨d, r, wt, u⟩ (kLater, n) = (3, ⟨d, r, wt, u⟩) := by
    unfold cfOp
    have hm : memK kindsC ⟨#[108, 97, 116, 101, 114]⟩ = true := by decide +kernel
    simp [hm, kEnter, kLeave, kRest, kWait, kRead, kPut, kDrop, kLater, kFlush, hn]
  have hS1 := hq.heap hS (fun e => e)
  obtain ⟨h0, h1, h2, h3, f0, f1, f2, f3⟩ := st_cells hS1
  have E1 := E.keep hq
  obtain ⟨gk, off, cap, q0, qx⟩ := HK.keep hq
  have hcall := containsK2 (w.alloc (.cells #[.string ⟨#[108, 97, 116, 101, 114]⟩, .int .i64 n] 63)) gk off cap kindsC kLater qx (by decide)
  rw [show memK kindsC kLater = true by decide +kernel] at hcall
  have hl9 : kindsC.length = 9 := rfl
  rw [hl9] at hcall
  have v1 := E1.v1
  have v2 := E1.v2
  have v4 := E1.v4
  have v7 := E1.v7
  obtain ⟨e0, e1, e2, e3, e4, e5, e6, e7, e8⟩ := sopE6
  have n1 : (n == 0) = false := by simpa using hn
  have n2 : decide (n = 0) = false := by simpa using hn
  have HS1 := Lib.hid hS1
  have Hq := Lib.hid hq
  have Hcall := Lib.hid hcall
  have Hcf := Lib.hid hcf
  have hbz : w.heap.size ≠ b := by have := lt_of_block hS; omega
  clear E HK hS hq hcf hS1 E1 qx hcall hl9
  go_enter Tryd.func114, Tryd.ntmps114
  go_wp2_with fail
  refine Hcall.out.mono ?_
  rintro e w2 ⟨rfl, rfl⟩
  go_wp2
  go_ret
  exact sop_bad 2 Hcf.out (by omega) rfl Hq.out.any
theorem sop_flush_n (E : ErrsC w a) (HK : KindsW w) (hn : n ≠ 0) (hS : StAt w b ⟨d, r, wt, u⟩) :
    Calls Tryd.prog 114 #[.pointer (some ⟨b, 0, none⟩), .agg #[.string ⟨#[102, 108, 117, 115, 104]⟩, .int .i64 n]] w (SopPost a ⟨d, r, wt, u⟩ (kFlush, n) b w) := by
  have hq := (Mod.refl noF w).alloc (.cells #[.string ⟨#[102, 108, 117, 115, 104]⟩, .int .i64 n] 63)
  have hcf : cfOp ⟨d, r, wt, u⟩ (kFlush, n) = (3, ⟨d, r, wt, u⟩) := by
    unfold cfOp
    have hm : memK kindsC ⟨#[102, 108, 117, 115, 104]⟩ = true := by decide +kernel
    simp [hm, kEnter, kLeave, kRest, kWait, kRead, kPut, kDrop, kLater, kFlush, hn]
  have hS1 := hq.heap hS (fun e => e)
  obtain ⟨h0, h1, h2, h3, f0, f1, f2, f3⟩ := st_cells hS1
  have E1 := E.keep hq
  obtain ⟨gk, off, cap, q0, qx⟩ := HK.keep hq
  have hcall := containsK2 (w.alloc (.cells #[.string ⟨#[102, 108, 117, 115, 104]⟩, .int .i64 n] 63)) gk off cap kindsC kFlush qx (by decide)
  rw [show memK kindsC kFlush = true by decide +kernel] at hcall
  have hl9 : kindsC.length = 9 := rfl
  rw [hl9] at hcall
  have v1 := E1.v1
  have v2 := E1.v2
  have v4 := E1.v4
  have v7 := E1.v7
  obtain ⟨e0, e1, e2, e3, e4, e5, e6, e7, e8⟩ := sopE7
  have n1 : (n == 0) = false := by simpa using hn
  have n2 : decide (n = 0) = false := by simpa using hn
  have HS1 := Lib.hid hS1
  have Hq := Lib.hid hq
  have Hcall := Lib.hid hcall
  have Hcf := Lib.hid hcf
  have hbz : w.heap.size ≠ b := by have := lt_of_block hS; omega
  clear E HK hS hq hcf hS1 E1 qx hcall hl9
  go_enter Tryd.func114, Tryd.ntmps114
  go_wp2_with fail
  refine Hcall.out.mono ?_
  rintro e w2 ⟨rfl, rfl⟩
  go_wp2
  go_ret
  exact sop_bad 2 Hcf.out (by omega) rfl Hq.out.any
theorem sop_enter (E : ErrsC w a) (HK : KindsW w) (hd : d ≤ 1000) (hS : StAt w b ⟨d, r, wt, u⟩) :
    Calls Tryd.prog 114 #[.pointer (some ⟨b, 0, none⟩), .agg #[.string ⟨#[101, 110, 116, 101, 114]⟩, .int .i64 0]] w (SopPost a ⟨d, r, wt, u⟩ (kEnter, 0) b w) := by
  have hq := (Mod.refl noF w).alloc (.cells #[.string ⟨#[101, 110, 116, 101, 114]⟩, .int .i64 0] 63)
  have hcf : cfOp ⟨d, r, wt, u⟩ (kEnter, 0) = (0, ⟨d + 1, r, wt, u⟩) := by
    unfold cfOp
    have hm : memK kindsC ⟨#[101, 110, 116, 101, 114]⟩ = true := by decide +kernel
    simp [hm, kEnter, kLeave, kRest, kWait, kRead, kPut, kDrop, kLater, kFlush]
  have hS1 := hq.heap hS (fun e => e)
  obtain ⟨h0, h1, h2, h3, f0, f1, f2, f3⟩ := st_cells hS1
  have E1 := E.keep hq
  obtain ⟨gk, off, cap, q0, qx⟩ := HK.keep hq
  have hcall := containsK2 (w.alloc (.cells #[.string ⟨#[101, 110, 116, 101, 114]⟩, .int .i64 0] 63)) gk off cap kindsC kEnter qx (by decide)
  rw [show memK kindsC kEnter = true by decide +kernel] at hcall
  have hl9 : kindsC.length = 9 := rfl
  rw [hl9] at hcall
  have v1 := E1.v1
  have v2 := E1.v2
  have v4 := E1.v4
  have v7 := E1.v7
  obtain ⟨e0, e1, e2, e3, e4, e5, e6, e7, e8⟩ := sopE0
  have HS1 := Lib.hid hS1
  have Hq := Lib.hid hq
  have Hcall := Lib.hid hcall
  have Hcf := Lib.hid hcf
  have hbz : w.heap.size ≠ b := by have := lt_of_block hS; omega
  clear E HK hS hq hcf hS1 E1 qx hcall hl9
  go_enter Tryd.func114, Tryd.ntmps114
  go_wp2_with fail
  refine Hcall.out.mono ?_
  rintro e w2 ⟨rfl, rfl⟩
  go_wp2
  go_ret
  refine sop_good Hcf.out ?_ ((show Qh.Mod (fun k => k = b) w _ from Hq.out.any).setCell (fun _ => rfl) _)
  unfold StAt
  rw [show (((d + 1 : Nat)) : Int) = (d : Int) + 1 by omega]; rw [Qh.heap_setCell_same (HS1.out) 0 _]; rfl
theorem sop_leave_0 (E : ErrsC w a) (HK : KindsW w) (hS : StAt w b ⟨0, r, wt, u⟩) :
    Calls Tryd.prog 114 #[.pointer (some ⟨b, 0, none⟩), .agg #[.string ⟨#[108, 101, 97, 118, 101]⟩, .int .i64 0]] w (SopPost a ⟨0, r, wt, u⟩ (kLeave, 0) b w) := by
  have hq := (Mod.refl noF w).alloc (.cells #[.string ⟨#[108, 101, 97, 118, 101]⟩, .int .i64 0] 63)
  have hcf : cfOp ⟨0, r, wt, u⟩ (kLeave, 0) = (8, ⟨0, r, wt, u⟩) := by
    unfold cfOp
    have hm : memK kindsC ⟨#[108, 101, 97, 118, 101]⟩ = true := by decide +kernel
    simp [hm, kEnter, kLeave, kRest, kWait, kRead, kPut, kDrop, kLater, kFlush]
  have hS1 := hq.heap hS (fun e => e)
  obtain ⟨h0, h1, h2, h3, f0, f1, f2, f3⟩ := st_cells hS1
  have E1 := E.keep hq
  obtain ⟨gk, off, cap, q0, qx⟩ := HK.keep hq
  have hcall := containsK2 (w.alloc (.cells #[.string ⟨#[108, 101, 97, 118, 101]⟩, .int .i64 0] 63)) gk off cap kindsC kLeave qx (by decide)
  rw [show memK kindsC kLeave = true by decide +kernel] at hcall
  have hl9 : kindsC.length = 9 := rfl
  rw [hl9] at hcall
  have v1 := E1.v1
  have v2 := E1.v2
  have v4 := E1.v4
  have v7 := E1.v7
  obtain ⟨e0, e1, e2, e3, e4, e5, e6, e7, e8⟩ := sopE1
  have HS1 := Lib.hid hS1
  have Hq := Lib.hid hq
  have Hcall := Lib.hid hcall
  have Hcf := Lib.hid hcf
  have hbz : w.heap.size ≠ b := by have := lt_of_block hS; omega
  clear E HK hS hq hcf hS1 E1 qx hcall hl9
  go_enter Tryd.func114, Tryd.ntmps114
  go_wp2_with fail
  refine Hcall.out.mono ?_
  rintro e w2 ⟨rfl, rfl⟩
  go_wp2
  go_ret
  exact sop_bad 7 Hcf.out (by omega) rfl Hq.out.any
theorem sop_leave (E : ErrsC w a) (HK : KindsW w) (hd : 1 ≤ d) (hd2 : d ≤ 1000) (hS : StAt w b ⟨d, r, wt, u⟩) :
    Calls Tryd.prog 114 #[.pointer (some ⟨b, 0, none⟩), .agg #[.string ⟨#[108, 101, 97, 118, 101]⟩, .int .i64 0]] w (SopPost a ⟨d, r, wt, u⟩ (kLeave, 0) b w) := by
  have hq := (Mod.refl noF w).alloc (.cells #[.string ⟨#[108, 101, 97, 118, 101]⟩, .int .i64 0] 63)
  have hcf : cfOp ⟨d, r, wt, u⟩ (kLeave, 0) = (0, ⟨d - 1, r, wt, u⟩) := by
    unfold cfOp
    have hm : memK kindsC ⟨#[108, 101, 97, 118, 101]⟩ = true := by decide +kernel
    simp [hm, kEnter, kLeave, kRest, kWait, kRead, kPut, kDrop, kLater, kFlush, show ¬ d = 0 by omega]
  have hS1 := hq.heap hS (fun e => e)
  obtain ⟨h0, h1, h2, h3, f0, f1, f2, f3⟩ := st_cells hS1
  have E1 := E.keep hq
  obtain ⟨gk, off, cap, q0, qx⟩ := HK.keep hq
  have hcall := containsK2 (w.alloc (.cells #[.string ⟨#[108, 101, 97, 118, 101]⟩, .int .i64 0] 63)) gk off cap kindsC kLeave qx (by decide)
  rw [show memK kindsC kLeave = true by decide +kernel] at hcall
  have hl9 : kindsC.length = 9 := rfl
  rw [hl9] at hcall
  have v1 := E1.v1
  have v2 := E1.v2
  have v4 := E1.v4
  have v7 := E1.v7
  obtain ⟨e0, e1, e2, e3, e4, e5, e6, e7, e8⟩ := sopE1
  have d1 : ((d : Int) == 0) = false := by simp; omega
  have d2 : decide ((d : Int) = 0) = false := by simp; omega
  have HS1 := Lib.hid hS1
  have Hq := Lib.hid hq
  have Hcall := Lib.hid hcall
  have Hcf := Lib.hid hcf
  have hbz : w.heap.size ≠ b := by have := lt_of_block hS; omega
  clear E HK hS hq hcf hS1 E1 qx hcall hl9
  go_enter Tryd.func114, Tryd.ntmps114
  go_wp2_with fail
  refine Hcall.out.mono ?_
  rintro e w2 ⟨rfl, rfl⟩
  go_wp2
  go_ret
  refine sop_good Hcf.out ?_ ((show Qh.Mod (fun k => k = b) w _ from Hq.out.any).setCell (fun _ => rfl) _)
  unfold StAt
  rw [show (((d - 1 : Nat)) : Int) = (d : Int) - 1 by omega]; rw [Qh.heap_setCell_same (HS1.out) 0 _]; rfl
theorem sop_rest_d (E : ErrsC w a) (HK : KindsW w) (hd : 1 ≤ d) (hS : StAt w b ⟨d, r, wt, u⟩) :
    Calls Tryd.prog 114 #[.pointer (some ⟨b, 0, none⟩), .agg #[.string ⟨#[114, 101, 115, 116]⟩, .int .i64 0]] w (SopPost a ⟨d, r, wt, u⟩ (kRest, 0) b w) := by
  have hq := (Mod.refl noF w).alloc (.cells #[.string ⟨#[114, 101, 115, 116]⟩, .int .i64 0] 63)
  have hcf : cfOp ⟨d, r, wt, u⟩ (kRest, 0) = (8, ⟨d, r, wt, u⟩) := by
    unfold cfOp
    have hm : memK kindsC ⟨#[114, 101, 115, 116]⟩ = true := by decide +kernel
    simp [hm, kEnter, kLeave, kRest, kWait, kRead, kPut, kDrop, kLater, kFlush, show ¬ d = 0 by omega]
  have hS1 := hq.heap hS (fun e => e)
  obtain ⟨h0, h1, h2, h3, f0, f1, f2, f3⟩ := st_cells hS1
  have E1 := E.keep hq
  obtain ⟨gk, off, cap, q0, qx⟩ := HK.keep hq
  have hcall := containsK2 (w.alloc (.cells #[.string ⟨#[114, 101, 115, 116]⟩, .int .i64 0] 63)) gk off cap kindsC kRest qx (by decide)
  rw [show memK kindsC kRest = true by decide +kernel] at hcall
  have hl9 : kindsC.length = 9 := rfl
  rw [hl9] at hcall
  have v1 := E1.v1
  have v2 := E1.v2
  have v4 := E1.v4
  have v7 := E1.v7
  obtain ⟨e0, e1, e2, e3, e4, e5, e6, e7, e8⟩ := sopE2
  have d1 : ((d : Int) == 0) = false := by simp; omega
  have d2 : decide ((d : Int) = 0) = false := by simp; omega
  have HS1 := Lib.hid hS1
  have Hq := Lib.hid hq
  have Hcall := Lib.hid hcall
  have Hcf := Lib.hid hcf
  have hbz : w.heap.size ≠ b := by have := lt_of_block hS; omega
  clear E HK hS hq hcf hS1 E1 qx hcall hl9
  go_enter Tryd.func114, Tryd.ntmps114
  go_wp2_with fail
  refine Hcall.out.mono ?_
  rintro e w2 ⟨rfl, rfl⟩
  go_wp2
  go_ret
  exact sop_bad 7 Hcf.out (by omega) rfl Hq.out.any
theorem sop_rest_t (E : ErrsC w a) (HK : KindsW w) (hS : StAt w b ⟨0, r, true, u⟩) :
    Calls Tryd.prog 114 #[.pointer (some ⟨b, 0, none⟩), .agg #[.string ⟨#[114, 101, 115, 116]⟩, .int .i64 0]] w (SopPost a ⟨0, r, true, u⟩ (kRest, 0) b w) := by
  have hq := (Mod.refl noF w).alloc (.cells #[.string ⟨#[114, 101, 115, 116]⟩, .int .i64 0] 63)
  have hcf : cfOp ⟨0, r, true, u⟩ (kRest, 0) = (0, ⟨0, r, true, u⟩) := by
    unfold cfOp
    have hm : memK kindsC ⟨#[114, 101, 115, 116]⟩ = true := by decide +kernel
    simp [hm, kEnter, kLeave, kRest, kWait, kRead, kPut, kDrop, kLater, kFlush]
  have hS1 := hq.heap hS (fun e => e)
  obtain ⟨h0, h1, h2, h3, f0, f1, f2, f3⟩ := st_cells hS1
  have E1 := E.keep hq
  obtain ⟨gk, off, cap, q0, qx⟩ := HK.keep hq
  have hcall := containsK2 (w.alloc (.cells #[.string ⟨#[114, 101, 115, 116]⟩, .int .i64 0] 63)) gk off cap kindsC kRest qx (by decide)
  rw [show memK kindsC kRest = true by decide +kernel] at hcall
  have hl9 : kindsC.length = 9 := rfl
  rw [hl9] at hcall
  have v1 := E1.v1
  have v2 := E1.v2
  have v4 := E1.v4
  have v7 := E1.v7
  obtain ⟨e0, e1, e2, e3, e4, e5, e6, e7, e8⟩ := sopE2
  have HS1 := Lib.hid hS1
  have Hq := Lib.hid hq
  have Hcall := Lib.hid hcall
  have Hcf := Lib.hid hcf
  have hbz : w.heap.size ≠ b := by have := lt_of_block hS; omega
  clear E HK hS hq hcf hS1 E1 qx hcall hl9
  go_enter Tryd.func114, Tryd.ntmps114
  go_wp2_with fail
  refine Hcall.out.mono ?_
  rintro e w2 ⟨rfl, rfl⟩
  go_wp2
  go_ret
  refine sop_good Hcf.out ?_ ((show Qh.Mod (fun k => k = b) w _ from Hq.out.any).setCell (fun _ => rfl) _)
  unfold StAt
  rw [Qh.heap_setCell_same (HS1.out) 2 _]; rfl
theorem sop_rest_f (E : ErrsC w a) (HK : KindsW w) (hS : StAt w b ⟨0, r, false, u⟩) :
    Calls Tryd.prog 114 #[.pointer (some ⟨b, 0, none⟩), .agg #[.string ⟨#[114, 101, 115, 116]⟩, .int .i64 0]] w (SopPost a ⟨0, r, false, u⟩ (kRest, 0) b w) := by
  have hq := (Mod.refl noF w).alloc (.cells #[.string ⟨#[114, 101, 115, 116]⟩, .int .i64 0] 63)
  have hcf : cfOp ⟨0, r, false, u⟩ (kRest, 0) = (0, ⟨0, r, false, u⟩) := by
    unfold cfOp
    have hm : memK kindsC ⟨#[114, 101, 115, 116]⟩ = true := by decide +kernel
    simp [hm, kEnter, kLeave, kRest, kWait, kRead, kPut, kDrop, kLater, kFlush]
  have hS1 := hq.heap hS (fun e => e)
  obtain ⟨h0, h1, h2, h3, f0, f1, f2, f3⟩ := st_cells hS1
  have E1 := E.keep hq
  obtain ⟨gk, off, cap, q0, qx⟩ := HK.keep hq
  have hcall := containsK2 (w.alloc (.cells #[.string ⟨#[114, 101, 115, 116]⟩, .int .i64 0] 63)) gk off cap kindsC kRest qx (by decide)
  rw [show memK kindsC kRest = true by decide +kernel] at hcall
  have hl9 : kindsC.length = 9 := rfl
  rw [hl9] at hcall
  have v1 := E1.v1
  have v2 := E1.v2
  have v4 := E1.v4
  have v7 := E1.v7
  obtain ⟨e0, e1, e2, e3, e4, e5, e6, e7, e8⟩ := sopE2
  have HS1 := Lib.hid hS1
  have Hq := Lib.hid hq
  have Hcall := Lib.hid hcall
  have Hcf := Lib.hid hcf
  have hbz : w.heap.size ≠ b := by have := lt_of_block hS; omega
  clear E HK hS hq hcf hS1 E1 qx hcall hl9
  go_enter Tryd.func114, Tryd.ntmps114
  go_wp2_with fail
  refine Hcall.out.mono ?_
  rintro e w2 ⟨rfl, rfl⟩
  go_wp2
  go_ret
  refine sop_good Hcf.out ?_ ((show Qh.Mod (fun k => k = b) w _ from Hq.out.any).setCell (fun _ => rfl) _)
  unfold StAt
  rw [Qh.heap_setCell_same (HS1.out) 2 _]; rfl
theorem sop_wait_d (E : ErrsC w a) (HK : KindsW w) (hd : 1 ≤ d) (hS : StAt w b ⟨d, r, wt, u⟩) :
    Calls Tryd.prog 114 #[.pointer (some ⟨b, 0, none⟩), .agg #[.string ⟨#[119, 97, 105, 116]⟩, .int .i64 0]] w (SopPost a ⟨d, r, wt, u⟩ (kWait, 0) b w) := by
  have hq := (Mod.refl noF w).alloc (.cells #[.string ⟨#[119, 97, 105, 116]⟩, .int .i64 0] 63)
  have hcf : cfOp ⟨d, r, wt, u⟩ (kWait, 0) = (8, ⟨d, r, wt, u⟩) := by
    unfold cfOp
    have hm : memK kindsC ⟨#[119, 97, 105, 116]⟩ = true := by decide +kernel
    simp [hm, kEnter, kLeave, kRest, kWait, kRead, kPut, kDrop, kLater, kFlush, show ¬ d = 0 by omega]
  have hS1 := hq.heap hS (fun e => e)
  obtain ⟨h0, h1, h2, h3, f0, f1, f2, f3⟩ := st_cells hS1
  have E1 := E.keep hq
  obtain ⟨gk, off, cap, q0, qx⟩ := HK.keep hq
  have hcall := containsK2 (w.alloc (.cells #[.string ⟨#[119, 97, 105, 116]⟩, .int .i64 0] 63)) gk off cap kindsC kWait qx (by decide)
  rw [show memK kindsC kWait = true by decide +kernel] at hcall
  have hl9 : kindsC.length = 9 := rfl
  rw [hl9] at hcall
  have v1 := E1.v1
  have v2 := E1.v2
  have v4 := E1.v4
  have v7 := E1.v7
  obtain ⟨e0, e1, e2, e3, e4, e5, e6, e7, e8⟩ := sopE3
  have d1 : ((d : Int) == 0) = false := by simp; omega
  have d2 : decide ((d : Int) = 0) = false := by simp; omega
  have HS1 := Lib.hid hS1
  have Hq := Lib.hid hq
  have Hcall := Lib.hid hcall
  have Hcf := Lib.hid hcf
  have hbz : w.heap.size ≠ b := by have := lt_of_block hS; omega
  clear E HK hS hq hcf hS1 E1 qx hcall hl9
  go_enter Tryd.func114, Tryd.ntmps114
  go_wp2_with fail
  refine Hcall.out.mono ?_
  rintro e w2 ⟨rfl, rfl⟩
  go_wp2
  go_ret
  exact sop_bad 7 Hcf.out (by omega) rfl Hq.out.any
theorem sop_wait_t (E : ErrsC w a) (HK : KindsW w) (hS : StAt w b ⟨0, r, true, u⟩) :
    Calls Tryd.prog 114 #[.pointer (some ⟨b, 0, none⟩), .agg #[.string ⟨#[119, 97, 105, 116]⟩, .int .i64 0]] w (SopPost a ⟨0, r, true, u⟩ (kWait, 0) b w) := by
  have hq := (Mod.refl noF w).alloc (.cells #[.string ⟨#[119, 97, 105, 116]⟩, .int .i64 0] 63)
  have hcf : cfOp ⟨0, r, true, u⟩ (kWait, 0) = (0, ⟨0, r, true, u⟩) := by
    unfold cfOp
    have hm : memK kindsC ⟨#[119, 97, 105, 116]⟩ = true := by decide +kernel
    simp [hm, kEnter, kLeave, kRest, kWait, kRead, kPut, kDrop, kLater, kFlush]
  have hS1 := hq.heap hS (fun e => e)
  obtain ⟨h0, h1, h2, h3, f0, f1, f2, f3⟩ := st_cells hS1
  have E1 := E.keep hq
  obtain ⟨gk, off, cap, q0, qx⟩ := HK.keep hq
  have hcall := containsK2 (w.alloc (.cells #[.string ⟨#[119, 97, 105, 116]⟩, .int .i64 0] 63)) gk off cap kindsC kWait qx (by decide)
  rw [show memK kindsC kWait = true by decide +kernel] at hcall
  have hl9 : kindsC.length = 9 := rfl
  rw [hl9] at hcall
  have v1 := E1.v1
  have v2 := E1.v2
  have v4 := E1.v4
  have v7 := E1.v7
  obtain ⟨e0, e1, e2, e3, e4, e5, e6, e7, e8⟩ := sopE3
  have HS1 := Lib.hid hS1
  have Hq := Lib.hid hq
  have Hcall := Lib.hid hcall
  have Hcf := Lib.hid hcf
  have hbz : w.heap.size ≠ b := by have := lt_of_block hS; omega
  clear E HK hS hq hcf hS1 E1 qx hcall hl9
  go_enter Tryd.func114, Tryd.ntmps114
  go_wp2_with fail
  refine Hcall.out.mono ?_
  rintro e w2 ⟨rfl, rfl⟩
  go_wp2
  go_ret
  refine sop_good Hcf.out ?_ ((show Qh.Mod (fun k => k = b) w _ from Hq.out.any).setCell (fun _ => rfl) _)
  unfold StAt
  rw [Qh.heap_setCell_same (HS1.out) 2 _]; rfl
theorem sop_wait_f (E : ErrsC w a) (HK : KindsW w) (hS : StAt w b ⟨0, r, false, u⟩) :
    Calls Tryd.prog 114 #[.pointer (some ⟨b, 0, none⟩), .agg #[.string ⟨#[119, 97, 105, 116]⟩, .int .i64 0]] w (SopPost a ⟨0, r, false, u⟩ (kWait, 0) b w) := by
  have hq := (Mod.refl noF w).alloc (.cells #[.string ⟨#[119, 97, 105, 116]⟩, .int .i64 0] 63)
  have hcf : cfOp ⟨0, r, false, u⟩ (kWait, 0) = (0, ⟨0, r, true, u⟩) := by
    unfold cfOp
    have hm : memK kindsC ⟨#[119, 97, 105, 116]⟩ = true := by decide +kernel
    simp [hm, kEnter, kLeave, kRest, kWait, kRead, kPut, kDrop, kLater, kFlush]
  have hS1 := hq.heap hS (fun e => e)
  obtain ⟨h0, h1, h2, h3, f0, f1, f2, f3⟩ := st_cells hS1
  have E1 := E.keep hq
  obtain ⟨gk, off, cap, q0, qx⟩ := HK.keep hq
  have hcall := containsK2 (w.alloc (.cells #[.string ⟨#[119, 97, 105, 116]⟩, .int .i64 0] 63)) gk off cap kindsC kWait qx (by decide)
  rw [show memK kindsC kWait = true by decide +kernel] at hcall
  have hl9 : kindsC.length = 9 := rfl
  rw [hl9] at hcall
  have v1 := E1.v1
  have v2 := E1.v2
  have v4 := E1.v4
  have v7 := E1.v7
  obtain ⟨e0, e1, e2, e3, e4, e5, e6, e7, e8⟩ := sopE3
  have HS1 := Lib.hid hS1
  have Hq := Lib.hid hq
  have Hcall := Lib.hid hcall
  have Hcf := Lib.hid hcf
  have hbz : w.heap.size ≠ b := by have := lt_of_block hS; omega
  clear E HK hS hq hcf hS1 E1 qx hcall hl9
  go_enter Tryd.func114, Tryd.ntmps114
  go_wp2_with fail
  refine Hcall.out.mono ?_
  rintro e w2 ⟨rfl, rfl⟩
  go_wp2
  go_ret
  refine sop_good Hcf.out ?_ ((show Qh.Mod (fun k => k = b) w _ from Hq.out.any).setCell (fun _ => rfl) _)
  unfold StAt
  rw [Qh.heap_setCell_same (HS1.out) 2 _]; rfl
theorem sop_flush_d (E : ErrsC w a) (HK : KindsW w) (hd : 1 ≤ d) (hS : StAt w b ⟨d, r, wt, u⟩) :
    Calls Tryd.prog 114 #[.pointer (some ⟨b, 0, none⟩), .agg #[.string ⟨#[102, 108, 117, 115, 104]⟩, .int .i64 0]] w (SopPost a ⟨d, r, wt, u⟩ (kFlush, 0) b w) := by
  have hq := (Mod.refl noF w).alloc (.cells #[.string ⟨#[102, 108, 117, 115, 104]⟩, .int .i64 0] 63)
  have hcf : cfOp ⟨d, r, wt, u⟩ (kFlush, 0) = (8, ⟨d, r, wt, u⟩) := by
    unfold cfOp
    have hm : memK kindsC ⟨#[102, 108, 117, 115, 104]⟩ = true := by decide +kernel
    simp [hm, kEnter, kLeave, kRest, kWait, kRead, kPut, kDrop, kLater, kFlush, show ¬ d = 0 by omega]
  have hS1 := hq.heap hS (fun e => e)
  obtain ⟨h0, h1, h2, h3, f0, f1, f2, f3⟩ := st_cells hS1
  have E1 := E.keep hq
  obtain ⟨gk, off, cap, q0, qx⟩ := HK.keep hq
  have hcall := containsK2 (w.alloc (.cells #[.string ⟨#[102, 108, 117, 115, 104]⟩, .int .i64 0] 63)) gk off cap kindsC kFlush qx (by decide)
  rw [show memK kindsC kFlush = true by decide +kernel] at hcall
  have hl9 : kindsC.length = 9 := rfl
  rw [hl9] at hcall
  have v1 := E1.v1
  have v2 := E1.v2
  have v4 := E1.v4
  have v7 := E1.v7
  obtain ⟨e0, e1, e2, e3, e4, e5, e6, e7, e8⟩ := sopE7
  have d1 : ((d : Int) == 0) = false := by simp; omega
  have d2 : decide ((d : Int) = 0) = false := by simp; omega
  have HS1 := Lib.hid hS1
  have Hq := Lib.hid hq
  have Hcall := Lib.hid hcall
  have Hcf := Lib.hid hcf
  have hbz : w.heap.size ≠ b := by have := lt_of_block hS; omega
  clear E HK hS hq hcf hS1 E1 qx hcall hl9
  go_enter Tryd.func114, Tryd.ntmps114
  go_wp2_with fail
  refine Hcall.out.mono ?_
  rintro e w2 ⟨rfl, rfl⟩
  go_wp2
  go_ret
  exact sop_bad 7 Hcf.out (by omega) rfl Hq.out.any
theorem sop_flush_t (E : ErrsC w a) (HK : KindsW w) (hS : StAt w b ⟨0, r, true, u⟩) :
    Calls Tryd.prog 114 #[.pointer (some ⟨b, 0, none⟩), .agg #[.string ⟨#[102, 108, 117, 115, 104]⟩, .int .i64 0]] w (SopPost a ⟨0, r, true, u⟩ (kFlush, 0) b w) := by
  have hq := (Mod.refl noF w).alloc (.cells #[.string ⟨#[102, 108, 117, 115, 104]⟩, .int .i64 0] 63)
  have hcf : cfOp ⟨0, r, true, u⟩ (kFlush, 0) = (0, ⟨0, r, true, u⟩) := by
    unfold cfOp
    have hm : memK kindsC ⟨#[102, 108, 117, 115, 104]⟩ = true := by decide +kernel
    simp [hm, kEnter, kLeave, kRest, kWait, kRead, kPut, kDrop, kLater, kFlush]
  have hS1 := hq.heap hS (fun e => e)
  obtain ⟨h0, h1, h2, h3, f0, f1, f2, f3⟩ := st_cells hS1
  have E1 := E.keep hq
  obtain ⟨gk, off, cap, q0, qx⟩ := HK.keep hq
  have hcall := containsK2 (w.alloc (.cells #[.string ⟨#[102, 108, 117, 115, 104]⟩, .int .i64 0] 63)) gk off cap kindsC kFlush qx (by decide)
  rw [show memK kindsC kFlush = true by decide +kernel] at hcall
  have hl9 : kindsC.length = 9 := rfl
  rw [hl9] at hcall
  have v1 := E1.v1
  have v2 := E1.v2
  have v4 := E1.v4
  have v7 := E1.v7
  obtain ⟨e0, e1, e2, e3, e4, e5, e6, e7, e8⟩ := sopE7
  have HS1 := Lib.hid hS1
  have Hq := Lib.hid hq
  have Hcall := Lib.hid hcall
  have Hcf := Lib.hid hcf
  have hbz : w.heap.size ≠ b := by have := lt_of_block hS; omega
  clear E HK hS hq hcf hS1 E1 qx hcall hl9
  go_enter Tryd.func114, Tryd.ntmps114
  go_wp2_with fail
  refine Hcall.out.mono ?_
  rintro e w2 ⟨rfl, rfl⟩
  go_wp2
  go_ret
  refine sop_good Hcf.out ?_ ((show Qh.Mod (fun k => k = b) w _ from Hq.out.any).setCell (fun _ => rfl) _)
  unfold StAt
  rw [Qh.heap_setCell_same (HS1.out) 2 _]; rfl
theorem sop_flush_f (E : ErrsC w a) (HK : KindsW w) (hS : StAt w b ⟨0, r, false, u⟩) :
    Calls Tryd.prog 114 #[.pointer (some ⟨b, 0, none⟩), .agg #[.string ⟨#[102, 108, 117, 115, 104]⟩, .int .i64 0]] w (SopPost a ⟨0, r, false, u⟩ (kFlush, 0) b w) := by
  have hq := (Mod.refl noF w).alloc (.cells #[.string ⟨#[102, 108, 117, 115, 104]⟩, .int .i64 0] 63)
  have hcf : cfOp ⟨0, r, false, u⟩ (kFlush, 0) = (0, ⟨0, r, true, u⟩) := by
    unfold cfOp
    have hm : memK kindsC ⟨#[102, 108, 117, 115, 104]⟩ = true := by decide +kernel
    simp [hm, kEnter, kLeave, kRest, kWait, kRead, kPut, kDrop, kLater, kFlush]
  have hS1 := hq.heap hS (fun e => e)
  obtain ⟨h0, h1, h2, h3, f0, f1, f2, f3⟩ := st_cells hS1
  have E1 := E.keep hq
  obtain ⟨gk, off, cap, q0, qx⟩ := HK.keep hq
  have hcall := containsK2 (w.alloc (.cells #[.string ⟨#[102, 108, 117, 115, 104]⟩, .int .i64 0] 63)) gk off cap kindsC kFlush qx (by decide)
  rw [show memK kindsC kFlush = true by decide +kernel] at hcall
  have hl9 : kindsC.length = 9 := rfl
  rw [hl9] at hcall
  have v1 := E1.v1
  have v2 := E1.v2
  have v4 := E1.v4
  have v7 := E1.v7
  obtain ⟨e0, e1, e2, e3, e4, e5, e6, e7, e8⟩ := sopE7
  have HS1 := Lib.hid hS1
  have Hq := Lib.hid hq
  have Hcall := Lib.hid hcall
  have Hcf := Lib.hid hcf
  have hbz : w.heap.size ≠ b := by have := lt_of_block hS; omega
  clear E HK hS hq hcf hS1 E1 qx hcall hl9
  go_enter Tryd.func114, Tryd.ntmps114
  go_wp2_with fail
  refine Hcall.out.mono ?_
  rintro e w2 ⟨rfl, rfl⟩
  go_wp2
  go_ret
  refine sop_good Hcf.out ?_ ((show Qh.Mod (fun k => k = b) w _ from Hq.out.any).setCell (fun _ => rfl) _)
  unfold StAt
  rw [Qh.heap_setCell_same (HS1.out) 2 _]; rfl
theorem sop_read_0 (E : ErrsC w a) (HK : KindsW w) (hS : StAt w b ⟨0, r, wt, u⟩) :
    Calls Tryd.prog 114 #[.pointer (some ⟨b, 0, none⟩), .agg #[.string ⟨#[114, 101, 97, 100]⟩, .int .i64 0]] w (SopPost a ⟨0, r, wt, u⟩ (kRead, 0) b w) := by
  have hq := (Mod.refl noF w).alloc (.cells #[.string ⟨#[114, 101, 97, 100]⟩, .int .i64 0] 63)
  have hcf : cfOp ⟨0, r, wt, u⟩ (kRead, 0) = (8, ⟨0, r, wt, u⟩) := by
    unfold cfOp
    have hm : memK kindsC ⟨#[114, 101, 97, 100]⟩ = true := by decide +kernel
    simp [hm, kEnter, kLeave, kRest, kWait, kRead, kPut, kDrop, kLater, kFlush]
  have hS1 := hq.heap hS (fun e => e)
  obtain ⟨h0, h1, h2, h3, f0, f1, f2, f3⟩ := st_cells hS1
  have E1 := E.keep hq
  obtain ⟨gk, off, cap, q0, qx⟩ := HK.keep hq
  have hcall := containsK2 (w.alloc (.cells #[.string ⟨#[114, 101, 97, 100]⟩, .int .i64 0] 63)) gk off cap kindsC kRead qx (by decide)
  rw [show memK kindsC kRead = true by decide +kernel] at hcall
  have hl9 : kindsC.length = 9 := rfl
  rw [hl9] at hcall
  have v1 := E1.v1
  have v2 := E1.v2
  have v4 := E1.v4
  have v7 := E1.v7
  obtain ⟨e0, e1, e2, e3, e4, e5, e6, e7, e8⟩ := sopE4
  have HS1 := Lib.hid hS1
  have Hq := Lib.hid hq
  have Hcall := Lib.hid hcall
  have Hcf := Lib.hid hcf
  have hbz : w.heap.size ≠ b := by have := lt_of_block hS; omega
  clear E HK hS hq hcf hS1 E1 qx hcall hl9
  go_enter Tryd.func114, Tryd.ntmps114
  go_wp2_with fail
  refine Hcall.out.mono ?_
  rintro e w2 ⟨rfl, rfl⟩
  go_wp2
  go_ret
  exact sop_bad 7 Hcf.out (by omega) rfl Hq.out.any
theorem sop_read (E : ErrsC w a) (HK : KindsW w) (hd : 1 ≤ d) (hS : StAt w b ⟨d, r, wt, u⟩) :
    Calls Tryd.prog 114 #[.pointer (some ⟨b, 0, none⟩), .agg #[.string ⟨#[114, 101, 97, 100]⟩, .int .i64 0]] w (SopPost a ⟨d, r, wt, u⟩ (kRead, 0) b w) := by
  have hq := (Mod.refl noF w).alloc (.cells #[.string ⟨#[114, 101, 97, 100]⟩, .int .i64 0] 63)
  have hcf : cfOp ⟨d, r, wt, u⟩ (kRead, 0) = (0, ⟨d, r, wt, u⟩) := by
    unfold cfOp
    have hm : memK kindsC ⟨#[114, 101, 97, 100]⟩ = true := by decide +kernel
    simp [hm, kEnter, kLeave, kRest, kWait, kRead, kPut, kDrop, kLater, kFlush, show ¬ d = 0 by omega]
  have hS1 := hq.heap hS (fun e => e)
  obtain ⟨h0, h1, h2, h3, f0, f1, f2, f3⟩ := st_cells hS1
  have E1 := E.keep hq
  obtain ⟨gk, off, cap, q0, qx⟩ := HK.keep hq
  have hcall := containsK2 (w.alloc (.cells #[.string ⟨#[114, 101, 97, 100]⟩, .int .i64 0] 63)) gk off cap kindsC kRead qx (by decide)
  rw [show memK kindsC kRead = true by decide +kernel] at hcall
  have hl9 : kindsC.length = 9 := rfl
  rw [hl9] at hcall
  have v1 := E1.v1
  have v2 := E1.v2
  have v4 := E1.v4
  have v7 := E1.v7
  obtain ⟨e0, e1, e2, e3, e4, e5, e6, e7, e8⟩ := sopE4
  have d1 : ((d : Int) == 0) = false := by simp; omega
  have d2 : decide ((d : Int) = 0) = false := by simp; omega
  have HS1 := Lib.hid hS1
  have Hq := Lib.hid hq
  have Hcall := Lib.hid hcall
  have Hcf := Lib.hid hcf
  have hbz : w.heap.size ≠ b := by have := lt_of_block hS; omega
  clear E HK hS hq hcf hS1 E1 qx hcall hl9
  go_enter Tryd.func114, Tryd.ntmps114
  go_wp2_with fail
  refine Hcall.out.mono ?_
  rintro e w2 ⟨rfl, rfl⟩
  go_wp2
  go_ret
  exact sop_good Hcf.out HS1.out Hq.out.any
theorem sop_put_lo (E : ErrsC w a) (HK : KindsW w) (hn : n < 1) (hS : StAt w b ⟨d, r, wt, u⟩) :
    Calls Tryd.prog 114 #[.pointer (some ⟨b, 0, none⟩), .agg #[.string ⟨#[112, 117, 116]⟩, .int .i64 n]] w (SopPost a ⟨d, r, wt, u⟩ (kPut, n) b w) := by
  have hq := (Mod.refl noF w).alloc (.cells #[.string ⟨#[112, 117, 116]⟩, .int .i64 n] 63)
  have hcf : cfOp ⟨d, r, wt, u⟩ (kPut, n) = (2, ⟨d, r, wt, u⟩) := by
    unfold cfOp
    have hm : memK kindsC ⟨#[112, 117, 116]⟩ = true := by decide +kernel
    simp [hm, kEnter, kLeave, kRest, kWait, kRead, kPut, kDrop, kLater, kFlush, hn]
  have hS1 := hq.heap hS (fun e => e)
  obtain ⟨h0, h1, h2, h3, f0, f1, f2, f3⟩ := st_cells hS1
  have E1 := E.keep hq
  obtain ⟨gk, off, cap, q0, qx⟩ := HK.keep hq
  have hcall := containsK2 (w.alloc (.cells #[.string ⟨#[112, 117, 116]⟩, .int .i64 n] 63)) gk off cap kindsC kPut qx (by decide)
  rw [show memK kindsC kPut = true by decide +kernel] at hcall
  have hl9 : kindsC.length = 9 := rfl
  rw [hl9] at hcall
  have v1 := E1.v1
  have v2 := E1.v2
  have v4 := E1.v4
  have v7 := E1.v7
  obtain ⟨e0, e1, e2, e3, e4, e5, e6, e7, e8⟩ := sopE8
  have n1 : decide (n < 1) = true := by simpa using hn
  have HS1 := Lib.hid hS1
  have Hq := Lib.hid hq
  have Hcall := Lib.hid hcall
  have Hcf := Lib.hid hcf
  have hbz : w.heap.size ≠ b := by have := lt_of_block hS; omega
  clear E HK hS hq hcf hS1 E1 qx hcall hl9
  go_enter Tryd.func114, Tryd.ntmps114
  go_wp2_with fail
  refine Hcall.out.mono ?_
  rintro e w2 ⟨rfl, rfl⟩
  go_wp2
  go_ret
  exact sop_bad 1 Hcf.out (by omega) rfl Hq.out.any
theorem sop_put_hi (E : ErrsC w a) (HK : KindsW w) (hn : 1000 < n) (hS : StAt w b ⟨d, r, wt, u⟩) :
    Calls Tryd.prog 114 #[.pointer (some ⟨b, 0, none⟩), .agg #[.string ⟨#[112, 117, 116]⟩, .int .i64 n]] w (SopPost a ⟨d, r, wt, u⟩ (kPut, n) b w) := by
  have hq := (Mod.refl noF w).alloc (.cells #[.string ⟨#[112, 117, 116]⟩, .int .i64 n] 63)
  have hcf : cfOp ⟨d, r, wt, u⟩ (kPut, n) = (2, ⟨d, r, wt, u⟩) := by
    unfold cfOp
    have hm : memK kindsC ⟨#[112, 117, 116]⟩ = true := by decide +kernel
    simp [hm, kEnter, kLeave, kRest, kWait, kRead, kPut, kDrop, kLater, kFlush, hn, show ¬ n < 1 by omega]
  have hS1 := hq.heap hS (fun e => e)
  obtain ⟨h0, h1, h2, h3, f0, f1, f2, f3⟩ := st_cells hS1
  have E1 := E.keep hq
  obtain ⟨gk, off, cap, q0, qx⟩ := HK.keep hq
  have hcall := containsK2 (w.alloc (.cells #[.string ⟨#[112, 117, 116]⟩, .int .i64 n] 63)) gk off cap kindsC kPut qx (by decide)
  rw [show memK kindsC kPut = true by decide +kernel] at hcall
  have hl9 : kindsC.length = 9 := rfl
  rw [hl9] at hcall
  have v1 := E1.v1
  have v2 := E1.v2
  have v4 := E1.v4
  have v7 := E1.v7
  obtain ⟨e0, e1, e2, e3, e4, e5, e6, e7, e8⟩ := sopE8
  have n1 : decide (n < 1) = false := by simp; omega
  have n2 : decide (1000 < n) = true := by simpa using hn
  have HS1 := Lib.hid hS1
  have Hq := Lib.hid hq
  have Hcall := Lib.hid hcall
  have Hcf := Lib.hid hcf
  have hbz : w.heap.size ≠ b := by have := lt_of_block hS; omega
  clear E HK hS hq hcf hS1 E1 qx hcall hl9
  go_enter Tryd.func114, Tryd.ntmps114
  go_wp2_with fail
  refine Hcall.out.mono ?_
  rintro e w2 ⟨rfl, rfl⟩
  go_wp2
  go_ret
  exact sop_bad 1 Hcf.out (by omega) rfl Hq.out.any
theorem sop_put_d (E : ErrsC w a) (HK : KindsW w) (hn : 1 ≤ n) (hn2 : n ≤ 1000) (hd : 1 ≤ d) (hS : StAt w b ⟨d, r, wt, u⟩) :
    Calls Tryd.prog 114 #[.pointer (some ⟨b, 0, none⟩), .agg #[.string ⟨#[112, 117, 116]⟩, .int .i64 n]] w (SopPost a ⟨d, r, wt, u⟩ (kPut, n) b w) := by
  have hq := (Mod.refl noF w).alloc (.cells #[.string ⟨#[112, 117, 116]⟩, .int .i64 n] 63)
  have hcf : cfOp ⟨d, r, wt, u⟩ (kPut, n) = (8, ⟨d, r, wt, u⟩) := by
    unfold cfOp
    have hm : memK kindsC ⟨#[112, 117, 116]⟩ = true := by decide +kernel
    simp [hm, kEnter, kLeave, kRest, kWait, kRead, kPut, kDrop, kLater, kFlush, show ¬ n < 1 by omega, show ¬ 1000 < n by omega, show ¬ d = 0 by omega]
  have hS1 := hq.heap hS (fun e => e)
  obtain ⟨h0, h1, h2, h3, f0, f1, f2, f3⟩ := st_cells hS1
  have E1 := E.keep hq
  obtain ⟨gk, off, cap, q0, qx⟩ := HK.keep hq
  have hcall := containsK2 (w.alloc (.cells #[.string ⟨#[112, 117, 116]⟩, .int .i64 n] 63)) gk off cap kindsC kPut qx (by decide)
  rw [show memK kindsC kPut = true by decide +kernel] at hcall
  have hl9 : kindsC.length = 9 := rfl
  rw [hl9] at hcall
  have v1 := E1.v1
  have v2 := E1.v2
  have v4 := E1.v4
  have v7 := E1.v7
  obtain ⟨e0, e1, e2, e3, e4, e5, e6, e7, e8⟩ := sopE8
  have n1 : decide (n < 1) = false := by simp; omega
  have n2 : decide (1000 < n) = false := by simp; omega
  have d1 : ((d : Int) == 0) = false := by simp; omega
  have d2 : decide ((d : Int) = 0) = false := by simp; omega
  have HS1 := Lib.hid hS1
  have Hq := Lib.hid hq
  have Hcall := Lib.hid hcall
  have Hcf := Lib.hid hcf
  have hbz : w.heap.size ≠ b := by have := lt_of_block hS; omega
  clear E HK hS hq hcf hS1 E1 qx hcall hl9
  go_enter Tryd.func114, Tryd.ntmps114
  go_wp2_with fail
  refine Hcall.out.mono ?_
  rintro e w2 ⟨rfl, rfl⟩
  go_wp2
  go_ret
  exact sop_bad 7 Hcf.out (by omega) rfl Hq.out.any
theorem sop_put_r (E : ErrsC w a) (HK : KindsW w) (hn : 1 ≤ n) (hn2 : n ≤ 1000) (hS : StAt w b ⟨0, true, wt, u⟩) :
    Calls Tryd.prog 114 #[.pointer (some ⟨b, 0, none⟩), .agg #[.string ⟨#[112, 117, 116]⟩, .int .i64 n]] w (SopPost a ⟨0, true, wt, u⟩ (kPut, n) b w) := by
  have hq := (Mod.refl noF w).alloc (.cells #[.string ⟨#[112, 117, 116]⟩, .int .i64 n] 63)
  have hcf : cfOp ⟨0, true, wt, u⟩ (kPut, n) = (8, ⟨0, true, wt, u⟩) := by
    unfold cfOp
    have hm : memK kindsC ⟨#[112, 117, 116]⟩ = true := by decide +kernel
    simp [hm, kEnter, kLeave, kRest, kWait, kRead, kPut, kDrop, kLater, kFlush, show ¬ n < 1 by omega, show ¬ 1000 < n by omega]
  have hS1 := hq.heap hS (fun e => e)
  obtain ⟨h0, h1, h2, h3, f0, f1, f2, f3⟩ := st_cells hS1
  have E1 := E.keep hq
  obtain ⟨gk, off, cap, q0, qx⟩ := HK.keep hq
  have hcall := containsK2 (w.alloc (.cells #[.string ⟨#[112, 117, 116]⟩, .int .i64 n] 63)) gk off cap kindsC kPut qx (by decide)
  rw [show memK kindsC kPut = true by decide +kernel] at hcall
  have hl9 : kindsC.length = 9 := rfl
  rw [hl9] at hcall
  have v1 := E1.v1
  have v2 := E1.v2
  have v4 := E1.v4
  have v7 := E1.v7
  obtain ⟨e0, e1, e2, e3, e4, e5, e6, e7, e8⟩ := sopE8
  have n1 : decide (n < 1) = false := by simp; omega
  have n2 : decide (1000 < n) = false := by simp; omega
  have HS1 := Lib.hid hS1
  have Hq := Lib.hid hq
  have Hcall := Lib.hid hcall
  have Hcf := Lib.hid hcf
  have hbz : w.heap.size ≠ b := by have := lt_of_block hS; omega
  clear E HK hS hq hcf hS1 E1 qx hcall hl9
  go_enter Tryd.func114, Tryd.ntmps114
  go_wp2_with fail
  refine Hcall.out.mono ?_
  rintro e w2 ⟨rfl, rfl⟩
  go_wp2
  go_ret
  exact sop_bad 7 Hcf.out (by omega) rfl Hq.out.any
theorem sop_put (E : ErrsC w a) (HK : KindsW w) (hn : 1 ≤ n) (hn2 : n ≤ 1000) (hS : StAt w b ⟨0, false, wt, u⟩) :
    Calls Tryd.prog 114 #[.pointer (some ⟨b, 0, none⟩), .agg #[.string ⟨#[112, 117, 116]⟩, .int .i64 n]] w (SopPost a ⟨0, false, wt, u⟩ (kPut, n) b w) := by
  have hq := (Mod.refl noF w).alloc (.cells #[.string ⟨#[112, 117, 116]⟩, .int .i64 n] 63)
  have hcf : cfOp ⟨0, false, wt, u⟩ (kPut, n) = (0, ⟨0, true, false, u⟩) := by
    unfold cfOp
    have hm : memK kindsC ⟨#[112, 117, 116]⟩ = true := by decide +kernel
    simp [hm, kEnter, kLeave, kRest, kWait, kRead, kPut, kDrop, kLater, kFlush, show ¬ n < 1 by omega, show ¬ 1000 < n by omega]
  have hS1 := hq.heap hS (fun e => e)
  obtain ⟨h0, h1, h2, h3, f0, f1, f2, f3⟩ := st_cells hS1
  have E1 := E.keep hq
  obtain ⟨gk, off, cap, q0, qx⟩ := HK.keep hq
  have hcall := containsK2 (w.alloc (.cells #[.string ⟨#[112, 117, 116]⟩, .int .i64 n] 63)) gk off cap kindsC kPut qx (by decide)
  rw [show memK kindsC kPut = true by decide +kernel] at hcall
  have hl9 : kindsC.length = 9 := rfl
  rw [hl9] at hcall
  have v1 := E1.v1
  have v2 := E1.v2
  have v4 := E1.v4
  have v7 := E1.v7
  obtain ⟨e0, e1, e2, e3, e4, e5, e6, e7, e8⟩ := sopE8
  have n1 : decide (n < 1) = false := by simp; omega
  have n2 : decide (1000 < n) = false := by simp; omega
  have HS1 := Lib.hid hS1
  have Hq := Lib.hid hq
  have Hcall := Lib.hid hcall
  have Hcf := Lib.hid hcf
  have hbz : w.heap.size ≠ b := by have := lt_of_block hS; omega
  clear E HK hS hq hcf hS1 E1 qx hcall hl9
  go_enter Tryd.func114, Tryd.ntmps114
  go_wp2_with fail
  refine Hcall.out.mono ?_
  rintro e w2 ⟨rfl, rfl⟩
  go_wp2
  go_ret
  refine sop_good Hcf.out ?_ (((show Qh.Mod (fun k => k = b) w _ from Hq.out.any).setCell (fun _ => rfl) _).setCell (fun _ => rfl) _)
  unfold StAt
  rw [Qh.heap_setCell_same (Qh.heap_setCell_same (HS1.out) 1 _) 2 _]; rfl
theorem sop_drop_r (E : ErrsC w a) (HK : KindsW w) (hS : StAt w b ⟨d, false, wt, u⟩) :
    Calls Tryd.prog 114 #[.pointer (some ⟨b, 0, none⟩), .agg #[.string ⟨#[100, 114, 111, 112]⟩, .int .i64 0]] w (SopPost a ⟨d, false, wt, u⟩ (kDrop, 0) b w) := by
  have hq := (Mod.refl noF w).alloc (.cells #[.string ⟨#[100, 114, 111, 112]⟩, .int .i64 0] 63)
  have hcf : cfOp ⟨d, false, wt, u⟩ (kDrop, 0) = (5, ⟨d, false, wt, u⟩) := by
    unfold cfOp
    have hm : memK kindsC ⟨#[100, 114, 111, 112]⟩ = true := by decide +kernel
    simp [hm, kEnter, kLeave, kRest, kWait, kRead, kPut, kDrop, kLater, kFlush]
  have hS1 := hq.heap hS (fun e => e)
  obtain ⟨h0, h1, h2, h3, f0, f1, f2, f3⟩ := st_cells hS1
  have E1 := E.keep hq
  obtain ⟨gk, off, cap, q0, qx⟩ := HK.keep hq
  have hcall := containsK2 (w.alloc (.cells #[.string ⟨#[100, 114, 111, 112]⟩, .int .i64 0] 63)) gk off cap kindsC kDrop qx (by decide)
  rw [show memK kindsC kDrop = true by decide +kernel] at hcall
  have hl9 : kindsC.length = 9 := rfl
  rw [hl9] at hcall
  have v1 := E1.v1
  have v2 := E1.v2
  have v4 := E1.v4
  have v7 := E1.v7
  obtain ⟨e0, e1, e2, e3, e4, e5, e6, e7, e8⟩ := sopE5
  have HS1 := Lib.hid hS1
  have Hq := Lib.hid hq
  have Hcall := Lib.hid hcall
  have Hcf := Lib.hid hcf
  have hbz : w.heap.size ≠ b := by have := lt_of_block hS; omega
  clear E HK hS hq hcf hS1 E1 qx hcall hl9
  go_enter Tryd.func114, Tryd.ntmps114
  go_wp2_with fail
  refine Hcall.out.mono ?_
  rintro e w2 ⟨rfl, rfl⟩
  go_wp2
  go_ret
  exact sop_bad 4 Hcf.out (by omega) rfl Hq.out.any
theorem sop_drop_u (E : ErrsC w a) (HK : KindsW w) (hS : StAt w b ⟨d, true, wt, true⟩) :
    Calls Tryd.prog 114 #[.pointer (some ⟨b, 0, none⟩), .agg #[.string ⟨#[100, 114, 111, 112]⟩, .int .i64 0]] w (SopPost a ⟨d, true, wt, true⟩ (kDrop, 0) b w) := by
  have hq := (Mod.refl noF w).alloc (.cells #[.string ⟨#[100, 114, 111, 112]⟩, .int .i64 0] 63)
  have hcf : cfOp ⟨d, true, wt, true⟩ (kDrop, 0) = (0, ⟨d, false, wt, true⟩) := by
    unfold cfOp
    have hm : memK kindsC ⟨#[100, 114, 111, 112]⟩ = true := by decide +kernel
    simp [hm, kEnter, kLeave, kRest, kWait, kRead, kPut, kDrop, kLater, kFlush]
  have hS1 := hq.heap hS (fun e => e)
  obtain ⟨h0, h1, h2, h3, f0, f1, f2, f3⟩ := st_cells hS1
  have E1 := E.keep hq
  obtain ⟨gk, off, cap, q0, qx⟩ := HK.keep hq
  have hcall := containsK2 (w.alloc (.cells #[.string ⟨#[100, 114, 111, 112]⟩, .int .i64 0] 63)) gk off cap kindsC kDrop qx (by decide)
  rw [show memK kindsC kDrop = true by decide +kernel] at hcall
  have hl9 : kindsC.length = 9 := rfl
  rw [hl9] at hcall
  have v1 := E1.v1
  have v2 := E1.v2
  have v4 := E1.v4
  have v7 := E1.v7
  obtain ⟨e0, e1, e2, e3, e4, e5, e6, e7, e8⟩ := sopE5
  have HS1 := Lib.hid hS1
  have Hq := Lib.hid hq
  have Hcall := Lib.hid hcall
  have Hcf := Lib.hid hcf
  have hbz : w.heap.size ≠ b := by have := lt_of_block hS; omega
  clear E HK hS hq hcf hS1 E1 qx hcall hl9
  go_enter Tryd.func114, Tryd.ntmps114
  go_wp2_with fail
  refine Hcall.out.mono ?_
  rintro e w2 ⟨rfl, rfl⟩
  go_wp2
  go_ret
  refine sop_good Hcf.out ?_ (((show Qh.Mod (fun k => k = b) w _ from Hq.out.any).setCell (fun _ => rfl) _).setCell (fun _ => rfl) _)
  unfold StAt
  rw [Qh.heap_setCell_same (Qh.heap_setCell_same (HS1.out) 1 _) 3 _]; rfl
theorem sop_later_r (E : ErrsC w a) (HK : KindsW w) (hS : StAt w b ⟨d, false, wt, u⟩) :
    Calls Tryd.prog 114 #[.pointer (some ⟨b, 0, none⟩), .agg #[.string ⟨#[108, 97, 116, 101, 114]⟩, .int .i64 0]] w (SopPost a ⟨d, false, wt, u⟩ (kLater, 0) b w) := by
  have hq := (Mod.refl noF w).alloc (.cells #[.string ⟨#[108, 97, 116, 101, 114]⟩, .int .i64 0] 63)
  have hcf : cfOp ⟨d, false, wt, u⟩ (kLater, 0) = (5, ⟨d, false, wt, u⟩) := by
    unfold cfOp
    have hm : memK kindsC ⟨#[108, 97, 116, 101, 114]⟩ = true := by decide +kernel
    simp [hm, kEnter, kLeave, kRest, kWait, kRead, kPut, kDrop, kLater, kFlush]
  have hS1 := hq.heap hS (fun e => e)
  obtain ⟨h0, h1, h2, h3, f0, f1, f2, f3⟩ := st_cells hS1
  have E1 := E.keep hq
  obtain ⟨gk, off, cap, q0, qx⟩ := HK.keep hq
  have hcall := containsK2 (w.alloc (.cells #[.string ⟨#[108, 97, 116, 101, 114]⟩, .int .i64 0] 63)) gk off cap kindsC kLater qx (by decide)
  rw [show memK kindsC kLater = true by decide +kernel] at hcall
  have hl9 : kindsC.length = 9 := rfl
  rw [hl9] at hcall
  have v1 := E1.v1
  have v2 := E1.v2
  have v4 := E1.v4
  have v7 := E1.v7
  obtain ⟨e0, e1, e2, e3, e4, e5, e6, e7, e8⟩ := sopE6
  have HS1 := Lib.hid hS1
  have Hq := Lib.hid hq
  have Hcall := Lib.hid hcall
  have Hcf := Lib.hid hcf
  have hbz : w.heap.size ≠ b := by have := lt_of_block hS; omega
  clear E HK hS hq hcf hS1 E1 qx hcall hl9
  go_enter Tryd.func114, Tryd.ntmps114
  go_wp2_with fail
  refine Hcall.out.mono ?_
  rintro e w2 ⟨rfl, rfl⟩
  go_wp2
  go_ret
  exact sop_bad 4 Hcf.out (by omega) rfl Hq.out.any
theorem sop_later_u (E : ErrsC w a) (HK : KindsW w) (hS : StAt w b ⟨d, true, wt, true⟩) :
    Calls Tryd.prog 114 #[.pointer (some ⟨b, 0, none⟩), .agg #[.string ⟨#[108, 97, 116, 101, 114]⟩, .int .i64 0]] w (SopPost a ⟨d, true, wt, true⟩ (kLater, 0) b w) := by
  have hq := (Mod.refl noF w).alloc (.cells #[.string ⟨#[108, 97, 116, 101, 114]⟩, .int .i64 0] 63)
  have hcf : cfOp ⟨d, true, wt, true⟩ (kLater, 0) = (0, ⟨d, false, wt, true⟩) := by
    unfold cfOp
    have hm : memK kindsC ⟨#[108, 97, 116, 101, 114]⟩ = true := by decide +kernel
    simp [hm, kEnter, kLeave, kRest, kWait, kRead, kPut, kDrop, kLater, kFlush]
  have hS1 := hq.heap hS (fun e => e)
  obtain ⟨h0, h1, h2, h3, f0, f1, f2, f3⟩ := st_cells hS1
  have E1 := E.keep hq
  obtain ⟨gk, off, cap, q0, qx⟩ := HK.keep hq
  have hcall := containsK2 (w.alloc (.cells #[.string ⟨#[108, 97, 116, 101, 114]⟩, .int .i64 0] 63)) gk off cap kindsC kLater qx (by decide)
  rw [show memK kindsC kLater = true by decide +kernel] at hcall
  have hl9 : kindsC.length = 9 := rfl
  rw [hl9] at hcall
  have v1 := E1.v1
  have v2 := E1.v2
  have v4 := E1.v4
  have v7 := E1.v7
  obtain ⟨e0, e1, e2, e3, e4, e5, e6, e7, e8⟩ := sopE6
  have HS1 := Lib.hid hS1
  have Hq := Lib.hid hq
  have Hcall := Lib.hid hcall
  have Hcf := Lib.hid hcf
  have hbz : w.heap.size ≠ b := by have := lt_of_block hS; omega
  clear E HK hS hq hcf hS1 E1 qx hcall hl9
  go_enter Tryd.func114, Tryd.ntmps114
  go_wp2_with fail
  refine Hcall.out.mono ?_
  rintro e w2 ⟨rfl, rfl⟩
  go_wp2
  go_ret
  refine sop_good Hcf.out ?_ (((show Qh.Mod (fun k => k = b) w _ from Hq.out.any).setCell (fun _ => rfl) _).setCell (fun _ => rfl) _)
  unfold StAt
  rw [Qh.heap_setCell_same (Qh.heap_setCell_same (HS1.out) 1 _) 3 _]; rfl
theorem sop_drop_w (E : ErrsC w a) (HK : KindsW w) (hS : StAt w b ⟨d, true, true, false⟩) :
    Calls Tryd.prog 114 #[.pointer (some ⟨b, 0, none⟩), .agg #[.string ⟨#[100, 114, 111, 112]⟩, .int .i64 0]] w (SopPost a ⟨d, true, true, false⟩ (kDrop, 0) b w) := by
  have hq := (Mod.refl noF w).alloc (.cells #[.string ⟨#[100, 114, 111, 112]⟩, .int .i64 0] 63)
  have hcf : cfOp ⟨d, true, true, false⟩ (kDrop, 0) = (0, ⟨d, false, true, false⟩) := by
    unfold cfOp
    have hm : memK kindsC ⟨#[100, 114, 111, 112]⟩ = true := by decide +kernel
    simp [hm, kEnter, kLeave, kRest, kWait, kRead, kPut, kDrop, kLater, kFlush]
  have hS1 := hq.heap hS (fun e => e)
  obtain ⟨h0, h1, h2, h3, f0, f1, f2, f3⟩ := st_cells hS1
  have E1 := E.keep hq
  obtain ⟨gk, off, cap, q0, qx⟩ := HK.keep hq
  have hcall := containsK2 (w.alloc (.cells #[.string ⟨#[100, 114, 111, 112]⟩, .int .i64 0] 63)) gk off cap kindsC kDrop qx (by decide)
  rw [show memK kindsC kDrop = true by decide +kernel] at hcall
  have hl9 : kindsC.length = 9 := rfl
  rw [hl9] at hcall
  have v1 := E1.v1
  have v2 := E1.v2
  have v4 := E1.v4
  have v7 := E1.v7
  obtain ⟨e0, e1, e2, e3, e4, e5, e6, e7, e8⟩ := sopE5
  have HS1 := Lib.hid hS1
  have Hq := Lib.hid hq
  have Hcall := Lib.hid hcall
  have Hcf := Lib.hid hcf
  have hbz : w.heap.size ≠ b := by have := lt_of_block hS; omega
  clear E HK hS hq hcf hS1 E1 qx hcall hl9
  go_enter Tryd.func114, Tryd.ntmps114
  go_wp2_with fail
  refine Hcall.out.mono ?_
  rintro e w2 ⟨rfl, rfl⟩
  go_wp2
  go_ret
  refine sop_good Hcf.out ?_ (((show Qh.Mod (fun k => k = b) w _ from Hq.out.any).setCell (fun _ => rfl) _).setCell (fun _ => rfl) _)
  unfold StAt
  rw [Qh.heap_setCell_same (Qh.heap_setCell_same (HS1.out) 1 _) 3 _]; rfl
theorem sop_drop_f (E : ErrsC w a) (HK : KindsW w) (hS : StAt w b ⟨d, true, false, false⟩) :
    Calls Tryd.prog 114 #[.pointer (some ⟨b, 0, none⟩), .agg #[.string ⟨#[100, 114, 111, 112]⟩, .int .i64 0]] w (SopPost a ⟨d, true, false, false⟩ (kDrop, 0) b w) := by
  have hq := (Mod.refl noF w).alloc (.cells #[.string ⟨#[100, 114, 111, 112]⟩, .int .i64 0] 63)
  have hcf : cfOp ⟨d, true, false, false⟩ (kDrop, 0) = (0, ⟨d, false, false, true⟩) := by
    unfold cfOp
    have hm : memK kindsC ⟨#[100, 114, 111, 112]⟩ = true := by decide +kernel
    simp [hm, kEnter, kLeave, kRest, kWait, kRead, kPut, kDrop, kLater, kFlush]
  have hS1 := hq.heap hS (fun e => e)
  obtain ⟨h0, h1, h2, h3, f0, f1, f2, f3⟩ := st_cells hS1
  have E1 := E.keep hq
  obtain ⟨gk, off, cap, q0, qx⟩ := HK.keep hq
  have hcall := containsK2 (w.alloc (.cells #[.string ⟨#[100, 114, 111, 112]⟩, .int .i64 0] 63)) gk off cap kindsC kDrop qx (by decide)
  rw [show memK kindsC kDrop = true by decide +kernel] at hcall
  have hl9 : kindsC.length = 9 := rfl
  rw [hl9] at hcall
  have v1 := E1.v1
  have v2 := E1.v2
  have v4 := E1.v4
  have v7 := E1.v7
  obtain ⟨e0, e1, e2, e3, e4, e5, e6, e7, e8⟩ := sopE5
  have HS1 := Lib.hid hS1
  have Hq := Lib.hid hq
  have Hcall := Lib.hid hcall
  have Hcf := Lib.hid hcf
  have hbz : w.heap.size ≠ b := by have := lt_of_block hS; omega
  clear E HK hS hq hcf hS1 E1 qx hcall hl9
  go_enter Tryd.func114, Tryd.ntmps114
  go_wp2_with fail
  refine Hcall.out.mono ?_
  rintro e w2 ⟨rfl, rfl⟩
  go_wp2
  go_ret
  refine sop_good Hcf.out ?_ (((show Qh.Mod (fun k => k = b) w _ from Hq.out.any).setCell (fun _ => rfl) _).setCell (fun _ => rfl) _)
  unfold StAt
  rw [Qh.heap_setCell_same (Qh.heap_setCell_same (HS1.out) 1 _) 3 _]; rfl
theorem sop_later_f (E : ErrsC w a) (HK : KindsW w) (hS : StAt w b ⟨d, true, wt, false⟩) :
    Calls Tryd.prog 114 #[.pointer (some ⟨b, 0, none⟩), .agg #[.string ⟨#[108, 97, 116, 101, 114]⟩, .int .i64 0]] w (SopPost a ⟨d, true, wt, false⟩ (kLater, 0) b w) := by
  have hq := (Mod.refl noF w).alloc (.cells #[.string ⟨#[108, 97, 116, 101, 114]⟩, .int .i64 0] 63)
  have hcf : cfOp ⟨d, true, wt, false⟩ (kLater, 0) = (0, ⟨d, false, wt, false⟩) := by
    unfold cfOp
    have hm : memK kindsC ⟨#[108, 97, 116, 101, 114]⟩ = true := by decide +kernel
    simp [hm, kEnter, kLeave, kRest, kWait, kRead, kPut, kDrop, kLater, kFlush]
  have hS1 := hq.heap hS (fun e => e)
  obtain ⟨h0, h1, h2, h3, f0, f1, f2, f3⟩ := st_cells hS1
  have E1 := E.keep hq
  obtain ⟨gk, off, cap, q0, qx⟩ := HK.keep hq
  have hcall := containsK2 (w.alloc (.cells #[.string ⟨#[108, 97, 116, 101, 114]⟩, .int .i64 0] 63)) gk off cap kindsC kLater qx (by decide)
  rw [show memK kindsC kLater = true by decide +kernel] at hcall
  have hl9 : kindsC.length = 9 := rfl
  rw [hl9] at hcall
  have v1 := E1.v1
  have v2 := E1.v2
  have v4 := E1.v4
  have v7 := E1.v7
  obtain ⟨e0, e1, e2, e3, e4, e5, e6, e7, e8⟩ := sopE6
  have HS1 := Lib.hid hS1
  have Hq := Lib.hid hq
  have Hcall := Lib.hid hcall
  have Hcf := Lib.hid hcf
  have hbz : w.heap.size ≠ b := by have := lt_of_block hS; omega
  clear E HK hS hq hcf hS1 E1 qx hcall hl9
  go_enter Tryd.func114, Tryd.ntmps114
  go_wp2_with fail
  refine Hcall.out.mono ?_
  rintro e w2 ⟨rfl, rfl⟩
  go_wp2
  go_ret
  refine sop_good Hcf.out ?_ (((show Qh.Mod (fun k => k = b) w _ from Hq.out.any).setCell (fun _ => rfl) _).setCell (fun _ => rfl) _)
  unfold StAt
  rw [Qh.heap_setCell_same (Qh.heap_setCell_same (HS1.out) 1 _) 3 _]; rfl
end Go.Proofs.YtppihkneeolomaaDoor
end
/- package client: a thread's state and an op. -/
section
namespace Go.Proofs.YtppihkneeolomaaDoor
open Go.RowKit Qs Qh
variable {a : Nat → Addr} {w w' : World} {b d : Nat} {r wt u : Bool} {n : Int} {s s' : CSt} {x : ROp}
theorem sop_none (E : ErrsC w a) (HK : KindsW w) (hS : StAt w b s) (k : ByteArray) (hk : memK kindsC k = false) :
    Calls Tryd.prog 114 #[.pointer (some ⟨b, 0, none⟩), .agg #[.string k, .int .i64 n]] w (SopPost a s (k, n) b w) := by
  have hq := (Mod.refl noF w).alloc (.cells #[.string k, .int .i64 n] 63)
  have hcf : cfOp s (k, n) = (3, s) := by
    unfold cfOp
    simp [hk]
  have E1 := E.keep hq
  obtain ⟨gk, off, cap, q0, qx⟩ := HK.keep hq
  have hcall := containsK2 (w.alloc (.cells #[.string k, .int .i64 n] 63)) gk off cap kindsC k qx (by decide)
  rw [hk] at hcall
  have hl9 : kindsC.length = 9 := rfl
  rw [hl9] at hcall
  have v2 := E1.v2
  have Hq := Lib.hid hq
  have Hcall := Lib.hid hcall
  have Hcf := Lib.hid hcf
  clear E HK hS hq hcf E1 qx hcall hl9 hk
  go_enter Tryd.func114, Tryd.ntmps114
  go_wp2_with fail
  refine Hcall.out.mono ?_
  rintro e w2 ⟨rfl, rfl⟩
  go_wp2
  go_ret
  exact sop_bad 2 Hcf.out (by omega) rfl Hq.out.any
theorem kinds_cases {k : ByteArray} (h : memK kindsC k = true) : k = kEnter ∨ k = kLeave ∨ k = kRest ∨ k = kWait ∨ k = kRead ∨ k = kPut ∨ k = kDrop ∨ k = kLater ∨ k = kFlush := by
  have := memK_iff.1 h
  simpa [kindsC, kEnter, kLeave, kRest, kWait, kRead, kPut, kDrop, kLater, kFlush] using this
theorem sop_any (E : ErrsC w a) (HK : KindsW w) (hS : StAt w b s) (hd : s.d ≤ 1000) (x : ROp) :
    Calls Tryd.prog 114 #[.pointer (some ⟨b, 0, none⟩), .agg #[.string x.1, .int .i64 x.2]] w (SopPost a s x b w) := by
  obtain ⟨k, n⟩ := x
  cases hk : memK kindsC k with
  | false => exact sop_none E HK hS k hk
  | true =>
    obtain ⟨d, r, wt, u⟩ := s
    simp only at hd
    have hdd : d = 0 ∨ 1 ≤ d := by omega
    rcases kinds_cases hk with rfl | rfl | rfl | rfl | rfl | rfl | rfl | rfl | rfl
    · by_cases hn : n = 0
      · subst hn; exact sop_enter E HK hd hS
      · exact sop_enter_n E HK hn hS
    · by_cases hn : n = 0
      · subst hn
        rcases hdd with rfl | h
        · exact sop_leave_0 E HK hS
        · exact sop_leave E HK h hd hS
      · exact sop_leave_n E HK hn hS
    · by_cases hn : n = 0
      · subst hn
        rcases hdd with rfl | h
        · cases wt
          · exact sop_rest_f E HK hS
          · exact sop_rest_t E HK hS
        · exact sop_rest_d E HK h hS
      · exact sop_rest_n E HK hn hS
    · by_cases hn : n = 0
      · subst hn
        rcases hdd with rfl | h
        · cases wt
          · exact sop_wait_f E HK hS
          · exact sop_wait_t E HK hS
        · exact sop_wait_d E HK h hS
      · exact sop_wait_n E HK hn hS
    · by_cases hn : n = 0
      · subst hn
        rcases hdd with rfl | h
        · exact sop_read_0 E HK hS
        · exact sop_read E HK h hS
      · exact sop_read_n E HK hn hS
    · by_cases hlo : n < 1
      · exact sop_put_lo E HK hlo hS
      · by_cases hhi : 1000 < n
        · exact sop_put_hi E HK hhi hS
        · rcases hdd with rfl | h
          · cases r
            · exact sop_put E HK (by omega) (by omega) hS
            · exact sop_put_r E HK (by omega) (by omega) hS
          · exact sop_put_d E HK (by omega) (by omega) h hS
    · by_cases hn : n = 0
      · subst hn
        cases r
        · exact sop_drop_r E HK hS
        · cases u
          · cases wt
            · exact sop_drop_f E HK hS
            · exact sop_drop_w E HK hS
          · exact sop_drop_u E HK hS
      · exact sop_drop_n E HK hn hS
    · by_cases hn : n = 0
      · subst hn
        cases r
        · exact sop_later_r E HK hS
        · cases u
          · exact sop_later_f E HK hS
          · exact sop_later_u E HK hS
      · exact sop_later_n E HK hn hS
    · by_cases hn : n = 0
      · subst hn
        rcases hdd with rfl | h
        · cases wt
          · exact sop_flush_f E HK hS
          · exact sop_flush_t E HK hS
        · exact sop_flush_d E HK h hS
      · exact sop_flush_n E HK hn hS
end Go.Proofs.YtppihkneeolomaaDoor
end
/- package client: check: over any lists of ops. -/
section
namespace Go.Proofs.YtppihkneeolomaaDoor
open Go.RowKit Qs Qh
variable {N : Nat} {w w' : World} {v u : Value} {ll : List (List ROp)} {l : List ROp} {a : Nat → Addr}
theorem longOpC (w : World) (a : Option Addr) (n c : Nat) (hn : n ≤ maxLen) : Calls Tryd.prog 113 #[.slice a n c] w fun e w' => e = .returned (.bool (decide (20 < n))) ∧ w' = w := by
  by_cases h : 20 < n
  · have d : decide ((20 : Int) < (n : Int)) = true := by simp; omega
    have d2 : decide (20 < n) = true := by simpa using h
    rw [d2]
    go_enter Tryd.func113, Tryd.ntmps113
    go_wp2
    go_ret
    exact ⟨rfl, rfl⟩
  · have d : decide ((20 : Int) < (n : Int)) = false := by simp; omega
    have d2 : decide (20 < n) = false := by simpa using h
    rw [d2]
    go_enter Tryd.func113, Tryd.ntmps113
    go_wp2
    go_ret
    exact ⟨rfl, rfl⟩
theorem indexLongC (H : RIn N w v ll) (hrow : ∀ l ∈ ll, l.length ≤ 30) (hl : ll.length ≤ 1000) :
    Calls Tryd.prog 97 #[v, .func (.func 113) #[] #[]] w (IdlPost ll w) := by
  obtain ⟨a, c, rfl, hx⟩ := H
  have Hx := Lib.hid hx
  have Hrow := Lib.hid hrow
  clear hx hrow
  go_enter Tryd.func97, Tryd.ntmps97
  go_wp2
  go_loop [8] (fun i => ∃ k : Nat, k ≤ ll.length ∧ i = .int .i64 k ∧ ∀ (j : Nat) y, j < k → ll[j]? = some y → y.length ≤ 20) (fun i => ll.length - (intOf i).toNat)
  case atStart => exact ⟨0, Nat.zero_le _, rfl, fun j y h => by omega⟩
  case round =>
    obtain ⟨k, hk, rfl, hall⟩ := hrel
    have Hall := Lib.hid hall
    clear hall
    by_cases hlt : k < ll.length
    · have hd : decide ((k : Int) < (ll.length : Int)) = true := by simp; omega
      have hki : (k : Int) < (ll.length : Int) := by omega
      obtain ⟨l, hl⟩ : ∃ l, ll[k]? = some l := ⟨_, List.getElem?_eq_getElem hlt⟩
      obtain ⟨b, off, u, rfl, hb, hc, ⟨ua, uc, rfl, -⟩⟩ := Hx.out k l hl
      have hmem := List.mem_of_getElem? hl
      have hcall := longOpC w ua l.length uc (by have := Hrow.out l hmem; unfold maxLen; omega)
      have Hl := Lib.hid hl
      have Hmem := Lib.hid hmem
      by_cases h20 : 20 < l.length
      · rw [show decide (20 < l.length) = true by simpa using h20] at hcall
        have Hcall := Lib.hid hcall
        clear hcall hl hmem
        go_wp2_with fail
        refine Hcall.out.mono ?_
        rintro e w' ⟨rfl, rfl⟩
        go_wp2
        go_ret
        exact ⟨_, rfl, rfl, fun h => by have := h l Hmem.out; omega, fun _ => by omega⟩
      · rw [show decide (20 < l.length) = false by simpa using h20] at hcall
        have Hcall := Lib.hid hcall
        clear hcall hl hmem
        go_wp2_with fail
        refine Hcall.out.mono ?_
        rintro e w' ⟨rfl, rfl⟩
        go_wp2
        go_round
        case rel =>
          refine ⟨k + 1, by omega, by go_num, fun j y hj hy => ?_⟩
          by_cases e : j = k
          · subst e
            rw [Hl.out] at hy; cases hy; omega
          · exact Hall.out j y (by omega) hy
        case measure => simp [intOf]; omega
    · have hd : decide ((k : Int) < (ll.length : Int)) = false := by simp; omega
      have hnone : ∀ l ∈ ll, l.length ≤ 20 := fun l hl => by
        obtain ⟨i, hi⟩ := List.getElem?_of_mem hl
        exact Hall.out i l (by have := (List.getElem?_eq_some_iff.1 hi).1; omega) hi
      go_wp2
      go_ret
      exact ⟨-1, rfl, rfl, fun _ => rfl, fun h => absurd hnone h⟩
theorem containsLongC (H : RIn N w v ll) (hrow : ∀ l ∈ ll, l.length ≤ 30) (hl : ll.length ≤ 1000) (b : Bool) (hb : b = true ↔ ¬ ∀ l ∈ ll, l.length ≤ 20) :
    Calls Tryd.prog 65 #[v, .func (.func 113) #[] #[]] w fun e w' => e = .returned (.bool b) ∧ w' = w := by
  have Hcall := Lib.hid (indexLongC H hrow hl)
  clear H hrow
  cases b with
  | true =>
    go_enter Tryd.func65, Tryd.ntmps65
    go_wp2_with fail
    refine Hcall.out.mono ?_
    rintro e w' ⟨n, rfl, rfl, h1, h2⟩
    have d : decide ((0 : Int) ≤ n) = true := by simpa using h2 (by simpa using hb)
    clear h1 h2 hb
    go_wp2
    go_ret
    exact ⟨rfl, rfl⟩
  | false =>
    go_enter Tryd.func65, Tryd.ntmps65
    go_wp2_with fail
    refine Hcall.out.mono ?_
    rintro e w' ⟨n, rfl, rfl, h1, h2⟩
    obtain rfl := h1 (by
      by_cases h : ∀ l ∈ ll, l.length ≤ 20
      · exact h
      · exact absurd (hb.2 h) (by simp))
    clear h1 h2 hb
    go_wp2
    go_ret
    exact ⟨rfl, rfl⟩
theorem cfOp_d (s : CSt) (x : ROp) : (cfOp s x).2.d ≤ s.d + 1 := by
  unfold cfOp
  repeat' split
  all_goals simp <;> omega
set_option maxHeartbeats 4000000 in
theorem ccheck_many (E : ErrsC w a) (H : RIn N w v ll) (hlen : ll.length ≤ 10) (hrow : ∀ l ∈ ll, l.length ≤ 30) (hm : manyB ll = false) :
    Calls Tryd.prog 92 #[v] w fun e w' => ∃ ev, e = .returned (.tuple #[.bool false, ev]) ∧ ErrIs a w' ev 2 (-1) ∧ Mod noF w w' := by
  have hv := E.v1
  have fin : ∀ w', ErrIs a w' (errV a 1) 2 (-1) := fun w' => .inr (.inl ⟨1, by omega, rfl, rfl, rfl⟩)
  unfold errV at fin
  have Fin := Lib.hid fin
  clear fin E
  by_cases h1 : ll.length < 1
  · obtain ⟨a', c, rfl, hx⟩ := H
    have d1 : decide ((ll.length : Int) < 1) = true := by simp; omega
    clear hx
    go_enter Tryd.func92, Tryd.ntmps92
    go_wp2
    go_region
    go_wp2
    go_ret2
    exact ⟨_, rfl, Fin.out _, by repeat (first | exact Mod.refl _ _ | refine Mod.drew ?_ | refine Mod.drewN ?_ _)⟩
  have d1 : decide ((ll.length : Int) < 1) = false := by simp; omega
  by_cases h6 : 6 < ll.length
  · obtain ⟨a', c, rfl, hx⟩ := H
    have d2 : decide ((6 : Int) < (ll.length : Int)) = true := by simp; omega
    clear hx
    go_enter Tryd.func92, Tryd.ntmps92
    go_wp2
    go_region
    go_wp2
    go_ret2
    exact ⟨_, rfl, Fin.out _, by repeat (first | exact Mod.refl _ _ | refine Mod.drew ?_ | refine Mod.drewN ?_ _)⟩
  have d2 : decide ((6 : Int) < (ll.length : Int)) = false := by simp; omega
  have hcall := containsLongC H hrow (by omega) true ⟨fun _ => by
    rcases manyB_false hm with h | h | h
    · omega
    · omega
    · exact h, fun _ => rfl⟩
  have Hcall := Lib.hid hcall
  obtain ⟨a', c, rfl, hx⟩ := H
  clear hx hcall hrow hm
  go_enter Tryd.func92, Tryd.ntmps92
  go_wp2_with fail
  refine Hcall.out.mono ?_
  rintro e w' ⟨rfl, rfl⟩
  go_wp2
  go_region
  go_wp2
  go_ret2
  exact ⟨_, rfl, Fin.out _, by repeat (first | exact Mod.refl _ _ | refine Mod.drew ?_ | refine Mod.drewN ?_ _)⟩
end Go.Proofs.YtppihkneeolomaaDoor
end
/- package client: check, Check, Safe: over any lists of ops. -/
section
namespace Go.Proofs.YtppihkneeolomaaDoor
open Go.RowKit Qs Qh
variable {N : Nat} {w w' : World} {v u : Value} {ll : List (List ROp)} {l : List ROp} {a : Nat → Addr}
theorem cSafe_row {l : List ROp} {s : CSt} (h : cRun c0 l = (0, s)) : cSafe l = !s.u := by unfold cSafe; rw [h]
theorem cRowF_fault {l : List ROp} {q : Nat} {x : ROp} {s : CSt} (hx : l[q]? = some x) (h : cRun c0 (l.take q) = (0, s)) (hf : (cfOp s x).1 ≠ 0) : cRowF l = some (cfOp s x).1 := by
  have := cRun_fault l q c0 hx h hf
  unfold cRowF
  rw [this, if_pos hf]
theorem cRowF_deep {l : List ROp} {s : CSt} (h : cRun c0 l = (0, s)) (hd : s.d ≠ 0) : cRowF l = some 8 := by
  unfold cRowF
  rw [h]
  simp [hd]
theorem cRowF_fine {l : List ROp} {s : CSt} (h : cRun c0 l = (0, s)) (hd : s.d = 0) : cRowF l = none := by
  unfold cRowF
  rw [h]
  simp [hd]
set_option maxRecDepth 4000 in
set_option maxHeartbeats 16000000 in
theorem ccheck_ok (E : ErrsC w a) (HK : KindsW w) (H : RIn N w v ll) (hlen : ll.length ≤ 10) (hrow : ∀ l ∈ ll, l.length ≤ 30) (hm : manyB ll = true) :
    Calls Tryd.prog 92 #[v] w fun e w' => ∃ ev, e = .returned (.tuple #[.bool (decide ((allR cRowF 0 ll).1 = 0) && ll.all cSafe), ev]) ∧ ErrIs a w' ev (allR cRowF 0 ll).1 (allR cRowF 0 ll).2 ∧ Mod noF w w' := by
  obtain ⟨hl1, hl6, h20⟩ := manyB_iff.1 hm
  have hcall := containsLongC H hrow (by omega) false (by constructor; (intro h; cases h); exact fun h => absurd h20 h)
  have HH := Lib.hid H
  obtain ⟨a', c, rfl, hx⟩ := H
  have d1 : decide ((ll.length : Int) < 1) = false := by simp; omega
  have d2 : decide ((6 : Int) < (ll.length : Int)) = false := by simp; omega
  obtain ⟨rc, ra, hres0⟩ : ∃ rc ra, allR cRowF 0 ll = (rc, ra) := ⟨_, _, rfl⟩
  rw [hres0]
  have Hres0 := Lib.hid hres0
  simp only
  have Hx := Lib.hid hx
  have H20 := Lib.hid h20
  have HKW := Lib.hid HK
  have HE := Lib.hid E
  have Hcall := Lib.hid hcall
  obtain ⟨res, hres⟩ : ∃ res, (decide (rc = 0) && ll.all cSafe) = res := ⟨_, rfl⟩
  rw [hres]
  have Hres := Lib.hid hres
  clear hx h20 hcall hres0 E hrow hm HK hres
  go_enter Tryd.func92, Tryd.ntmps92
  go_wp2_with fail
  refine Hcall.out.mono ?_
  rintro e w' ⟨rfl, rfl⟩
  go_wp2
  go_loopw [2, 25] (fun b i wr => ∃ k : Nat, k ≤ ll.length ∧ i = .int .i64 k ∧ b = .bool ((ll.take k).all cSafe) ∧ Mod noF w' wr ∧ ∀ (j : Nat) y, j < k → ll[j]? = some y → cRowF y = none) (fun _ i _ => ll.length - (intOf i).toNat)
  case atStart => exact ⟨0, Nat.zero_le _, rfl, rfl, Mod.refl _ _, fun j y h => by omega⟩
  case round =>
    generalize wr = w2 at *
    obtain ⟨k, hk, rfl, rfl, hm, hall⟩ := hrel
    have Hall := Lib.hid hall
    clear hall
    generalize hsf : (ll.take k).all cSafe = sf at *
    have Hsf := Lib.hid hsf
    clear hsf
    by_cases hlt : k < ll.length
    · have hd : decide ((k : Int) < (ll.length : Int)) = true := by simp; omega
      have hki : (k : Int) < (ll.length : Int) := by omega
      obtain ⟨l, hl⟩ : ∃ l, ll[k]? = some l := ⟨_, List.getElem?_eq_getElem hlt⟩
      obtain ⟨b, off, u, rfl, hb, hc, hrow⟩ := Hx.out k l hl
      have hc2 := hm.cell hc (fun e => e)
      obtain ⟨ua, uc, rfl, hxx⟩ := hrow.keep hm (fun _ _ e => e)
      have Hxx := Lib.hid hxx
      have Hm := Lib.hid hm
      have h20l := H20.out l (List.mem_of_getElem? hl)
      have Hl := Lib.hid hl
      clear hxx hrow hc hl hm
      go_wp2
      go_name_world wA hwA
      have hmA : Mod noF w2 wA := by rw [← hwA]; exact (Mod.refl noF w2).alloc _
      have hSA : StAt wA w2.heap.size c0 := by rw [← hwA]; exact heap_alloc_new w2 _
      have HmA := Lib.hid hmA
      have HSA := Lib.hid hSA
      have hlB : w2.heap.size < wA.heap.size := lt_of_block hSA
      clear hmA hSA hwA
      go_loopw [2, 34] (fun b i wq => ∃ q : Nat, q ≤ l.length ∧ i = .int .i64 q ∧ b = .bool sf ∧ ∃ s, cRun c0 (l.take q) = (0, s) ∧ StAt wq w2.heap.size s ∧ s.d ≤ q ∧ Mod (fun x => x = w2.heap.size) wA wq) (fun _ i _ => l.length - (intOf i).toNat)
      case atStart => exact ⟨0, Nat.zero_le _, rfl, rfl, c0, rfl, HSA.out, Nat.le_refl _, Mod.refl _ _⟩
      case round =>
        generalize wr = w3 at *
        obtain ⟨q, hq, rfl, rfl, s, hrun, hS, hsd, hm2⟩ := hrel
        have Hrun := Lib.hid hrun
        have HS := Lib.hid hS
        have hmw : Mod noF w' w3 := (Hm.out.trans0 HmA.out).trans hm2 (fun x hx e => by have := Hm.out.size; omega)
        have Hmw := Lib.hid hmw
        clear hrun
        by_cases hlq : q < l.length
        · have hd2 : decide ((q : Int) < (l.length : Int)) = true := by simp; omega
          have hqi : (q : Int) < (l.length : Int) := by omega
          obtain ⟨x, hxl⟩ : ∃ x, l[q]? = some x := ⟨_, List.getElem?_eq_getElem hlq⟩
          obtain ⟨ub, uoff, rfl, hub, h0, h1⟩ := Hxx.out q x hxl
          have hmm : Mod noF w2 w3 := HmA.out.trans hm2 (fun x hx e => by omega)
          have h0 := hmm.cell h0 (fun e => e)
          have h1 := hmm.cell h1 (fun e => e)
          have Hm2 := Lib.hid hm2
          have Hxl := Lib.hid hxl
          have hq4 := (Mod.refl noF w3).alloc (.cells #[.string x.1, .int .i64 x.2] 63)
          have hcal := sop_any ((HE.out.keep hmw).keep hq4) ((HKW.out.keep hmw).keep hq4) (hq4.heap hS (fun e => e)) (by omega) x
          have Hcal := Lib.hid hcal
          have hlb3 := lt_of_block hS
          clear hxl hm2 hS hmw hmm hq4 hcal
          obtain ⟨xs, xn⟩ := x
          simp only at h0 h1
          go_wp2_with fail
          refine Hcal.out.mono ?_
          rintro e w5 ⟨ev, rfl, hz, hnz, hm5⟩
          have hm35 : Mod (fun x => x = w2.heap.size) w3 w5 := ((Mod.refl noF w3).alloc (.cells #[.string xs, .int .i64 xn] 63)).any.trans hm5 (fun x _ e => e)
          have hmw5 : Mod noF w' w5 := Hmw.out.trans hm35 (fun x hx e => by have := Hm.out.size; omega)
          by_cases hcf : (cfOp s (xs, xn)).1 = 0
          · obtain ⟨rfl, hS5⟩ := hz hcf
            have hts := cRun_take_succ l q c0 Hxl.out Hrun.out
            rw [if_neg (by rw [hcf]; exact fun h => h rfl)] at hts
            have hdd := cfOp_d s (xs, xn)
            have Hts := Lib.hid hts
            have HS5 := Lib.hid hS5
            have Hm35 := Lib.hid (Hm2.out.trans hm35 (fun x _ e => e))
            clear hz hnz hm5 hm35 hmw5 hcf hts hS5
            go_wp2
            go_roundw
            case rel => exact ⟨q + 1, by omega, by go_num, rfl, _, Hts.out, HS5.out, by omega, Hm35.out⟩
            case measure => simp [intOf]; omega
          · obtain ⟨i, hi9, hci, rfl⟩ := hnz hcf
            have hrF := cRowF_fault Hxl.out Hrun.out hcf
            rw [hci] at hrF
            have hre := allR_at ll 0 k l _ Hl.out Hall.out hrF
            rw [Nat.zero_add] at hre
            obtain ⟨rfl, rfl⟩ := Prod.mk.inj (Hres0.out.symm.trans hre)
            have hrs : res = false := by rw [← Hres.out]; simp; omega
            subst hrs
            have Hmw5 := Lib.hid hmw5
            unfold errV
            clear hz hnz hm5 hm35 hmw5 hcf hci hrF hre
            go_wp2
            go_ret2
            exact ⟨_, rfl, .inr (.inr ⟨i, _, hi9, rfl, rfl, by simp, by simp, by simp [errV]⟩), (Hmw5.out).alloc _⟩
        · have hd2 : decide ((q : Int) < (l.length : Int)) = false := by simp; omega
          obtain rfl : q = l.length := by omega
          have hrun := Hrun.out
          rw [List.take_length] at hrun
          have s0 := cell_of_heap hS 0
          have s3 := cell_of_heap hS 3
          replace s0 : w3.cell? ⟨w2.heap.size, 0, none⟩ = some (.int .i64 (s.d : Int)) := s0
          replace s3 : w3.cell? ⟨w2.heap.size, 3, none⟩ = some (.bool s.u) := s3
          have v7 := (HE.out.keep hmw).v7
          by_cases hdp : s.d = 0
          · have hrF := cRowF_fine hrun hdp
            have hsr := cSafe_row hrun
            rw [hdp] at s0
            have d3 : decide ((0 : Int) < ((0 : Nat) : Int)) = false := by decide
            have HrF := Lib.hid hrF
            have Hsr := Lib.hid hsr
            have htk : ll.take (k + 1) = ll.take k ++ [l] := by rw [List.take_add_one, Hl.out]; rfl
            have Htk := Lib.hid htk
            clear hrun hS hm2 hdp hrF hsr hmw htk
            cases hsu : s.u with
            | true =>
              rw [hsu] at s3
              have hnx : (ll.take (k + 1)).all cSafe = false := by rw [Htk.out, List.all_append]; simp [Hsr.out, hsu]
              have Hnx := Lib.hid hnx
              cases sf with
              | true =>
                clear hnx
                go_wp2
                go_roundw
                case rel =>
                  refine ⟨k + 1, by omega, by go_num, by rw [Hnx.out], Hmw.out, fun j y hj hy => ?_⟩
                  by_cases e : j = k
                  · subst e
                    rw [Hl.out] at hy; cases hy; exact HrF.out
                  · exact Hall.out j y (by omega) hy
                case measure => simp [intOf]; omega
              | false =>
                clear hnx
                go_wp2
                go_roundw
                case rel =>
                  refine ⟨k + 1, by omega, by go_num, by rw [Hnx.out], Hmw.out, fun j y hj hy => ?_⟩
                  by_cases e : j = k
                  · subst e
                    rw [Hl.out] at hy; cases hy; exact HrF.out
                  · exact Hall.out j y (by omega) hy
                case measure => simp [intOf]; omega
            | false =>
              rw [hsu] at s3
              have hnx : (ll.take (k + 1)).all cSafe = sf := by rw [Htk.out, List.all_append, Hsf.out]; simp [Hsr.out, hsu]
              have Hnx := Lib.hid hnx
              cases sf with
              | true =>
                clear hnx
                go_wp2
                go_roundw
                case rel =>
                  refine ⟨k + 1, by omega, by go_num, by rw [Hnx.out], Hmw.out, fun j y hj hy => ?_⟩
                  by_cases e : j = k
                  · subst e
                    rw [Hl.out] at hy; cases hy; exact HrF.out
                  · exact Hall.out j y (by omega) hy
                case measure => simp [intOf]; omega
              | false =>
                clear hnx
                go_wp2
                go_roundw
                case rel =>
                  refine ⟨k + 1, by omega, by go_num, by rw [Hnx.out], Hmw.out, fun j y hj hy => ?_⟩
                  by_cases e : j = k
                  · subst e
                    rw [Hl.out] at hy; cases hy; exact HrF.out
                  · exact Hall.out j y (by omega) hy
                case measure => simp [intOf]; omega
          · obtain ⟨z, hz⟩ : ∃ z : Int, (s.d : Int) = z := ⟨_, rfl⟩
            rw [hz] at s0
            have d3 : decide (0 < z) = true := by simp; omega
            clear hz
            have hrF := cRowF_deep hrun hdp
            have hre := allR_at ll 0 k l _ Hl.out Hall.out hrF
            rw [Nat.zero_add] at hre
            obtain ⟨rfl, rfl⟩ := Prod.mk.inj (Hres0.out.symm.trans hre)
            have hrs : res = false := by rw [← Hres.out]; simp
            subst hrs
            clear hrun hS hm2 hdp hrF hre hmw
            go_wp2
            refine wp_region_held_drew (S := (fun W => W.cell? ⟨7, 0, none⟩ = some (.iface 222 (.pointer (some (a 7)))))) (by kernel_rfl) ((Mod.refl noF _).drew.cell v7 (fun e => e)) (fun hHeld => ?_)
            refine wpAnyH_take (i := 0) (oi := ?oZ0) (v := ?vZ0) ?qZ0 (by kernel_rfl) ?fZ0 ?gZ0 ?pZ0 ?uZ0 (by assumption) ?rZ0
            case qZ0 => (rw [List.getElem?_toArray]; rfl)
            case fZ0 => kernel_rfl
            case gZ0 => kernel_rfl
            case pZ0 => exact (fun _ _ _ h => h)
            case uZ0 => (refine Or.inl ⟨by rfl, ?_⟩; intro w hSw; (try dsimp only at hSw); go_simp; (try rw [if_neg (by omega)]); try with_reducible rfl)
            try simp only [Act.put, List.setIfInBounds_toArray, List.set_cons_zero, List.set_cons_succ]
            refine wpAnyH_take (i := 1) (oi := ?oZ1) (v := ?vZ1) ?qZ1 (by kernel_rfl) ?fZ1 ?gZ1 ?pZ1 ?uZ1 (by assumption) ?rZ1
            case qZ1 => (rw [List.getElem?_toArray]; rfl)
            case fZ1 => kernel_rfl
            case gZ1 => kernel_rfl
            case pZ1 => exact (fun _ _ _ h => h)
            case uZ1 => (refine Or.inl ⟨by rfl, ?_⟩; intro w hSw; (try dsimp only at hSw); go_simp; (try rw [if_neg (by omega)]); try with_reducible rfl)
            try simp only [Act.put, List.setIfInBounds_toArray, List.set_cons_zero, List.set_cons_succ]
            refine wpAnyH_take (i := 2) (oi := ?oZ2) (v := ?vZ2) ?qZ2 (by kernel_rfl) ?fZ2 ?gZ2 ?pZ2 ?uZ2 (by assumption) ?rZ2
            case qZ2 => (rw [List.getElem?_toArray]; rfl)
            case fZ2 => kernel_rfl
            case gZ2 => kernel_rfl
            case pZ2 => exact (fun _ _ _ h => h)
            case uZ2 => (refine Or.inl ⟨by rfl, ?_⟩; intro w hSw; (try dsimp only at hSw); go_simp; (try rw [if_neg (by omega)]); try with_reducible rfl)
            try simp only [Act.put, List.setIfInBounds_toArray, List.set_cons_zero, List.set_cons_succ]
            refine wpAnyH_take (i := 5) (oi := ?oZ5) (v := ?vZ5) ?qZ5 (by kernel_rfl) ?fZ5 ?gZ5 ?pZ5 ?uZ5 (by assumption) ?rZ5
            case qZ5 => (rw [List.getElem?_toArray]; rfl)
            case fZ5 => kernel_rfl
            case gZ5 => kernel_rfl
            case pZ5 => exact (fun _ _ _ h => h)
            case uZ5 => (refine Or.inl ⟨by rfl, ?_⟩; intro w hSw; (try dsimp only at hSw); go_simp; (try rw [if_neg (by omega)]); try with_reducible rfl)
            try simp only [Act.put, List.setIfInBounds_toArray, List.set_cons_zero, List.set_cons_succ]
            refine wpAnyH_ready (rs := [3]) (by kernel_rfl) (by simp) ?_
            refine AllReadyH.cons rfl (fun K hK => ?_) AllReadyH.nil
            go_simp
            refine Shut.out hK _ _ (((Mod.refl noF _).alloc _).cell hHeld (fun e => e)) (fun hS4 => ?_)
            try simp only [Act.put, List.setIfInBounds_toArray, List.set_cons_zero, List.set_cons_succ]
            refine wpAnyH_take (i := 4) (oi := ?oZ4) (v := ?vZ4) ?qZ4 (by kernel_rfl) ?fZ4 ?gZ4 ?pZ4 ?uZ4 (by assumption) ?rZ4
            case qZ4 => (rw [List.getElem?_toArray]; rfl)
            case fZ4 => kernel_rfl
            case gZ4 => kernel_rfl
            case pZ4 => exact (fun _ _ _ h => h)
            case uZ4 => (refine Or.inl ⟨by rfl, ?_⟩; intro w hSw; (try dsimp only at hSw); go_simp; (try rw [if_neg (by omega)]); try with_reducible rfl)
            try simp only [Act.put, List.setIfInBounds_toArray, List.set_cons_zero, List.set_cons_succ]
            refine wpAnyH_take (i := 6) (oi := ?oZ6) (v := ?vZ6) ?qZ6 (by kernel_rfl) ?fZ6 ?gZ6 ?pZ6 ?uZ6 (by assumption) ?rZ6
            case qZ6 => (rw [List.getElem?_toArray]; rfl)
            case fZ6 => kernel_rfl
            case gZ6 => kernel_rfl
            case pZ6 => exact (fun _ _ _ h => h)
            case uZ6 => (refine Or.inl ⟨by rfl, ?_⟩; intro w hSw; (try dsimp only at hSw); go_simp; (try rw [if_neg (by omega)]); try with_reducible rfl)
            try simp only [Act.put, List.setIfInBounds_toArray, List.set_cons_zero, List.set_cons_succ]
            refine wpAnyH_done (by kernel_rfl) ?_ _
            go_wp2
            go_ret2
            exact ⟨_, rfl, .inr (.inr ⟨7, _, by omega, rfl, rfl, by simp, by simp, by simp [errV]⟩), by repeat (first | exact Hmw.out | refine Mod.drew ?_ | refine Mod.drewN ?_ _ | refine Mod.alloc ?_ _)⟩
    · have hd : decide ((k : Int) < (ll.length : Int)) = false := by simp; omega
      have hre := allR_none (rf := cRowF) ll 0 fun j y hj => Hall.out j y (by have := (List.getElem?_eq_some_iff.1 hj).1; omega) hj
      obtain ⟨rfl, rfl⟩ := Prod.mk.inj (Hres0.out.symm.trans hre)
      have hsf := Hsf.out
      rw [List.take_of_length_le (by omega)] at hsf
      have hrs : res = sf := by rw [← Hres.out, hsf]; simp
      subst hrs
      have Hm := Lib.hid hm
      clear hm hre hsf
      go_wp2
      go_ret2
      exact ⟨_, rfl, .inl ⟨rfl, rfl, rfl⟩, Hm.out⟩
theorem ccheck (E : ErrsC w a) (HK : KindsW w) (H : RIn N w v ll) (hlen : ll.length ≤ 10) (hrow : ∀ l ∈ ll, l.length ≤ 30) :
    Calls Tryd.prog 92 #[v] w fun e w' => ∃ ev, e = .returned (.tuple #[.bool (csG ll), ev]) ∧ ErrIs a w' ev (cfG ll).1 (cfG ll).2 ∧ Mod noF w w' := by
  unfold csG cfG
  cases hm : manyB ll with
  | false => exact ccheck_many E H hlen hrow hm
  | true => exact ccheck_ok E HK H hlen hrow hm
theorem cCheck (E : ErrsC w a) (HK : KindsW w) (H : RIn N w v ll) (hlen : ll.length ≤ 10) (hrow : ∀ l ∈ ll, l.length ≤ 30) :
    Calls Tryd.prog 57 #[v] w fun e w' => ∃ ev, e = .returned ev ∧ ErrIs a w' ev (cfG ll).1 (cfG ll).2 ∧ Mod noF w w' := by
  have Hcall := Lib.hid (ccheck E HK H hlen hrow)
  generalize csG ll = sb at *
  clear E HK H hrow
  go_enter Tryd.func57, Tryd.ntmps57
  go_wp2_with fail
  refine Hcall.out.mono ?_
  rintro e w1 ⟨ev, rfl, hE, hm⟩
  have HE1 := Lib.hid hE
  have Hm := Lib.hid hm
  clear hE hm
  go_wp2
  go_ret
  exact ⟨ev, rfl, HE1.out, Hm.out⟩
end Go.Proofs.YtppihkneeolomaaDoor
end
/- Clients' ops: their code; their names. -/
section
namespace Qc
open Qs Qu Go.Proofs.YtppihkneeolomaaDoor
def copsCode (f tn : Nat) : Nat → List COp → List Instr
  | _, [] => []
  | k, x :: l => cblk f tn k x ++ copsCode f tn (k + cinc x) l
def clabs : List COp → Nat
  | [] => 0
  | x :: l => cinc x + clabs l
theorem clabs_snoc (x : COp) : ∀ l, clabs (l ++ [x]) = clabs l + cinc x
  | [] => by simp [clabs]
  | y :: l => by simp only [List.cons_append, clabs, clabs_snoc x l]; omega
theorem clabs_le : ∀ l, clabs l ≤ 3 * l.length
  | [] => by simp [clabs]
  | x :: l => by
    have := clabs_le l
    have h : cinc x ≤ 3 := by cases x <;> simp [cinc]
    simp only [clabs, List.length_cons]; omega
theorem copsCode_snoc (f tn : Nat) (x : COp) : ∀ (l : List COp) (k : Nat), copsCode f tn k (l ++ [x]) = copsCode f tn k l ++ cblk f tn (k + clabs l) x
  | [], k => by simp [copsCode, clabs]
  | y :: l, k => by
    rw [List.cons_append, copsCode, copsCode, copsCode_snoc f tn x l, List.append_assoc]
    simp only [clabs]
    rw [show k + cinc y + clabs l = k + (cinc y + clabs l) by omega]
theorem part_len2 {f j : Nat} (h4 : f ≤ 4) (hj : j < 5) (k : Nat) : (part f k j).length ≤ 70 := by unfold part preC; rw [List.length_map]; exact gcode_len h4 hj
theorem cblk_len {f : Nat} (h4 : f ≤ 4) (tn k : Nat) (x : COp) : (cblk f tn k x).length ≤ 80 := by
  cases x with
  | enter => have := part_len2 h4 (show 0 < 5 by decide) k; show (part f k 0).length ≤ 80; omega
  | leave => have := part_len2 h4 (show 1 < 5 by decide) k; show (part f k 1).length ≤ 80; omega
  | rest => have := part_len2 h4 (show 2 < 5 by decide) k; show (part f k 2).length ≤ 80; omega
  | wait => have := part_len2 h4 (show 4 < 5 by decide) k; show (part f k 4).length ≤ 80; omega
  | flush =>
    have := part_len2 h4 (show 4 < 5 by decide) k
    show (part f k 4 ++ flushTail (labN (k + 2)) (labN (k + 3)) tn 1).length ≤ 80
    rw [List.length_append]
    simp only [flushTail, List.length_cons, List.length_nil]; omega
  | read => simp [cblk, readBlk]
  | put n => simp [cblk, putBlkC]
  | drop => simp [cblk, dropBlk]
  | later => simp [cblk, laterBlk]
theorem copsCode_len {f : Nat} (h4 : f ≤ 4) (tn : Nat) : ∀ (l : List COp) (k : Nat), (copsCode f tn k l).length ≤ 80 * l.length
  | [], k => by simp [copsCode]
  | x :: l, k => by
    have h1 := copsCode_len h4 tn l (k + cinc x)
    have h2 := cblk_len h4 tn k x
    simp only [copsCode, List.length_append, List.length_cons]; omega
/-- A thread's code. -/
def ccode (f tn : Nat) (ops : List COp) : List Instr := (copsCode f tn 0 ops ++ part f (clabs ops) 3) ++ [⟨20, 0, 0, 0, []⟩]
end Qc
namespace Go.Proofs.YtppihkneeolomaaDoor
open Go.RowKit Qs Qh Qc
def cK : COp → ByteArray
  | .enter => kEnter
  | .leave => kLeave
  | .rest => kRest
  | .wait => kWait
  | .read => kRead
  | .put _ => kPut
  | .drop => kDrop
  | .later => kLater
  | .flush => kFlush
def cN : COp → Int
  | .put n => n
  | _ => 0
def cR (x : COp) : ROp := (cK x, cN x)
def rawC (q : List (List COp)) : List (List ROp) := q.map (·.map cR)
variable {N0 K tn f : Nat} {big : Prop} {w w1 w2 : World} {b k : Nat} {v v1 v2 : Value} {l : List Instr}
theorem cop_any (x : COp) (HF : FreshH N0 big f (tn : Nat) 1 K) (hT : big → lowT N0) (h1 : 1 ≤ f) (h4 : f ≤ 4) (htn : tn < 6) (M : MkA N0 big f (tn : Nat) 1 w b v l k) (hk : k + 3 < K) (hK : K ≤ 120) (hl : l.length ≤ 80000) :
    Calls Tryd.prog 58 #[.pointer (some ⟨b, 0, none⟩), .agg #[.string (cK x), .int .i64 (cN x)]] w fun e w' => e = .returned (.tuple #[]) ∧ ∃ v', MkA N0 big f (tn : Nat) 1 w' b v' (l ++ cblk f tn k x) (k + cinc x) ∧ MkStep w b v w' v' := by
  cases x with
  | enter => exact cop_enter HF hT h1 h4 htn M hk hK hl
  | leave => exact cop_leave HF hT h1 h4 htn M hk hK hl
  | rest => exact cop_rest HF hT h1 h4 htn M hk hK hl
  | wait => exact cop_wait HF hT h1 h4 htn M hk hK hl
  | read => exact cop_read HF hT h1 h4 htn M hk hK hl
  | put n => exact cop_put n HF hT h1 h4 htn M hk hK hl
  | drop => exact cop_drop HF hT h1 h4 htn M hk hK hl
  | later => exact cop_later HF hT h1 h4 htn M hk hK hl
  | flush => exact cop_flush HF hT h1 h4 htn M hk hK hl
end Go.Proofs.YtppihkneeolomaaDoor
end
/- Clients' code is right. -/
section
namespace Qc
open Qs Qu Qh Go.Proofs.YtppihkneeolomaaDoor
theorem read_fine (k : Nat) : BlkF k k readBlk := by
  refine ⟨fun x hx => ?_, fun i x hi h17 => ?_, fun x hx hxe => ?_, fun x hx => ?_⟩
  · simp only [readBlk, List.mem_cons, List.not_mem_nil, or_false] at hx
    rcases hx with rfl | rfl | rfl | rfl <;> rfl
  · match i, hi with
    | 0, hi => cases hi; simp at h17
    | 1, hi => cases hi; simp at h17
    | 2, hi => cases hi; simp at h17
    | 3, hi => cases hi; simp at h17
    | i + 4, hi => simp [readBlk] at hi
  all_goals
    simp only [readBlk, List.mem_cons, List.not_mem_nil, or_false] at hx
    rcases hx with rfl | rfl | rfl | rfl
    all_goals first
      | exact absurd rfl hxe
      | exact .inl rfl
theorem put_fine (n : Int) (hn : 1 ≤ n ∧ n ≤ 1000) (k : Nat) (hk : k < 127) : BlkF k (k + 1) (putBlkC (labN (k + 1)) n) := by
  have hnm := (labN_facts (k + 1) (by omega)).2.2.1
  have hne := Qh.nameB_ne hnm
  have o1 : OwnBy (k + 1) (labN (k + 1)) := OwnBy.self (by omega)
  generalize hL : labN (k + 1) = L at *
  have r1 : regB n 4294967296 = true := by unfold regB; simp; omega
  have hl6 : labelAt L (putBlkC L n) 0 = some 6 := by simp [putBlkC, labelAt]
  refine ⟨fun x hx => ?_, fun i x hi h17 => ?_, fun x hx hxe => ?_, fun x hx => ?_⟩
  · simp only [putBlkC, List.mem_cons, List.not_mem_nil, or_false] at hx
    rcases hx with rfl | rfl | rfl | rfl | rfl | rfl | rfl
    · rfl
    · show (regB 4 8 && z0 0 && z0 0 && nameB L) = true; rw [hnm]; rfl
    · show (regB 0 8 && regB n 4294967296 && z0 0 && true) = true; rw [r1]; rfl
    · rfl
    · rfl
    · rfl
    · show (z0 0 && z0 0 && z0 0 && nameB L) = true; rw [hnm]; rfl
  · match i, hi with
    | 0, hi => cases hi; simp at h17
    | 1, hi => cases hi; simp at h17
    | 2, hi => cases hi; simp at h17
    | 3, hi => cases hi; simp at h17
    | 4, hi => cases hi; simp at h17
    | 5, hi => cases hi; simp at h17
    | 6, hi => cases hi; exact hl6
    | i + 7, hi => simp [putBlkC] at hi
  · simp only [putBlkC, List.mem_cons, List.not_mem_nil, or_false] at hx
    rcases hx with rfl | rfl | rfl | rfl | rfl | rfl | rfl
    all_goals first
      | exact absurd rfl hxe
      | (simp only; rw [hl6]; rfl)
  · simp only [putBlkC, List.mem_cons, List.not_mem_nil, or_false] at hx
    rcases hx with rfl | rfl | rfl | rfl | rfl | rfl | rfl
    all_goals first
      | exact .inl rfl
      | exact .inr ⟨k + 1, by omega, by omega, o1⟩
theorem drop_fine (k : Nat) (hk : k < 127) : BlkF k (k + 1) (dropBlk (labN (k + 1))) := by
  have hnm := (labN_facts (k + 1) (by omega)).2.2.1
  have hne := Qh.nameB_ne hnm
  have o1 : OwnBy (k + 1) (labN (k + 1)) := OwnBy.self (by omega)
  generalize hL : labN (k + 1) = L at *
  have hl6 : labelAt L (dropBlk L) 0 = some 3 := by simp [dropBlk, labelAt]
  refine ⟨fun x hx => ?_, fun i x hi h17 => ?_, fun x hx hxe => ?_, fun x hx => ?_⟩
  · simp only [dropBlk, List.mem_cons, List.not_mem_nil, or_false] at hx
    rcases hx with rfl | rfl | rfl | rfl
    · show (regB 3 8 && z0 0 && z0 0 && nameB L) = true; rw [hnm]; rfl
    · rfl
    · rfl
    · show (z0 0 && z0 0 && z0 0 && nameB L) = true; rw [hnm]; rfl
  · match i, hi with
    | 0, hi => cases hi; simp at h17
    | 1, hi => cases hi; simp at h17
    | 2, hi => cases hi; simp at h17
    | 3, hi => cases hi; exact hl6
    | i + 4, hi => simp [dropBlk] at hi
  · simp only [dropBlk, List.mem_cons, List.not_mem_nil, or_false] at hx
    rcases hx with rfl | rfl | rfl | rfl
    all_goals first
      | exact absurd rfl hxe
      | (simp only; rw [hl6]; rfl)
  · simp only [dropBlk, List.mem_cons, List.not_mem_nil, or_false] at hx
    rcases hx with rfl | rfl | rfl | rfl
    all_goals first
      | exact .inl rfl
      | exact .inr ⟨k + 1, by omega, by omega, o1⟩
theorem cblk_fine {f : Nat} (h1 : 1 ≤ f) (h4 : f ≤ 4) (tn : Nat) (ht : tn < 8) (k : Nat) (hk : k + 3 < 128) (x : COp) (hx : ∀ n, x = .put n → 1 ≤ n ∧ n ≤ 1000) : BlkF k (k + cinc x) (cblk f tn k x) := by
  cases x with
  | enter => exact part_fine h1 h4 (by decide) k (by omega)
  | leave => exact part_fine h1 h4 (by decide) k (by omega)
  | rest => exact part_fine h1 h4 (by decide) k (by omega)
  | wait => exact part_fine h1 h4 (by decide) k (by omega)
  | read => exact read_fine k
  | put n => exact put_fine n (hx n rfl) k (by omega)
  | drop => exact drop_fine k (by omega)
  | later => exact later_fine tn 1 ht (by omega) k (by omega)
  | flush => exact flushBlk_fine h1 h4 tn 1 ht (by omega) k (by omega)
theorem copsCode_fine {f : Nat} (h1 : 1 ≤ f) (h4 : f ≤ 4) (tn : Nat) (ht : tn < 8) : ∀ (l : List COp) (k : Nat), (∀ n, COp.put n ∈ l → 1 ≤ n ∧ n ≤ 1000) → k + clabs l + 3 < 128 → BlkF k (k + clabs l) (copsCode f tn k l)
  | [], k, _, _ => by simpa [copsCode, clabs] using BlkF.nil k
  | x :: l, k, hp, hk => by
    simp only [clabs] at hk
    have ih := copsCode_fine h1 h4 tn ht l (k + cinc x) (fun n hn => hp n (List.mem_cons_of_mem _ hn)) (by omega)
    have hb := cblk_fine h1 h4 tn ht k (by omega) x (fun n hn => hp n (by rw [hn]; simp))
    have := hb.append ih (by omega) (by omega)
    simp only [clabs, copsCode]
    rw [show k + (cinc x + clabs l) = k + cinc x + clabs l by omega]
    exact this
theorem ccode_fine {f : Nat} (h1 : 1 ≤ f) (h4 : f ≤ 4) (tn : Nat) (ht : tn < 8) {l : List COp} (h20 : l.length ≤ 20) (hp : ∀ n, COp.put n ∈ l → 1 ≤ n ∧ n ≤ 1000) : CodeFine (ccode f tn l) := by
  have hl := clabs_le l
  have hc := copsCode_len h4 tn l 0
  have hg := part_len2 h4 (show 3 < 5 by decide) (clabs l)
  have h := copsCode_fine h1 h4 tn ht l 0 hp (by omega)
  rw [Nat.zero_add] at h
  have h2 := (h.append (part_fine h1 h4 (show 3 < 5 by decide) (clabs l) (by omega)) (by omega) (by omega)).append (stop_fine _) (by omega) (by omega)
  exact h2.fine (by simp only [List.length_append, List.length_singleton]; omega)
end Qc
end
/- One thread alone: a client that puts, retires and reads. -/
section
namespace Qo
open Qs Qg Qu Qc Qh Go.Proofs.YtppihkneeolomaaDoor
variable {code A B C R : List Instr} {a k n f st K : Nat} {m0 : M} {v : Int → Nat → Int} {hr : Int → Bool} {mk : List Int} {r0 r1 r2 r3 r4 tp c : Int} {s s' : S}
/-- What stands where between rounds: what is read now, how many cells there are. -/
def CI (code : List Instr) (m0 : M) (f st a K : Nat) (mk : List Int) (N : Nat) : Prop :=
  ∃ r0 r1 r2 r4 v hr cur, At code m0 a (z4 f st false r0 r1 r2 0 r4 6 v hr mk) K ∧ v 6 0 = cur ∧ v 6 1 = 4 ∧ hr 4 = true ∧ hr 6 = true ∧ hr cur = true ∧ cur ≠ 0 ∧ cur ≠ 1 ∧ cur ≠ 2 ∧ cur ≠ 4 ∧ cur ≠ 6 ∧ ∃ l : List Int, (∀ x, hr x = true → x ∈ l) ∧ l.length ≤ N
def opsC1 (n : Int) : List COp := [.put n, .later, .enter, .read, .leave]
def opsC (ns : List Int) : List COp := (ns.map opsC1).flatten
theorem cl_round {n : Int} {kk N : Nat} (h1 : 1 ≤ f) (h4 : f ≤ 4) (hn : 1 ≤ n ∧ n ≤ 1000) (hA : BlkF 0 kk A) (hc : code = A ++ (copsCode f 0 kk (opsC1 n) ++ R)) (hk : kk + 10 < 128) (H : CI code m0 f st A.length K mk N) (hK : K + 100 ≤ 1000000) (hm : mk.length < 500) (hN : N < 60) :
    BlkF 0 (kk + 4) (A ++ copsCode f 0 kk (opsC1 n)) ∧ ∃ st', CI code m0 f st' (A ++ copsCode f 0 kk (opsC1 n)).length (K + 100) (mk ++ [n]) (N + 1) := by
  obtain ⟨r0, r1, r2, r4, v, hr, cur, H, hv0, hv1, g4, g6, gc, c0, c1, c2, c4, c6, l, hl, hlN⟩ := H
  obtain ⟨P, hP⟩ : ∃ P, P = putBlkC (labN (kk + 1)) n := ⟨_, rfl⟩
  obtain ⟨L, hL⟩ : ∃ L, L = laterBlk (labN (kk + 2)) 0 1 := ⟨_, rfl⟩
  obtain ⟨E, hE⟩ : ∃ E, E = part f (kk + 2) 0 := ⟨_, rfl⟩
  obtain ⟨V, hV⟩ : ∃ V, V = part f (kk + 3) 1 := ⟨_, rfl⟩
  have hcode : copsCode f 0 kk (opsC1 n) = P ++ (L ++ (E ++ (readBlk ++ (V ++ [])))) := by
    rw [hP, hL, hE, hV]; rfl
  rw [hcode] at hc ⊢
  have fP : BlkF kk (kk + 1) P := hP ▸ put_fine n hn kk (by omega)
  have fL : BlkF (kk + 1) (kk + 2) L := hL ▸ later_fine 0 1 (by omega) (by omega) (kk + 1) (by omega)
  have fE : BlkF (kk + 2) (kk + 3) E := hE ▸ part_fine h1 h4 (by decide) (kk + 2) (by omega)
  have fR : BlkF (kk + 3) (kk + 3) readBlk := read_fine (kk + 3)
  have fV : BlkF (kk + 3) (kk + 4) V := hV ▸ part_fine h1 h4 (by decide) (kk + 3) (by omega)
  have a1 := hA.append fP (by omega) (by omega)
  have a2 := a1.append fL (by omega) (by omega)
  have a3 := a2.append fE (by omega) (by omega)
  have a4 := a3.append fR (by omega) (by omega)
  have a5 := a4.append fV (by omega) (by omega)
  have i1 : InRow code A.length P := by
    rw [hc]
    simp only [List.append_assoc]
    exact inRow_of hA fP
  have i2 : InRow code (A ++ P).length L := by
    have := inRow_of (C := E ++ (readBlk ++ (V ++ [])) ++ R) a1 fL
    rw [hc]
    simpa only [List.append_assoc] using this
  have i3 : InRow code (A ++ P ++ L).length E := by
    have := inRow_of (C := (readBlk ++ (V ++ [])) ++ R) a2 fE
    rw [hc]
    simpa only [List.append_assoc] using this
  have i4 : InRow code (A ++ P ++ L ++ E).length readBlk := by
    have := inRow_of (C := (V ++ []) ++ R) a3 fR
    rw [hc]
    simpa only [List.append_assoc] using this
  have i5 : InRow code (A ++ P ++ L ++ E ++ readBlk).length V := by
    have := inRow_of (C := [] ++ R) a4 fV
    rw [hc]
    simpa only [List.append_assoc] using this
  -- put
  obtain ⟨x, x0, x1, x2, xh, H1⟩ := put_run (hP ▸ i1) (by omega) (by decide) (by decide) g6 H ⟨1 :: 2 :: l, fun y hy => by
    unfold S.here at hy
    by_cases e1 : y = 1
    · simp [e1]
    · by_cases e2 : y = 2
      · simp [e2]
      · rw [if_neg e1, if_neg e2] at hy
        have := hl y hy
        simp [this], by simp only [List.length_cons]; omega⟩ (by omega)
  rw [hv0] at H1
  have xc : cur ≠ x := fun e => by rw [e, xh] at gc; cases gc
  have x4 : (4 : Int) ≠ x := fun e => by rw [e, xh] at g4; cases g4
  have x6 : (6 : Int) ≠ x := fun e => by rw [e, xh] at g6; cases g6
  have ghx : ∀ y, hr y = true → giveH hr x y = true := fun y hy => by
    unfold giveH
    split
    · rfl
    · exact hy
  have H1' : At code m0 (A ++ P).length (z4 f st false n r1 r2 cur cur 6 (upv (upv (S.clr v x) x 0 n) 6 0 x) (giveH hr x) mk) (K + 7) := by
    have : (A ++ P).length = A.length + 7 := by rw [List.length_append, hP]; rfl
    rw [this]; exact H1
  have hv1' : upv (upv (S.clr v x) x 0 n) 6 0 x 6 1 = 4 := by
    rw [upv_nw (by decide), upv_ne x6, clr_ne x6, hv1]
  -- later
  have H2 := later_run 1 (hL ▸ i2) (by decide) (by decide) (ghx 6 g6) hv1' (by decide) (by decide) (ghx 4 g4) c0 c1 c2 (ghx cur gc) H1' (by omega)
  have hv4 : upv (upv (S.clr v x) x 0 n) 6 0 x 4 0 = v 4 0 := by
    rw [upv_ne (by decide), upv_ne x4, clr_ne x4]
  rw [hv4] at H2
  obtain ⟨v', hv'⟩ : ∃ v', v' = upv (upv (upv (upv (S.clr v x) x 0 n) 6 0 x) cur 1 (v 4 0)) 4 0 cur := ⟨_, rfl⟩
  have w60 : v' 6 0 = x := by
    rw [hv', upv_ne (by decide), upv_ne (fun e => c6 e.symm)]; exact upv_same _ _ _
  have w61 : v' 6 1 = 4 := by
    rw [hv', upv_ne (by decide), upv_ne (fun e => c6 e.symm), hv1']
  have wx0 : v' x 0 = n := by
    rw [hv', upv_ne (fun e => x4 e.symm), upv_ne (fun e => xc e.symm), upv_ne (fun e => x6 e.symm)]; exact upv_same _ _ _
  have H2' : At code m0 (A ++ P ++ L).length (z4 f st false (v 4 0) r1 4 0 cur 6 v' (giveH hr x) mk) (K + 7 + 7) := by
    have : (A ++ P ++ L).length = (A ++ P).length + 7 := by rw [List.length_append, hL]; rfl
    rw [this, hv']; exact H2
  -- enter
  obtain ⟨y0, y1, y2, H3⟩ := enter_run h1 h4 (hE ▸ i3) H2' (by omega)
  have H3' : At code m0 (A ++ P ++ L ++ E).length (z4 f (stE f st) true y0 y1 y2 0 cur 6 v' (giveH hr x) mk) (K + 7 + 7 + 30) := by
    rw [List.length_append, hE]; exact H3
  -- read
  have H4 := read_run (tp := 6) (x := x) (u := n) i4 (by decide) (by decide) (ghx 6 g6) w60 x1 x2 (by unfold giveH; exact if_pos rfl) wx0 (by omega) hm H3' (by omega)
  have H4' : At code m0 (A ++ P ++ L ++ E ++ readBlk).length (z4 f (stE f st) true x y1 y2 0 n 6 v' (giveH hr x) (mk ++ [n])) (K + 7 + 7 + 30 + 4) := by
    have : (A ++ P ++ L ++ E ++ readBlk).length = (A ++ P ++ L ++ E).length + 4 := by rw [List.length_append]; rfl
    rw [this]; exact H4
  -- leave
  obtain ⟨u0, u1, u2, H5⟩ := leave_run h1 h4 (hV ▸ i5) (fun e => by unfold stE; rw [if_pos e]) H4' (by omega)
  refine ⟨by simpa only [List.append_assoc, List.append_nil] using a5, stE f st, u0, u1, u2, n, v', giveH hr x, x, ?_, w60, w61, ghx 4 g4, ghx 6 g6, by unfold giveH; exact if_pos rfl, by omega, x1, x2, fun e => x4 e.symm, fun e => x6 e.symm, x :: l, fun y hy => ?_, by simp only [List.length_cons]; omega⟩
  · have : (A ++ (P ++ (L ++ (E ++ (readBlk ++ (V ++ [])))))).length = (A ++ P ++ L ++ E ++ readBlk).length + (part f (kk + 3) 1).length := by
      rw [← hV]; simp only [List.length_append, List.length_nil]; omega
    rw [this]
    exact H5.mono (by omega) hK
  · unfold giveH at hy
    by_cases e : y = x
    · simp [e]
    · rw [if_neg e] at hy
      exact List.mem_cons_of_mem _ (hl y hy)
theorem clabs_app : ∀ (l l' : List COp), clabs (l ++ l') = clabs l + clabs l'
  | [], l' => by simp [clabs]
  | x :: l, l' => by simp only [List.cons_append, clabs, clabs_app l l']; omega
theorem copsCode_app (f tn : Nat) : ∀ (l l' : List COp) (k : Nat), copsCode f tn k (l ++ l') = copsCode f tn k l ++ copsCode f tn (k + clabs l) l'
  | [], l', k => by simp [copsCode, clabs]
  | x :: l, l', k => by
    rw [List.cons_append, copsCode, copsCode, copsCode_app f tn l l', List.append_assoc]
    simp only [clabs]
    rw [show k + cinc x + clabs l = k + (cinc x + clabs l) by omega]
theorem opsC_cons (n : Int) (ns : List Int) : opsC (n :: ns) = opsC1 n ++ opsC ns := rfl
theorem clabs1 (n : Int) : clabs (opsC1 n) = 4 := rfl
theorem cl_run (h1 : 1 ≤ f) (h4 : f ≤ 4) : ∀ (ns : List Int) {A : List Instr} {kk K st N : Nat} {mk : List Int}, (∀ n ∈ ns, 1 ≤ n ∧ n ≤ 1000) → BlkF 0 kk A → code = A ++ (copsCode f 0 kk (opsC ns) ++ R) → kk + 4 * ns.length + 10 < 128 → CI code m0 f st A.length K mk N → K + 100 * ns.length ≤ 1000000 → mk.length + ns.length < 500 → N + ns.length < 60 →
    ∃ A' st', code = A' ++ R ∧ BlkF 0 (kk + clabs (opsC ns)) A' ∧ CI code m0 f st' A'.length (K + 100 * ns.length) (mk ++ ns) (N + ns.length)
  | [], A, kk, K, st, N, mk, hn, hA, hc, hk, H, hK, hm, hN => ⟨A, st, by simpa [opsC, copsCode] using hc, by simpa [opsC, clabs] using hA, by simpa using H⟩
  | n :: ns, A, kk, K, st, N, mk, hn, hA, hc, hk, H, hK, hm, hN => by
    simp only [List.length_cons] at hk hK hm hN
    rw [opsC_cons, copsCode_app, clabs1] at hc
    obtain ⟨b1, st', b2⟩ := cl_round (R := copsCode f 0 (kk + 4) (opsC ns) ++ R) h1 h4 (hn n (by simp)) hA (by rw [hc]; simp only [List.append_assoc]) (by omega) H (by omega) (by omega) (by omega)
    obtain ⟨A', st2, c1, c2, c3⟩ := cl_run h1 h4 ns (fun y hy => hn y (by simp [hy])) b1 (by rw [hc]; simp only [List.append_assoc]) (by omega) b2 (by omega) (by simp; omega) (by omega)
    refine ⟨A', st2, c1, ?_, ?_⟩
    · rw [opsC_cons, clabs_app, clabs1, show kk + (4 + clabs (opsC ns)) = kk + 4 + clabs (opsC ns) by omega]; exact c2
    · rw [List.append_assoc] at c3
      simp only [List.length_cons]
      rw [show K + 100 * (ns.length + 1) = K + 100 + 100 * ns.length by omega, show N + (ns.length + 1) = N + 1 + ns.length by omega]
      exact c3
end Qo
end
/- ClientOne's ops make a right client. -/
section
namespace Go.Proofs.YtppihkneeolomaaDoor
open Go.RowKit Qs Qh Qc Qo
theorem cf_put (w u : Bool) {n : Int} (hn : 1 ≤ n ∧ n ≤ 1000) : cfOp ⟨0, false, w, u⟩ (kPut, n) = (0, ⟨0, true, false, u⟩) := by
  unfold cfOp
  rw [if_neg (fun h => by
    rcases h with h | h
    · exact absurd (show memK kindsC kPut = false from h) (by decide)
    · exact h.1 rfl), if_neg (fun h => by have := h.2; simp only at this; omega), if_neg (show ¬ (kPut = kEnter) by decide), if_neg (show ¬ (kPut = kLeave) by decide), if_neg (show ¬ (kPut = kRest ∨ kPut = kWait ∨ kPut = kFlush) by decide), if_neg (show ¬ (kPut = kRead) by decide), if_pos rfl, if_neg (by simp)]
theorem cf_later (w u : Bool) : cfOp ⟨0, true, w, u⟩ (kLater, 0) = (0, ⟨0, false, w, u⟩) := by cases w <;> cases u <;> decide
theorem cf_enter (w u : Bool) : cfOp ⟨0, false, w, u⟩ (kEnter, 0) = (0, ⟨1, false, w, u⟩) := by cases w <;> cases u <;> decide
theorem cf_read (w u : Bool) : cfOp ⟨1, false, w, u⟩ (kRead, 0) = (0, ⟨1, false, w, u⟩) := by cases w <;> cases u <;> decide
theorem cf_leave (w u : Bool) : cfOp ⟨1, false, w, u⟩ (kLeave, 0) = (0, ⟨0, false, w, u⟩) := by cases w <;> cases u <;> decide
def raw1 (n : Int) : List ROp := [(kPut, n), (kLater, 0), (kEnter, 0), (kRead, 0), (kLeave, 0)]
def rawO (ns : List Int) : List ROp := (opsC ns).map cR
theorem rawO_cons (n : Int) (ns : List Int) : rawO (n :: ns) = raw1 n ++ rawO ns := by
  unfold rawO; rw [opsC_cons, List.map_append]; rfl
theorem rawO_snoc (n : Int) : ∀ ns : List Int, rawO (ns ++ [n]) = rawO ns ++ raw1 n
  | [] => rfl
  | m :: ns => by rw [List.cons_append, rawO_cons, rawO_cons, rawO_snoc n ns, List.append_assoc]
theorem rawO_len : ∀ ns : List Int, (rawO ns).length = 5 * ns.length
  | [] => rfl
  | n :: ns => by rw [rawO_cons, List.length_append, rawO_len ns, List.length_cons]; show 5 + _ = _; omega
theorem rV_shift : ∀ (l : List ROp) (s s' : Nat), flat rV s l = flat rV s' l
  | [], _, _ => rfl
  | x :: l, s, s' => by simp only [flat]; rw [rV_shift l (s + 1) (s' + 1)]; rfl
theorem rV_app : ∀ (l l' : List ROp) (s : Nat), flat rV s (l ++ l') = flat rV s l ++ flat rV 0 l'
  | [], l', s => rV_shift l' s 0
  | x :: l, l', s => by
    rw [List.cons_append]
    simp only [flat]
    rw [rV_app l l' (s + 1), List.append_assoc]
theorem cRun_round (n : Int) (hn : 1 ≤ n ∧ n ≤ 1000) (w u : Bool) (l : List ROp) : cRun ⟨0, false, w, u⟩ (raw1 n ++ l) = cRun ⟨0, false, false, u⟩ l := by
  unfold raw1
  simp only [List.cons_append, List.nil_append]
  rw [cRun, cf_put w u hn, if_neg (by simp), cRun, cf_later, if_neg (by simp), cRun, cf_enter, if_neg (by simp), cRun, cf_read, if_neg (by simp), cRun, cf_leave, if_neg (by simp)]
theorem cRun_rawO : ∀ (ns : List Int) (w : Bool), (∀ n ∈ ns, 1 ≤ n ∧ n ≤ 1000) → (cRun ⟨0, false, w, false⟩ (rawO ns)).1 = 0 ∧ (cRun ⟨0, false, w, false⟩ (rawO ns)).2.d = 0
  | [], w, _ => ⟨rfl, rfl⟩
  | n :: ns, w, h => by
    rw [rawO_cons, cRun_round n (h n (by simp))]
    exact cRun_rawO ns false fun m hm => h m (by simp [hm])
theorem cfG_rawO {ns : List Int} (hl : ns.length ≤ 4) (h : ∀ n ∈ ns, 1 ≤ n ∧ n ≤ 1000) : (cfG (rawC [opsC ns])).1 = 0 := by
  have e : rawC [opsC ns] = [rawO ns] := rfl
  rw [e]
  have hm : manyB [rawO ns] = true := manyB_iff.2 ⟨by simp, by simp, fun l hl' => by
    rw [List.mem_singleton] at hl'; subst hl'
    rw [rawO_len]; omega⟩
  unfold cfG
  rw [hm]
  simp only [if_true]
  obtain ⟨g1, g2⟩ := cRun_rawO ns false h
  have hr : cRowF (rawO ns) = none := by
    unfold cRowF c0
    rw [if_neg (by rw [g1]; simp), if_neg (by rw [g2]; simp)]
  rcases allR_cases (rf := cRowF) [rawO ns] 0 with ⟨h2, _⟩ | ⟨k, l', c, k1, k2, k3, k4⟩
  · rw [h2]
  · exfalso
    match k, k1 with
    | 0, k1 =>
      simp at k1; subst k1
      rw [hr] at k2; cases k2
    | k + 1, k1 => simp at k1
theorem rawO_take {z : List Int} {k : Nat} {n : Int} (h : z[k]? = some n) : rawO (z.take (k + 1)) = rawO (z.take k) ++ raw1 n := by
  rw [List.take_add_one, h]; exact rawO_snoc n _
/-- A list in one list, made in memory. -/
theorem rin_one {w : World} {u : Value} {l : List ROp} {b : Nat} {T : TypeId} (hb : w.heap[b]? = some (.cells #[u] T (0, 0))) (hr : RRow w.heap.size w u l) : RIn w.heap.size w (.slice (some ⟨b, 0, none⟩) 1 1) [l] :=
  ⟨_, 1, rfl, fun i l' hi => by
    match i, hi with
    | 0, hi =>
      cases hi
      exact ⟨b, 0, u, rfl, lt_of_block hb, by rw [cell_of_heap hb]; rfl, hr⟩
    | i + 1, hi => simp at hi⟩
end Go.Proofs.YtppihkneeolomaaDoor
end
/- client.Build: what it makes, in plain. -/
section
namespace Qc
open Qs Qu Go.Proofs.YtppihkneeolomaaDoor
def gReg3 (n t : Nat) : List Int := [0, 0, 0, 0, 0, (n : Int) + 5, (t : Int) + 1, (n : Int) + 1]
def cInit (f n : Nat) : List (List Int) := rowsF (gOwnC f) n ++ [gHubC f n] ++ [[1]] ++ [[]] ++ [[]] ++ [[(n : Int) + 2, (n : Int) + 3, (n : Int) + 4]]
def cRegs (n : Nat) : List (List Int) := rowsF (gReg3 n) n
def cCs (f : Nat) (q : List (List COp)) (t : Nat) : List Instr := ccode f t (q.getD t [])
def cCodes (f : Nat) (q : List (List COp)) : List (List Instr) := (List.range q.length).map (cCs f q)
theorem gReg_step (n t : Nat) : (gReg2 n t).set 5 ((n : Int) + 5) = gReg3 n t := rfl
theorem cInit_len (f n : Nat) : (cInit f n).length = n + 5 := by simp [cInit, rowsF_len]
theorem cInit_all (f n : Nat) : ∀ l ∈ cInit f n, l.length ≤ 4 := fun l hl => by
  simp only [cInit, List.mem_append, List.mem_singleton] at hl
  rcases hl with ((((h | h) | h) | h) | h) | h
  · obtain ⟨i, -, rfl⟩ := List.mem_map.1 h
    simp [gOwnC]
  all_goals subst h; simp [gHubC]
theorem cInit_rows (f n : Nat) : ∀ l ∈ cInit f n, l.length ≤ 100 := fun l hl => Nat.le_trans (cInit_all f n l hl) (by decide)
theorem cRegs_len (n : Nat) : (cRegs n).length = n := rowsF_len
theorem cCodes_len (f : Nat) (q : List (List COp)) : (cCodes f q).length = q.length := by simp [cCodes]
theorem cCs_get {f t : Nat} {q : List (List COp)} {l : List COp} (h : q[t]? = some l) : cCs f q t = ccode f t l := by unfold cCs; rw [List.getD_eq_getElem?_getD, h]; rfl
end Qc
end
/- A client's machine at the beginning. -/
section
namespace Go.Proofs.YtppihkneeolomaaDoor
open Qs Qh Qg Qu Qc
variable {f : Nat} {q : List (List COp)}
def cM (f : Nat) (q : List (List COp)) : M := startM 64 (cInit f q.length) (cRegs q.length) (cCodes f q)
theorem c_cell {i : Nat} (hi : i < 64) : (cM f q).cells[i]? = some (if i < q.length + 5 then ⟨pad 4 ((cInit f q.length).getD i []), 1, true⟩ else ⟨[0, 0, 0, 0], 0, false⟩) := by
  unfold cM startM
  simp only
  rw [List.getElem?_map, List.getElem?_range hi, cInit_len]
  rfl
theorem c_len : (cM f q).cells.length = 64 := by simp [cM, startM]
theorem c_T (t : Nat) (ht : t < q.length) : (cM f q).T[t]? = some ⟨ccode f t (q.getD t []), gReg3 q.length t, 0⟩ := by
  unfold cM startM cCodes
  simp only
  rw [List.getElem?_mapIdx, List.getElem?_map, List.getElem?_range ht]
  unfold cRegs
  simp only [Option.map_some]
  rw [List.getD_eq_getElem?_getD, rowsF_get ht]
  rfl
theorem c_Tlen : (cM f q).T.length = q.length := by simp [cM, startM, cCodes]
theorem c_thr {t : Nat} (ht : t < q.length) : (cM f q).thr t = ⟨ccode f t (q.getD t []), gReg3 q.length t, 0⟩ := by
  unfold M.thr
  rw [List.getD_eq_getElem?_getD, c_T t ht]; rfl
theorem c_wait (t : Nat) : (cM f q).waitsOf t = [] := by
  unfold M.waitsOf cM startM
  simp only [List.getD, List.getElem?_replicate]
  split <;> rfl
theorem c_here (h6 : q.length ≤ 6) (x : Int) : (absM (cM f q)).here x = true ↔ 1 ≤ x ∧ x ≤ q.length + 5 := by
  rw [abs_here]
  constructor
  · rintro ⟨a, b, y, c, d, e⟩
    have hlt := (List.getElem?_eq_some_iff.1 c).1
    rw [c_len] at hlt
    rw [c_cell hlt] at c
    by_cases h : celOf x < q.length + 5
    · rw [if_pos h] at c
      cases c
      simp only at e
      unfold celOf at h
      omega
    · rw [if_neg h] at c
      cases c
      cases d
  · intro h
    have hc : celOf x = (x - 1).toNat := by unfold celOf; omega
    refine ⟨by omega, by omega, ⟨pad 4 ((cInit f q.length).getD (celOf x) []), 1, true⟩, ?_, rfl, by simp only; omega⟩
    rw [c_cell (by omega), if_pos (by omega)]
theorem c_val (h6 : q.length ≤ 6) {i : Nat} (hi : i < q.length + 5) (w : Nat) : (absM (cM f q)).val ((i : Int) + 1) w = (pad 4 ((cInit f q.length).getD i [])).getD w 0 := by
  rw [abs_val ((c_here h6 _).2 (by omega))]
  unfold getWord
  have hc : celOf ((i : Int) + 1) = i := by unfold celOf; omega
  rw [hc, c_cell (by omega), if_pos hi]
  rfl
theorem c_fine (h1 : 1 ≤ f) (h4 : f ≤ 4) (h6 : q.length ≤ 6) (h20 : ∀ l ∈ q, l.length ≤ 20) (hp : ∀ l ∈ q, ∀ n, COp.put n ∈ l → 1 ≤ n ∧ n ≤ 1000) : ∀ c ∈ cCodes f q, CodeFine c := fun c hc => by
  obtain ⟨t, ht, rfl⟩ := List.mem_map.1 hc
  have htl := List.mem_range.1 ht
  unfold cCs
  have hm : q.getD t [] ∈ q := by rw [List.getD_eq_getElem?_getD, List.getElem?_eq_getElem htl]; exact List.getElem_mem htl
  exact ccode_fine h1 h4 t (by omega) (h20 _ hm) (hp _ hm)
theorem cInit_fine (f n : Nat) (hn : n ≤ 6) : RowsFine 4 (cInit f n) := fun l hl => by
  refine ⟨cInit_all f n l hl, fun x hx => ?_⟩
  simp only [cInit, List.mem_append, List.mem_singleton] at hl
  rcases hl with ((((h | h) | h) | h) | h) | h
  · obtain ⟨i, hi, rfl⟩ := List.mem_map.1 h
    have := List.mem_range.1 hi
    simp only [gOwnC, List.mem_cons, List.not_mem_nil, or_false] at hx
    unfold isWord W32
    simp only [Bool.and_eq_true, decide_eq_true_eq]
    rcases hx with rfl | rfl | rfl | rfl
    · split <;> omega
    · split <;> omega
    · omega
    · omega
  all_goals
    subst h
    simp only [gHubC, List.mem_cons, List.not_mem_nil, or_false] at hx
    try unfold isWord W32
    try simp only [Bool.and_eq_true, decide_eq_true_eq]
  · rcases hx with rfl | rfl | rfl | rfl
    · omega
    · omega
    · split <;> omega
    · omega
  · omega
  · rcases hx with rfl | rfl | rfl <;> omega
theorem cRegs_fine (n : Nat) (hn : n ≤ 6) : RowsFine 8 (cRegs n) := fun l hl => by
  obtain ⟨t, ht, rfl⟩ := List.mem_map.1 hl
  have htl := List.mem_range.1 ht
  refine ⟨Nat.le_refl 8, fun x hx => ?_⟩
  simp only [gReg3, List.mem_cons, List.not_mem_nil, or_false] at hx
  unfold isWord W32
  simp only [Bool.and_eq_true, decide_eq_true_eq]
  rcases hx with rfl | rfl | rfl | rfl | rfl | rfl | rfl | rfl <;> omega
end Go.Proofs.YtppihkneeolomaaDoor
end
/- One thread alone: a client's machine comes to its end. -/
section
namespace Qo
open Qs Qg Qu Qc Qh Go.Proofs.YtppihkneeolomaaDoor
variable {f : Nat} {ns : List Int}
theorem cl_at (h1 : 1 ≤ f) (h4 : f ≤ 4) (l : List COp) : At (ccode f 0 l) (cM f [l]) 0 ⟨0, [0, 0, 0, 0, 0, 6, 1, 2], ⟨oF f 0 false, hF f 0, (absM (cM f [l])).val⟩, (absM (cM f [l])).here, []⟩ 0 := by
  have hq6 : [l].length ≤ 6 := by simp
  have hthr := c_thr (f := f) (q := [l]) (t := 0) (by simp)
  have hcell : ∀ c ∈ (cM f [l]).cells, ∃ i, i < 64 ∧ c = (if i < 6 then ⟨pad 4 ((cInit f 1).getD i []), 1, true⟩ else ⟨[0, 0, 0, 0], 0, false⟩) := fun c hc => by
    obtain ⟨i, hi⟩ := List.getElem?_of_mem hc
    have hlt : i < 64 := by have := (List.getElem?_eq_some_iff.1 hi).1; rw [c_len] at this; exact this
    rw [c_cell hlt] at hi
    exact ⟨i, hlt, (Option.some.inj hi).symm⟩
  have hh : ∀ x, (absM (cM f [l])).here x = true ↔ 1 ≤ x ∧ x ≤ 6 := fun x => by
    have := c_here (f := f) (q := [l]) hq6 x
    simpa using this
  refine At.start ⟨by rw [c_Tlen]; rfl, by simp [cM, startM, cCodes], fun t ht => ?_, fun t ht => ?_, fun c hc => ?_, by rw [c_len]; decide, fun t x hx => by rw [c_wait] at hx; cases hx⟩ rfl (fun v hv => ?_) (fun c hc hh => ?_) c_len ?_ ((hh 1).2 (by omega)) ((hh 2).2 (by omega)) ?_ ?_ (fun w => ?_) (fun w => ?_) (by rw [hthr]; rfl) (by rw [hthr]) rfl
  · obtain rfl : t = 0 := by omega
    rw [hthr]; rfl
  · obtain rfl : t = 0 := by omega
    rw [hthr]; rfl
  · obtain ⟨i, hi, rfl⟩ := hcell c hc
    by_cases h : i < 6
    · rw [if_pos h]
      show (pad 4 ((cInit f 1).getD i [])).length = 4
      have hle : ((cInit f 1).getD i []).length ≤ 4 := by
        have hr := cInit_fine f 1 (by omega)
        rw [List.getD_eq_getElem?_getD]
        cases e : (cInit f 1)[i]? with
        | none => simp
        | some y => exact (hr y (List.mem_of_getElem? e)).1
      rw [List.getD_eq_getElem?_getD] at hle
      simp [pad]; omega
    · rw [if_neg h]; rfl
  · obtain ⟨c, hc, rfl⟩ := List.mem_map.1 hv
    obtain ⟨i, hi, rfl⟩ := hcell c hc
    split <;> simp
  · obtain ⟨i, hi, rfl⟩ := hcell c hc
    split
    · simp
    · rename_i h; rw [if_neg h] at hh; cases hh
  · show ((cM f [l]).waitsOf 0).map enOf = []
    rw [c_wait]; rfl
  · rcases f_cases h1 h4 with rfl | rfl | rfl | rfl <;> rfl
  · rcases f_cases h1 h4 with rfl | rfl | rfl | rfl <;> rfl
  · have := c_val (f := f) (q := [l]) hq6 (i := 0) (by simp) w
    rw [show ((0 : Nat) : Int) + 1 = 1 by rfl] at this
    rw [this]
    congr 1
    rcases f_cases h1 h4 with rfl | rfl | rfl | rfl <;> rfl
  · have := c_val (f := f) (q := [l]) hq6 (i := 1) (by simp) w
    rw [show ((1 : Nat) : Int) + 1 = 2 by rfl] at this
    rw [this]
    congr 1
    rcases f_cases h1 h4 with rfl | rfl | rfl | rfl <;> rfl
theorem cl_law (h1 : 1 ≤ f) (h4 : f ≤ 4) (hl : ns.length ≤ 4) (hn : ∀ n ∈ ns, 1 ≤ n ∧ n ≤ 1000) {n : Nat} (hN : 1000 ≤ n) :
    (its n (cM f [opsC ns])).done 0 = true ∧ (its n (cM f [opsC ns])).faults = 0 ∧ (its n (cM f [opsC ns])).marks = ns.map fun v => ((0 : Int), v) := by
  have H0 := cl_at h1 h4 (opsC ns)
  have hq6 : [opsC ns].length ≤ 6 := by simp
  have hh : ∀ x, (absM (cM f [opsC ns])).here x = true ↔ 1 ≤ x ∧ x ≤ 6 := fun x => by
    have := c_here (f := f) (q := [opsC ns]) hq6 x
    simpa using this
  have hv0 : (absM (cM f [opsC ns])).val 6 0 = 3 := by
    have := c_val (f := f) (q := [opsC ns]) hq6 (i := 5) (by simp) 0
    rw [show ((5 : Nat) : Int) + 1 = 6 by rfl] at this
    rw [this]; rfl
  have hv1 : (absM (cM f [opsC ns])).val 6 1 = 4 := by
    have := c_val (f := f) (q := [opsC ns]) hq6 (i := 5) (by simp) 1
    rw [show ((5 : Nat) : Int) + 1 = 6 by rfl] at this
    rw [this]; rfl
  have hCI : CI (ccode f 0 (opsC ns)) (cM f [opsC ns]) f 0 ([] : List Instr).length 0 [] 6 :=
    ⟨0, 0, 0, 0, _, _, 3, H0, hv0, hv1, (hh 4).2 (by omega), (hh 6).2 (by omega), (hh 3).2 (by omega), by decide, by decide, by decide, by decide, by decide, [1, 2, 3, 4, 5, 6], fun x hx => by
      have := (hh x).1 hx
      simp; omega, by decide⟩
  have hcode : ccode f 0 (opsC ns) = [] ++ (copsCode f 0 0 (opsC ns) ++ (part f (clabs (opsC ns)) 3 ++ [⟨20, 0, 0, 0, []⟩])) := by
    unfold ccode; simp only [List.nil_append, List.append_assoc]
  have hlab : clabs (opsC ns) = 4 * ns.length := by
    have : ∀ l : List Int, clabs (opsC l) = 4 * l.length := fun l => by
      induction l with
      | nil => rfl
      | cons x l ih => rw [opsC_cons, clabs_app, ih, clabs1, List.length_cons]; omega
    exact this ns
  obtain ⟨A', st', c1, c2, c3⟩ := cl_run (R := part f (clabs (opsC ns)) 3 ++ [⟨20, 0, 0, 0, []⟩]) h1 h4 ns hn (BlkF.nil 0) hcode (by omega) hCI (by omega) (by simp; omega) (by omega)
  obtain ⟨r0, r1, r2, r4, v, hr, cur, H, -⟩ := c3
  rw [Nat.zero_add] at c2
  have fG : BlkF (clabs (opsC ns)) (clabs (opsC ns) + 1) (part f (clabs (opsC ns)) 3) := part_fine h1 h4 (by decide) _ (by omega)
  have iG : InRow (ccode f 0 (opsC ns)) A'.length (part f (clabs (opsC ns)) 3) := by
    rw [c1]; exact inRow_of c2 fG
  obtain ⟨s', p1, p2, H2⟩ := gone_run h1 h4 iG H (by omega)
  have hst : (ccode f 0 (opsC ns))[A'.length + (part f (clabs (opsC ns)) 3).length]? = some ⟨20, 0, 0, 0, []⟩ := by
    rw [c1, ← List.append_assoc, List.getElem?_append_right (by simp)]
    simp
  obtain ⟨e1, e2, e3⟩ := H2.stop p1 hst rfl (n := n) (by omega)
  refine ⟨e1, e2, ?_⟩
  rw [e3, p2]; rfl
end Qo
end
/- client.Build: its walk on lists that are right. -/
section
namespace Go.Proofs.YtppihkneeolomaaDoor
open Go.RowKit Qs Qh Qc
variable {N f : Nat} {w w' : World} {v u : Value} {q : List (List COp)} {a : Nat → Addr}
theorem codeInfoC : (Tryd.prog.info? 69).map (fun i => (i.zero, i.size, i.bytes)) = some (some (.slice none 0 0), 1, 24) := by kernel_rfl
theorem gReg2_len (n t : Nat) : (gReg2 n t).length = 8 := rfl
/-- Build's state while its cells are laid. -/
structure CelS (w0 : World) (T2 B S : Nat) (rv iv : Value) (rb : Nat → Nat) (regs rows : List (List Int)) (w : World) : Prop where
  mod : Mod noF w0 w
  base : BaseAt w B iv rv
  init : ∃ ib, Rws S w.heap.size w iv rows ib
  regs : Rws (B + 1) S w rv regs rb
  res : w.heap[T2]? = some (.cells #[.int .i64 0, .slice none 0 0, .slice none 0 0] 32 (0, 0))
  o1 : w0.heap.size ≤ T2
  o2 : T2 < B
  o3 : B + 1 ≤ S
  o4 : S ≤ w.heap.size
theorem CelS.cell {w0 W : World} {T2 B S : Nat} {rv iv : Value} {rb : Nat → Nat} {regs rows : List (List Int)} (C : CelS w0 T2 B S rv iv rb regs rows w) (hM : Mod noF w W) (h64 : rows.length < 64) (l : List Int) (r : Nat) (hr : l.length ≠ 0 → w.heap.size ≤ r ∧ W.heap[r]? = some (.cells (l.map (Value.int .i64)).toArray 3 (0, 0))) :
    Calls Tryd.prog 38 #[.pointer (some ⟨B, 0, none⟩), rwU l r] W fun e w' => e = .returned (.int .i64 ((rows.length : Int) + 1)) ∧ ∃ iv', CelS w0 T2 B S rv iv' rb regs (rows ++ [l]) w' := by
  obtain ⟨ib, R⟩ := C.init
  have hsz := hM.size
  have ho := C.o1
  have ho2 := C.o2
  have ho3 := C.o3
  have ho4 := C.o4
  refine (cell_ok0 (lo0 := S) (Nat.le_refl _) (hM.heap C.base (fun e => e)) (R.keep hM (fun _ _ _ e => e)) hM.size (by omega) (by omega) h64 (fun h => ⟨by have := (hr h).1; omega, by have := (hr h).1; omega, .inl (hr h).1⟩) (fun h => (hr h).2)).mono ?_
  rintro e w3 ⟨rfl, iv', hB, hR, hm⟩
  have hiv : ∀ x, iv.ownBlock = some x → S ≤ x := fun x hx => (R.vin x hx).1
  have hs3 := hm.size
  refine ⟨rfl, iv', (C.mod.trans0 hM).trans hm fun x hx e => ?_, hB, hR, (C.regs.keep hM (fun _ _ _ e => e)).keep hm fun x h1 h2 e => ?_, hm.heap (hM.heap C.res (fun e => e)) fun e => ?_, ho, ho2, ho3, by omega⟩
  · have := C.mod.size
    rcases e with e | e
    · omega
    · have := hiv x e; omega
  · rcases e with e | e
    · omega
    · have := hiv x e; omega
  · rcases e with e | e
    · omega
    · have := hiv _ e; omega
set_option maxRecDepth 4000 in
set_option maxHeartbeats 16000000 in
theorem cbuild_ok (E : ErrsC w a) (HK : KindsW w) (H : RIn N w v (rawC q)) (hN : N ≤ w.heap.size) (hc0 : (cfG (rawC q)).1 = 0) (h1 : 1 ≤ q.length) (h6 : q.length ≤ 6) (h20 : ∀ l ∈ q, l.length ≤ 20) (hf1 : 1 ≤ f) (hf4 : f ≤ 4) :
    Calls Tryd.prog 30 #[.int .i64 f, v] w fun e w' => ∃ iv rv cv vk, e = .returned (.tuple #[.agg #[.int .i64 64, iv, rv], cv, .nilIface]) ∧ Mod noF w w' ∧ Qh.RowsAt w' iv (cInit f q.length) ∧ Qh.RowsAt w' rv (cRegs q.length) ∧ CodesAt w' cv (cCodes f q) vk := by
  have hrl : (rawC q).length = q.length := by simp [rawC]
  have hrow : ∀ l ∈ rawC q, l.length ≤ 30 := fun l hl => by
    obtain ⟨l', hl', rfl⟩ := List.mem_map.1 hl
    have := h20 l' hl'
    rw [List.length_map]; omega
  have hck := fun w1 (hm : Mod noF w w1) => cCheck (E.keep hm) (HK.keep hm) (H.keep hm (fun _ _ e => e)) (by omega) hrow
  have Hck := Lib.hid hck
  obtain ⟨i0, hti, hz0, hz1, hz2⟩ := info_parts codeInfoC
  obtain ⟨oa, oc, rfl, hx⟩ := H
  rw [hrl] at *
  have hx' : ∀ (k : Nat) l, q[k]? = some l → ∃ (b : Nat) (off : Nat) (u : Value), oa.map (·.add k) = oa.map (·.add k) ∧ (rawC q)[k]? = some (l.map cR) := fun k l hl => ⟨0, 0, .nilIface, rfl, by unfold rawC; rw [List.getElem?_map, hl]; rfl⟩
  have hget : ∀ (k : Nat) l, q[k]? = some l → (rawC q)[k]? = some (l.map cR) := fun k l hl => by unfold rawC; rw [List.getElem?_map, hl]; rfl
  have Hx := Lib.hid hx
  have H20 := Lib.hid h20
  have Hget := Lib.hid hget
  have Hc0 := Lib.hid hc0
  clear hx h20 hx' hget hck E HK hrow hc0 hrl
  go_enter Tryd.func30, Tryd.ntmps30
  go_wp2_with fail
  have hq := ((Mod.refl noF w).alloc (.cells #[.int .i64 0, .slice none 0 0, .slice none 0 0] 32))
  refine (Hck.out _ hq).mono ?_
  rintro e wc ⟨ev, rfl, hEv, hmc⟩
  rw [Hc0.out] at hEv
  obtain rfl := hEv.nil
  have hres : wc.heap[w.heap.size]? = some (.cells #[.int .i64 0, .slice none 0 0, .slice none 0 0] 32 (0, 0)) := hmc.heap (heap_alloc_new w _) (fun e => e)
  have hmw := hq.trans0 hmc
  have hszc : w.heap.size + 1 ≤ wc.heap.size := by have := lt_of_block hres; omega
  have Hmw := Lib.hid hmw
  have Hres := Lib.hid hres
  clear hmc hmw hres hEv hq
  go_wp2_with fail
  refine (newBase_ok q.length h6 wc).mono ?_
  rintro e wb ⟨rv, rb, rfl, hmb, hB, R⟩
  have hbs := hmb.size
  have hb1 := lt_of_block hB
  have Hmb := Lib.hid hmb
  have HB := Lib.hid hB
  have HR := Lib.hid R
  clear hmb hB R
  go_wp2_with fail
  refine (grace_ok hf1 hf4 h1 h6 HB.out HR.out (by omega) (by omega) (by omega)).mono ?_
  rintro e w2 ⟨rfl, iv2, ib2, hB2, R2r, R2, hm2⟩
  have hs2 := hm2.size
  have hm2w := (Hmw.out.trans0 Hmb.out).trans hm2 (fun x hx e => by omega)
  have hres2 := hm2.heap (Hmb.out.heap Hres.out (fun e => e)) (fun e => by omega)
  have hC2 : CelS w w.heap.size wc.heap.size wb.heap.size rv iv2 rb (rowsF (gReg2 q.length) q.length) (rowsF (gOwnC f) q.length ++ [gHubC f q.length]) w2 := ⟨hm2w, hB2, ⟨_, R2⟩, R2r, hres2, Nat.le_refl _, by omega, by omega, hs2⟩
  have hl2 : (rowsF (gOwnC f) q.length ++ [gHubC f q.length]).length = q.length + 1 := by simp [rowsF_len]
  have HC2 := Lib.hid hC2
  clear hm2w hm2 hB2 R2 R2r hres2 HR HB Hmb Hres Hmw hC2
  generalize hrw : rowsF (gOwnC f) q.length ++ [gHubC f q.length] = rows0 at *
  go_wp2_with fail
  refine (HC2.out.cell ((Mod.refl noF w2).alloc _) (by omega) [1] w2.heap.size (fun _ => ⟨Nat.le_refl _, heap_alloc_new w2 _⟩)).mono ?_
  rintro e w3 ⟨he3, iv3, hC3⟩
  have e3 : (rows0.length : Int) + 1 = (q.length : Int) + 2 := by omega
  rw [e3] at he3
  subst he3
  have HC3 := Lib.hid hC3
  clear hC3 HC2
  go_wp2_with fail
  refine (HC3.out.cell (Mod.refl noF w3) (by simp; omega) [] 0 (fun h => absurd rfl h)).mono ?_
  rintro e w4 ⟨he4, iv4, hC4⟩
  have e4 : ((rows0 ++ [[1]]).length : Int) + 1 = (q.length : Int) + 3 := by simp; omega
  rw [e4] at he4
  subst he4
  have HC4 := Lib.hid hC4
  clear hC4 HC3
  go_wp2_with fail
  refine (HC4.out.cell (Mod.refl noF w4) (by simp; omega) [] 0 (fun h => absurd rfl h)).mono ?_
  rintro e w5 ⟨he5, iv5, hC5⟩
  have e5 : ((rows0 ++ [[1]] ++ [[]]).length : Int) + 1 = (q.length : Int) + 4 := by simp; omega
  rw [e5] at he5
  subst he5
  have HC5 := Lib.hid hC5
  clear hC5 HC4
  go_wp2_with fail
  refine (HC5.out.cell ((Mod.refl noF w5).alloc _) (by simp; omega) [(q.length : Int) + 2, (q.length : Int) + 3, (q.length : Int) + 4] w5.heap.size (fun _ => ⟨Nat.le_refl _, heap_alloc_new w5 _⟩)).mono ?_
  rintro e w6 ⟨he6, iv, hC6⟩
  have e6 : ((rows0 ++ [[1]] ++ [[]] ++ [[]]).length : Int) + 1 = (q.length : Int) + 5 := by simp; omega
  rw [e6] at he6
  subst he6
  rw [← hrw] at hC6
  have HC6 := Lib.hid hC6
  clear hC6 HC5 e3 e4 e5 e6 hl2
  obtain ⟨ib, R6⟩ := HC6.out.init
  have ho := HC6.out.o1
  have ho2 := HC6.out.o2
  have ho3 := HC6.out.o3
  have ho4 := HC6.out.o4
  have hrel : BldRel w ⟨w.heap.size, wc.heap.size, wc.heap.size + 1, wb.heap.size, wb.heap.size, w6.heap.size, w6.heap.size⟩ iv rv rb ib (cCs f q) (cInit f q.length) (rowsF (mixF (gReg3 q.length) (gReg2 q.length) 0) q.length) 0 (.slice none 0 0) (fun _ => .nilIface) w6 :=
    ⟨HC6.out.mod, Nat.le_refl _, HC6.out.res, HC6.out.base, by rw [mix_zero]; exact HC6.out.regs, R6, Cds.nil _ _ _ _⟩
  obtain ⟨ra, rc, hrv, -⟩ := HC6.out.regs.cell
  rw [rowsF_len] at hrv
  subst hrv
  obtain ⟨p, hp⟩ : ∃ p : Plc, p = ⟨w.heap.size, wc.heap.size, wc.heap.size + 1, wb.heap.size, wb.heap.size, w6.heap.size, w6.heap.size⟩ := ⟨_, rfl⟩
  have hP : p.Ok w := by subst hp; exact ⟨Nat.le_refl _, by simp only; omega, by simp only; omega, by simp only; omega, Nat.le_refl _, by simp only; omega, Nat.le_refl _⟩
  rw [← hp] at hrel
  have hpB : wc.heap.size = p.B := by rw [hp]
  have hpT : w.heap.size = p.T2 := by rw [hp]
  have HP := Lib.hid hP
  have Hrel := Lib.hid hrel
  clear hrel hP hp R6 HC6 Hck
  go_wp2
  go_loopw [11, 45] (fun c i wr => ∃ (k : Nat) (vk : Nat → Value), k ≤ q.length ∧ i = .int .i64 k ∧ BldRel w p iv (.slice ra q.length rc) rb ib (cCs f q) (cInit f q.length) (rowsF (mixF (gReg3 q.length) (gReg2 q.length) k) q.length) k c vk wr) (fun _ i _ => q.length - (intOf i).toNat)
  case atStart => exact ⟨0, _, Nat.zero_le _, rfl, Hrel.out⟩
  case round =>
    generalize wr = wo at *
    obtain ⟨k, vk, hk, rfl, hR⟩ := hrel
    obtain ⟨ra', rc', hrv, hrx⟩ := hR.regs.cell
    rw [rowsF_len] at hrv
    cases hrv
    obtain ⟨ca, cb, cc, rfl⟩ := slice_of_own hR.cds.own
    by_cases hlt : k < q.length
    · have hd : decide ((k : Int) < (q.length : Int)) = true := by simp; omega
      have hki : (k : Int) < (q.length : Int) := by omega
      obtain ⟨l, hl⟩ : ∃ l, q[k]? = some l := ⟨_, List.getElem?_eq_getElem hlt⟩
      obtain ⟨b, off, u, rfl, hb, hc, hrow⟩ := Hx.out k _ (Hget.out k l hl)
      have hc2 := hR.mod.cell hc (fun e => e)
      have hlm : (l.map cR).length = l.length := List.length_map _
      obtain ⟨ua, uc, rfl, hxx⟩ := hrow.keep hR.mod (fun _ _ e => e)
      have hxw : ∀ wx, Mod noF w wx → RRow N wx (.slice ua (l.map cR).length uc) (l.map cR) := fun wx h => hrow.keep h (fun _ _ e => e)
      obtain ⟨gb, rfl, hgb, hrk⟩ := hrx k _ (mix_get hlt)
      obtain ⟨hR1, hrow8, hlo⟩ := hR.store (x := (q.length : Int) + 5) (j := 5) HP.out (mix_get hlt) (by rw [gReg2_len]; omega)
      rw [gReg_step, mix_set hlt] at hR1
      have b2 : wo.cell? ⟨p.B, 2, none⟩ = some (.slice (some ⟨gb, 0, none⟩) q.length rc) := by rw [cell_of_heap hR.base]; rfl
      have b3 : wo.cell? ⟨gb, k, none⟩ = some (.slice (some ⟨rb k, 0, none⟩) 8 8) := hrk
      have b4 : wo.cell? ⟨rb k, 5, none⟩ = some (.int .i64 0) := by rw [cell_of_heap hrow8]; rfl
      have b5 := free_of_heap hrow8 5
      have h20l := H20.out l (List.mem_of_getElem? hl)
      have hsz1 : (wo.setCell ⟨rb k, 5, none⟩ (.int .i64 ((q.length : Int) + 5))).heap.size = wo.heap.size := by simp [World.setCell]
      rw [hlm] at hc2
      have HR := Lib.hid hR
      have HR1 := Lib.hid hR1
      have Hxw := Lib.hid hxw
      have Hl := Lib.hid hl
      have Hsz1 := Lib.hid hsz1
      clear hR hR1 hxw hl hxx hrow hc hrk hrow8 hrx hsz1
      go_wp2
      go_name_world wm hwm
      have hM0 : MkA wo.heap.size False (f : Nat) (k : Nat) 1 wm wo.heap.size (.slice none 0 0) [] 0 := by
        have hh : wm.heap[wo.heap.size]? = some (.cells #[.slice none 0 0, .int .i64 f, .int .i64 k, .int .i64 1, .int .i64 0] 84 (0, 0)) := by
          rw [← hwm, ← Hsz1.out]; exact heap_alloc_new _ _
        exact ⟨⟨⟨by rw [cell_of_heap hh]; rfl, free_of_heap hh 0, InsRow.nil _ _, (fun g h => by cases h), lt_of_block hh⟩, by rw [cell_of_heap hh]; rfl, free_of_heap hh 4⟩, by rw [cell_of_heap hh]; rfl, by rw [cell_of_heap hh]; rfl, by rw [cell_of_heap hh]; rfl, Nat.le_refl _, (fun g h => by cases h), Nat.le_of_lt (lt_of_block hh), fun h => h.elim⟩
      have hq0 : Mod noF (wo.setCell ⟨rb k, 5, none⟩ (.int .i64 ((q.length : Int) + 5))) wm := by rw [← hwm]; exact (Mod.refl noF _).alloc _
      have hFR : FreshH wo.heap.size False (f : Nat) (k : Nat) 1 98 := freshS (fun h => h.elim)
      have HFR := Lib.hid hFR
      have HM0 := Lib.hid hM0
      have Hq0 := Lib.hid hq0
      clear hM0 hq0 hwm hFR
      go_loopw [66] (fun i wr => ∃ (j : Nat) (v : Value), j ≤ l.length ∧ i = .int .i64 j ∧ MkA wo.heap.size False (f : Nat) (k : Nat) 1 wr wo.heap.size v (copsCode f k 0 (l.take j)) (clabs (l.take j)) ∧ Mod noF (wo.setCell ⟨rb k, 5, none⟩ (.int .i64 ((q.length : Int) + 5))) wr) (fun i _ => l.length - (intOf i).toNat)
      case atStart => exact ⟨0, .slice none 0 0, Nat.zero_le _, rfl, HM0.out, Hq0.out⟩
      case round =>
        obtain ⟨j, v, hj, rfl, hMk, hmq⟩ := hrel
        by_cases hlj : j < l.length
        · have hd2 : decide ((j : Int) < (l.length : Int)) = true := by simp; omega
          have hji : (j : Int) < (l.length : Int) := by omega
          obtain ⟨x, hxl⟩ : ∃ x, l[j]? = some x := ⟨_, List.getElem?_eq_getElem hlj⟩
          obtain ⟨ua', uc', e', hxx⟩ := Hxw.out wr (HR1.out.mod.trans0 hmq)
          cases e'
          obtain ⟨ub, uoff, rfl, hub, h0, h1⟩ := hxx j (cR x) (by rw [List.getElem?_map, hxl]; rfl)
          have hlen := copsCode_len hf4 k (l.take j) 0
          have hlab := clabs_le (l.take j)
          rw [List.length_take] at hlen hlab
          have htk : l.take (j + 1) = l.take j ++ [x] := by rw [List.take_add_one, hxl]; rfl
          have hsn := copsCode_snoc f k x (l.take j) 0
          have hsl := clabs_snoc x (l.take j)
          rw [← htk, Nat.zero_add] at hsn
          rw [← htk] at hsl
          have hcal := cop_any x HFR.out (fun h => h.elim) hf1 hf4 (by omega) (hMk.quiet ((Mod.refl noF wr).alloc (.cells #[.string (cK x), .int .i64 (cN x)] 63))) (by omega) (by omega) (by omega)
          have Hcal := Lib.hid hcal
          have HMk := Lib.hid hMk
          have Hmq := Lib.hid hmq
          have Hsn := Lib.hid hsn
          have Hsl := Lib.hid hsl
          have h0' : wr.cell? ⟨ub, uoff + j * 2, none⟩ = some (.string (cK x)) := h0
          have h1' : wr.cell? ⟨ub, uoff + j * 2 + 1, none⟩ = some (.int .i64 (cN x)) := h1
          clear hMk hmq hxl hxx htk hsn hsl hlen hlab hcal h0 h1
          generalize hxk : cK x = xk at *
          generalize hxn : cN x = xn at *
          go_wp2_with fail
          refine Hcal.out.mono ?_
          rintro e wz ⟨rfl, v', hMz, hSz⟩
          have HMz := Lib.hid hMz
          have HSz := Lib.hid hSz
          clear hMz hSz Hcal
          go_wp2
          go_roundw
          case rel =>
            refine ⟨j + 1, v', by omega, by go_num, by rw [Hsn.out, Hsl.out]; exact HMz.out, ((Hmq.out.alloc _).trans HSz.out.mod fun x hx e => ?_)⟩
            have h9 := Hsz1.out
            rcases e with e | e
            · omega
            · have := HMk.out.lv x e; omega
          case measure => simp [intOf]; omega
        · have hd2 : decide ((j : Int) < (l.length : Int)) = false := by simp; omega
          obtain rfl : j = l.length := by omega
          rw [List.take_length] at hMk
          have hlen := copsCode_len hf4 k l 0
          have hlab := clabs_le l
          have hcal := part3_ok HFR.out (fun h => h.elim) hf1 hf4 hMk (by omega) (by omega) (by omega)
          have Hcal := Lib.hid hcal
          have HMk := Lib.hid hMk
          have Hmq := Lib.hid hmq
          clear hMk hmq hcal
          go_wp2_with fail
          refine Hcal.out.mono ?_
          rintro e w9 ⟨rfl, v9, hM9, hS9⟩
          have hlen9 : (copsCode f k 0 l ++ preC (Qu.labN (clabs l + 1)) (gcode f 3)).length ≤ 2000 := by
            have : (preC (Qu.labN (clabs l + 1)) (gcode f 3)).length ≤ 70 := part_len2 hf4 (show 3 < 5 by decide) (clabs l)
            rw [List.length_append]; omega
          have hm9 : Mod noF (wo.setCell ⟨rb k, 5, none⟩ (.int .i64 ((q.length : Int) + 5))) w9 := Hmq.out.trans hS9.mod fun x hx e => by
            have h9 := Hsz1.out
            rcases e with e | e
            · omega
            · have := HMk.out.lv x e; omega
          have HM9 := Lib.hid hM9
          have Hm9 := Lib.hid hm9
          clear hM9 hS9 hm9 Hcal
          go_wp2_with fail
          refine (op0_chain (Chain.start HM9.out.m.emit) (by omega) 20 _ rfl).mono ?_
          rintro e wz ⟨rfl, hbz, v', E, G⟩
          have hS := HR.out.size
          have h9 := Hsz1.out
          have hqz : Mod noF (wo.setCell ⟨rb k, 5, none⟩ (.int .i64 ((q.length : Int) + 5))) wz := Hm9.out.trans G.mod fun x hx e => by
            rcases e with e | e
            · omega
            · have := HM9.out.lv x e; omega
          have hcode := E.row.code
          have hown : ∀ g, v'.ownBlock = some g → p.S ≤ g ∧ g < wz.heap.size ∧ (Value.slice ca cb cc).ownBlock ≠ some g := fun g hg => by
            have h10 := HM9.out.hi
            have h11 : wo.heap.size ≤ g := by
              rcases G.new g hg with e | e
              · exact HM9.out.lv g e
              · omega
            refine ⟨by omega, E.row.lt hg, fun e => ?_⟩
            have := (World.ownsRow.lt HR.out.cds.own _ e).2
            omega
          obtain ⟨xa, xc, rfl, -, -⟩ := E.row.slice
          have e0 := E.cell
          simp only [List.length_append, List.length_singleton] at hcode hown e0
          have hcs : cCs f q k = (copsCode f k 0 l ++ preC (Qu.labN (clabs l + 1)) (gcode f 3)) ++ [⟨20, 0, 0, 0, []⟩] := by rw [cCs_get Hl.out]; rfl
          rw [← hcs] at hcode
          have HRz := Lib.hid (HR1.out.quiet hqz)
          have Hcode := Lib.hid hcode
          have Hown := Lib.hid hown
          have hszz : p.S ≤ wz.heap.size := by have := HRz.out.size; omega
          have hbnd : k + 1 ≤ maxLen := by unfold maxLen; omega
          clear E G hcode hown hqz hcs hbz
          go_wp2_with (at_builtin; refine wpList_append_mine _ rfl (.tmp 76) (.tmp 84) 33 rfl 69 i0 (.slice none 0 0) 1 24 Tryd.underlying33 hti hz0 hz1 hz2 rfl (by decide) _ k ((List.range k).map vk) rfl (by exact World.ownsRow.alloc HRz.out.cds.own _) ⟨wz.heap.size, 0, none⟩ 1 1 [.slice xa _ xc] rfl rfl (by exact new_cells_at _ _ _ (by simp)) (one_row _ rfl) hbnd (by omega) ?_; intro v4 w7 hown hgr hfr _; obtain ⟨ya, yb, yc, rfl⟩ := slice_of_own hown; have Hown4 := Lib.hid hown; have Hgr := Lib.hid hgr; have Hfr := Lib.hid hfr; clear hown hgr hfr)
          go_wp2
          go_roundw
          case rel =>
            exact ⟨k + 1, _, by omega, by go_num, (HRz.out.quiet ((Mod.refl noF wz).alloc _)).push HP.out (Hcode.out.frame ((Mod.refl noF wz).alloc _) (fun _ _ e => e)) (fun g hg => ⟨(Hown.out g hg).1, by have := (Hown.out g hg).2.1; simp; omega, (Hown.out g hg).2.2⟩) Hown4.out Hgr.out Hfr.out⟩
          case measure => simp [intOf]; omega
    · have hd : decide ((k : Int) < (q.length : Int)) = false := by simp; omega
      obtain rfl : k = q.length := by omega
      rw [mix_all] at hR
      obtain ⟨ia, ic, hiv, -⟩ := hR.init.cell
      have x0 : wo.cell? ⟨p.B, 0, none⟩ = some (.int .i64 64) := by rw [cell_of_heap hR.base]; rfl
      have x1 : wo.cell? ⟨p.B, 1, none⟩ = some iv := by rw [cell_of_heap hR.base]; rfl
      have x2 : wo.cell? ⟨p.B, 2, none⟩ = some (.slice ra q.length rc) := by rw [cell_of_heap hR.base]; rfl
      have y0 : wo.cell? ⟨p.T2, 0, none⟩ = some (.int .i64 0) := by rw [cell_of_heap hR.res]; rfl
      have y1 : wo.cell? ⟨p.T2, 1, none⟩ = some (.slice none 0 0) := by rw [cell_of_heap hR.res]; rfl
      have y2 : wo.cell? ⟨p.T2, 2, none⟩ = some (.slice none 0 0) := by rw [cell_of_heap hR.res]; rfl
      have yf := free_of_heap hR.res
      have yf0 := yf 0
      have yf1 := yf 1
      have yf2 := yf 2
      rw [hiv, cInit_len] at x1
      have HR := Lib.hid hR
      clear hR hrx yf
      go_wp2
      obtain ⟨wf, hwf⟩ : ∃ wf, wf = (((wo.setCell ⟨p.T2, 0, none⟩ (.int .i64 64)).setCell ⟨p.T2, 1, none⟩ (.slice ia (q.length + 5) ic)).setCell ⟨p.T2, 2, none⟩ (.slice ra q.length rc)) := ⟨_, rfl⟩
      have hMf : Mod (fun x => x = p.T2) wo wf := by rw [hwf]; exact (((Mod.refl (fun x => x = p.T2) wo).setCell (fun _ => rfl) _).setCell (fun _ => rfl) _).setCell (fun _ => rfl) _
      have hh : wf.heap[p.T2]? = some (.cells #[.int .i64 64, .slice ia (q.length + 5) ic, .slice ra q.length rc] 32 (0, 0)) := by
        rw [hwf, Qh.heap_setCell_same (Qh.heap_setCell_same (Qh.heap_setCell_same HR.out.res 0 _) 1 _) 2 _]; rfl
      have z0 : wf.cell? ⟨p.T2, 0, none⟩ = some (.int .i64 64) := by rw [cell_of_heap hh]; rfl
      have z1 : wf.cell? ⟨p.T2, 1, none⟩ = some (.slice ia (q.length + 5) ic) := by rw [cell_of_heap hh]; rfl
      have z2 : wf.cell? ⟨p.T2, 2, none⟩ = some (.slice ra q.length rc) := by rw [cell_of_heap hh]; rfl
      rw [← hwf]
      obtain ⟨p1, p2, p3, p4, p5, p6, p7⟩ := HP.out
      refine bodyPost_ret (v := .tuple #[.agg #[.int .i64 64, .slice ia (q.length + 5) ic, .slice ra q.length rc], .slice ca cb cc, .nilIface]) (by simp [results, Tryd.results30, go_sem, z0, z1, z2]) rfl ⟨_, _, _, vk, rfl, ?_, ?_, ?_, ?_⟩
      · exact HR.out.mod.trans hMf fun x hx e => by omega
      · have := HR.out.init.keep hMf (fun x h1 h2 e => by omega)
        rw [hiv, cInit_len] at this
        exact this.rows (cInit_rows _ _)
      · have := HR.out.regs.keep hMf (fun x h1 h2 e => by omega)
        exact this.rows (fun l hl => by
          obtain ⟨i, -, rfl⟩ := List.mem_map.1 hl
          simp [gReg3])
      · exact (HR.out.cds.keep hMf (fun x h1 h2 e => by omega)).codes
end Go.Proofs.YtppihkneeolomaaDoor
end
/- quiescentlaw2.built: a client is built. -/
section
namespace Go.Proofs.YtppihkneeolomaaDoor
open Go.RowKit Qs Qh Qc
variable {w w' : World} {a : Nat → Addr}
def bq : List (List COp) := [[.enter, .read, .leave]]
theorem bq_fine : (cfG (rawC bq)).1 = 0 := by decide +kernel
theorem bq_nil : cfG [[]] = (0, -1) := by decide +kernel
set_option maxRecDepth 4000 in
set_option maxHeartbeats 8000000 in
theorem built_ok (E : ErrsC w a) (HK : KindsW w) : Calls Tryd.prog 29 #[] w fun e w' => e = .returned (.bool true) ∧ Mod noF w w' := by
  have HE := Lib.hid E
  have HKW := Lib.hid HK
  clear E HK
  go_enter Tryd.func29, Tryd.ntmps29
  go_wp2_with fail
  have hq2 : Mod noF w _ := ((Mod.refl noF w).alloc (.cells #[.string kEnter, .int .i64 0, .string kRead, .int .i64 0, .string kLeave, .int .i64 0] 63)).alloc (.cells #[.slice (some ⟨w.heap.size, 0, none⟩) 3 3] 59)
  have hin : RIn (w.heap.size + 2) ((w.alloc (.cells #[.string kEnter, .int .i64 0, .string kRead, .int .i64 0, .string kLeave, .int .i64 0] 63)).alloc (.cells #[.slice (some ⟨w.heap.size, 0, none⟩) 3 3] 59)) (.slice (some ⟨w.heap.size + 1, 0, none⟩) 1 1) (rawC bq) := by
    have g1 := heap_alloc_new (w.alloc (.cells #[.string kEnter, .int .i64 0, .string kRead, .int .i64 0, .string kLeave, .int .i64 0] 63)) (.cells #[.slice (some ⟨w.heap.size, 0, none⟩) 3 3] 59)
    have g0 := ((Mod.refl noF (w.alloc (.cells #[.string kEnter, .int .i64 0, .string kRead, .int .i64 0, .string kLeave, .int .i64 0] 63))).alloc (.cells #[.slice (some ⟨w.heap.size, 0, none⟩) 3 3] 59)).heap (heap_alloc_new w (.cells #[.string kEnter, .int .i64 0, .string kRead, .int .i64 0, .string kLeave, .int .i64 0] 63)) (fun e => e)
    have hs : (w.alloc (.cells #[.string kEnter, .int .i64 0, .string kRead, .int .i64 0, .string kLeave, .int .i64 0] 63)).heap.size = w.heap.size + 1 := by simp
    rw [hs] at g1
    refine ⟨_, 1, rfl, fun i l hi => ?_⟩
    match i, hi with
    | 0, hi =>
      cases hi
      refine ⟨w.heap.size + 1, 0, .slice (some ⟨w.heap.size, 0, none⟩) 3 3, rfl, by omega, by rw [cell_of_heap g1]; rfl, _, 3, rfl, fun i x hi => ?_⟩
      match i, hi with
      | 0, hi => cases hi; exact ⟨w.heap.size, 0, rfl, by omega, by rw [cell_of_heap g0]; rfl, by rw [cell_of_heap g0]; rfl⟩
      | 1, hi => cases hi; exact ⟨w.heap.size, 0, rfl, by omega, by rw [cell_of_heap g0]; rfl, by rw [cell_of_heap g0]; rfl⟩
      | 2, hi => cases hi; exact ⟨w.heap.size, 0, rfl, by omega, by rw [cell_of_heap g0]; rfl, by rw [cell_of_heap g0]; rfl⟩
      | i + 3, hi => simp at hi
    | i + 1, hi => simp [rawC, bq] at hi
  refine (cbuild_ok (f := 1) (q := bq) (HE.out.keep hq2) (HKW.out.keep hq2) hin (by simp) bq_fine (by decide) (by decide) (by decide) (by decide) (by decide)).mono ?_
  rintro e w3 ⟨iv, rv, cv, vk, rfl, hm3, hI, hR, hC⟩
  obtain ⟨ia, ic, rfl, -⟩ := hI
  obtain ⟨ra, rc, rfl, -⟩ := hR
  obtain ⟨ca, cc, rfl, -⟩ := hC
  have Hm3 := Lib.hid (hq2.trans0 hm3)
  rw [cInit_len, cRegs_len, cCodes_len]
  rw [show bq.length = 1 from rfl]
  clear hin hm3 hq2
  go_wp2_with fail
  have hq5 : Mod noF w3 _ := (((Mod.refl noF w3).alloc (.cells #[.int .i64 64, .slice ia (1 + 5) ic, .slice ra 1 rc] 32)).alloc (.cells #[] 63)).alloc (.cells #[.slice (some ⟨w3.heap.size + 1, 0, none⟩) 0 0] 59)
  have hin : RIn (w3.heap.size + 3) (((w3.alloc (.cells #[.int .i64 64, .slice ia (1 + 5) ic, .slice ra 1 rc] 32)).alloc (.cells #[] 63)).alloc (.cells #[.slice (some ⟨w3.heap.size + 1, 0, none⟩) 0 0] 59)) (.slice (some ⟨w3.heap.size + 2, 0, none⟩) 1 1) [[]] := by
    have g1 := heap_alloc_new ((w3.alloc (.cells #[.int .i64 64, .slice ia (1 + 5) ic, .slice ra 1 rc] 32)).alloc (.cells #[] 63)) (.cells #[.slice (some ⟨w3.heap.size + 1, 0, none⟩) 0 0] 59)
    have hs : ((w3.alloc (.cells #[.int .i64 64, .slice ia (1 + 5) ic, .slice ra 1 rc] 32)).alloc (.cells #[] 63)).heap.size = w3.heap.size + 2 := by simp
    rw [hs] at g1
    refine ⟨_, 1, rfl, fun i l hi => ?_⟩
    match i, hi with
    | 0, hi =>
      cases hi
      exact ⟨w3.heap.size + 2, 0, .slice (some ⟨w3.heap.size + 1, 0, none⟩) 0 0, rfl, by omega, by rw [cell_of_heap g1]; rfl, _, 0, rfl, fun i x hi => by simp at hi⟩
    | i + 1, hi => simp at hi
  refine (cCheck ((HE.out.keep Hm3.out).keep hq5) ((HKW.out.keep Hm3.out).keep hq5) hin (by decide) (by decide)).mono ?_
  rintro e w6 ⟨ev, rfl, hEv, hm6⟩
  rw [bq_nil] at hEv
  obtain rfl := hEv.nil
  have Hm6 := Lib.hid (Hm3.out.trans0 (hq5.trans0 hm6))
  clear hm6 hq5 hEv hin
  go_wp2
  go_ret
  exact ⟨rfl, Hm6.out⟩
end Go.Proofs.YtppihkneeolomaaDoor
end
