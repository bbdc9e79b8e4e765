/- Texts that belong together, joined. -/
import Derived.Test.YtppihkneeolomaaGreatDoorCCm9
import Derived.Test.YtppihkneeolomaaGreatDoorCCm8
import Derived.Test.YtppihkneeolomaaGreatDoorCCm6
import Derived.Deep.RegionHeld3
set_option linter.unusedVariables false
set_option linter.unusedSimpArgs false
set_option linter.unusedSectionVars false
/- quiescentref2.threadError: over any ops of a thread. -/
section
namespace Go.Proofs.YtppihkneeolomaaGreatDoor
open Go.RowKit Qs Qh
/-- What threadError tells. -/
def thrF (l : List ROp) : Int × Bool := match cRowF l with
  | some c => (c, false)
  | none => (0, cSafe l)
def isWF (x : ROp) : Bool := decide (x.1 = kWait) || decide (x.1 = kFlush)
def anyWF (l : List ROp) (p k : Nat) : Bool := ((l.take k).drop p).any isWF
theorem anyWF_same (l : List ROp) (p : Nat) : anyWF l p p = false := by
  unfold anyWF
  rw [List.drop_eq_nil_of_le (by simp; omega)]; rfl
theorem anyWF_succ {l : List ROp} {p k : Nat} {x : ROp} (h : l[k]? = some x) (hp : p ≤ k) : anyWF l p (k + 1) = (anyWF l p k || isWF x) := by
  unfold anyWF
  have hk := (List.getElem?_eq_some_iff.1 h).1
  rw [List.take_add_one, h, List.drop_append_of_le_length (by simp; omega), List.any_append]
  simp
/-- Where what is retired was put, and whether a wait is behind it. -/
def WInv (l : List ROp) (q : Nat) (s : CSt) (pw : Int) : Prop := (s.r = false ∧ pw = -1) ∨ (s.r = true ∧ ∃ p : Nat, p < q ∧ pw = (p : Int) ∧ s.w = anyWF l p q)
theorem WInv.next {l : List ROp} {q : Nat} {s s' : CSt} {pw : Int} {x : ROp} (h : WInv l q s pw) (hx : l[q]? = some x) (hr : s'.r = s.r) (hw : s'.w = (s.w || isWF x)) : WInv l (q + 1) s' pw := by
  rcases h with ⟨h1, h2⟩ | ⟨h1, p, h2, h3, h4⟩
  · exact .inl ⟨by rw [hr, h1], h2⟩
  · exact .inr ⟨by rw [hr, h1], p, by omega, h3, by rw [hw, h4, anyWF_succ hx (by omega)]⟩
theorem WInv.put {l : List ROp} {q : Nat} {s' : CSt} {x : ROp} (hx : l[q]? = some x) (hf : isWF x = false) (hr : s'.r = true) (hw : s'.w = false) : WInv l (q + 1) s' (q : Int) :=
  .inr ⟨hr, q, by omega, rfl, by rw [hw, anyWF_succ hx (Nat.le_refl _), anyWF_same, hf]; rfl⟩
theorem WInv.none {l : List ROp} {q : Nat} {s' : CSt} (hr : s'.r = false) : WInv l q s' (-1) := .inl ⟨hr, rfl⟩
theorem str_neL {a b : ByteArray} (h : ¬ a = b) : (a.toList == b.toList) = false ∧ ¬ a.toList = b.toList := by
  have h1 := str_ne h
  exact ⟨h1, fun e => by rw [e] at h1; simp at h1⟩
variable {N : Nat} {w w' : World} {v u : Value} {l : List ROp}
set_option maxRecDepth 4000 in
set_option maxHeartbeats 64000000 in
theorem thr_ok (H : RRow N w u l) (hlen : l.length ≤ 20) :
    Calls Tryz.prog 57 #[u] w fun e w' => e = .returned (.tuple #[.int .i64 (thrF l).1, .bool (thrF l).2]) ∧ Mod noF w w' := by
  obtain ⟨ra, rb, hres⟩ : ∃ ra rb, thrF l = (ra, rb) := ⟨_, _, rfl⟩
  rw [hres]
  have Hres := Lib.hid hres
  simp only
  clear hres
  obtain ⟨ua, uc, rfl, hxx⟩ := H
  have Hxx := Lib.hid hxx
  clear hxx
  go_enter Tryz.func57, Tryz.ntmps57
  go_wp2
  go_loopw [4, 5, 6, 7] (fun dv pv sv i wr => ∃ (q : Nat) (s : CSt) (di pw : Int), q ≤ l.length ∧ dv = .int .i64 di ∧ pv = .int .i64 pw ∧ sv = .bool (!s.u) ∧ i = .int .i64 q ∧ cRun c0 (l.take q) = (0, s) ∧ di = (s.d : Int) ∧ s.d ≤ q ∧ WInv l q s pw ∧ Mod noF w wr) (fun _ _ _ i _ => l.length - (intOf i).toNat)
  case atStart => exact ⟨0, c0, 0, -1, Nat.zero_le _, rfl, rfl, rfl, rfl, rfl, rfl, Nat.le_refl _, .inl ⟨rfl, rfl⟩, Mod.refl _ _⟩
  case round =>
    generalize wr = w2 at *
    obtain ⟨q, s, di, pw, hq, rfl, rfl, rfl, rfl, hrun, hdi, hdq, hW, hm⟩ := hrel
    have Hrun := Lib.hid hrun
    have HW := Lib.hid hW
    have Hm := Lib.hid hm
    clear hrun hW hm
    by_cases hlt : q < l.length
    · have hd : decide ((q : Int) < (l.length : Int)) = true := by simp; omega
      have hqi : (q : Int) < (l.length : Int) := by omega
      obtain ⟨x, hxl⟩ : ∃ x, l[q]? = some x := ⟨_, List.getElem?_eq_getElem hlt⟩
      obtain ⟨ub, uoff, rfl, hub, h0, h1⟩ := Hxx.out q x hxl
      have h0 := Hm.out.cell h0 (fun e => e)
      have h1 := Hm.out.cell h1 (fun e => e)
      have Hxl := Lib.hid hxl
      clear hxl
      obtain ⟨xs, xn⟩ := x
      simp only at h0 h1
      cases hk : memK kindsC xs with
      | false =>
        have hcf : cfOp s (xs, xn) = (3, s) := by unfold cfOp; simp [hk]
        have en0 : ¬ xs = ⟨#[101, 110, 116, 101, 114]⟩ := fun e => by
          rw [e, show memK kindsC ⟨#[101, 110, 116, 101, 114]⟩ = true by decide +kernel] at hk; cases hk
        obtain ⟨e0, f0⟩ := str_neL en0
        rw [show ((⟨#[101, 110, 116, 101, 114]⟩ : ByteArray).toList) = [101, 110, 116, 101, 114] from by rw [ByteArray.toList_eq]] at e0 f0
        clear en0
        have en1 : ¬ xs = ⟨#[108, 101, 97, 118, 101]⟩ := fun e => by
          rw [e, show memK kindsC ⟨#[108, 101, 97, 118, 101]⟩ = true by decide +kernel] at hk; cases hk
        obtain ⟨e1, f1⟩ := str_neL en1
        rw [show ((⟨#[108, 101, 97, 118, 101]⟩ : ByteArray).toList) = [108, 101, 97, 118, 101] from by rw [ByteArray.toList_eq]] at e1 f1
        clear en1
        have en2 : ¬ xs = ⟨#[114, 101, 115, 116]⟩ := fun e => by
          rw [e, show memK kindsC ⟨#[114, 101, 115, 116]⟩ = true by decide +kernel] at hk; cases hk
        obtain ⟨e2, f2⟩ := str_neL en2
        rw [show ((⟨#[114, 101, 115, 116]⟩ : ByteArray).toList) = [114, 101, 115, 116] from by rw [ByteArray.toList_eq]] at e2 f2
        clear en2
        have en3 : ¬ xs = ⟨#[119, 97, 105, 116]⟩ := fun e => by
          rw [e, show memK kindsC ⟨#[119, 97, 105, 116]⟩ = true by decide +kernel] at hk; cases hk
        obtain ⟨e3, f3⟩ := str_neL en3
        rw [show ((⟨#[119, 97, 105, 116]⟩ : ByteArray).toList) = [119, 97, 105, 116] from by rw [ByteArray.toList_eq]] at e3 f3
        clear en3
        have en4 : ¬ xs = ⟨#[114, 101, 97, 100]⟩ := fun e => by
          rw [e, show memK kindsC ⟨#[114, 101, 97, 100]⟩ = true by decide +kernel] at hk; cases hk
        obtain ⟨e4, f4⟩ := str_neL en4
        rw [show ((⟨#[114, 101, 97, 100]⟩ : ByteArray).toList) = [114, 101, 97, 100] from by rw [ByteArray.toList_eq]] at e4 f4
        clear en4
        have en5 : ¬ xs = ⟨#[112, 117, 116]⟩ := fun e => by
          rw [e, show memK kindsC ⟨#[112, 117, 116]⟩ = true by decide +kernel] at hk; cases hk
        obtain ⟨e5, f5⟩ := str_neL en5
        rw [show ((⟨#[112, 117, 116]⟩ : ByteArray).toList) = [112, 117, 116] from by rw [ByteArray.toList_eq]] at e5 f5
        clear en5
        have en6 : ¬ xs = ⟨#[100, 114, 111, 112]⟩ := fun e => by
          rw [e, show memK kindsC ⟨#[100, 114, 111, 112]⟩ = true by decide +kernel] at hk; cases hk
        obtain ⟨e6, f6⟩ := str_neL en6
        rw [show ((⟨#[100, 114, 111, 112]⟩ : ByteArray).toList) = [100, 114, 111, 112] from by rw [ByteArray.toList_eq]] at e6 f6
        clear en6
        have en7 : ¬ xs = ⟨#[108, 97, 116, 101, 114]⟩ := fun e => by
          rw [e, show memK kindsC ⟨#[108, 97, 116, 101, 114]⟩ = true by decide +kernel] at hk; cases hk
        obtain ⟨e7, f7⟩ := str_neL en7
        rw [show ((⟨#[108, 97, 116, 101, 114]⟩ : ByteArray).toList) = [108, 97, 116, 101, 114] from by rw [ByteArray.toList_eq]] at e7 f7
        clear en7
        have en8 : ¬ xs = ⟨#[102, 108, 117, 115, 104]⟩ := fun e => by
          rw [e, show memK kindsC ⟨#[102, 108, 117, 115, 104]⟩ = true by decide +kernel] at hk; cases hk
        obtain ⟨e8, f8⟩ := str_neL en8
        rw [show ((⟨#[102, 108, 117, 115, 104]⟩ : ByteArray).toList) = [102, 108, 117, 115, 104] from by rw [ByteArray.toList_eq]] at e8 f8
        clear en8
        have hrF := cRowF_fault Hxl.out Hrun.out (by rw [hcf]; simp)
        rw [hcf] at hrF
        have ht : thrF l = (3, false) := by unfold thrF; rw [hrF]
        rw [Hres.out] at ht
        obtain ⟨rfl, rfl⟩ := Prod.mk.inj ht
        clear hrF hcf ht hk
        go_wp2
        go_ret2
        exact ⟨rfl, Hm.out.alloc _⟩
      | true =>
        obtain ⟨sd, sr, sw, su⟩ := s
        simp only at hdi hdq
        rcases kinds_cases hk with rfl | rfl | rfl | rfl | rfl | rfl | rfl | rfl | rfl
        · replace h0 : w2.cell? ⟨ub, uoff + q * 2, none⟩ = some (.string ⟨#[101, 110, 116, 101, 114]⟩) := h0
          replace Hxl : Hid (l[q]? = some (⟨#[101, 110, 116, 101, 114]⟩, xn)) := Hxl
          have e0 : ((⟨#[101, 110, 116, 101, 114]⟩ : ByteArray).toList == (⟨#[101, 110, 116, 101, 114]⟩ : ByteArray).toList) = true := by simp
          have e1 : ((⟨#[101, 110, 116, 101, 114]⟩ : ByteArray).toList == (⟨#[108, 101, 97, 118, 101]⟩ : ByteArray).toList) = false := by
            rw [ByteArray.toList_eq, ByteArray.toList_eq]; rfl
          have e2 : ((⟨#[101, 110, 116, 101, 114]⟩ : ByteArray).toList == (⟨#[114, 101, 115, 116]⟩ : ByteArray).toList) = false := by
            rw [ByteArray.toList_eq, ByteArray.toList_eq]; rfl
          have e3 : ((⟨#[101, 110, 116, 101, 114]⟩ : ByteArray).toList == (⟨#[119, 97, 105, 116]⟩ : ByteArray).toList) = false := by
            rw [ByteArray.toList_eq, ByteArray.toList_eq]; rfl
          have e4 : ((⟨#[101, 110, 116, 101, 114]⟩ : ByteArray).toList == (⟨#[114, 101, 97, 100]⟩ : ByteArray).toList) = false := by
            rw [ByteArray.toList_eq, ByteArray.toList_eq]; rfl
          have e5 : ((⟨#[101, 110, 116, 101, 114]⟩ : ByteArray).toList == (⟨#[112, 117, 116]⟩ : ByteArray).toList) = false := by
            rw [ByteArray.toList_eq, ByteArray.toList_eq]; rfl
          have e6 : ((⟨#[101, 110, 116, 101, 114]⟩ : ByteArray).toList == (⟨#[100, 114, 111, 112]⟩ : ByteArray).toList) = false := by
            rw [ByteArray.toList_eq, ByteArray.toList_eq]; rfl
          have e7 : ((⟨#[101, 110, 116, 101, 114]⟩ : ByteArray).toList == (⟨#[108, 97, 116, 101, 114]⟩ : ByteArray).toList) = false := by
            rw [ByteArray.toList_eq, ByteArray.toList_eq]; rfl
          have e8 : ((⟨#[101, 110, 116, 101, 114]⟩ : ByteArray).toList == (⟨#[102, 108, 117, 115, 104]⟩ : ByteArray).toList) = false := by
            rw [ByteArray.toList_eq, ByteArray.toList_eq]; rfl
          by_cases hn : xn = 0
          · subst hn
            have hcf : cfOp ⟨sd, sr, sw, su⟩ (⟨#[101, 110, 116, 101, 114]⟩, 0) = (0, ⟨sd + 1, sr, sw, su⟩) := by
              unfold cfOp
              have hm : memK kindsC ⟨#[101, 110, 116, 101, 114]⟩ = true := by decide +kernel
              simp [hm, kEnter, kLeave, kRest, kWait, kRead, kPut, kDrop, kLater, kFlush]
            have hnx : WInv l (q + 1) ⟨sd + 1, sr, sw, su⟩ pw := HW.out.next Hxl.out rfl (by simp [isWF, kWait, kFlush])
            have Hnx := Lib.hid hnx
            clear hnx
            have hts := cRun_take_succ l q c0 Hxl.out Hrun.out
            rw [hcf, if_neg (by simp)] at hts
            have Hts := Lib.hid hts
            clear hts hcf hk
            go_wp2
            go_roundw
            case rel => exact ⟨q + 1, ⟨sd + 1, sr, sw, su⟩, _, _, by omega, rfl, rfl, rfl, by go_num, Hts.out, (by first | omega | (simp only; omega) | (simp only; done)), (by first | omega | (simp only; omega) | (simp only; done)), Hnx.out, Hm.out.alloc _⟩
            case measure => simp [intOf]; omega
          · have n1 : (xn == 0) = false := by simpa using hn
            have n2 : decide (xn = 0) = false := by simpa using hn
            have hcf : cfOp ⟨sd, sr, sw, su⟩ (⟨#[101, 110, 116, 101, 114]⟩, xn) = (3, ⟨sd, sr, sw, su⟩) := by
              unfold cfOp
              have hm : memK kindsC ⟨#[101, 110, 116, 101, 114]⟩ = true := by decide +kernel
              simp [hm, kEnter, kLeave, kRest, kWait, kRead, kPut, kDrop, kLater, kFlush, hn]
            have hrF := cRowF_fault Hxl.out Hrun.out (by rw [hcf]; simp)
            rw [hcf] at hrF
            have ht : thrF l = (3, false) := by unfold thrF; rw [hrF]
            rw [Hres.out] at ht
            obtain ⟨rfl, rfl⟩ := Prod.mk.inj ht
            clear hrF hcf ht hk hdi hn
            go_wp2
            go_ret2
            exact ⟨rfl, Hm.out.alloc _⟩
        · replace h0 : w2.cell? ⟨ub, uoff + q * 2, none⟩ = some (.string ⟨#[108, 101, 97, 118, 101]⟩) := h0
          replace Hxl : Hid (l[q]? = some (⟨#[108, 101, 97, 118, 101]⟩, xn)) := Hxl
          have e0 : ((⟨#[108, 101, 97, 118, 101]⟩ : ByteArray).toList == (⟨#[101, 110, 116, 101, 114]⟩ : ByteArray).toList) = false := by
            rw [ByteArray.toList_eq, ByteArray.toList_eq]; rfl
          have e1 : ((⟨#[108, 101, 97, 118, 101]⟩ : ByteArray).toList == (⟨#[108, 101, 97, 118, 101]⟩ : ByteArray).toList) = true := by simp
          have e2 : ((⟨#[108, 101, 97, 118, 101]⟩ : ByteArray).toList == (⟨#[114, 101, 115, 116]⟩ : ByteArray).toList) = false := by
            rw [ByteArray.toList_eq, ByteArray.toList_eq]; rfl
          have e3 : ((⟨#[108, 101, 97, 118, 101]⟩ : ByteArray).toList == (⟨#[119, 97, 105, 116]⟩ : ByteArray).toList) = false := by
            rw [ByteArray.toList_eq, ByteArray.toList_eq]; rfl
          have e4 : ((⟨#[108, 101, 97, 118, 101]⟩ : ByteArray).toList == (⟨#[114, 101, 97, 100]⟩ : ByteArray).toList) = false := by
            rw [ByteArray.toList_eq, ByteArray.toList_eq]; rfl
          have e5 : ((⟨#[108, 101, 97, 118, 101]⟩ : ByteArray).toList == (⟨#[112, 117, 116]⟩ : ByteArray).toList) = false := by
            rw [ByteArray.toList_eq, ByteArray.toList_eq]; rfl
          have e6 : ((⟨#[108, 101, 97, 118, 101]⟩ : ByteArray).toList == (⟨#[100, 114, 111, 112]⟩ : ByteArray).toList) = false := by
            rw [ByteArray.toList_eq, ByteArray.toList_eq]; rfl
          have e7 : ((⟨#[108, 101, 97, 118, 101]⟩ : ByteArray).toList == (⟨#[108, 97, 116, 101, 114]⟩ : ByteArray).toList) = false := by
            rw [ByteArray.toList_eq, ByteArray.toList_eq]; rfl
          have e8 : ((⟨#[108, 101, 97, 118, 101]⟩ : ByteArray).toList == (⟨#[102, 108, 117, 115, 104]⟩ : ByteArray).toList) = false := by
            rw [ByteArray.toList_eq, ByteArray.toList_eq]; rfl
          by_cases hn : xn = 0
          · subst hn
            rcases (by omega : sd = 0 ∨ 1 ≤ sd) with rfl | hs1
            · obtain rfl : di = 0 := by omega
              have hcf : cfOp ⟨0, sr, sw, su⟩ (⟨#[108, 101, 97, 118, 101]⟩, 0) = (8, ⟨0, sr, sw, su⟩) := by
                unfold cfOp
                have hm : memK kindsC ⟨#[108, 101, 97, 118, 101]⟩ = true := by decide +kernel
                simp [hm, kEnter, kLeave, kRest, kWait, kRead, kPut, kDrop, kLater, kFlush]
              have hrF := cRowF_fault Hxl.out Hrun.out (by rw [hcf]; simp)
              rw [hcf] at hrF
              have ht : thrF l = (8, false) := by unfold thrF; rw [hrF]
              rw [Hres.out] at ht
              obtain ⟨rfl, rfl⟩ := Prod.mk.inj ht
              clear hrF hcf ht hk hdi
              go_wp2
              go_ret2
              exact ⟨rfl, Hm.out.alloc _⟩
            · have dd : decide (di - 1 < 0) = false := by simp; omega
              have h20 : 0 ≤ di ∧ di ≤ 20 := by omega
              have hs0 : ¬ sd = 0 := by omega
              have hcf : cfOp ⟨sd, sr, sw, su⟩ (⟨#[108, 101, 97, 118, 101]⟩, 0) = (0, ⟨sd - 1, sr, sw, su⟩) := by
                unfold cfOp
                have hm : memK kindsC ⟨#[108, 101, 97, 118, 101]⟩ = true := by decide +kernel
                simp [hm, kEnter, kLeave, kRest, kWait, kRead, kPut, kDrop, kLater, kFlush, hs0]
              have hnx : WInv l (q + 1) ⟨sd - 1, sr, sw, su⟩ pw := HW.out.next Hxl.out rfl (by simp [isWF, kWait, kFlush])
              have Hnx := Lib.hid hnx
              clear hnx hs0
              have hts := cRun_take_succ l q c0 Hxl.out Hrun.out
              rw [hcf, if_neg (by simp)] at hts
              have Hts := Lib.hid hts
              clear hts hcf hk
              go_wp2
              go_roundw
              case rel => exact ⟨q + 1, ⟨sd - 1, sr, sw, su⟩, _, _, by omega, rfl, rfl, rfl, by go_num, Hts.out, (by first | omega | (simp only; omega) | (simp only; done)), (by first | omega | (simp only; omega) | (simp only; done)), Hnx.out, Hm.out.alloc _⟩
              case measure => simp [intOf]; omega
          · have n1 : (xn == 0) = false := by simpa using hn
            have n2 : decide (xn = 0) = false := by simpa using hn
            have hcf : cfOp ⟨sd, sr, sw, su⟩ (⟨#[108, 101, 97, 118, 101]⟩, xn) = (3, ⟨sd, sr, sw, su⟩) := by
              unfold cfOp
              have hm : memK kindsC ⟨#[108, 101, 97, 118, 101]⟩ = true := by decide +kernel
              simp [hm, kEnter, kLeave, kRest, kWait, kRead, kPut, kDrop, kLater, kFlush, hn]
            have hrF := cRowF_fault Hxl.out Hrun.out (by rw [hcf]; simp)
            rw [hcf] at hrF
            have ht : thrF l = (3, false) := by unfold thrF; rw [hrF]
            rw [Hres.out] at ht
            obtain ⟨rfl, rfl⟩ := Prod.mk.inj ht
            clear hrF hcf ht hk hdi hn
            go_wp2
            go_ret2
            exact ⟨rfl, Hm.out.alloc _⟩
        · replace h0 : w2.cell? ⟨ub, uoff + q * 2, none⟩ = some (.string ⟨#[114, 101, 115, 116]⟩) := h0
          replace Hxl : Hid (l[q]? = some (⟨#[114, 101, 115, 116]⟩, xn)) := Hxl
          have e0 : ((⟨#[114, 101, 115, 116]⟩ : ByteArray).toList == (⟨#[101, 110, 116, 101, 114]⟩ : ByteArray).toList) = false := by
            rw [ByteArray.toList_eq, ByteArray.toList_eq]; rfl
          have e1 : ((⟨#[114, 101, 115, 116]⟩ : ByteArray).toList == (⟨#[108, 101, 97, 118, 101]⟩ : ByteArray).toList) = false := by
            rw [ByteArray.toList_eq, ByteArray.toList_eq]; rfl
          have e2 : ((⟨#[114, 101, 115, 116]⟩ : ByteArray).toList == (⟨#[114, 101, 115, 116]⟩ : ByteArray).toList) = true := by simp
          have e3 : ((⟨#[114, 101, 115, 116]⟩ : ByteArray).toList == (⟨#[119, 97, 105, 116]⟩ : ByteArray).toList) = false := by
            rw [ByteArray.toList_eq, ByteArray.toList_eq]; rfl
          have e4 : ((⟨#[114, 101, 115, 116]⟩ : ByteArray).toList == (⟨#[114, 101, 97, 100]⟩ : ByteArray).toList) = false := by
            rw [ByteArray.toList_eq, ByteArray.toList_eq]; rfl
          have e5 : ((⟨#[114, 101, 115, 116]⟩ : ByteArray).toList == (⟨#[112, 117, 116]⟩ : ByteArray).toList) = false := by
            rw [ByteArray.toList_eq, ByteArray.toList_eq]; rfl
          have e6 : ((⟨#[114, 101, 115, 116]⟩ : ByteArray).toList == (⟨#[100, 114, 111, 112]⟩ : ByteArray).toList) = false := by
            rw [ByteArray.toList_eq, ByteArray.toList_eq]; rfl
          have e7 : ((⟨#[114, 101, 115, 116]⟩ : ByteArray).toList == (⟨#[108, 97, 116, 101, 114]⟩ : ByteArray).toList) = false := by
            rw [ByteArray.toList_eq, ByteArray.toList_eq]; rfl
          have e8 : ((⟨#[114, 101, 115, 116]⟩ : ByteArray).toList == (⟨#[102, 108, 117, 115, 104]⟩ : ByteArray).toList) = false := by
            rw [ByteArray.toList_eq, ByteArray.toList_eq]; rfl
          by_cases hn : xn = 0
          · subst hn
            rcases (by omega : sd = 0 ∨ 1 ≤ sd) with rfl | hs1
            · obtain rfl : di = 0 := by omega
              have hcf : cfOp ⟨0, sr, sw, su⟩ (⟨#[114, 101, 115, 116]⟩, 0) = (0, ⟨0, sr, sw, su⟩) := by
                unfold cfOp
                have hm : memK kindsC ⟨#[114, 101, 115, 116]⟩ = true := by decide +kernel
                simp [hm, kEnter, kLeave, kRest, kWait, kRead, kPut, kDrop, kLater, kFlush]
              have hnx : WInv l (q + 1) ⟨0, sr, sw, su⟩ pw := HW.out.next Hxl.out rfl (by simp [isWF, kWait, kFlush])
              have Hnx := Lib.hid hnx
              clear hnx
              have hts := cRun_take_succ l q c0 Hxl.out Hrun.out
              rw [hcf, if_neg (by simp)] at hts
              have Hts := Lib.hid hts
              clear hts hcf hk hdi
              go_wp2
              go_roundw
              case rel => exact ⟨q + 1, ⟨0, sr, sw, su⟩, _, _, by omega, rfl, rfl, rfl, by go_num, Hts.out, (by first | omega | (simp only; omega) | (simp only; done)), (by first | omega | (simp only; omega) | (simp only; done)), Hnx.out, Hm.out.alloc _⟩
              case measure => simp [intOf]; omega
            · have dd : decide (0 < di) = true := by simp; omega
              have hs0 : ¬ sd = 0 := by omega
              have hcf : cfOp ⟨sd, sr, sw, su⟩ (⟨#[114, 101, 115, 116]⟩, 0) = (8, ⟨sd, sr, sw, su⟩) := by
                unfold cfOp
                have hm : memK kindsC ⟨#[114, 101, 115, 116]⟩ = true := by decide +kernel
                simp [hm, kEnter, kLeave, kRest, kWait, kRead, kPut, kDrop, kLater, kFlush, hs0]
              have hrF := cRowF_fault Hxl.out Hrun.out (by rw [hcf]; simp)
              rw [hcf] at hrF
              have ht : thrF l = (8, false) := by unfold thrF; rw [hrF]
              rw [Hres.out] at ht
              obtain ⟨rfl, rfl⟩ := Prod.mk.inj ht
              clear hrF hcf ht hk hdi hs0
              go_wp2
              go_ret2
              exact ⟨rfl, Hm.out.alloc _⟩
          · have n1 : (xn == 0) = false := by simpa using hn
            have n2 : decide (xn = 0) = false := by simpa using hn
            have hcf : cfOp ⟨sd, sr, sw, su⟩ (⟨#[114, 101, 115, 116]⟩, xn) = (3, ⟨sd, sr, sw, su⟩) := by
              unfold cfOp
              have hm : memK kindsC ⟨#[114, 101, 115, 116]⟩ = true := by decide +kernel
              simp [hm, kEnter, kLeave, kRest, kWait, kRead, kPut, kDrop, kLater, kFlush, hn]
            have hrF := cRowF_fault Hxl.out Hrun.out (by rw [hcf]; simp)
            rw [hcf] at hrF
            have ht : thrF l = (3, false) := by unfold thrF; rw [hrF]
            rw [Hres.out] at ht
            obtain ⟨rfl, rfl⟩ := Prod.mk.inj ht
            clear hrF hcf ht hk hdi hn
            go_wp2
            go_ret2
            exact ⟨rfl, Hm.out.alloc _⟩
        · replace h0 : w2.cell? ⟨ub, uoff + q * 2, none⟩ = some (.string ⟨#[119, 97, 105, 116]⟩) := h0
          replace Hxl : Hid (l[q]? = some (⟨#[119, 97, 105, 116]⟩, xn)) := Hxl
          have e0 : ((⟨#[119, 97, 105, 116]⟩ : ByteArray).toList == (⟨#[101, 110, 116, 101, 114]⟩ : ByteArray).toList) = false := by
            rw [ByteArray.toList_eq, ByteArray.toList_eq]; rfl
          have e1 : ((⟨#[119, 97, 105, 116]⟩ : ByteArray).toList == (⟨#[108, 101, 97, 118, 101]⟩ : ByteArray).toList) = false := by
            rw [ByteArray.toList_eq, ByteArray.toList_eq]; rfl
          have e2 : ((⟨#[119, 97, 105, 116]⟩ : ByteArray).toList == (⟨#[114, 101, 115, 116]⟩ : ByteArray).toList) = false := by
            rw [ByteArray.toList_eq, ByteArray.toList_eq]; rfl
          have e3 : ((⟨#[119, 97, 105, 116]⟩ : ByteArray).toList == (⟨#[119, 97, 105, 116]⟩ : ByteArray).toList) = true := by simp
          have e4 : ((⟨#[119, 97, 105, 116]⟩ : ByteArray).toList == (⟨#[114, 101, 97, 100]⟩ : ByteArray).toList) = false := by
            rw [ByteArray.toList_eq, ByteArray.toList_eq]; rfl
          have e5 : ((⟨#[119, 97, 105, 116]⟩ : ByteArray).toList == (⟨#[112, 117, 116]⟩ : ByteArray).toList) = false := by
            rw [ByteArray.toList_eq, ByteArray.toList_eq]; rfl
          have e6 : ((⟨#[119, 97, 105, 116]⟩ : ByteArray).toList == (⟨#[100, 114, 111, 112]⟩ : ByteArray).toList) = false := by
            rw [ByteArray.toList_eq, ByteArray.toList_eq]; rfl
          have e7 : ((⟨#[119, 97, 105, 116]⟩ : ByteArray).toList == (⟨#[108, 97, 116, 101, 114]⟩ : ByteArray).toList) = false := by
            rw [ByteArray.toList_eq, ByteArray.toList_eq]; rfl
          have e8 : ((⟨#[119, 97, 105, 116]⟩ : ByteArray).toList == (⟨#[102, 108, 117, 115, 104]⟩ : ByteArray).toList) = false := by
            rw [ByteArray.toList_eq, ByteArray.toList_eq]; rfl
          by_cases hn : xn = 0
          · subst hn
            rcases (by omega : sd = 0 ∨ 1 ≤ sd) with rfl | hs1
            · obtain rfl : di = 0 := by omega
              have hcf : cfOp ⟨0, sr, sw, su⟩ (⟨#[119, 97, 105, 116]⟩, 0) = (0, ⟨0, sr, true, su⟩) := by
                unfold cfOp
                have hm : memK kindsC ⟨#[119, 97, 105, 116]⟩ = true := by decide +kernel
                simp [hm, kEnter, kLeave, kRest, kWait, kRead, kPut, kDrop, kLater, kFlush]
              have hnx : WInv l (q + 1) ⟨0, sr, true, su⟩ pw := HW.out.next Hxl.out rfl (by simp [isWF, kWait, kFlush])
              have Hnx := Lib.hid hnx
              clear hnx
              have hts := cRun_take_succ l q c0 Hxl.out Hrun.out
              rw [hcf, if_neg (by simp)] at hts
              have Hts := Lib.hid hts
              clear hts hcf hk hdi
              go_wp2
              go_roundw
              case rel => exact ⟨q + 1, ⟨0, sr, true, su⟩, _, _, by omega, rfl, rfl, rfl, by go_num, Hts.out, (by first | omega | (simp only; omega) | (simp only; done)), (by first | omega | (simp only; omega) | (simp only; done)), Hnx.out, Hm.out.alloc _⟩
              case measure => simp [intOf]; omega
            · have dd : decide (0 < di) = true := by simp; omega
              have hs0 : ¬ sd = 0 := by omega
              have hcf : cfOp ⟨sd, sr, sw, su⟩ (⟨#[119, 97, 105, 116]⟩, 0) = (8, ⟨sd, sr, sw, su⟩) := by
                unfold cfOp
                have hm : memK kindsC ⟨#[119, 97, 105, 116]⟩ = true := by decide +kernel
                simp [hm, kEnter, kLeave, kRest, kWait, kRead, kPut, kDrop, kLater, kFlush, hs0]
              have hrF := cRowF_fault Hxl.out Hrun.out (by rw [hcf]; simp)
              rw [hcf] at hrF
              have ht : thrF l = (8, false) := by unfold thrF; rw [hrF]
              rw [Hres.out] at ht
              obtain ⟨rfl, rfl⟩ := Prod.mk.inj ht
              clear hrF hcf ht hk hdi hs0
              go_wp2
              go_ret2
              exact ⟨rfl, Hm.out.alloc _⟩
          · have n1 : (xn == 0) = false := by simpa using hn
            have n2 : decide (xn = 0) = false := by simpa using hn
            have hcf : cfOp ⟨sd, sr, sw, su⟩ (⟨#[119, 97, 105, 116]⟩, xn) = (3, ⟨sd, sr, sw, su⟩) := by
              unfold cfOp
              have hm : memK kindsC ⟨#[119, 97, 105, 116]⟩ = true := by decide +kernel
              simp [hm, kEnter, kLeave, kRest, kWait, kRead, kPut, kDrop, kLater, kFlush, hn]
            have hrF := cRowF_fault Hxl.out Hrun.out (by rw [hcf]; simp)
            rw [hcf] at hrF
            have ht : thrF l = (3, false) := by unfold thrF; rw [hrF]
            rw [Hres.out] at ht
            obtain ⟨rfl, rfl⟩ := Prod.mk.inj ht
            clear hrF hcf ht hk hdi hn
            go_wp2
            go_ret2
            exact ⟨rfl, Hm.out.alloc _⟩
        · replace h0 : w2.cell? ⟨ub, uoff + q * 2, none⟩ = some (.string ⟨#[114, 101, 97, 100]⟩) := h0
          replace Hxl : Hid (l[q]? = some (⟨#[114, 101, 97, 100]⟩, xn)) := Hxl
          have e0 : ((⟨#[114, 101, 97, 100]⟩ : ByteArray).toList == (⟨#[101, 110, 116, 101, 114]⟩ : ByteArray).toList) = false := by
            rw [ByteArray.toList_eq, ByteArray.toList_eq]; rfl
          have e1 : ((⟨#[114, 101, 97, 100]⟩ : ByteArray).toList == (⟨#[108, 101, 97, 118, 101]⟩ : ByteArray).toList) = false := by
            rw [ByteArray.toList_eq, ByteArray.toList_eq]; rfl
          have e2 : ((⟨#[114, 101, 97, 100]⟩ : ByteArray).toList == (⟨#[114, 101, 115, 116]⟩ : ByteArray).toList) = false := by
            rw [ByteArray.toList_eq, ByteArray.toList_eq]; rfl
          have e3 : ((⟨#[114, 101, 97, 100]⟩ : ByteArray).toList == (⟨#[119, 97, 105, 116]⟩ : ByteArray).toList) = false := by
            rw [ByteArray.toList_eq, ByteArray.toList_eq]; rfl
          have e4 : ((⟨#[114, 101, 97, 100]⟩ : ByteArray).toList == (⟨#[114, 101, 97, 100]⟩ : ByteArray).toList) = true := by simp
          have e5 : ((⟨#[114, 101, 97, 100]⟩ : ByteArray).toList == (⟨#[112, 117, 116]⟩ : ByteArray).toList) = false := by
            rw [ByteArray.toList_eq, ByteArray.toList_eq]; rfl
          have e6 : ((⟨#[114, 101, 97, 100]⟩ : ByteArray).toList == (⟨#[100, 114, 111, 112]⟩ : ByteArray).toList) = false := by
            rw [ByteArray.toList_eq, ByteArray.toList_eq]; rfl
          have e7 : ((⟨#[114, 101, 97, 100]⟩ : ByteArray).toList == (⟨#[108, 97, 116, 101, 114]⟩ : ByteArray).toList) = false := by
            rw [ByteArray.toList_eq, ByteArray.toList_eq]; rfl
          have e8 : ((⟨#[114, 101, 97, 100]⟩ : ByteArray).toList == (⟨#[102, 108, 117, 115, 104]⟩ : ByteArray).toList) = false := by
            rw [ByteArray.toList_eq, ByteArray.toList_eq]; rfl
          by_cases hn : xn = 0
          · subst hn
            rcases (by omega : sd = 0 ∨ 1 ≤ sd) with rfl | hs1
            · obtain rfl : di = 0 := by omega
              have hcf : cfOp ⟨0, sr, sw, su⟩ (⟨#[114, 101, 97, 100]⟩, 0) = (8, ⟨0, sr, sw, su⟩) := by
                unfold cfOp
                have hm : memK kindsC ⟨#[114, 101, 97, 100]⟩ = true := by decide +kernel
                simp [hm, kEnter, kLeave, kRest, kWait, kRead, kPut, kDrop, kLater, kFlush]
              have hrF := cRowF_fault Hxl.out Hrun.out (by rw [hcf]; simp)
              rw [hcf] at hrF
              have ht : thrF l = (8, false) := by unfold thrF; rw [hrF]
              rw [Hres.out] at ht
              obtain ⟨rfl, rfl⟩ := Prod.mk.inj ht
              clear hrF hcf ht hk hdi
              go_wp2
              go_ret2
              exact ⟨rfl, Hm.out.alloc _⟩
            · have dd : (di == 0) = false := by simp; omega
              have dd2 : decide (di = 0) = false := by simp; omega
              have hs0 : ¬ sd = 0 := by omega
              have hcf : cfOp ⟨sd, sr, sw, su⟩ (⟨#[114, 101, 97, 100]⟩, 0) = (0, ⟨sd, sr, sw, su⟩) := by
                unfold cfOp
                have hm : memK kindsC ⟨#[114, 101, 97, 100]⟩ = true := by decide +kernel
                simp [hm, kEnter, kLeave, kRest, kWait, kRead, kPut, kDrop, kLater, kFlush, hs0]
              have hnx : WInv l (q + 1) ⟨sd, sr, sw, su⟩ pw := HW.out.next Hxl.out rfl (by simp [isWF, kWait, kFlush])
              have Hnx := Lib.hid hnx
              clear hnx hs0
              have hts := cRun_take_succ l q c0 Hxl.out Hrun.out
              rw [hcf, if_neg (by simp)] at hts
              have Hts := Lib.hid hts
              clear hts hcf hk
              go_wp2
              go_roundw
              case rel => exact ⟨q + 1, ⟨sd, sr, sw, su⟩, _, _, by omega, rfl, rfl, rfl, by go_num, Hts.out, (by first | omega | (simp only; omega) | (simp only; done)), (by first | omega | (simp only; omega) | (simp only; done)), Hnx.out, Hm.out.alloc _⟩
              case measure => simp [intOf]; omega
          · have n1 : (xn == 0) = false := by simpa using hn
            have n2 : decide (xn = 0) = false := by simpa using hn
            have hcf : cfOp ⟨sd, sr, sw, su⟩ (⟨#[114, 101, 97, 100]⟩, xn) = (3, ⟨sd, sr, sw, su⟩) := by
              unfold cfOp
              have hm : memK kindsC ⟨#[114, 101, 97, 100]⟩ = true := by decide +kernel
              simp [hm, kEnter, kLeave, kRest, kWait, kRead, kPut, kDrop, kLater, kFlush, hn]
            have hrF := cRowF_fault Hxl.out Hrun.out (by rw [hcf]; simp)
            rw [hcf] at hrF
            have ht : thrF l = (3, false) := by unfold thrF; rw [hrF]
            rw [Hres.out] at ht
            obtain ⟨rfl, rfl⟩ := Prod.mk.inj ht
            clear hrF hcf ht hk hdi hn
            go_wp2
            go_ret2
            exact ⟨rfl, Hm.out.alloc _⟩
        · replace h0 : w2.cell? ⟨ub, uoff + q * 2, none⟩ = some (.string ⟨#[112, 117, 116]⟩) := h0
          replace Hxl : Hid (l[q]? = some (⟨#[112, 117, 116]⟩, xn)) := Hxl
          have e0 : ((⟨#[112, 117, 116]⟩ : ByteArray).toList == (⟨#[101, 110, 116, 101, 114]⟩ : ByteArray).toList) = false := by
            rw [ByteArray.toList_eq, ByteArray.toList_eq]; rfl
          have e1 : ((⟨#[112, 117, 116]⟩ : ByteArray).toList == (⟨#[108, 101, 97, 118, 101]⟩ : ByteArray).toList) = false := by
            rw [ByteArray.toList_eq, ByteArray.toList_eq]; rfl
          have e2 : ((⟨#[112, 117, 116]⟩ : ByteArray).toList == (⟨#[114, 101, 115, 116]⟩ : ByteArray).toList) = false := by
            rw [ByteArray.toList_eq, ByteArray.toList_eq]; rfl
          have e3 : ((⟨#[112, 117, 116]⟩ : ByteArray).toList == (⟨#[119, 97, 105, 116]⟩ : ByteArray).toList) = false := by
            rw [ByteArray.toList_eq, ByteArray.toList_eq]; rfl
          have e4 : ((⟨#[112, 117, 116]⟩ : ByteArray).toList == (⟨#[114, 101, 97, 100]⟩ : ByteArray).toList) = false := by
            rw [ByteArray.toList_eq, ByteArray.toList_eq]; rfl
          have e5 : ((⟨#[112, 117, 116]⟩ : ByteArray).toList == (⟨#[112, 117, 116]⟩ : ByteArray).toList) = true := by simp
          have e6 : ((⟨#[112, 117, 116]⟩ : ByteArray).toList == (⟨#[100, 114, 111, 112]⟩ : ByteArray).toList) = false := by
            rw [ByteArray.toList_eq, ByteArray.toList_eq]; rfl
          have e7 : ((⟨#[112, 117, 116]⟩ : ByteArray).toList == (⟨#[108, 97, 116, 101, 114]⟩ : ByteArray).toList) = false := by
            rw [ByteArray.toList_eq, ByteArray.toList_eq]; rfl
          have e8 : ((⟨#[112, 117, 116]⟩ : ByteArray).toList == (⟨#[102, 108, 117, 115, 104]⟩ : ByteArray).toList) = false := by
            rw [ByteArray.toList_eq, ByteArray.toList_eq]; rfl
          by_cases hn1 : xn < 1
          · have n1 : decide (xn < 1) = true := by simpa using hn1
            have hcf : cfOp ⟨sd, sr, sw, su⟩ (⟨#[112, 117, 116]⟩, xn) = (2, ⟨sd, sr, sw, su⟩) := by
              unfold cfOp
              have hm : memK kindsC ⟨#[112, 117, 116]⟩ = true := by decide +kernel
              simp [hm, kEnter, kLeave, kRest, kWait, kRead, kPut, kDrop, kLater, kFlush, hn1]
            have hrF := cRowF_fault Hxl.out Hrun.out (by rw [hcf]; simp)
            rw [hcf] at hrF
            have ht : thrF l = (2, false) := by unfold thrF; rw [hrF]
            rw [Hres.out] at ht
            obtain ⟨rfl, rfl⟩ := Prod.mk.inj ht
            clear hrF hcf ht hk hdi
            go_wp2
            go_ret2
            exact ⟨rfl, Hm.out.alloc _⟩
          by_cases hn2 : 1000 < xn
          · have n1 : decide (xn < 1) = false := by simpa using hn1
            have n2 : decide (1000 < xn) = true := by simpa using hn2
            have hcf : cfOp ⟨sd, sr, sw, su⟩ (⟨#[112, 117, 116]⟩, xn) = (2, ⟨sd, sr, sw, su⟩) := by
              unfold cfOp
              have hm : memK kindsC ⟨#[112, 117, 116]⟩ = true := by decide +kernel
              simp [hm, kEnter, kLeave, kRest, kWait, kRead, kPut, kDrop, kLater, kFlush, hn2]
            have hrF := cRowF_fault Hxl.out Hrun.out (by rw [hcf]; simp)
            rw [hcf] at hrF
            have ht : thrF l = (2, false) := by unfold thrF; rw [hrF]
            rw [Hres.out] at ht
            obtain ⟨rfl, rfl⟩ := Prod.mk.inj ht
            clear hrF hcf ht hk hdi
            go_wp2
            go_ret2
            exact ⟨rfl, Hm.out.alloc _⟩
          have n1 : decide (xn < 1) = false := by simpa using hn1
          have n2 : decide (1000 < xn) = false := by simpa using hn2
          rcases (by omega : sd = 0 ∨ 1 ≤ sd) with rfl | hs1
          · obtain rfl : di = 0 := by omega
            cases sr with
            | true =>
              have hcf : cfOp ⟨0, true, sw, su⟩ (⟨#[112, 117, 116]⟩, xn) = (8, ⟨0, true, sw, su⟩) := by
                unfold cfOp
                have hm : memK kindsC ⟨#[112, 117, 116]⟩ = true := by decide +kernel
                simp [hm, kEnter, kLeave, kRest, kWait, kRead, kPut, kDrop, kLater, kFlush, hn1, hn2]
              have dp : decide (0 ≤ pw) = true := by
                rcases HW.out with ⟨h, _⟩ | ⟨_, p, _, h, _⟩
                · cases h
                · simp; omega
              have hrF := cRowF_fault Hxl.out Hrun.out (by rw [hcf]; simp)
              rw [hcf] at hrF
              have ht : thrF l = (8, false) := by unfold thrF; rw [hrF]
              rw [Hres.out] at ht
              obtain ⟨rfl, rfl⟩ := Prod.mk.inj ht
              clear hrF hcf ht hk hdi hn1 hn2
              go_wp2
              go_ret2
              exact ⟨rfl, Hm.out.alloc _⟩
            | false =>
              have hcf : cfOp ⟨0, false, sw, su⟩ (⟨#[112, 117, 116]⟩, xn) = (0, ⟨0, true, false, su⟩) := by
                unfold cfOp
                have hm : memK kindsC ⟨#[112, 117, 116]⟩ = true := by decide +kernel
                simp [hm, kEnter, kLeave, kRest, kWait, kRead, kPut, kDrop, kLater, kFlush, hn1, hn2]
              have dp : decide (0 ≤ pw) = false := by
                rcases HW.out with ⟨_, h⟩ | ⟨h, _⟩
                · simp; omega
                · cases h
              have hnx : WInv l (q + 1) ⟨0, true, false, su⟩ (q : Int) := WInv.put Hxl.out (by simp [isWF, kWait, kFlush]) rfl rfl
              have Hnx := Lib.hid hnx
              clear hnx hn1 hn2
              have hts := cRun_take_succ l q c0 Hxl.out Hrun.out
              rw [hcf, if_neg (by simp)] at hts
              have Hts := Lib.hid hts
              clear hts hcf hk hdi
              go_wp2
              go_roundw
              case rel => exact ⟨q + 1, ⟨0, true, false, su⟩, _, _, by omega, rfl, rfl, rfl, by go_num, Hts.out, (by first | omega | (simp only; omega) | (simp only; done)), (by first | omega | (simp only; omega) | (simp only; done)), Hnx.out, Hm.out.alloc _⟩
              case measure => simp [intOf]; omega
          · have dd : decide (0 < di) = true := by simp; omega
            have hs0 : ¬ sd = 0 := by omega
            have hcf : cfOp ⟨sd, sr, sw, su⟩ (⟨#[112, 117, 116]⟩, xn) = (8, ⟨sd, sr, sw, su⟩) := by
              unfold cfOp
              have hm : memK kindsC ⟨#[112, 117, 116]⟩ = true := by decide +kernel
              simp [hm, kEnter, kLeave, kRest, kWait, kRead, kPut, kDrop, kLater, kFlush, hs0, hn1, hn2]
            have hrF := cRowF_fault Hxl.out Hrun.out (by rw [hcf]; simp)
            rw [hcf] at hrF
            have ht : thrF l = (8, false) := by unfold thrF; rw [hrF]
            rw [Hres.out] at ht
            obtain ⟨rfl, rfl⟩ := Prod.mk.inj ht
            clear hrF hcf ht hk hdi hs0 hn1 hn2
            go_wp2
            go_ret2
            exact ⟨rfl, Hm.out.alloc _⟩
        · replace h0 : w2.cell? ⟨ub, uoff + q * 2, none⟩ = some (.string ⟨#[100, 114, 111, 112]⟩) := h0
          replace Hxl : Hid (l[q]? = some (⟨#[100, 114, 111, 112]⟩, xn)) := Hxl
          have e0 : ((⟨#[100, 114, 111, 112]⟩ : ByteArray).toList == (⟨#[101, 110, 116, 101, 114]⟩ : ByteArray).toList) = false := by
            rw [ByteArray.toList_eq, ByteArray.toList_eq]; rfl
          have e1 : ((⟨#[100, 114, 111, 112]⟩ : ByteArray).toList == (⟨#[108, 101, 97, 118, 101]⟩ : ByteArray).toList) = false := by
            rw [ByteArray.toList_eq, ByteArray.toList_eq]; rfl
          have e2 : ((⟨#[100, 114, 111, 112]⟩ : ByteArray).toList == (⟨#[114, 101, 115, 116]⟩ : ByteArray).toList) = false := by
            rw [ByteArray.toList_eq, ByteArray.toList_eq]; rfl
          have e3 : ((⟨#[100, 114, 111, 112]⟩ : ByteArray).toList == (⟨#[119, 97, 105, 116]⟩ : ByteArray).toList) = false := by
            rw [ByteArray.toList_eq, ByteArray.toList_eq]; rfl
          have e4 : ((⟨#[100, 114, 111, 112]⟩ : ByteArray).toList == (⟨#[114, 101, 97, 100]⟩ : ByteArray).toList) = false := by
            rw [ByteArray.toList_eq, ByteArray.toList_eq]; rfl
          have e5 : ((⟨#[100, 114, 111, 112]⟩ : ByteArray).toList == (⟨#[112, 117, 116]⟩ : ByteArray).toList) = false := by
            rw [ByteArray.toList_eq, ByteArray.toList_eq]; rfl
          have e6 : ((⟨#[100, 114, 111, 112]⟩ : ByteArray).toList == (⟨#[100, 114, 111, 112]⟩ : ByteArray).toList) = true := by simp
          have e7 : ((⟨#[100, 114, 111, 112]⟩ : ByteArray).toList == (⟨#[108, 97, 116, 101, 114]⟩ : ByteArray).toList) = false := by
            rw [ByteArray.toList_eq, ByteArray.toList_eq]; rfl
          have e8 : ((⟨#[100, 114, 111, 112]⟩ : ByteArray).toList == (⟨#[102, 108, 117, 115, 104]⟩ : ByteArray).toList) = false := by
            rw [ByteArray.toList_eq, ByteArray.toList_eq]; rfl
          by_cases hn : xn = 0
          · subst hn
            cases sr with
            | false =>
              have hcf : cfOp ⟨sd, false, sw, su⟩ (⟨#[100, 114, 111, 112]⟩, 0) = (5, ⟨sd, false, sw, su⟩) := by
                unfold cfOp
                have hm : memK kindsC ⟨#[100, 114, 111, 112]⟩ = true := by decide +kernel
                simp [hm, kEnter, kLeave, kRest, kWait, kRead, kPut, kDrop, kLater, kFlush]
              obtain rfl : pw = -1 := by
                rcases HW.out with ⟨_, h⟩ | ⟨h, _⟩
                · exact h
                · cases h
              have hrF := cRowF_fault Hxl.out Hrun.out (by rw [hcf]; simp)
              rw [hcf] at hrF
              have ht : thrF l = (5, false) := by unfold thrF; rw [hrF]
              rw [Hres.out] at ht
              obtain ⟨rfl, rfl⟩ := Prod.mk.inj ht
              clear hrF hcf ht hk hdi
              go_wp2
              go_ret2
              exact ⟨rfl, Hm.out.alloc _⟩
            | true =>
              obtain ⟨p, hpq, rfl, hsw⟩ : ∃ p : Nat, p < q ∧ pw = (p : Int) ∧ sw = anyWF l p q := by
                rcases HW.out with ⟨h, _⟩ | ⟨_, h⟩
                · cases h
                · exact h
              have dp : decide ((p : Int) < 0) = false := by simp
              have Hsw := Lib.hid hsw
              clear hsw hk
              go_wp2
              go_loop [9, 10] (fun bv i => ∃ j : Nat, p ≤ j ∧ j ≤ q ∧ bv = .bool (anyWF l p j) ∧ i = .int .i64 j) (fun _ i => q - (intOf i).toNat)
              case atStart => exact ⟨p, Nat.le_refl _, by omega, by rw [anyWF_same], rfl⟩
              case round =>
                obtain ⟨j, hpj, hjq, rfl, rfl⟩ := hrel
                by_cases hltj : j < q
                · have hdj : decide ((j : Int) < (q : Int)) = true := by simp; omega
                  have hjl : (j : Int) < (l.length : Int) := by omega
                  obtain ⟨y, hyl⟩ : ∃ y, l[j]? = some y := ⟨_, List.getElem?_eq_getElem (by omega)⟩
                  obtain ⟨ub', uoff', e', hub', g0, g1⟩ := Hxx.out j y hyl
                  cases e'
                  have g0 := (Hm.out.alloc (.cells #[.string ⟨#[100, 114, 111, 112]⟩, .int .i64 0] 88)).cell g0 (fun e => e)
                  have hsu := anyWF_succ hyl hpj
                  have Hsu := Lib.hid hsu
                  obtain ⟨ys, yn⟩ := y
                  simp only at g0
                  generalize anyWF l p j = aw at *
                  by_cases hyw : ys = kWait
                  · subst hyw
                    replace g0 : (w2.alloc (.cells #[.string ⟨#[100, 114, 111, 112]⟩, .int .i64 0] 88)).cell? ⟨ub, uoff + j * 2, none⟩ = some (.string ⟨#[119, 97, 105, 116]⟩) := g0
                    have y0 : ((⟨#[119, 97, 105, 116]⟩ : ByteArray).toList == (⟨#[119, 97, 105, 116]⟩ : ByteArray).toList) = true := by simp
                    have hT : anyWF l p (j + 1) = true := by rw [Hsu.out]; simp [isWF]
                    have HT := Lib.hid hT
                    clear hyl hsu hT
                    go_wp2
                    go_round
                    case rel => exact ⟨j + 1, by omega, by omega, by rw [HT.out], by go_num⟩
                    case measure => simp [intOf]; omega
                  · by_cases hyf : ys = kFlush
                    · subst hyf
                      replace g0 : (w2.alloc (.cells #[.string ⟨#[100, 114, 111, 112]⟩, .int .i64 0] 88)).cell? ⟨ub, uoff + j * 2, none⟩ = some (.string ⟨#[102, 108, 117, 115, 104]⟩) := g0
                      have y0 : ((⟨#[102, 108, 117, 115, 104]⟩ : ByteArray).toList == (⟨#[119, 97, 105, 116]⟩ : ByteArray).toList) = false := by
                        rw [ByteArray.toList_eq, ByteArray.toList_eq]; rfl
                      have y1 : ((⟨#[102, 108, 117, 115, 104]⟩ : ByteArray).toList == (⟨#[102, 108, 117, 115, 104]⟩ : ByteArray).toList) = true := by simp
                      have hT : anyWF l p (j + 1) = true := by rw [Hsu.out]; simp [isWF]
                      have HT := Lib.hid hT
                      clear hyl hsu hyw hT
                      go_wp2
                      go_round
                      case rel => exact ⟨j + 1, by omega, by omega, by rw [HT.out], by go_num⟩
                      case measure => simp [intOf]; omega
                    · obtain ⟨y0, z0⟩ := str_neL hyw
                      obtain ⟨y1, z1⟩ := str_neL hyf
                      unfold kWait at y0 z0
                      unfold kFlush at y1 z1
                      rw [show ((⟨#[119, 97, 105, 116]⟩ : ByteArray).toList) = [119, 97, 105, 116] from by rw [ByteArray.toList_eq]] at y0 z0
                      rw [show ((⟨#[102, 108, 117, 115, 104]⟩ : ByteArray).toList) = [102, 108, 117, 115, 104] from by rw [ByteArray.toList_eq]] at y1 z1
                      have hT : anyWF l p (j + 1) = aw := by rw [Hsu.out]; simp [isWF, hyw, hyf]
                      have HT := Lib.hid hT
                      clear hyl hsu hyw hyf hT
                      go_wp2
                      go_round
                      case rel => exact ⟨j + 1, by omega, by omega, by rw [HT.out], by go_num⟩
                      case measure => simp [intOf]; omega
                · have hdj : decide ((j : Int) < (q : Int)) = false := by simp; omega
                  obtain rfl : j = q := by omega
                  rw [← Hsw.out]
                  clear hjq hpj hltj Hsw
                  cases sw with
                  | true =>
                    have hcf : cfOp ⟨sd, true, true, su⟩ (⟨#[100, 114, 111, 112]⟩, 0) = (0, ⟨sd, false, true, su⟩) := by
                      unfold cfOp
                      have hm : memK kindsC ⟨#[100, 114, 111, 112]⟩ = true := by decide +kernel
                      simp [hm, kEnter, kLeave, kRest, kWait, kRead, kPut, kDrop, kLater, kFlush]
                    have hts := cRun_take_succ l j c0 Hxl.out Hrun.out
                    rw [hcf, if_neg (by simp)] at hts
                    have Hts := Lib.hid hts
                    clear hts hcf
                    go_wp2
                    go_roundw
                    case rel => exact ⟨j + 1, ⟨sd, false, true, su⟩, _, _, by omega, rfl, rfl, rfl, by go_num, Hts.out, (by first | omega | (simp only; omega) | (simp only; done)), (by first | omega | (simp only; omega) | (simp only; done)), WInv.none rfl, Hm.out.alloc _⟩
                    case measure => simp [intOf]; omega
                  | false =>
                    have hcf : cfOp ⟨sd, true, false, su⟩ (⟨#[100, 114, 111, 112]⟩, 0) = (0, ⟨sd, false, false, true⟩) := by
                      unfold cfOp
                      have hm : memK kindsC ⟨#[100, 114, 111, 112]⟩ = true := by decide +kernel
                      simp [hm, kEnter, kLeave, kRest, kWait, kRead, kPut, kDrop, kLater, kFlush]
                    have hts := cRun_take_succ l j c0 Hxl.out Hrun.out
                    rw [hcf, if_neg (by simp)] at hts
                    have Hts := Lib.hid hts
                    clear hts hcf
                    go_wp2
                    go_roundw
                    case rel => exact ⟨j + 1, ⟨sd, false, false, true⟩, _, _, by omega, rfl, rfl, rfl, by go_num, Hts.out, (by first | omega | (simp only; omega) | (simp only; done)), (by first | omega | (simp only; omega) | (simp only; done)), WInv.none rfl, Hm.out.alloc _⟩
                    case measure => simp [intOf]; omega
          · have n1 : (xn == 0) = false := by simpa using hn
            have n2 : decide (xn = 0) = false := by simpa using hn
            have hcf : cfOp ⟨sd, sr, sw, su⟩ (⟨#[100, 114, 111, 112]⟩, xn) = (3, ⟨sd, sr, sw, su⟩) := by
              unfold cfOp
              have hm : memK kindsC ⟨#[100, 114, 111, 112]⟩ = true := by decide +kernel
              simp [hm, kEnter, kLeave, kRest, kWait, kRead, kPut, kDrop, kLater, kFlush, hn]
            have hrF := cRowF_fault Hxl.out Hrun.out (by rw [hcf]; simp)
            rw [hcf] at hrF
            have ht : thrF l = (3, false) := by unfold thrF; rw [hrF]
            rw [Hres.out] at ht
            obtain ⟨rfl, rfl⟩ := Prod.mk.inj ht
            clear hrF hcf ht hk hdi hn
            go_wp2
            go_ret2
            exact ⟨rfl, Hm.out.alloc _⟩
        · replace h0 : w2.cell? ⟨ub, uoff + q * 2, none⟩ = some (.string ⟨#[108, 97, 116, 101, 114]⟩) := h0
          replace Hxl : Hid (l[q]? = some (⟨#[108, 97, 116, 101, 114]⟩, xn)) := Hxl
          have e0 : ((⟨#[108, 97, 116, 101, 114]⟩ : ByteArray).toList == (⟨#[101, 110, 116, 101, 114]⟩ : ByteArray).toList) = false := by
            rw [ByteArray.toList_eq, ByteArray.toList_eq]; rfl
          have e1 : ((⟨#[108, 97, 116, 101, 114]⟩ : ByteArray).toList == (⟨#[108, 101, 97, 118, 101]⟩ : ByteArray).toList) = false := by
            rw [ByteArray.toList_eq, ByteArray.toList_eq]; rfl
          have e2 : ((⟨#[108, 97, 116, 101, 114]⟩ : ByteArray).toList == (⟨#[114, 101, 115, 116]⟩ : ByteArray).toList) = false := by
            rw [ByteArray.toList_eq, ByteArray.toList_eq]; rfl
          have e3 : ((⟨#[108, 97, 116, 101, 114]⟩ : ByteArray).toList == (⟨#[119, 97, 105, 116]⟩ : ByteArray).toList) = false := by
            rw [ByteArray.toList_eq, ByteArray.toList_eq]; rfl
          have e4 : ((⟨#[108, 97, 116, 101, 114]⟩ : ByteArray).toList == (⟨#[114, 101, 97, 100]⟩ : ByteArray).toList) = false := by
            rw [ByteArray.toList_eq, ByteArray.toList_eq]; rfl
          have e5 : ((⟨#[108, 97, 116, 101, 114]⟩ : ByteArray).toList == (⟨#[112, 117, 116]⟩ : ByteArray).toList) = false := by
            rw [ByteArray.toList_eq, ByteArray.toList_eq]; rfl
          have e6 : ((⟨#[108, 97, 116, 101, 114]⟩ : ByteArray).toList == (⟨#[100, 114, 111, 112]⟩ : ByteArray).toList) = false := by
            rw [ByteArray.toList_eq, ByteArray.toList_eq]; rfl
          have e7 : ((⟨#[108, 97, 116, 101, 114]⟩ : ByteArray).toList == (⟨#[108, 97, 116, 101, 114]⟩ : ByteArray).toList) = true := by simp
          have e8 : ((⟨#[108, 97, 116, 101, 114]⟩ : ByteArray).toList == (⟨#[102, 108, 117, 115, 104]⟩ : ByteArray).toList) = false := by
            rw [ByteArray.toList_eq, ByteArray.toList_eq]; rfl
          by_cases hn : xn = 0
          · subst hn
            cases sr with
            | false =>
              have hcf : cfOp ⟨sd, false, sw, su⟩ (⟨#[108, 97, 116, 101, 114]⟩, 0) = (5, ⟨sd, false, sw, su⟩) := by
                unfold cfOp
                have hm : memK kindsC ⟨#[108, 97, 116, 101, 114]⟩ = true := by decide +kernel
                simp [hm, kEnter, kLeave, kRest, kWait, kRead, kPut, kDrop, kLater, kFlush]
              obtain rfl : pw = -1 := by
                rcases HW.out with ⟨_, h⟩ | ⟨h, _⟩
                · exact h
                · cases h
              have hrF := cRowF_fault Hxl.out Hrun.out (by rw [hcf]; simp)
              rw [hcf] at hrF
              have ht : thrF l = (5, false) := by unfold thrF; rw [hrF]
              rw [Hres.out] at ht
              obtain ⟨rfl, rfl⟩ := Prod.mk.inj ht
              clear hrF hcf ht hk hdi
              go_wp2
              go_ret2
              exact ⟨rfl, Hm.out.alloc _⟩
            | true =>
              obtain ⟨p, hpq, rfl, hsw⟩ : ∃ p : Nat, p < q ∧ pw = (p : Int) ∧ sw = anyWF l p q := by
                rcases HW.out with ⟨h, _⟩ | ⟨_, h⟩
                · cases h
                · exact h
              have dp : decide ((p : Int) < 0) = false := by simp
              have Hsw := Lib.hid hsw
              clear hsw hk
              go_wp2
              go_loop [9, 10] (fun bv i => ∃ j : Nat, p ≤ j ∧ j ≤ q ∧ bv = .bool (anyWF l p j) ∧ i = .int .i64 j) (fun _ i => q - (intOf i).toNat)
              case atStart => exact ⟨p, Nat.le_refl _, by omega, by rw [anyWF_same], rfl⟩
              case round =>
                obtain ⟨j, hpj, hjq, rfl, rfl⟩ := hrel
                by_cases hltj : j < q
                · have hdj : decide ((j : Int) < (q : Int)) = true := by simp; omega
                  have hjl : (j : Int) < (l.length : Int) := by omega
                  obtain ⟨y, hyl⟩ : ∃ y, l[j]? = some y := ⟨_, List.getElem?_eq_getElem (by omega)⟩
                  obtain ⟨ub', uoff', e', hub', g0, g1⟩ := Hxx.out j y hyl
                  cases e'
                  have g0 := (Hm.out.alloc (.cells #[.string ⟨#[108, 97, 116, 101, 114]⟩, .int .i64 0] 88)).cell g0 (fun e => e)
                  have hsu := anyWF_succ hyl hpj
                  have Hsu := Lib.hid hsu
                  obtain ⟨ys, yn⟩ := y
                  simp only at g0
                  generalize anyWF l p j = aw at *
                  by_cases hyw : ys = kWait
                  · subst hyw
                    replace g0 : (w2.alloc (.cells #[.string ⟨#[108, 97, 116, 101, 114]⟩, .int .i64 0] 88)).cell? ⟨ub, uoff + j * 2, none⟩ = some (.string ⟨#[119, 97, 105, 116]⟩) := g0
                    have y0 : ((⟨#[119, 97, 105, 116]⟩ : ByteArray).toList == (⟨#[119, 97, 105, 116]⟩ : ByteArray).toList) = true := by simp
                    have hT : anyWF l p (j + 1) = true := by rw [Hsu.out]; simp [isWF]
                    have HT := Lib.hid hT
                    clear hyl hsu hT
                    go_wp2
                    go_round
                    case rel => exact ⟨j + 1, by omega, by omega, by rw [HT.out], by go_num⟩
                    case measure => simp [intOf]; omega
                  · by_cases hyf : ys = kFlush
                    · subst hyf
                      replace g0 : (w2.alloc (.cells #[.string ⟨#[108, 97, 116, 101, 114]⟩, .int .i64 0] 88)).cell? ⟨ub, uoff + j * 2, none⟩ = some (.string ⟨#[102, 108, 117, 115, 104]⟩) := g0
                      have y0 : ((⟨#[102, 108, 117, 115, 104]⟩ : ByteArray).toList == (⟨#[119, 97, 105, 116]⟩ : ByteArray).toList) = false := by
                        rw [ByteArray.toList_eq, ByteArray.toList_eq]; rfl
                      have y1 : ((⟨#[102, 108, 117, 115, 104]⟩ : ByteArray).toList == (⟨#[102, 108, 117, 115, 104]⟩ : ByteArray).toList) = true := by simp
                      have hT : anyWF l p (j + 1) = true := by rw [Hsu.out]; simp [isWF]
                      have HT := Lib.hid hT
                      clear hyl hsu hyw hT
                      go_wp2
                      go_round
                      case rel => exact ⟨j + 1, by omega, by omega, by rw [HT.out], by go_num⟩
                      case measure => simp [intOf]; omega
                    · obtain ⟨y0, z0⟩ := str_neL hyw
                      obtain ⟨y1, z1⟩ := str_neL hyf
                      unfold kWait at y0 z0
                      unfold kFlush at y1 z1
                      rw [show ((⟨#[119, 97, 105, 116]⟩ : ByteArray).toList) = [119, 97, 105, 116] from by rw [ByteArray.toList_eq]] at y0 z0
                      rw [show ((⟨#[102, 108, 117, 115, 104]⟩ : ByteArray).toList) = [102, 108, 117, 115, 104] from by rw [ByteArray.toList_eq]] at y1 z1
                      have hT : anyWF l p (j + 1) = aw := by rw [Hsu.out]; simp [isWF, hyw, hyf]
                      have HT := Lib.hid hT
                      clear hyl hsu hyw hyf hT
                      go_wp2
                      go_round
                      case rel => exact ⟨j + 1, by omega, by omega, by rw [HT.out], by go_num⟩
                      case measure => simp [intOf]; omega
                · have hdj : decide ((j : Int) < (q : Int)) = false := by simp; omega
                  obtain rfl : j = q := by omega
                  rw [← Hsw.out]
                  clear hjq hpj hltj Hsw
                  have hcf : cfOp ⟨sd, true, sw, su⟩ (⟨#[108, 97, 116, 101, 114]⟩, 0) = (0, ⟨sd, false, sw, su⟩) := by
                    unfold cfOp
                    have hm : memK kindsC ⟨#[108, 97, 116, 101, 114]⟩ = true := by decide +kernel
                    simp [hm, kEnter, kLeave, kRest, kWait, kRead, kPut, kDrop, kLater, kFlush]
                  have hts := cRun_take_succ l j c0 Hxl.out Hrun.out
                  rw [hcf, if_neg (by simp)] at hts
                  have Hts := Lib.hid hts
                  clear hts hcf
                  go_wp2
                  go_roundw
                  case rel => exact ⟨j + 1, ⟨sd, false, sw, su⟩, _, _, by omega, rfl, rfl, rfl, by go_num, Hts.out, (by first | omega | (simp only; omega) | (simp only; done)), (by first | omega | (simp only; omega) | (simp only; done)), WInv.none rfl, Hm.out.alloc _⟩
                  case measure => simp [intOf]; omega
          · have n1 : (xn == 0) = false := by simpa using hn
            have n2 : decide (xn = 0) = false := by simpa using hn
            have hcf : cfOp ⟨sd, sr, sw, su⟩ (⟨#[108, 97, 116, 101, 114]⟩, xn) = (3, ⟨sd, sr, sw, su⟩) := by
              unfold cfOp
              have hm : memK kindsC ⟨#[108, 97, 116, 101, 114]⟩ = true := by decide +kernel
              simp [hm, kEnter, kLeave, kRest, kWait, kRead, kPut, kDrop, kLater, kFlush, hn]
            have hrF := cRowF_fault Hxl.out Hrun.out (by rw [hcf]; simp)
            rw [hcf] at hrF
            have ht : thrF l = (3, false) := by unfold thrF; rw [hrF]
            rw [Hres.out] at ht
            obtain ⟨rfl, rfl⟩ := Prod.mk.inj ht
            clear hrF hcf ht hk hdi hn
            go_wp2
            go_ret2
            exact ⟨rfl, Hm.out.alloc _⟩
        · replace h0 : w2.cell? ⟨ub, uoff + q * 2, none⟩ = some (.string ⟨#[102, 108, 117, 115, 104]⟩) := h0
          replace Hxl : Hid (l[q]? = some (⟨#[102, 108, 117, 115, 104]⟩, xn)) := Hxl
          have e0 : ((⟨#[102, 108, 117, 115, 104]⟩ : ByteArray).toList == (⟨#[101, 110, 116, 101, 114]⟩ : ByteArray).toList) = false := by
            rw [ByteArray.toList_eq, ByteArray.toList_eq]; rfl
          have e1 : ((⟨#[102, 108, 117, 115, 104]⟩ : ByteArray).toList == (⟨#[108, 101, 97, 118, 101]⟩ : ByteArray).toList) = false := by
            rw [ByteArray.toList_eq, ByteArray.toList_eq]; rfl
          have e2 : ((⟨#[102, 108, 117, 115, 104]⟩ : ByteArray).toList == (⟨#[114, 101, 115, 116]⟩ : ByteArray).toList) = false := by
            rw [ByteArray.toList_eq, ByteArray.toList_eq]; rfl
          have e3 : ((⟨#[102, 108, 117, 115, 104]⟩ : ByteArray).toList == (⟨#[119, 97, 105, 116]⟩ : ByteArray).toList) = false := by
            rw [ByteArray.toList_eq, ByteArray.toList_eq]; rfl
          have e4 : ((⟨#[102, 108, 117, 115, 104]⟩ : ByteArray).toList == (⟨#[114, 101, 97, 100]⟩ : ByteArray).toList) = false := by
            rw [ByteArray.toList_eq, ByteArray.toList_eq]; rfl
          have e5 : ((⟨#[102, 108, 117, 115, 104]⟩ : ByteArray).toList == (⟨#[112, 117, 116]⟩ : ByteArray).toList) = false := by
            rw [ByteArray.toList_eq, ByteArray.toList_eq]; rfl
          have e6 : ((⟨#[102, 108, 117, 115, 104]⟩ : ByteArray).toList == (⟨#[100, 114, 111, 112]⟩ : ByteArray).toList) = false := by
            rw [ByteArray.toList_eq, ByteArray.toList_eq]; rfl
          have e7 : ((⟨#[102, 108, 117, 115, 104]⟩ : ByteArray).toList == (⟨#[108, 97, 116, 101, 114]⟩ : ByteArray).toList) = false := by
            rw [ByteArray.toList_eq, ByteArray.toList_eq]; rfl
          have e8 : ((⟨#[102, 108, 117, 115, 104]⟩ : ByteArray).toList == (⟨#[102, 108, 117, 115, 104]⟩ : ByteArray).toList) = true := by simp
          by_cases hn : xn = 0
          · subst hn
            rcases (by omega : sd = 0 ∨ 1 ≤ sd) with rfl | hs1
            · obtain rfl : di = 0 := by omega
              have hcf : cfOp ⟨0, sr, sw, su⟩ (⟨#[102, 108, 117, 115, 104]⟩, 0) = (0, ⟨0, sr, true, su⟩) := by
                unfold cfOp
                have hm : memK kindsC ⟨#[102, 108, 117, 115, 104]⟩ = true := by decide +kernel
                simp [hm, kEnter, kLeave, kRest, kWait, kRead, kPut, kDrop, kLater, kFlush]
              have hnx : WInv l (q + 1) ⟨0, sr, true, su⟩ pw := HW.out.next Hxl.out rfl (by simp [isWF, kWait, kFlush])
              have Hnx := Lib.hid hnx
              clear hnx
              have hts := cRun_take_succ l q c0 Hxl.out Hrun.out
              rw [hcf, if_neg (by simp)] at hts
              have Hts := Lib.hid hts
              clear hts hcf hk hdi
              go_wp2
              go_roundw
              case rel => exact ⟨q + 1, ⟨0, sr, true, su⟩, _, _, by omega, rfl, rfl, rfl, by go_num, Hts.out, (by first | omega | (simp only; omega) | (simp only; done)), (by first | omega | (simp only; omega) | (simp only; done)), Hnx.out, Hm.out.alloc _⟩
              case measure => simp [intOf]; omega
            · have dd : decide (0 < di) = true := by simp; omega
              have hs0 : ¬ sd = 0 := by omega
              have hcf : cfOp ⟨sd, sr, sw, su⟩ (⟨#[102, 108, 117, 115, 104]⟩, 0) = (8, ⟨sd, sr, sw, su⟩) := by
                unfold cfOp
                have hm : memK kindsC ⟨#[102, 108, 117, 115, 104]⟩ = true := by decide +kernel
                simp [hm, kEnter, kLeave, kRest, kWait, kRead, kPut, kDrop, kLater, kFlush, hs0]
              have hrF := cRowF_fault Hxl.out Hrun.out (by rw [hcf]; simp)
              rw [hcf] at hrF
              have ht : thrF l = (8, false) := by unfold thrF; rw [hrF]
              rw [Hres.out] at ht
              obtain ⟨rfl, rfl⟩ := Prod.mk.inj ht
              clear hrF hcf ht hk hdi hs0
              go_wp2
              go_ret2
              exact ⟨rfl, Hm.out.alloc _⟩
          · have n1 : (xn == 0) = false := by simpa using hn
            have n2 : decide (xn = 0) = false := by simpa using hn
            have hcf : cfOp ⟨sd, sr, sw, su⟩ (⟨#[102, 108, 117, 115, 104]⟩, xn) = (3, ⟨sd, sr, sw, su⟩) := by
              unfold cfOp
              have hm : memK kindsC ⟨#[102, 108, 117, 115, 104]⟩ = true := by decide +kernel
              simp [hm, kEnter, kLeave, kRest, kWait, kRead, kPut, kDrop, kLater, kFlush, hn]
            have hrF := cRowF_fault Hxl.out Hrun.out (by rw [hcf]; simp)
            rw [hcf] at hrF
            have ht : thrF l = (3, false) := by unfold thrF; rw [hrF]
            rw [Hres.out] at ht
            obtain ⟨rfl, rfl⟩ := Prod.mk.inj ht
            clear hrF hcf ht hk hdi hn
            go_wp2
            go_ret2
            exact ⟨rfl, Hm.out.alloc _⟩
    · have hd : decide ((q : Int) < (l.length : Int)) = false := by simp; omega
      obtain rfl : q = l.length := by omega
      have hrun := Hrun.out
      rw [List.take_length] at hrun
      by_cases hs0 : s.d = 0
      · obtain rfl : di = 0 := by omega
        have hrF := cRowF_fine hrun hs0
        have ht : thrF l = (0, !s.u) := by unfold thrF; rw [hrF, cSafe_row hrun]
        rw [Hres.out] at ht
        obtain ⟨rfl, rfl⟩ := Prod.mk.inj ht
        clear hrF hrun ht hs0 hdi
        go_wp2
        go_ret2
        exact ⟨rfl, Hm.out⟩
      · have dd : decide (0 < di) = true := by simp; omega
        have hrF := cRowF_deep hrun hs0
        have ht : thrF l = (8, false) := by unfold thrF; rw [hrF]
        rw [Hres.out] at ht
        obtain ⟨rfl, rfl⟩ := Prod.mk.inj ht
        clear hrF hrun ht hs0 hdi
        go_wp2
        go_ret2
        exact ⟨rfl, Hm.out⟩
end Go.Proofs.YtppihkneeolomaaGreatDoor
end
/- quiescentref2.ClientFault: over any lists of ops. -/
section
namespace Go.Proofs.YtppihkneeolomaaGreatDoor
open Go.RowKit Qs Qh
variable {N : Nat} {w w' : World} {v u : Value} {ll : List (List ROp)} {l : List ROp}
theorem thrF_none {l : List ROp} (h : (thrF l).1 = 0) : cRowF l = none ∧ (thrF l).2 = cSafe l := by
  unfold thrF at h ⊢
  cases hr : cRowF l with
  | none => rw [hr] at h; exact ⟨rfl, rfl⟩
  | some c =>
    rw [hr] at h
    have := cRowF_num hr
    simp only at h
    omega
theorem thrF_some {l : List ROp} (h : (thrF l).1 ≠ 0) : cRowF l = some (thrF l).1 ∧ 1 ≤ (thrF l).1 := by
  unfold thrF at h ⊢
  cases hr : cRowF l with
  | none => rw [hr] at h; exact absurd rfl h
  | some c =>
    have := cRowF_num hr
    exact ⟨rfl, by simp only; omega⟩
set_option maxHeartbeats 16000000 in
theorem cfault_ok (H : RIn N w v ll) (hlen : ll.length ≤ 10) (hrow : ∀ l ∈ ll, l.length ≤ 30) :
    Calls Tryz.prog 25 #[v] w fun e w' => e = .returned (.tuple #[.agg #[.int .i64 (cfG ll).1, .int .i64 (cfG ll).2], .bool (csG ll)]) ∧ Mod noF w w' := by
  have hm := many_any (H.keep ((Mod.refl noF w).alloc (.cells #[.int .i64 0, .int .i64 0] 27)) (fun _ _ e => e)) hlen hrow
  have HM := Lib.hid hm
  have HH := Lib.hid H
  obtain ⟨a, c, rfl, -⟩ := H
  clear hrow hm
  cases hmany : manyB ll with
  | false =>
    have hk : cfG ll = (2, -1) := by unfold cfG; rw [hmany]; rfl
    have hs : csG ll = false := by unfold csG; rw [hk]; rfl
    rw [hk, hs]
    rw [hmany] at HM
    clear hk hs
    go_enter Tryz.func25, Tryz.ntmps25
    go_wp2_with fail
    refine HM.out.mono ?_
    rintro e w1 ⟨rfl, rfl⟩
    go_wp2_with fail
    refine (bare_ok 2 _).mono ?_
    rintro e w2 ⟨rfl, hm2⟩
    have Hm2 := Lib.hid hm2
    have hT := hm2.heap (heap_alloc_new w (.cells #[.int .i64 0, .int .i64 0] 27)) (fun e => e)
    have t0 := cell_of_heap hT 0
    have t1 := cell_of_heap hT 1
    have tf0 := free_of_heap hT 0
    have tf1 := free_of_heap hT 1
    have HT := Lib.hid hT
    clear hT
    replace t0 : w2.cell? ⟨w.heap.size, 0, none⟩ = some (.int .i64 0) := t0
    replace t1 : w2.cell? ⟨w.heap.size, 1, none⟩ = some (.int .i64 0) := t1
    go_wp2
    obtain ⟨wf, hwf⟩ : ∃ wf, wf = (w2.setCell ⟨w.heap.size, 0, none⟩ (.int .i64 2)).setCell ⟨w.heap.size, 1, none⟩ (.int .i64 (-1)) := ⟨_, rfl⟩
    have hh : wf.heap[w.heap.size]? = some (.cells #[.int .i64 2, .int .i64 (-1)] 27 (0, 0)) := by rw [hwf, Qh.heap_setCell_same (Qh.heap_setCell_same HT.out 0 _) 1 _]; rfl
    have z0 : wf.cell? ⟨w.heap.size, 0, none⟩ = some (.int .i64 2) := by rw [cell_of_heap hh]; rfl
    have z1 : wf.cell? ⟨w.heap.size, 1, none⟩ = some (.int .i64 (-1)) := by rw [cell_of_heap hh]; rfl
    have hMf : Mod noF w wf := by rw [hwf]; exact (((Mod.refl noF w).alloc _).trans0 Hm2.out).trans (((Mod.refl (fun x => x = w.heap.size) _).setCell (fun _ => rfl) _).setCell (fun _ => rfl) _) fun x hx e => by omega
    rw [← hwf]
    exact bodyPost_ret (v := .tuple #[.agg #[.int .i64 2, .int .i64 (-1)], .bool false]) (by simp [results, Tryz.results25, go_sem, z0, z1]) rfl ⟨rfl, hMf⟩
  | true =>
    obtain ⟨hl1, hl6, h20⟩ := manyB_iff.1 hmany
    have hk : cfG ll = allR cRowF 0 ll := by unfold cfG; rw [hmany]; rfl
    obtain ⟨sf, hsf⟩ : ∃ sf, csG ll = sf := ⟨_, rfl⟩
    rw [hsf]
    have Hsf := Lib.hid hsf
    rw [hk]
    rw [hmany] at HM
    obtain ⟨rc, ra, hres0⟩ : ∃ rc ra, allR cRowF 0 ll = (rc, ra) := ⟨_, _, rfl⟩
    rw [hres0]
    have Hres0 := Lib.hid hres0
    have hk2 : cfG ll = (rc, ra) := hk.trans hres0
    have Hk2 := Lib.hid hk2
    have H20 := Lib.hid h20
    simp only
    clear hres0 hk hk2 hmany h20 hsf
    go_enter Tryz.func25, Tryz.ntmps25
    go_wp2_with fail
    refine HM.out.mono ?_
    rintro e w1 ⟨rfl, rfl⟩
    go_wp2
    go_loopw [5, 6] (fun sv i wr => ∃ k : Nat, k ≤ ll.length ∧ i = .int .i64 k ∧ sv = .bool ((ll.take k).all cSafe) ∧ Mod noF w wr ∧ wr.heap[w.heap.size]? = some (.cells #[.int .i64 0, .int .i64 0] 27 (0, 0)) ∧ ∀ (j : Nat) y, j < k → ll[j]? = some y → cRowF y = none) (fun _ i _ => ll.length - (intOf i).toNat)
    case atStart => exact ⟨0, Nat.zero_le _, rfl, rfl, (Mod.refl _ _).alloc _, heap_alloc_new w _, fun j y h => by omega⟩
    case round =>
      generalize wr = w2 at *
      obtain ⟨k, hk, rfl, rfl, hm, hT0, hall⟩ := hrel
      have Hm := Lib.hid hm
      have HT0 := Lib.hid hT0
      have Hall := Lib.hid hall
      clear hT0 hall
      generalize hst : (ll.take k).all cSafe = st at *
      have Hst := Lib.hid hst
      clear hst
      by_cases hlt : k < ll.length
      · have hd : decide ((k : Int) < (ll.length : Int)) = true := by simp; omega
        have hki : (k : Int) < (ll.length : Int) := by omega
        obtain ⟨l, hl⟩ : ∃ l, ll[k]? = some l := ⟨_, List.getElem?_eq_getElem hlt⟩
        obtain ⟨a', c', e', hx⟩ := HH.out
        cases e'
        obtain ⟨b, off, u, rfl, hb, hc, hrw⟩ := hx k l hl
        have hc2 := hm.cell hc (fun e => e)
        have hcal := thr_ok (hrw.keep hm (fun _ _ e => e)) (H20.out l (List.mem_of_getElem? hl))
        obtain ⟨ua, uc, rfl, -⟩ := hrw
        have Hcal := Lib.hid hcal
        have Hl := Lib.hid hl
        clear hx hl hc hm hcal
        go_wp2_with fail
        refine Hcal.out.mono ?_
        rintro e w3 ⟨rfl, hm3⟩
        have Hm3 := Lib.hid hm3
        have hT3 := hm3.heap HT0.out (fun e => e)
        have HT3 := Lib.hid hT3
        clear hm3 Hcal
        by_cases hz : (thrF l).1 = 0
        · obtain ⟨g1, g2⟩ := thrF_none hz
          rw [hz, g2]
          have Hg1 := Lib.hid g1
          have htk : (ll.take (k + 1)).all cSafe = (st && cSafe l) := by
            rw [List.take_add_one, Hl.out, List.all_append, Hst.out]
            simp
          have Htk := Lib.hid htk
          generalize cSafe l = cl at *
          clear hz g1 g2 htk hT3
          cases st with
          | false =>
            go_wp2
            go_roundw
            case rel =>
              refine ⟨k + 1, by omega, by go_num, by rw [Htk.out]; rfl, Hm.out.trans0 Hm3.out, HT3.out, fun j y hj hy => ?_⟩
              by_cases e : j = k
              · subst e; rw [Hl.out] at hy; cases hy; exact Hg1.out
              · exact Hall.out j y (by omega) hy
            case measure => simp [intOf]; omega
          | true =>
            go_wp2
            go_roundw
            case rel =>
              refine ⟨k + 1, by omega, by go_num, by rw [Htk.out]; rfl, Hm.out.trans0 Hm3.out, HT3.out, fun j y hj hy => ?_⟩
              by_cases e : j = k
              · subst e; rw [Hl.out] at hy; cases hy; exact Hg1.out
              · exact Hall.out j y (by omega) hy
            case measure => simp [intOf]; omega
        · obtain ⟨g1, g2⟩ := thrF_some hz
          have hres := allR_at ll 0 k l _ Hl.out Hall.out g1
          rw [Nat.zero_add] at hres
          obtain ⟨hrc, hra⟩ := Prod.mk.inj (Hres0.out.symm.trans hres)
          have hsf : sf = false := by
            rw [← Hsf.out]
            unfold csG
            rw [Hk2.out]
            simp only
            rw [show decide (rc = 0) = false by simp; omega]
            rfl
          subst hsf
          generalize (thrF l).1 = tc at *
          generalize (thrF l).2 = ts at *
          subst hrc
          subst hra
          have dg : decide (0 < rc) = true := by simp; omega
          have t0 := cell_of_heap hT3 0
          have t1 := cell_of_heap hT3 1
          have tf0 := free_of_heap hT3 0
          have tf1 := free_of_heap hT3 1
          clear hT3
          replace t0 : w3.cell? ⟨w.heap.size, 0, none⟩ = some (.int .i64 0) := t0
          replace t1 : w3.cell? ⟨w.heap.size, 1, none⟩ = some (.int .i64 0) := t1
          clear hz g1 g2 hres
          go_wp2
          obtain ⟨wf, hwf⟩ : ∃ wf, wf = (w3.setCell ⟨w.heap.size, 0, none⟩ (.int .i64 rc)).setCell ⟨w.heap.size, 1, none⟩ (.int .i64 k) := ⟨_, rfl⟩
          have hh : wf.heap[w.heap.size]? = some (.cells #[.int .i64 rc, .int .i64 k] 27 (0, 0)) := by rw [hwf, Qh.heap_setCell_same (Qh.heap_setCell_same HT3.out 0 _) 1 _]; rfl
          have z0 : wf.cell? ⟨w.heap.size, 0, none⟩ = some (.int .i64 rc) := by rw [cell_of_heap hh]; rfl
          have z1 : wf.cell? ⟨w.heap.size, 1, none⟩ = some (.int .i64 k) := by rw [cell_of_heap hh]; rfl
          have hMf : Mod noF w wf := by rw [hwf]; exact (Hm.out.trans0 Hm3.out).trans (((Mod.refl (fun x => x = w.heap.size) _).setCell (fun _ => rfl) _).setCell (fun _ => rfl) _) fun x hx e => by omega
          rw [← hwf]
          exact bodyPost_ret (v := .tuple #[.agg #[.int .i64 rc, .int .i64 k], .bool false]) (by simp [results, Tryz.results25, go_sem, z0, z1]) rfl ⟨rfl, hMf⟩
      · have hd : decide ((k : Int) < (ll.length : Int)) = false := by simp; omega
        obtain rfl : k = ll.length := by omega
        have hst2 := Hst.out
        rw [List.take_length] at hst2
        have hno := allR_none (rf := cRowF) ll 0 (fun j y hy => Hall.out j y (List.getElem?_eq_some_iff.1 hy).1 hy)
        obtain ⟨rfl, rfl⟩ := Prod.mk.inj (Hres0.out.symm.trans hno)
        have hsf : sf = st := by
          rw [← Hsf.out]
          unfold csG
          rw [Hk2.out, hst2]
          rfl
        subst hsf
        clear hst2 hno
        go_wp2_with fail
        refine (fine_ok _).mono ?_
        rintro e w3 ⟨rfl, hm3⟩
        have Hm3 := Lib.hid hm3
        have hT3 := hm3.heap HT0.out (fun e => e)
        have HT3 := Lib.hid hT3
        have t0 := cell_of_heap hT3 0
        have t1 := cell_of_heap hT3 1
        have tf0 := free_of_heap hT3 0
        have tf1 := free_of_heap hT3 1
        clear hT3 hm3
        replace t0 : w3.cell? ⟨w.heap.size, 0, none⟩ = some (.int .i64 0) := t0
        replace t1 : w3.cell? ⟨w.heap.size, 1, none⟩ = some (.int .i64 0) := t1
        go_wp2
        obtain ⟨wf, hwf⟩ : ∃ wf, wf = (w3.setCell ⟨w.heap.size, 0, none⟩ (.int .i64 0)).setCell ⟨w.heap.size, 1, none⟩ (.int .i64 (-1)) := ⟨_, rfl⟩
        have hh : wf.heap[w.heap.size]? = some (.cells #[.int .i64 0, .int .i64 (-1)] 27 (0, 0)) := by rw [hwf, Qh.heap_setCell_same (Qh.heap_setCell_same HT3.out 0 _) 1 _]; rfl
        have z0 : wf.cell? ⟨w.heap.size, 0, none⟩ = some (.int .i64 0) := by rw [cell_of_heap hh]; rfl
        have z1 : wf.cell? ⟨w.heap.size, 1, none⟩ = some (.int .i64 (-1)) := by rw [cell_of_heap hh]; rfl
        have hMf : Mod noF w wf := by rw [hwf]; exact (Hm.out.trans0 Hm3.out).trans (((Mod.refl (fun x => x = w.heap.size) _).setCell (fun _ => rfl) _).setCell (fun _ => rfl) _) fun x hx e => by omega
        rw [← hwf]
        exact bodyPost_ret (v := .tuple #[.agg #[.int .i64 0, .int .i64 (-1)], .bool sf]) (by simp [results, Tryz.results25, go_sem, z0, z1]) rfl ⟨rfl, hMf⟩
end Go.Proofs.YtppihkneeolomaaGreatDoor
end
/- package client: a part of grace. -/
section
namespace Go.Proofs.YtppihkneeolomaaGreatDoor
open Go.RowKit Qs Qh
/-- Grace's parts by numbers. -/
def graceFn : Nat → Nat
  | 0 => 75
  | 1 => 76
  | 2 => 85
  | 3 => 48
  | _ => 86
theorem gcode_lenAll : ((List.range 5).all fun f => (List.range 5).all fun k => decide ((gcode f k).length ≤ 70)) = true := by decide +kernel
theorem gcode_len {f j : Nat} (h4 : f ≤ 4) (hj : j < 5) : (gcode f j).length ≤ 70 := by
  have h := List.all_eq_true.1 (List.all_eq_true.1 gcode_lenAll f (List.mem_range.2 (by omega))) j (List.mem_range.2 hj)
  simpa using h
theorem grace_good {f j : Nat} (h1 : 1 ≤ f) (h4 : f ≤ 4) (hj : j < 5) (s : ByteArray) (w : World) (hn : nameB s.data.toList = true) (hs : s.size ≤ 4) :
    Calls Tryz.prog (graceFn j) #[.int .i64 f, .string s] w fun e w' => ∃ v, e = .returned (.tuple #[v, .nilIface]) ∧ Made (preC s.data.toList (gcode f j)) w v w' := by
  match f, h1, h4, j, hj with
  | 1, _, _, 0, _ => exact genter1_ok s w hn hs
  | 1, _, _, 1, _ => exact gleave1_ok s w hn hs
  | 1, _, _, 2, _ => exact grest1_ok s w hn hs
  | 1, _, _, 3, _ => exact ggone1_ok s w hn hs
  | 1, _, _, 4, _ => exact gwait1_ok s w hn hs
  | 2, _, _, 0, _ => exact genter2_ok s w hn hs
  | 2, _, _, 1, _ => exact gleave2_ok s w hn hs
  | 2, _, _, 2, _ => exact grest2_ok s w hn hs
  | 2, _, _, 3, _ => exact ggone2_ok s w hn hs
  | 2, _, _, 4, _ => exact gwait2_ok s w hn hs
  | 3, _, _, 0, _ => exact genter3_ok s w hn hs
  | 3, _, _, 1, _ => exact gleave3_ok s w hn hs
  | 3, _, _, 2, _ => exact grest3_ok s w hn hs
  | 3, _, _, 3, _ => exact ggone3_ok s w hn hs
  | 3, _, _, 4, _ => exact gwait3_ok s w hn hs
  | 4, _, _, 0, _ => exact genter4_ok s w hn hs
  | 4, _, _, 1, _ => exact gleave4_ok s w hn hs
  | 4, _, _, 2, _ => exact grest4_ok s w hn hs
  | 4, _, _, 3, _ => exact ggone4_ok s w hn hs
  | 4, _, _, 4, _ => exact gwait4_ok s w hn hs
variable {N0 K : Nat} {big : Prop} {t nx : Int} {f : Nat} {w w1 w2 : World} {b k : Nat} {v v1 v2 : Value} {l : List Instr}
set_option maxHeartbeats 8000000 in
theorem part0_ok (HF : FreshH N0 big f t nx K) (hT : big → lowT N0) (h1 : 1 ≤ f) (h4 : f ≤ 4) (M : MkA N0 big f t nx w b v l k) (hk : k < K) (hK : K ≤ 120) (hl : l.length ≤ 100000) :
    Calls Tryz.prog 47 #[.pointer (some ⟨b, 0, none⟩), .func (.func 75) #[] #[]] w fun e w' => e = .returned (.tuple #[]) ∧ ∃ v', MkA N0 big f t nx w' b v' (l ++ preC (Qu.labN (k + 1)) (gcode f 0)) (k + 1) ∧ MkStep w b v w' v' := by
  have hfr := fun W (hW : Mod noF w W) => HF W b v l k hk (M.quiet hW)
  have hla := (Qu.labN_facts (k + 1) (by omega)).2
  have hg := fun W => grace_good h1 h4 (show 0 < 5 by decide) ⟨(Qu.labN (k + 1)).toArray⟩ W (by simpa using hla.2.1) (by simpa [ByteArray.size] using hla.1)
  have hlen : (preC (Qu.labN (k + 1)) (gcode f 0)).length ≤ 70 := by unfold preC; rw [List.length_map]; exact gcode_len h4 (by decide)
  have Hlen := Lib.hid hlen
  simp only at hg
  unfold graceFn at hg
  generalize hlb : (⟨(Qu.labN (k + 1)).toArray⟩ : ByteArray) = lb at *
  generalize preC (Qu.labN (k + 1)) (gcode f 0) = pc at *
  generalize ((f : Nat) : Int) = fi at *
  have c1 := M.c1
  have HM := Lib.hid M
  have Hfr := Lib.hid hfr
  have Hg := Lib.hid hg
  have hfi := fi
  clear M hfr hla hg HF hlb hlen
  go_enter Tryz.func47, Tryz.ntmps47
  go_wp2
  refine wp_region_held_drew (S := fun W => W.cell? ⟨b, 1, none⟩ = some (.int .i64 fi)) (by kernel_rfl) ((Mod.refl noF _).drew.cell c1 (fun e => e)) (fun hHeld => ?_)
  refine wpAnyH_take (i := 0) (oi := ?oP0) (v := ?vP0) ?qP0 (by kernel_rfl) ?fP0 ?gP0 ?pP0 ?uP0 (by assumption) ?rP0
  case qP0 => (rw [List.getElem?_toArray]; rfl)
  case fP0 => kernel_rfl
  case gP0 => kernel_rfl
  case pP0 => exact (fun _ _ _ h => h)
  case uP0 => (refine Or.inl ⟨by rfl, ?_⟩; intro w hSw; (try dsimp only at hSw); go_simp; (try rw [if_neg (by omega)]); try with_reducible rfl)
  try simp only [Act.put, List.setIfInBounds_toArray, List.set_cons_zero, List.set_cons_succ]
  refine wpAnyH_take (i := 1) (oi := ?oP1) (v := ?vP1) ?qP1 (by kernel_rfl) ?fP1 ?gP1 ?pP1 ?uP1 (by assumption) ?rP1
  case qP1 => (rw [List.getElem?_toArray]; rfl)
  case fP1 => kernel_rfl
  case gP1 => kernel_rfl
  case pP1 => exact (fun _ _ _ h => h)
  case uP1 => (refine Or.inl ⟨by rfl, ?_⟩; intro w hSw; (try dsimp only at hSw); go_simp; (try rw [if_neg (by omega)]); try with_reducible rfl)
  try simp only [Act.put, List.setIfInBounds_toArray, List.set_cons_zero, List.set_cons_succ]
  refine wpAnyH_take (i := 2) (oi := ?oP2) (v := ?vP2) ?qP2 (by kernel_rfl) ?fP2 ?gP2 ?pP2 ?uP2 (by assumption) ?rP2
  case qP2 => (rw [List.getElem?_toArray]; rfl)
  case fP2 => kernel_rfl
  case gP2 => kernel_rfl
  case pP2 => exact (fun _ _ _ h => h)
  case uP2 => (refine Or.inl ⟨by rfl, ?_⟩; intro w hSw; (try dsimp only at hSw); go_simp; (try rw [if_neg (by omega)]); try with_reducible rfl)
  try simp only [Act.put, List.setIfInBounds_toArray, List.set_cons_zero, List.set_cons_succ]
  refine wpAnyH_take (i := 3) (oi := ?oP3) (v := ?vP3) ?qP3 (by kernel_rfl) ?fP3 ?gP3 ?pP3 ?uP3 (by assumption) ?rP3
  case qP3 => (rw [List.getElem?_toArray]; rfl)
  case fP3 => kernel_rfl
  case gP3 => kernel_rfl
  case pP3 => exact (fun _ _ _ h => h)
  case uP3 => (refine Or.inl ⟨by rfl, ?_⟩; intro w hSw; (try dsimp only at hSw); go_simp; (try rw [if_neg (by omega)]); try with_reducible rfl)
  try simp only [Act.put, List.setIfInBounds_toArray, List.set_cons_zero, List.set_cons_succ]
  refine wpAnyH_take (i := 4) (oi := ?oP4) (v := ?vP4) ?qP4 (by kernel_rfl) ?fP4 ?gP4 ?pP4 ?uP4 (by assumption) ?rP4
  case qP4 => (rw [List.getElem?_toArray]; rfl)
  case fP4 => kernel_rfl
  case gP4 => kernel_rfl
  case pP4 => exact (fun _ _ _ h => h)
  case uP4 => (refine Or.inl ⟨by rfl, ?_⟩; intro w hSw; (try dsimp only at hSw); go_simp; (try rw [if_neg (by omega)]); try with_reducible rfl)
  try simp only [Act.put, List.setIfInBounds_toArray, List.set_cons_zero, List.set_cons_succ]
  refine wpAnyH_take (i := 5) (oi := ?oP5) (v := ?vP5) ?qP5 (by kernel_rfl) ?fP5 ?gP5 ?pP5 ?uP5 (by assumption) ?rP5
  case qP5 => (rw [List.getElem?_toArray]; rfl)
  case fP5 => kernel_rfl
  case gP5 => kernel_rfl
  case pP5 => exact (fun _ _ _ h => h)
  case uP5 => (refine Or.inl ⟨by rfl, ?_⟩; intro w hSw; (try dsimp only at hSw); go_simp; (try rw [if_neg (by omega)]); try with_reducible rfl)
  try simp only [Act.put, List.setIfInBounds_toArray, List.set_cons_zero, List.set_cons_succ]
  refine wpAnyH_ready (rs := [6]) (by kernel_rfl) (by simp) ?_
  refine AllReadyH.cons rfl (fun K hK => ?_) AllReadyH.nil
  go_simp
  refine (Hfr.out _ (Mod.refl _ _).drew).mono ?_
  rintro e w4 ⟨rfl, hm4, hs4⟩
  have Hm4 := Lib.hid hm4
  have Hs4 := Lib.hid hs4
  refine Shut.out hK _ _ hm4.c1 (fun hS4 => ?_)
  clear hm4 hs4 c1
  try simp only [Act.put, List.setIfInBounds_toArray, List.set_cons_zero, List.set_cons_succ]
  refine wpAnyH_ready (rs := [7]) (by kernel_rfl) (by simp) ?_
  refine AllReadyH.cons rfl (fun K hK => ?_) AllReadyH.nil
  go_simp
  refine (Hg.out _).mono ?_
  rintro e w5 ⟨pv, rfl, hmade⟩
  have hq5 := Mod.below hmade.2.1
  have hM5 := Hm4.out.quiet hq5
  have Hm5 := Lib.hid hM5
  have Hs5 := Lib.hid (Hs4.out.quiet hq5)
  have Hpv := Lib.hid hmade.1
  have Hpn := Lib.hid hmade.2.2
  refine Shut.out hK _ _ hM5.c1 (fun hS5 => ?_)
  clear hM5 hmade hq5
  try simp only [Act.put, List.setIfInBounds_toArray, List.set_cons_zero, List.set_cons_succ]
  refine wpAnyH_take (i := 8) (oi := ?oP8) (v := ?vP8) ?qP8 (by kernel_rfl) ?fP8 ?gP8 ?pP8 ?uP8 (by assumption) ?rP8
  case qP8 => (rw [List.getElem?_toArray]; rfl)
  case fP8 => kernel_rfl
  case gP8 => kernel_rfl
  case pP8 => exact (fun _ _ _ h => h)
  case uP8 => (refine Or.inl ⟨by rfl, ?_⟩; intro w hSw; (try dsimp only at hSw); go_simp; (try rw [if_neg (by omega)]); try with_reducible rfl)
  try simp only [Act.put, List.setIfInBounds_toArray, List.set_cons_zero, List.set_cons_succ]
  refine wpAnyH_take (i := 9) (oi := ?oP9) (v := ?vP9) ?qP9 (by kernel_rfl) ?fP9 ?gP9 ?pP9 ?uP9 (by assumption) ?rP9
  case qP9 => (rw [List.getElem?_toArray]; rfl)
  case fP9 => kernel_rfl
  case gP9 => kernel_rfl
  case pP9 => exact (fun _ _ _ h => h)
  case uP9 => (refine Or.inl ⟨by rfl, ?_⟩; intro w hSw; (try dsimp only at hSw); go_simp; (try rw [if_neg (by omega)]); try with_reducible rfl)
  try simp only [Act.put, List.setIfInBounds_toArray, List.set_cons_zero, List.set_cons_succ]
  refine wpAnyH_take (i := 10) (oi := ?oP10) (v := ?vP10) ?qP10 (by kernel_rfl) ?fP10 ?gP10 ?pP10 ?uP10 (by assumption) ?rP10
  case qP10 => (rw [List.getElem?_toArray]; rfl)
  case fP10 => kernel_rfl
  case gP10 => kernel_rfl
  case pP10 => exact (fun _ _ _ h => h)
  case uP10 => (refine Or.inl ⟨by rfl, ?_⟩; intro w hSw; (try dsimp only at hSw); go_simp; (try rw [if_neg (by omega)]); try with_reducible rfl)
  try simp only [Act.put, List.setIfInBounds_toArray, List.set_cons_zero, List.set_cons_succ]
  refine wpAnyH_take (i := 11) (oi := ?oP11) (v := ?vP11) ?qP11 (by kernel_rfl) ?fP11 ?gP11 ?pP11 ?uP11 (by assumption) ?rP11
  case qP11 => (rw [List.getElem?_toArray]; rfl)
  case fP11 => kernel_rfl
  case gP11 => kernel_rfl
  case pP11 => exact (fun _ _ _ h => h)
  case uP11 => (refine Or.inl ⟨by rfl, ?_⟩; intro w hSw; (try dsimp only at hSw); go_simp; (try rw [if_neg (by omega)]); try with_reducible rfl)
  try simp only [Act.put, List.setIfInBounds_toArray, List.set_cons_zero, List.set_cons_succ]
  refine wpAnyH_take (i := 12) (oi := ?oP12) (v := ?vP12) ?qP12 (by kernel_rfl) ?fP12 ?gP12 ?pP12 ?uP12 (by assumption) ?rP12
  case qP12 => (rw [List.getElem?_toArray]; rfl)
  case fP12 => kernel_rfl
  case gP12 => kernel_rfl
  case pP12 => exact (fun _ _ _ h => h)
  case uP12 => (refine Or.inl ⟨by rfl, ?_⟩; intro w hSw; (try dsimp only at hSw); go_simp; (try rw [if_neg (by omega)]); try with_reducible rfl)
  try simp only [Act.put, List.setIfInBounds_toArray, List.set_cons_zero, List.set_cons_succ]
  refine wpAnyH_done (by kernel_rfl) ?_ _
  clear hS4 hS5 hK hHeld
  have HC := Lib.hid (Chain.start Hm5.out.m.emit)
  go_wp2_with fail
  refine (made_more HC.out (by omega) (by have := Hlen.out; omega) Hpv.out).mono ?_
  rintro e w6 ⟨rfl, C⟩
  have hfin : ∃ v', MkA N0 big fi t nx w6 b v' (l ++ pc) (k + 1) ∧ MkStep w b v w6 v' := by
    obtain ⟨v', M', S'⟩ := Hm5.out.chain hT C
    exact ⟨v', M', (((MkStep.refl w b v).quiet (Mod.refl noF w).drew).trans HM.out.lt Hs5.out).trans HM.out.lt S'⟩
  have Hfin := Lib.hid hfin
  clear hfin C
  go_wp2
  go_end0
  exact ⟨rfl, Hfin.out⟩
set_option maxHeartbeats 8000000 in
theorem part1_ok (HF : FreshH N0 big f t nx K) (hT : big → lowT N0) (h1 : 1 ≤ f) (h4 : f ≤ 4) (M : MkA N0 big f t nx w b v l k) (hk : k < K) (hK : K ≤ 120) (hl : l.length ≤ 100000) :
    Calls Tryz.prog 47 #[.pointer (some ⟨b, 0, none⟩), .func (.func 76) #[] #[]] w fun e w' => e = .returned (.tuple #[]) ∧ ∃ v', MkA N0 big f t nx w' b v' (l ++ preC (Qu.labN (k + 1)) (gcode f 1)) (k + 1) ∧ MkStep w b v w' v' := by
  have hfr := fun W (hW : Mod noF w W) => HF W b v l k hk (M.quiet hW)
  have hla := (Qu.labN_facts (k + 1) (by omega)).2
  have hg := fun W => grace_good h1 h4 (show 1 < 5 by decide) ⟨(Qu.labN (k + 1)).toArray⟩ W (by simpa using hla.2.1) (by simpa [ByteArray.size] using hla.1)
  have hlen : (preC (Qu.labN (k + 1)) (gcode f 1)).length ≤ 70 := by unfold preC; rw [List.length_map]; exact gcode_len h4 (by decide)
  have Hlen := Lib.hid hlen
  simp only at hg
  unfold graceFn at hg
  generalize hlb : (⟨(Qu.labN (k + 1)).toArray⟩ : ByteArray) = lb at *
  generalize preC (Qu.labN (k + 1)) (gcode f 1) = pc at *
  generalize ((f : Nat) : Int) = fi at *
  have c1 := M.c1
  have HM := Lib.hid M
  have Hfr := Lib.hid hfr
  have Hg := Lib.hid hg
  have hfi := fi
  clear M hfr hla hg HF hlb hlen
  go_enter Tryz.func47, Tryz.ntmps47
  go_wp2
  refine wp_region_held_drew (S := fun W => W.cell? ⟨b, 1, none⟩ = some (.int .i64 fi)) (by kernel_rfl) ((Mod.refl noF _).drew.cell c1 (fun e => e)) (fun hHeld => ?_)
  refine wpAnyH_take (i := 0) (oi := ?oP0) (v := ?vP0) ?qP0 (by kernel_rfl) ?fP0 ?gP0 ?pP0 ?uP0 (by assumption) ?rP0
  case qP0 => (rw [List.getElem?_toArray]; rfl)
  case fP0 => kernel_rfl
  case gP0 => kernel_rfl
  case pP0 => exact (fun _ _ _ h => h)
  case uP0 => (refine Or.inl ⟨by rfl, ?_⟩; intro w hSw; (try dsimp only at hSw); go_simp; (try rw [if_neg (by omega)]); try with_reducible rfl)
  try simp only [Act.put, List.setIfInBounds_toArray, List.set_cons_zero, List.set_cons_succ]
  refine wpAnyH_take (i := 1) (oi := ?oP1) (v := ?vP1) ?qP1 (by kernel_rfl) ?fP1 ?gP1 ?pP1 ?uP1 (by assumption) ?rP1
  case qP1 => (rw [List.getElem?_toArray]; rfl)
  case fP1 => kernel_rfl
  case gP1 => kernel_rfl
  case pP1 => exact (fun _ _ _ h => h)
  case uP1 => (refine Or.inl ⟨by rfl, ?_⟩; intro w hSw; (try dsimp only at hSw); go_simp; (try rw [if_neg (by omega)]); try with_reducible rfl)
  try simp only [Act.put, List.setIfInBounds_toArray, List.set_cons_zero, List.set_cons_succ]
  refine wpAnyH_take (i := 2) (oi := ?oP2) (v := ?vP2) ?qP2 (by kernel_rfl) ?fP2 ?gP2 ?pP2 ?uP2 (by assumption) ?rP2
  case qP2 => (rw [List.getElem?_toArray]; rfl)
  case fP2 => kernel_rfl
  case gP2 => kernel_rfl
  case pP2 => exact (fun _ _ _ h => h)
  case uP2 => (refine Or.inl ⟨by rfl, ?_⟩; intro w hSw; (try dsimp only at hSw); go_simp; (try rw [if_neg (by omega)]); try with_reducible rfl)
  try simp only [Act.put, List.setIfInBounds_toArray, List.set_cons_zero, List.set_cons_succ]
  refine wpAnyH_take (i := 3) (oi := ?oP3) (v := ?vP3) ?qP3 (by kernel_rfl) ?fP3 ?gP3 ?pP3 ?uP3 (by assumption) ?rP3
  case qP3 => (rw [List.getElem?_toArray]; rfl)
  case fP3 => kernel_rfl
  case gP3 => kernel_rfl
  case pP3 => exact (fun _ _ _ h => h)
  case uP3 => (refine Or.inl ⟨by rfl, ?_⟩; intro w hSw; (try dsimp only at hSw); go_simp; (try rw [if_neg (by omega)]); try with_reducible rfl)
  try simp only [Act.put, List.setIfInBounds_toArray, List.set_cons_zero, List.set_cons_succ]
  refine wpAnyH_take (i := 4) (oi := ?oP4) (v := ?vP4) ?qP4 (by kernel_rfl) ?fP4 ?gP4 ?pP4 ?uP4 (by assumption) ?rP4
  case qP4 => (rw [List.getElem?_toArray]; rfl)
  case fP4 => kernel_rfl
  case gP4 => kernel_rfl
  case pP4 => exact (fun _ _ _ h => h)
  case uP4 => (refine Or.inl ⟨by rfl, ?_⟩; intro w hSw; (try dsimp only at hSw); go_simp; (try rw [if_neg (by omega)]); try with_reducible rfl)
  try simp only [Act.put, List.setIfInBounds_toArray, List.set_cons_zero, List.set_cons_succ]
  refine wpAnyH_take (i := 5) (oi := ?oP5) (v := ?vP5) ?qP5 (by kernel_rfl) ?fP5 ?gP5 ?pP5 ?uP5 (by assumption) ?rP5
  case qP5 => (rw [List.getElem?_toArray]; rfl)
  case fP5 => kernel_rfl
  case gP5 => kernel_rfl
  case pP5 => exact (fun _ _ _ h => h)
  case uP5 => (refine Or.inl ⟨by rfl, ?_⟩; intro w hSw; (try dsimp only at hSw); go_simp; (try rw [if_neg (by omega)]); try with_reducible rfl)
  try simp only [Act.put, List.setIfInBounds_toArray, List.set_cons_zero, List.set_cons_succ]
  refine wpAnyH_ready (rs := [6]) (by kernel_rfl) (by simp) ?_
  refine AllReadyH.cons rfl (fun K hK => ?_) AllReadyH.nil
  go_simp
  refine (Hfr.out _ (Mod.refl _ _).drew).mono ?_
  rintro e w4 ⟨rfl, hm4, hs4⟩
  have Hm4 := Lib.hid hm4
  have Hs4 := Lib.hid hs4
  refine Shut.out hK _ _ hm4.c1 (fun hS4 => ?_)
  clear hm4 hs4 c1
  try simp only [Act.put, List.setIfInBounds_toArray, List.set_cons_zero, List.set_cons_succ]
  refine wpAnyH_ready (rs := [7]) (by kernel_rfl) (by simp) ?_
  refine AllReadyH.cons rfl (fun K hK => ?_) AllReadyH.nil
  go_simp
  refine (Hg.out _).mono ?_
  rintro e w5 ⟨pv, rfl, hmade⟩
  have hq5 := Mod.below hmade.2.1
  have hM5 := Hm4.out.quiet hq5
  have Hm5 := Lib.hid hM5
  have Hs5 := Lib.hid (Hs4.out.quiet hq5)
  have Hpv := Lib.hid hmade.1
  have Hpn := Lib.hid hmade.2.2
  refine Shut.out hK _ _ hM5.c1 (fun hS5 => ?_)
  clear hM5 hmade hq5
  try simp only [Act.put, List.setIfInBounds_toArray, List.set_cons_zero, List.set_cons_succ]
  refine wpAnyH_take (i := 8) (oi := ?oP8) (v := ?vP8) ?qP8 (by kernel_rfl) ?fP8 ?gP8 ?pP8 ?uP8 (by assumption) ?rP8
  case qP8 => (rw [List.getElem?_toArray]; rfl)
  case fP8 => kernel_rfl
  case gP8 => kernel_rfl
  case pP8 => exact (fun _ _ _ h => h)
  case uP8 => (refine Or.inl ⟨by rfl, ?_⟩; intro w hSw; (try dsimp only at hSw); go_simp; (try rw [if_neg (by omega)]); try with_reducible rfl)
  try simp only [Act.put, List.setIfInBounds_toArray, List.set_cons_zero, List.set_cons_succ]
  refine wpAnyH_take (i := 9) (oi := ?oP9) (v := ?vP9) ?qP9 (by kernel_rfl) ?fP9 ?gP9 ?pP9 ?uP9 (by assumption) ?rP9
  case qP9 => (rw [List.getElem?_toArray]; rfl)
  case fP9 => kernel_rfl
  case gP9 => kernel_rfl
  case pP9 => exact (fun _ _ _ h => h)
  case uP9 => (refine Or.inl ⟨by rfl, ?_⟩; intro w hSw; (try dsimp only at hSw); go_simp; (try rw [if_neg (by omega)]); try with_reducible rfl)
  try simp only [Act.put, List.setIfInBounds_toArray, List.set_cons_zero, List.set_cons_succ]
  refine wpAnyH_take (i := 10) (oi := ?oP10) (v := ?vP10) ?qP10 (by kernel_rfl) ?fP10 ?gP10 ?pP10 ?uP10 (by assumption) ?rP10
  case qP10 => (rw [List.getElem?_toArray]; rfl)
  case fP10 => kernel_rfl
  case gP10 => kernel_rfl
  case pP10 => exact (fun _ _ _ h => h)
  case uP10 => (refine Or.inl ⟨by rfl, ?_⟩; intro w hSw; (try dsimp only at hSw); go_simp; (try rw [if_neg (by omega)]); try with_reducible rfl)
  try simp only [Act.put, List.setIfInBounds_toArray, List.set_cons_zero, List.set_cons_succ]
  refine wpAnyH_take (i := 11) (oi := ?oP11) (v := ?vP11) ?qP11 (by kernel_rfl) ?fP11 ?gP11 ?pP11 ?uP11 (by assumption) ?rP11
  case qP11 => (rw [List.getElem?_toArray]; rfl)
  case fP11 => kernel_rfl
  case gP11 => kernel_rfl
  case pP11 => exact (fun _ _ _ h => h)
  case uP11 => (refine Or.inl ⟨by rfl, ?_⟩; intro w hSw; (try dsimp only at hSw); go_simp; (try rw [if_neg (by omega)]); try with_reducible rfl)
  try simp only [Act.put, List.setIfInBounds_toArray, List.set_cons_zero, List.set_cons_succ]
  refine wpAnyH_take (i := 12) (oi := ?oP12) (v := ?vP12) ?qP12 (by kernel_rfl) ?fP12 ?gP12 ?pP12 ?uP12 (by assumption) ?rP12
  case qP12 => (rw [List.getElem?_toArray]; rfl)
  case fP12 => kernel_rfl
  case gP12 => kernel_rfl
  case pP12 => exact (fun _ _ _ h => h)
  case uP12 => (refine Or.inl ⟨by rfl, ?_⟩; intro w hSw; (try dsimp only at hSw); go_simp; (try rw [if_neg (by omega)]); try with_reducible rfl)
  try simp only [Act.put, List.setIfInBounds_toArray, List.set_cons_zero, List.set_cons_succ]
  refine wpAnyH_done (by kernel_rfl) ?_ _
  clear hS4 hS5 hK hHeld
  have HC := Lib.hid (Chain.start Hm5.out.m.emit)
  go_wp2_with fail
  refine (made_more HC.out (by omega) (by have := Hlen.out; omega) Hpv.out).mono ?_
  rintro e w6 ⟨rfl, C⟩
  have hfin : ∃ v', MkA N0 big fi t nx w6 b v' (l ++ pc) (k + 1) ∧ MkStep w b v w6 v' := by
    obtain ⟨v', M', S'⟩ := Hm5.out.chain hT C
    exact ⟨v', M', (((MkStep.refl w b v).quiet (Mod.refl noF w).drew).trans HM.out.lt Hs5.out).trans HM.out.lt S'⟩
  have Hfin := Lib.hid hfin
  clear hfin C
  go_wp2
  go_end0
  exact ⟨rfl, Hfin.out⟩
set_option maxHeartbeats 8000000 in
theorem part2_ok (HF : FreshH N0 big f t nx K) (hT : big → lowT N0) (h1 : 1 ≤ f) (h4 : f ≤ 4) (M : MkA N0 big f t nx w b v l k) (hk : k < K) (hK : K ≤ 120) (hl : l.length ≤ 100000) :
    Calls Tryz.prog 47 #[.pointer (some ⟨b, 0, none⟩), .func (.func 85) #[] #[]] w fun e w' => e = .returned (.tuple #[]) ∧ ∃ v', MkA N0 big f t nx w' b v' (l ++ preC (Qu.labN (k + 1)) (gcode f 2)) (k + 1) ∧ MkStep w b v w' v' := by
  have hfr := fun W (hW : Mod noF w W) => HF W b v l k hk (M.quiet hW)
  have hla := (Qu.labN_facts (k + 1) (by omega)).2
  have hg := fun W => grace_good h1 h4 (show 2 < 5 by decide) ⟨(Qu.labN (k + 1)).toArray⟩ W (by simpa using hla.2.1) (by simpa [ByteArray.size] using hla.1)
  have hlen : (preC (Qu.labN (k + 1)) (gcode f 2)).length ≤ 70 := by unfold preC; rw [List.length_map]; exact gcode_len h4 (by decide)
  have Hlen := Lib.hid hlen
  simp only at hg
  unfold graceFn at hg
  generalize hlb : (⟨(Qu.labN (k + 1)).toArray⟩ : ByteArray) = lb at *
  generalize preC (Qu.labN (k + 1)) (gcode f 2) = pc at *
  generalize ((f : Nat) : Int) = fi at *
  have c1 := M.c1
  have HM := Lib.hid M
  have Hfr := Lib.hid hfr
  have Hg := Lib.hid hg
  have hfi := fi
  clear M hfr hla hg HF hlb hlen
  go_enter Tryz.func47, Tryz.ntmps47
  go_wp2
  refine wp_region_held_drew (S := fun W => W.cell? ⟨b, 1, none⟩ = some (.int .i64 fi)) (by kernel_rfl) ((Mod.refl noF _).drew.cell c1 (fun e => e)) (fun hHeld => ?_)
  refine wpAnyH_take (i := 0) (oi := ?oP0) (v := ?vP0) ?qP0 (by kernel_rfl) ?fP0 ?gP0 ?pP0 ?uP0 (by assumption) ?rP0
  case qP0 => (rw [List.getElem?_toArray]; rfl)
  case fP0 => kernel_rfl
  case gP0 => kernel_rfl
  case pP0 => exact (fun _ _ _ h => h)
  case uP0 => (refine Or.inl ⟨by rfl, ?_⟩; intro w hSw; (try dsimp only at hSw); go_simp; (try rw [if_neg (by omega)]); try with_reducible rfl)
  try simp only [Act.put, List.setIfInBounds_toArray, List.set_cons_zero, List.set_cons_succ]
  refine wpAnyH_take (i := 1) (oi := ?oP1) (v := ?vP1) ?qP1 (by kernel_rfl) ?fP1 ?gP1 ?pP1 ?uP1 (by assumption) ?rP1
  case qP1 => (rw [List.getElem?_toArray]; rfl)
  case fP1 => kernel_rfl
  case gP1 => kernel_rfl
  case pP1 => exact (fun _ _ _ h => h)
  case uP1 => (refine Or.inl ⟨by rfl, ?_⟩; intro w hSw; (try dsimp only at hSw); go_simp; (try rw [if_neg (by omega)]); try with_reducible rfl)
  try simp only [Act.put, List.setIfInBounds_toArray, List.set_cons_zero, List.set_cons_succ]
  refine wpAnyH_take (i := 2) (oi := ?oP2) (v := ?vP2) ?qP2 (by kernel_rfl) ?fP2 ?gP2 ?pP2 ?uP2 (by assumption) ?rP2
  case qP2 => (rw [List.getElem?_toArray]; rfl)
  case fP2 => kernel_rfl
  case gP2 => kernel_rfl
  case pP2 => exact (fun _ _ _ h => h)
  case uP2 => (refine Or.inl ⟨by rfl, ?_⟩; intro w hSw; (try dsimp only at hSw); go_simp; (try rw [if_neg (by omega)]); try with_reducible rfl)
  try simp only [Act.put, List.setIfInBounds_toArray, List.set_cons_zero, List.set_cons_succ]
  refine wpAnyH_take (i := 3) (oi := ?oP3) (v := ?vP3) ?qP3 (by kernel_rfl) ?fP3 ?gP3 ?pP3 ?uP3 (by assumption) ?rP3
  case qP3 => (rw [List.getElem?_toArray]; rfl)
  case fP3 => kernel_rfl
  case gP3 => kernel_rfl
  case pP3 => exact (fun _ _ _ h => h)
  case uP3 => (refine Or.inl ⟨by rfl, ?_⟩; intro w hSw; (try dsimp only at hSw); go_simp; (try rw [if_neg (by omega)]); try with_reducible rfl)
  try simp only [Act.put, List.setIfInBounds_toArray, List.set_cons_zero, List.set_cons_succ]
  refine wpAnyH_take (i := 4) (oi := ?oP4) (v := ?vP4) ?qP4 (by kernel_rfl) ?fP4 ?gP4 ?pP4 ?uP4 (by assumption) ?rP4
  case qP4 => (rw [List.getElem?_toArray]; rfl)
  case fP4 => kernel_rfl
  case gP4 => kernel_rfl
  case pP4 => exact (fun _ _ _ h => h)
  case uP4 => (refine Or.inl ⟨by rfl, ?_⟩; intro w hSw; (try dsimp only at hSw); go_simp; (try rw [if_neg (by omega)]); try with_reducible rfl)
  try simp only [Act.put, List.setIfInBounds_toArray, List.set_cons_zero, List.set_cons_succ]
  refine wpAnyH_take (i := 5) (oi := ?oP5) (v := ?vP5) ?qP5 (by kernel_rfl) ?fP5 ?gP5 ?pP5 ?uP5 (by assumption) ?rP5
  case qP5 => (rw [List.getElem?_toArray]; rfl)
  case fP5 => kernel_rfl
  case gP5 => kernel_rfl
  case pP5 => exact (fun _ _ _ h => h)
  case uP5 => (refine Or.inl ⟨by rfl, ?_⟩; intro w hSw; (try dsimp only at hSw); go_simp; (try rw [if_neg (by omega)]); try with_reducible rfl)
  try simp only [Act.put, List.setIfInBounds_toArray, List.set_cons_zero, List.set_cons_succ]
  refine wpAnyH_ready (rs := [6]) (by kernel_rfl) (by simp) ?_
  refine AllReadyH.cons rfl (fun K hK => ?_) AllReadyH.nil
  go_simp
  refine (Hfr.out _ (Mod.refl _ _).drew).mono ?_
  rintro e w4 ⟨rfl, hm4, hs4⟩
  have Hm4 := Lib.hid hm4
  have Hs4 := Lib.hid hs4
  refine Shut.out hK _ _ hm4.c1 (fun hS4 => ?_)
  clear hm4 hs4 c1
  try simp only [Act.put, List.setIfInBounds_toArray, List.set_cons_zero, List.set_cons_succ]
  refine wpAnyH_ready (rs := [7]) (by kernel_rfl) (by simp) ?_
  refine AllReadyH.cons rfl (fun K hK => ?_) AllReadyH.nil
  go_simp
  refine (Hg.out _).mono ?_
  rintro e w5 ⟨pv, rfl, hmade⟩
  have hq5 := Mod.below hmade.2.1
  have hM5 := Hm4.out.quiet hq5
  have Hm5 := Lib.hid hM5
  have Hs5 := Lib.hid (Hs4.out.quiet hq5)
  have Hpv := Lib.hid hmade.1
  have Hpn := Lib.hid hmade.2.2
  refine Shut.out hK _ _ hM5.c1 (fun hS5 => ?_)
  clear hM5 hmade hq5
  try simp only [Act.put, List.setIfInBounds_toArray, List.set_cons_zero, List.set_cons_succ]
  refine wpAnyH_take (i := 8) (oi := ?oP8) (v := ?vP8) ?qP8 (by kernel_rfl) ?fP8 ?gP8 ?pP8 ?uP8 (by assumption) ?rP8
  case qP8 => (rw [List.getElem?_toArray]; rfl)
  case fP8 => kernel_rfl
  case gP8 => kernel_rfl
  case pP8 => exact (fun _ _ _ h => h)
  case uP8 => (refine Or.inl ⟨by rfl, ?_⟩; intro w hSw; (try dsimp only at hSw); go_simp; (try rw [if_neg (by omega)]); try with_reducible rfl)
  try simp only [Act.put, List.setIfInBounds_toArray, List.set_cons_zero, List.set_cons_succ]
  refine wpAnyH_take (i := 9) (oi := ?oP9) (v := ?vP9) ?qP9 (by kernel_rfl) ?fP9 ?gP9 ?pP9 ?uP9 (by assumption) ?rP9
  case qP9 => (rw [List.getElem?_toArray]; rfl)
  case fP9 => kernel_rfl
  case gP9 => kernel_rfl
  case pP9 => exact (fun _ _ _ h => h)
  case uP9 => (refine Or.inl ⟨by rfl, ?_⟩; intro w hSw; (try dsimp only at hSw); go_simp; (try rw [if_neg (by omega)]); try with_reducible rfl)
  try simp only [Act.put, List.setIfInBounds_toArray, List.set_cons_zero, List.set_cons_succ]
  refine wpAnyH_take (i := 10) (oi := ?oP10) (v := ?vP10) ?qP10 (by kernel_rfl) ?fP10 ?gP10 ?pP10 ?uP10 (by assumption) ?rP10
  case qP10 => (rw [List.getElem?_toArray]; rfl)
  case fP10 => kernel_rfl
  case gP10 => kernel_rfl
  case pP10 => exact (fun _ _ _ h => h)
  case uP10 => (refine Or.inl ⟨by rfl, ?_⟩; intro w hSw; (try dsimp only at hSw); go_simp; (try rw [if_neg (by omega)]); try with_reducible rfl)
  try simp only [Act.put, List.setIfInBounds_toArray, List.set_cons_zero, List.set_cons_succ]
  refine wpAnyH_take (i := 11) (oi := ?oP11) (v := ?vP11) ?qP11 (by kernel_rfl) ?fP11 ?gP11 ?pP11 ?uP11 (by assumption) ?rP11
  case qP11 => (rw [List.getElem?_toArray]; rfl)
  case fP11 => kernel_rfl
  case gP11 => kernel_rfl
  case pP11 => exact (fun _ _ _ h => h)
  case uP11 => (refine Or.inl ⟨by rfl, ?_⟩; intro w hSw; (try dsimp only at hSw); go_simp; (try rw [if_neg (by omega)]); try with_reducible rfl)
  try simp only [Act.put, List.setIfInBounds_toArray, List.set_cons_zero, List.set_cons_succ]
  refine wpAnyH_take (i := 12) (oi := ?oP12) (v := ?vP12) ?qP12 (by kernel_rfl) ?fP12 ?gP12 ?pP12 ?uP12 (by assumption) ?rP12
  case qP12 => (rw [List.getElem?_toArray]; rfl)
  case fP12 => kernel_rfl
  case gP12 => kernel_rfl
  case pP12 => exact (fun _ _ _ h => h)
  case uP12 => (refine Or.inl ⟨by rfl, ?_⟩; intro w hSw; (try dsimp only at hSw); go_simp; (try rw [if_neg (by omega)]); try with_reducible rfl)
  try simp only [Act.put, List.setIfInBounds_toArray, List.set_cons_zero, List.set_cons_succ]
  refine wpAnyH_done (by kernel_rfl) ?_ _
  clear hS4 hS5 hK hHeld
  have HC := Lib.hid (Chain.start Hm5.out.m.emit)
  go_wp2_with fail
  refine (made_more HC.out (by omega) (by have := Hlen.out; omega) Hpv.out).mono ?_
  rintro e w6 ⟨rfl, C⟩
  have hfin : ∃ v', MkA N0 big fi t nx w6 b v' (l ++ pc) (k + 1) ∧ MkStep w b v w6 v' := by
    obtain ⟨v', M', S'⟩ := Hm5.out.chain hT C
    exact ⟨v', M', (((MkStep.refl w b v).quiet (Mod.refl noF w).drew).trans HM.out.lt Hs5.out).trans HM.out.lt S'⟩
  have Hfin := Lib.hid hfin
  clear hfin C
  go_wp2
  go_end0
  exact ⟨rfl, Hfin.out⟩
set_option maxHeartbeats 8000000 in
theorem part3_ok (HF : FreshH N0 big f t nx K) (hT : big → lowT N0) (h1 : 1 ≤ f) (h4 : f ≤ 4) (M : MkA N0 big f t nx w b v l k) (hk : k < K) (hK : K ≤ 120) (hl : l.length ≤ 100000) :
    Calls Tryz.prog 47 #[.pointer (some ⟨b, 0, none⟩), .func (.func 48) #[] #[]] w fun e w' => e = .returned (.tuple #[]) ∧ ∃ v', MkA N0 big f t nx w' b v' (l ++ preC (Qu.labN (k + 1)) (gcode f 3)) (k + 1) ∧ MkStep w b v w' v' := by
  have hfr := fun W (hW : Mod noF w W) => HF W b v l k hk (M.quiet hW)
  have hla := (Qu.labN_facts (k + 1) (by omega)).2
  have hg := fun W => grace_good h1 h4 (show 3 < 5 by decide) ⟨(Qu.labN (k + 1)).toArray⟩ W (by simpa using hla.2.1) (by simpa [ByteArray.size] using hla.1)
  have hlen : (preC (Qu.labN (k + 1)) (gcode f 3)).length ≤ 70 := by unfold preC; rw [List.length_map]; exact gcode_len h4 (by decide)
  have Hlen := Lib.hid hlen
  simp only at hg
  unfold graceFn at hg
  generalize hlb : (⟨(Qu.labN (k + 1)).toArray⟩ : ByteArray) = lb at *
  generalize preC (Qu.labN (k + 1)) (gcode f 3) = pc at *
  generalize ((f : Nat) : Int) = fi at *
  have c1 := M.c1
  have HM := Lib.hid M
  have Hfr := Lib.hid hfr
  have Hg := Lib.hid hg
  have hfi := fi
  clear M hfr hla hg HF hlb hlen
  go_enter Tryz.func47, Tryz.ntmps47
  go_wp2
  refine wp_region_held_drew (S := fun W => W.cell? ⟨b, 1, none⟩ = some (.int .i64 fi)) (by kernel_rfl) ((Mod.refl noF _).drew.cell c1 (fun e => e)) (fun hHeld => ?_)
  refine wpAnyH_take (i := 0) (oi := ?oP0) (v := ?vP0) ?qP0 (by kernel_rfl) ?fP0 ?gP0 ?pP0 ?uP0 (by assumption) ?rP0
  case qP0 => (rw [List.getElem?_toArray]; rfl)
  case fP0 => kernel_rfl
  case gP0 => kernel_rfl
  case pP0 => exact (fun _ _ _ h => h)
  case uP0 => (refine Or.inl ⟨by rfl, ?_⟩; intro w hSw; (try dsimp only at hSw); go_simp; (try rw [if_neg (by omega)]); try with_reducible rfl)
  try simp only [Act.put, List.setIfInBounds_toArray, List.set_cons_zero, List.set_cons_succ]
  refine wpAnyH_take (i := 1) (oi := ?oP1) (v := ?vP1) ?qP1 (by kernel_rfl) ?fP1 ?gP1 ?pP1 ?uP1 (by assumption) ?rP1
  case qP1 => (rw [List.getElem?_toArray]; rfl)
  case fP1 => kernel_rfl
  case gP1 => kernel_rfl
  case pP1 => exact (fun _ _ _ h => h)
  case uP1 => (refine Or.inl ⟨by rfl, ?_⟩; intro w hSw; (try dsimp only at hSw); go_simp; (try rw [if_neg (by omega)]); try with_reducible rfl)
  try simp only [Act.put, List.setIfInBounds_toArray, List.set_cons_zero, List.set_cons_succ]
  refine wpAnyH_take (i := 2) (oi := ?oP2) (v := ?vP2) ?qP2 (by kernel_rfl) ?fP2 ?gP2 ?pP2 ?uP2 (by assumption) ?rP2
  case qP2 => (rw [List.getElem?_toArray]; rfl)
  case fP2 => kernel_rfl
  case gP2 => kernel_rfl
  case pP2 => exact (fun _ _ _ h => h)
  case uP2 => (refine Or.inl ⟨by rfl, ?_⟩; intro w hSw; (try dsimp only at hSw); go_simp; (try rw [if_neg (by omega)]); try with_reducible rfl)
  try simp only [Act.put, List.setIfInBounds_toArray, List.set_cons_zero, List.set_cons_succ]
  refine wpAnyH_take (i := 3) (oi := ?oP3) (v := ?vP3) ?qP3 (by kernel_rfl) ?fP3 ?gP3 ?pP3 ?uP3 (by assumption) ?rP3
  case qP3 => (rw [List.getElem?_toArray]; rfl)
  case fP3 => kernel_rfl
  case gP3 => kernel_rfl
  case pP3 => exact (fun _ _ _ h => h)
  case uP3 => (refine Or.inl ⟨by rfl, ?_⟩; intro w hSw; (try dsimp only at hSw); go_simp; (try rw [if_neg (by omega)]); try with_reducible rfl)
  try simp only [Act.put, List.setIfInBounds_toArray, List.set_cons_zero, List.set_cons_succ]
  refine wpAnyH_take (i := 4) (oi := ?oP4) (v := ?vP4) ?qP4 (by kernel_rfl) ?fP4 ?gP4 ?pP4 ?uP4 (by assumption) ?rP4
  case qP4 => (rw [List.getElem?_toArray]; rfl)
  case fP4 => kernel_rfl
  case gP4 => kernel_rfl
  case pP4 => exact (fun _ _ _ h => h)
  case uP4 => (refine Or.inl ⟨by rfl, ?_⟩; intro w hSw; (try dsimp only at hSw); go_simp; (try rw [if_neg (by omega)]); try with_reducible rfl)
  try simp only [Act.put, List.setIfInBounds_toArray, List.set_cons_zero, List.set_cons_succ]
  refine wpAnyH_take (i := 5) (oi := ?oP5) (v := ?vP5) ?qP5 (by kernel_rfl) ?fP5 ?gP5 ?pP5 ?uP5 (by assumption) ?rP5
  case qP5 => (rw [List.getElem?_toArray]; rfl)
  case fP5 => kernel_rfl
  case gP5 => kernel_rfl
  case pP5 => exact (fun _ _ _ h => h)
  case uP5 => (refine Or.inl ⟨by rfl, ?_⟩; intro w hSw; (try dsimp only at hSw); go_simp; (try rw [if_neg (by omega)]); try with_reducible rfl)
  try simp only [Act.put, List.setIfInBounds_toArray, List.set_cons_zero, List.set_cons_succ]
  refine wpAnyH_ready (rs := [6]) (by kernel_rfl) (by simp) ?_
  refine AllReadyH.cons rfl (fun K hK => ?_) AllReadyH.nil
  go_simp
  refine (Hfr.out _ (Mod.refl _ _).drew).mono ?_
  rintro e w4 ⟨rfl, hm4, hs4⟩
  have Hm4 := Lib.hid hm4
  have Hs4 := Lib.hid hs4
  refine Shut.out hK _ _ hm4.c1 (fun hS4 => ?_)
  clear hm4 hs4 c1
  try simp only [Act.put, List.setIfInBounds_toArray, List.set_cons_zero, List.set_cons_succ]
  refine wpAnyH_ready (rs := [7]) (by kernel_rfl) (by simp) ?_
  refine AllReadyH.cons rfl (fun K hK => ?_) AllReadyH.nil
  go_simp
  refine (Hg.out _).mono ?_
  rintro e w5 ⟨pv, rfl, hmade⟩
  have hq5 := Mod.below hmade.2.1
  have hM5 := Hm4.out.quiet hq5
  have Hm5 := Lib.hid hM5
  have Hs5 := Lib.hid (Hs4.out.quiet hq5)
  have Hpv := Lib.hid hmade.1
  have Hpn := Lib.hid hmade.2.2
  refine Shut.out hK _ _ hM5.c1 (fun hS5 => ?_)
  clear hM5 hmade hq5
  try simp only [Act.put, List.setIfInBounds_toArray, List.set_cons_zero, List.set_cons_succ]
  refine wpAnyH_take (i := 8) (oi := ?oP8) (v := ?vP8) ?qP8 (by kernel_rfl) ?fP8 ?gP8 ?pP8 ?uP8 (by assumption) ?rP8
  case qP8 => (rw [List.getElem?_toArray]; rfl)
  case fP8 => kernel_rfl
  case gP8 => kernel_rfl
  case pP8 => exact (fun _ _ _ h => h)
  case uP8 => (refine Or.inl ⟨by rfl, ?_⟩; intro w hSw; (try dsimp only at hSw); go_simp; (try rw [if_neg (by omega)]); try with_reducible rfl)
  try simp only [Act.put, List.setIfInBounds_toArray, List.set_cons_zero, List.set_cons_succ]
  refine wpAnyH_take (i := 9) (oi := ?oP9) (v := ?vP9) ?qP9 (by kernel_rfl) ?fP9 ?gP9 ?pP9 ?uP9 (by assumption) ?rP9
  case qP9 => (rw [List.getElem?_toArray]; rfl)
  case fP9 => kernel_rfl
  case gP9 => kernel_rfl
  case pP9 => exact (fun _ _ _ h => h)
  case uP9 => (refine Or.inl ⟨by rfl, ?_⟩; intro w hSw; (try dsimp only at hSw); go_simp; (try rw [if_neg (by omega)]); try with_reducible rfl)
  try simp only [Act.put, List.setIfInBounds_toArray, List.set_cons_zero, List.set_cons_succ]
  refine wpAnyH_take (i := 10) (oi := ?oP10) (v := ?vP10) ?qP10 (by kernel_rfl) ?fP10 ?gP10 ?pP10 ?uP10 (by assumption) ?rP10
  case qP10 => (rw [List.getElem?_toArray]; rfl)
  case fP10 => kernel_rfl
  case gP10 => kernel_rfl
  case pP10 => exact (fun _ _ _ h => h)
  case uP10 => (refine Or.inl ⟨by rfl, ?_⟩; intro w hSw; (try dsimp only at hSw); go_simp; (try rw [if_neg (by omega)]); try with_reducible rfl)
  try simp only [Act.put, List.setIfInBounds_toArray, List.set_cons_zero, List.set_cons_succ]
  refine wpAnyH_take (i := 11) (oi := ?oP11) (v := ?vP11) ?qP11 (by kernel_rfl) ?fP11 ?gP11 ?pP11 ?uP11 (by assumption) ?rP11
  case qP11 => (rw [List.getElem?_toArray]; rfl)
  case fP11 => kernel_rfl
  case gP11 => kernel_rfl
  case pP11 => exact (fun _ _ _ h => h)
  case uP11 => (refine Or.inl ⟨by rfl, ?_⟩; intro w hSw; (try dsimp only at hSw); go_simp; (try rw [if_neg (by omega)]); try with_reducible rfl)
  try simp only [Act.put, List.setIfInBounds_toArray, List.set_cons_zero, List.set_cons_succ]
  refine wpAnyH_take (i := 12) (oi := ?oP12) (v := ?vP12) ?qP12 (by kernel_rfl) ?fP12 ?gP12 ?pP12 ?uP12 (by assumption) ?rP12
  case qP12 => (rw [List.getElem?_toArray]; rfl)
  case fP12 => kernel_rfl
  case gP12 => kernel_rfl
  case pP12 => exact (fun _ _ _ h => h)
  case uP12 => (refine Or.inl ⟨by rfl, ?_⟩; intro w hSw; (try dsimp only at hSw); go_simp; (try rw [if_neg (by omega)]); try with_reducible rfl)
  try simp only [Act.put, List.setIfInBounds_toArray, List.set_cons_zero, List.set_cons_succ]
  refine wpAnyH_done (by kernel_rfl) ?_ _
  clear hS4 hS5 hK hHeld
  have HC := Lib.hid (Chain.start Hm5.out.m.emit)
  go_wp2_with fail
  refine (made_more HC.out (by omega) (by have := Hlen.out; omega) Hpv.out).mono ?_
  rintro e w6 ⟨rfl, C⟩
  have hfin : ∃ v', MkA N0 big fi t nx w6 b v' (l ++ pc) (k + 1) ∧ MkStep w b v w6 v' := by
    obtain ⟨v', M', S'⟩ := Hm5.out.chain hT C
    exact ⟨v', M', (((MkStep.refl w b v).quiet (Mod.refl noF w).drew).trans HM.out.lt Hs5.out).trans HM.out.lt S'⟩
  have Hfin := Lib.hid hfin
  clear hfin C
  go_wp2
  go_end0
  exact ⟨rfl, Hfin.out⟩
set_option maxHeartbeats 8000000 in
theorem part4_ok (HF : FreshH N0 big f t nx K) (hT : big → lowT N0) (h1 : 1 ≤ f) (h4 : f ≤ 4) (M : MkA N0 big f t nx w b v l k) (hk : k < K) (hK : K ≤ 120) (hl : l.length ≤ 100000) :
    Calls Tryz.prog 47 #[.pointer (some ⟨b, 0, none⟩), .func (.func 86) #[] #[]] w fun e w' => e = .returned (.tuple #[]) ∧ ∃ v', MkA N0 big f t nx w' b v' (l ++ preC (Qu.labN (k + 1)) (gcode f 4)) (k + 1) ∧ MkStep w b v w' v' := by
  have hfr := fun W (hW : Mod noF w W) => HF W b v l k hk (M.quiet hW)
  have hla := (Qu.labN_facts (k + 1) (by omega)).2
  have hg := fun W => grace_good h1 h4 (show 4 < 5 by decide) ⟨(Qu.labN (k + 1)).toArray⟩ W (by simpa using hla.2.1) (by simpa [ByteArray.size] using hla.1)
  have hlen : (preC (Qu.labN (k + 1)) (gcode f 4)).length ≤ 70 := by unfold preC; rw [List.length_map]; exact gcode_len h4 (by decide)
  have Hlen := Lib.hid hlen
  simp only at hg
  unfold graceFn at hg
  generalize hlb : (⟨(Qu.labN (k + 1)).toArray⟩ : ByteArray) = lb at *
  generalize preC (Qu.labN (k + 1)) (gcode f 4) = pc at *
  generalize ((f : Nat) : Int) = fi at *
  have c1 := M.c1
  have HM := Lib.hid M
  have Hfr := Lib.hid hfr
  have Hg := Lib.hid hg
  have hfi := fi
  clear M hfr hla hg HF hlb hlen
  go_enter Tryz.func47, Tryz.ntmps47
  go_wp2
  refine wp_region_held_drew (S := fun W => W.cell? ⟨b, 1, none⟩ = some (.int .i64 fi)) (by kernel_rfl) ((Mod.refl noF _).drew.cell c1 (fun e => e)) (fun hHeld => ?_)
  refine wpAnyH_take (i := 0) (oi := ?oP0) (v := ?vP0) ?qP0 (by kernel_rfl) ?fP0 ?gP0 ?pP0 ?uP0 (by assumption) ?rP0
  case qP0 => (rw [List.getElem?_toArray]; rfl)
  case fP0 => kernel_rfl
  case gP0 => kernel_rfl
  case pP0 => exact (fun _ _ _ h => h)
  case uP0 => (refine Or.inl ⟨by rfl, ?_⟩; intro w hSw; (try dsimp only at hSw); go_simp; (try rw [if_neg (by omega)]); try with_reducible rfl)
  try simp only [Act.put, List.setIfInBounds_toArray, List.set_cons_zero, List.set_cons_succ]
  refine wpAnyH_take (i := 1) (oi := ?oP1) (v := ?vP1) ?qP1 (by kernel_rfl) ?fP1 ?gP1 ?pP1 ?uP1 (by assumption) ?rP1
  case qP1 => (rw [List.getElem?_toArray]; rfl)
  case fP1 => kernel_rfl
  case gP1 => kernel_rfl
  case pP1 => exact (fun _ _ _ h => h)
  case uP1 => (refine Or.inl ⟨by rfl, ?_⟩; intro w hSw; (try dsimp only at hSw); go_simp; (try rw [if_neg (by omega)]); try with_reducible rfl)
  try simp only [Act.put, List.setIfInBounds_toArray, List.set_cons_zero, List.set_cons_succ]
  refine wpAnyH_take (i := 2) (oi := ?oP2) (v := ?vP2) ?qP2 (by kernel_rfl) ?fP2 ?gP2 ?pP2 ?uP2 (by assumption) ?rP2
  case qP2 => (rw [List.getElem?_toArray]; rfl)
  case fP2 => kernel_rfl
  case gP2 => kernel_rfl
  case pP2 => exact (fun _ _ _ h => h)
  case uP2 => (refine Or.inl ⟨by rfl, ?_⟩; intro w hSw; (try dsimp only at hSw); go_simp; (try rw [if_neg (by omega)]); try with_reducible rfl)
  try simp only [Act.put, List.setIfInBounds_toArray, List.set_cons_zero, List.set_cons_succ]
  refine wpAnyH_take (i := 3) (oi := ?oP3) (v := ?vP3) ?qP3 (by kernel_rfl) ?fP3 ?gP3 ?pP3 ?uP3 (by assumption) ?rP3
  case qP3 => (rw [List.getElem?_toArray]; rfl)
  case fP3 => kernel_rfl
  case gP3 => kernel_rfl
  case pP3 => exact (fun _ _ _ h => h)
  case uP3 => (refine Or.inl ⟨by rfl, ?_⟩; intro w hSw; (try dsimp only at hSw); go_simp; (try rw [if_neg (by omega)]); try with_reducible rfl)
  try simp only [Act.put, List.setIfInBounds_toArray, List.set_cons_zero, List.set_cons_succ]
  refine wpAnyH_take (i := 4) (oi := ?oP4) (v := ?vP4) ?qP4 (by kernel_rfl) ?fP4 ?gP4 ?pP4 ?uP4 (by assumption) ?rP4
  case qP4 => (rw [List.getElem?_toArray]; rfl)
  case fP4 => kernel_rfl
  case gP4 => kernel_rfl
  case pP4 => exact (fun _ _ _ h => h)
  case uP4 => (refine Or.inl ⟨by rfl, ?_⟩; intro w hSw; (try dsimp only at hSw); go_simp; (try rw [if_neg (by omega)]); try with_reducible rfl)
  try simp only [Act.put, List.setIfInBounds_toArray, List.set_cons_zero, List.set_cons_succ]
  refine wpAnyH_take (i := 5) (oi := ?oP5) (v := ?vP5) ?qP5 (by kernel_rfl) ?fP5 ?gP5 ?pP5 ?uP5 (by assumption) ?rP5
  case qP5 => (rw [List.getElem?_toArray]; rfl)
  case fP5 => kernel_rfl
  case gP5 => kernel_rfl
  case pP5 => exact (fun _ _ _ h => h)
  case uP5 => (refine Or.inl ⟨by rfl, ?_⟩; intro w hSw; (try dsimp only at hSw); go_simp; (try rw [if_neg (by omega)]); try with_reducible rfl)
  try simp only [Act.put, List.setIfInBounds_toArray, List.set_cons_zero, List.set_cons_succ]
  refine wpAnyH_ready (rs := [6]) (by kernel_rfl) (by simp) ?_
  refine AllReadyH.cons rfl (fun K hK => ?_) AllReadyH.nil
  go_simp
  refine (Hfr.out _ (Mod.refl _ _).drew).mono ?_
  rintro e w4 ⟨rfl, hm4, hs4⟩
  have Hm4 := Lib.hid hm4
  have Hs4 := Lib.hid hs4
  refine Shut.out hK _ _ hm4.c1 (fun hS4 => ?_)
  clear hm4 hs4 c1
  try simp only [Act.put, List.setIfInBounds_toArray, List.set_cons_zero, List.set_cons_succ]
  refine wpAnyH_ready (rs := [7]) (by kernel_rfl) (by simp) ?_
  refine AllReadyH.cons rfl (fun K hK => ?_) AllReadyH.nil
  go_simp
  refine (Hg.out _).mono ?_
  rintro e w5 ⟨pv, rfl, hmade⟩
  have hq5 := Mod.below hmade.2.1
  have hM5 := Hm4.out.quiet hq5
  have Hm5 := Lib.hid hM5
  have Hs5 := Lib.hid (Hs4.out.quiet hq5)
  have Hpv := Lib.hid hmade.1
  have Hpn := Lib.hid hmade.2.2
  refine Shut.out hK _ _ hM5.c1 (fun hS5 => ?_)
  clear hM5 hmade hq5
  try simp only [Act.put, List.setIfInBounds_toArray, List.set_cons_zero, List.set_cons_succ]
  refine wpAnyH_take (i := 8) (oi := ?oP8) (v := ?vP8) ?qP8 (by kernel_rfl) ?fP8 ?gP8 ?pP8 ?uP8 (by assumption) ?rP8
  case qP8 => (rw [List.getElem?_toArray]; rfl)
  case fP8 => kernel_rfl
  case gP8 => kernel_rfl
  case pP8 => exact (fun _ _ _ h => h)
  case uP8 => (refine Or.inl ⟨by rfl, ?_⟩; intro w hSw; (try dsimp only at hSw); go_simp; (try rw [if_neg (by omega)]); try with_reducible rfl)
  try simp only [Act.put, List.setIfInBounds_toArray, List.set_cons_zero, List.set_cons_succ]
  refine wpAnyH_take (i := 9) (oi := ?oP9) (v := ?vP9) ?qP9 (by kernel_rfl) ?fP9 ?gP9 ?pP9 ?uP9 (by assumption) ?rP9
  case qP9 => (rw [List.getElem?_toArray]; rfl)
  case fP9 => kernel_rfl
  case gP9 => kernel_rfl
  case pP9 => exact (fun _ _ _ h => h)
  case uP9 => (refine Or.inl ⟨by rfl, ?_⟩; intro w hSw; (try dsimp only at hSw); go_simp; (try rw [if_neg (by omega)]); try with_reducible rfl)
  try simp only [Act.put, List.setIfInBounds_toArray, List.set_cons_zero, List.set_cons_succ]
  refine wpAnyH_take (i := 10) (oi := ?oP10) (v := ?vP10) ?qP10 (by kernel_rfl) ?fP10 ?gP10 ?pP10 ?uP10 (by assumption) ?rP10
  case qP10 => (rw [List.getElem?_toArray]; rfl)
  case fP10 => kernel_rfl
  case gP10 => kernel_rfl
  case pP10 => exact (fun _ _ _ h => h)
  case uP10 => (refine Or.inl ⟨by rfl, ?_⟩; intro w hSw; (try dsimp only at hSw); go_simp; (try rw [if_neg (by omega)]); try with_reducible rfl)
  try simp only [Act.put, List.setIfInBounds_toArray, List.set_cons_zero, List.set_cons_succ]
  refine wpAnyH_take (i := 11) (oi := ?oP11) (v := ?vP11) ?qP11 (by kernel_rfl) ?fP11 ?gP11 ?pP11 ?uP11 (by assumption) ?rP11
  case qP11 => (rw [List.getElem?_toArray]; rfl)
  case fP11 => kernel_rfl
  case gP11 => kernel_rfl
  case pP11 => exact (fun _ _ _ h => h)
  case uP11 => (refine Or.inl ⟨by rfl, ?_⟩; intro w hSw; (try dsimp only at hSw); go_simp; (try rw [if_neg (by omega)]); try with_reducible rfl)
  try simp only [Act.put, List.setIfInBounds_toArray, List.set_cons_zero, List.set_cons_succ]
  refine wpAnyH_take (i := 12) (oi := ?oP12) (v := ?vP12) ?qP12 (by kernel_rfl) ?fP12 ?gP12 ?pP12 ?uP12 (by assumption) ?rP12
  case qP12 => (rw [List.getElem?_toArray]; rfl)
  case fP12 => kernel_rfl
  case gP12 => kernel_rfl
  case pP12 => exact (fun _ _ _ h => h)
  case uP12 => (refine Or.inl ⟨by rfl, ?_⟩; intro w hSw; (try dsimp only at hSw); go_simp; (try rw [if_neg (by omega)]); try with_reducible rfl)
  try simp only [Act.put, List.setIfInBounds_toArray, List.set_cons_zero, List.set_cons_succ]
  refine wpAnyH_done (by kernel_rfl) ?_ _
  clear hS4 hS5 hK hHeld
  have HC := Lib.hid (Chain.start Hm5.out.m.emit)
  go_wp2_with fail
  refine (made_more HC.out (by omega) (by have := Hlen.out; omega) Hpv.out).mono ?_
  rintro e w6 ⟨rfl, C⟩
  have hfin : ∃ v', MkA N0 big fi t nx w6 b v' (l ++ pc) (k + 1) ∧ MkStep w b v w6 v' := by
    obtain ⟨v', M', S'⟩ := Hm5.out.chain hT C
    exact ⟨v', M', (((MkStep.refl w b v).quiet (Mod.refl noF w).drew).trans HM.out.lt Hs5.out).trans HM.out.lt S'⟩
  have Hfin := Lib.hid hfin
  clear hfin C
  go_wp2
  go_end0
  exact ⟨rfl, Hfin.out⟩
end Go.Proofs.YtppihkneeolomaaGreatDoor
end
/- package client: a maker's list. -/
section
namespace Go.Proofs.YtppihkneeolomaaGreatDoor
open Go.RowKit Qs Qh
variable {N0 K tn f : Nat} {big : Prop} {nx : Int} {w w1 w2 : World} {b k : Nat} {v v1 v2 : Value} {l : List Instr}
theorem Chain.at0 {w0 : World} {o : Nat} {v0 : Value} (C : Chain w0 b o v0 l w) {j : Nat} (hj : j ≠ o) {u : Value} (h : w0.cell? ⟨b, j, none⟩ = some u) : w.cell? ⟨b, j, none⟩ = some u := by
  obtain ⟨hb, v, E, G⟩ := C
  exact G.cells j _ hj h
set_option maxHeartbeats 16000000 in
theorem mklist_ok (hT : big → lowT N0) (htn : tn < 6) (M : MkA N0 big f (tn : Nat) nx w b v l k) (hl : l.length ≤ 200000) :
    Calls Tryz.prog 97 #[.pointer (some ⟨b, 0, none⟩)] w fun e w' => e = .returned (.int .i64 ((tn % 4 : Nat) : Int)) ∧ ∃ v', MkA N0 big f (tn : Nat) nx w' b v' (l ++ [⟨6, 2, 5, ((1 + tn / 4 : Nat) : Int), []⟩]) k ∧ MkStep w b v w' v' := by
  have HM := Lib.hid M
  have Hc2 := Lib.hid M.c2
  have c2 := M.c2
  have hwr : IntKind.i64.wrap (1 + IntKind.i64.wrap ((tn : Int) / 4)) = ((1 + tn / 4 : Nat) : Int) := by
    rcases (by omega : tn = 0 ∨ tn = 1 ∨ tn = 2 ∨ tn = 3 ∨ tn = 4 ∨ tn = 5) with rfl | rfl | rfl | rfl | rfl | rfl <;> decide
  clear M
  go_enter Tryz.func97, Tryz.ntmps97
  have HC := Lib.hid (Chain.start HM.out.m.emit)
  go_wp2
  refine wp_region_held_drew (S := fun W => W.cell? ⟨b, 2, none⟩ = some (.int .i64 ((tn : Nat) : Int))) (by kernel_rfl) ((Mod.refl noF _).drew.cell Hc2.out (fun e => e)) (fun hHeld => ?_)
  refine wpAnyH_take (i := 0) (oi := ?oRx0) (v := ?vRx0) ?qRx0 (by kernel_rfl) ?fRx0 ?gRx0 ?pRx0 ?uRx0 (by assumption) ?rRx0
  case qRx0 => (rw [List.getElem?_toArray]; rfl)
  case fRx0 => kernel_rfl
  case gRx0 => kernel_rfl
  case pRx0 => exact (fun _ _ _ h => h)
  case uRx0 => (refine Or.inl ⟨by rfl, ?_⟩; intro w hSw; (try dsimp only at hSw); go_simp; (try rw [if_neg (by omega)]); try with_reducible rfl)
  try simp only [Act.put, List.setIfInBounds_toArray, List.set_cons_zero, List.set_cons_succ]
  refine wpAnyH_take (i := 1) (oi := ?oRx1) (v := ?vRx1) ?qRx1 (by kernel_rfl) ?fRx1 ?gRx1 ?pRx1 ?uRx1 (by assumption) ?rRx1
  case qRx1 => (rw [List.getElem?_toArray]; rfl)
  case fRx1 => kernel_rfl
  case gRx1 => kernel_rfl
  case pRx1 => exact (fun _ _ _ h => h)
  case uRx1 => (refine Or.inl ⟨by rfl, ?_⟩; intro w hSw; (try dsimp only at hSw); go_simp; (try rw [if_neg (by omega)]); try with_reducible rfl)
  try simp only [Act.put, List.setIfInBounds_toArray, List.set_cons_zero, List.set_cons_succ]
  refine wpAnyH_take (i := 2) (oi := ?oRx2) (v := ?vRx2) ?qRx2 (by kernel_rfl) ?fRx2 ?gRx2 ?pRx2 ?uRx2 (by assumption) ?rRx2
  case qRx2 => (rw [List.getElem?_toArray]; rfl)
  case fRx2 => kernel_rfl
  case gRx2 => kernel_rfl
  case pRx2 => exact (fun _ _ _ h => h)
  case uRx2 => (refine Or.inl ⟨by rfl, ?_⟩; intro w hSw; (try dsimp only at hSw); go_simp; (try rw [if_neg (by omega)]); try with_reducible rfl)
  try simp only [Act.put, List.setIfInBounds_toArray, List.set_cons_zero, List.set_cons_succ]
  refine wpAnyH_take (i := 3) (oi := ?oRx3) (v := ?vRx3) ?qRx3 (by kernel_rfl) ?fRx3 ?gRx3 ?pRx3 ?uRx3 (by assumption) ?rRx3
  case qRx3 => (rw [List.getElem?_toArray]; rfl)
  case fRx3 => kernel_rfl
  case gRx3 => kernel_rfl
  case pRx3 => exact (fun _ _ _ h => h)
  case uRx3 => (refine Or.inl ⟨by rfl, ?_⟩; intro w hSw; (try dsimp only at hSw); go_simp; (try rw [if_neg (by omega)]); try with_reducible rfl)
  try simp only [Act.put, List.setIfInBounds_toArray, List.set_cons_zero, List.set_cons_succ]
  refine wpAnyH_take (i := 4) (oi := ?oRx4) (v := ?vRx4) ?qRx4 (by kernel_rfl) ?fRx4 ?gRx4 ?pRx4 ?uRx4 (by assumption) ?rRx4
  case qRx4 => (rw [List.getElem?_toArray]; rfl)
  case fRx4 => kernel_rfl
  case gRx4 => kernel_rfl
  case pRx4 => exact (fun _ _ _ h => h)
  case uRx4 => (refine Or.inl ⟨by rfl, ?_⟩; intro w hSw; (try dsimp only at hSw); go_simp; (try rw [if_neg (by omega)]); try with_reducible rfl)
  try simp only [Act.put, List.setIfInBounds_toArray, List.set_cons_zero, List.set_cons_succ]
  refine wpAnyH_take (i := 5) (oi := ?oRx5) (v := ?vRx5) ?qRx5 (by kernel_rfl) ?fRx5 ?gRx5 ?pRx5 ?uRx5 (by assumption) ?rRx5
  case qRx5 => (rw [List.getElem?_toArray]; rfl)
  case fRx5 => kernel_rfl
  case gRx5 => kernel_rfl
  case pRx5 => exact (fun _ _ _ h => h)
  case uRx5 => (refine Or.inl ⟨by rfl, ?_⟩; intro w hSw; (try dsimp only at hSw); go_simp; (try rw [if_neg (by omega)]); try with_reducible rfl)
  try simp only [Act.put, List.setIfInBounds_toArray, List.set_cons_zero, List.set_cons_succ]
  refine wpAnyH_take (i := 6) (oi := ?oRx6) (v := ?vRx6) ?qRx6 (by kernel_rfl) ?fRx6 ?gRx6 ?pRx6 ?uRx6 (by assumption) ?rRx6
  case qRx6 => (rw [List.getElem?_toArray]; rfl)
  case fRx6 => kernel_rfl
  case gRx6 => kernel_rfl
  case pRx6 => exact (fun _ _ _ h => h)
  case uRx6 => (refine Or.inl ⟨by rfl, ?_⟩; intro w hSw; (try dsimp only at hSw); go_simp; (try rw [if_neg (by omega)]); try with_reducible rfl)
  try simp only [Act.put, List.setIfInBounds_toArray, List.set_cons_zero, List.set_cons_succ]
  refine wpAnyH_take (i := 7) (oi := ?oRx7) (v := ?vRx7) ?qRx7 (by kernel_rfl) ?fRx7 ?gRx7 ?pRx7 ?uRx7 (by assumption) ?rRx7
  case qRx7 => (rw [List.getElem?_toArray]; rfl)
  case fRx7 => kernel_rfl
  case gRx7 => kernel_rfl
  case pRx7 => exact (fun _ _ _ h => h)
  case uRx7 => (refine Or.inl ⟨by rfl, ?_⟩; intro w hSw; (try dsimp only at hSw); go_simp; (try rw [if_neg (by omega)]); try with_reducible rfl)
  try simp only [Act.put, List.setIfInBounds_toArray, List.set_cons_zero, List.set_cons_succ]
  refine wpAnyH_take (i := 8) (oi := ?oRx8) (v := ?vRx8) ?qRx8 (by kernel_rfl) ?fRx8 ?gRx8 ?pRx8 ?uRx8 (by assumption) ?rRx8
  case qRx8 => (rw [List.getElem?_toArray]; rfl)
  case fRx8 => kernel_rfl
  case gRx8 => kernel_rfl
  case pRx8 => exact (fun _ _ _ h => h)
  case uRx8 => (refine Or.inl ⟨by rfl, ?_⟩; intro w hSw; (try dsimp only at hSw); go_simp; (try rw [if_neg (by omega)]); try with_reducible rfl)
  try simp only [Act.put, List.setIfInBounds_toArray, List.set_cons_zero, List.set_cons_succ]
  refine Mk.em_spine (fun _ => ((1 + tn / 4 : Nat) : Int)) (items := [⟨some (9, 12), 10, 13⟩]) (E := [⟨6, [.c 2, .c 5, .t 11], [], 0, 0, []⟩]) (r0 := 5) (by kernel_rfl) (by kernel_rfl) (by kernel_rfl) (by rfl) ?lbR ?tvR ?moR (by rfl) (by rfl) ?lenR (fun w' l' C => C.at0 (by omega) Hc2.out) (HC.out.quiet (Mod.refl _ _).drew) (by kernel_rfl) ?_
  case lbR => (intro e he hk; simp only [List.mem_cons, List.not_mem_nil, or_false] at he; rcases he with rfl <;> (first | (simp at hk; done) | exact rfl))
  case tvR => (intro e he k hk; simp only [List.mem_cons, List.not_mem_nil, or_false] at he; rcases he with rfl <;> (first | (simp at hk; done) | (simp at hk; subst hk; exact congrArg (Value.int .i64) (show (1 : Int) + (tn : Int) / 4 = ((1 + tn / 4 : Nat) : Int) by omega))))
  case moR => (intro e he hk; simp only [List.mem_cons, List.not_mem_nil, or_false] at he; rcases he with rfl <;> (first | (simp at hk; done) | exact rfl))
  case lenR => (simp [Mk.EmC.code, Mk.EmC.ins]; omega)
  intro U xR C hU
  have u13 : U 13 = _ := hU 0 _ rfl
  simp only [spTmps, SpI.tmps, List.flatMap_cons, List.flatMap_nil, Option.map_some, Option.map_none, Option.toList_some, Option.toList_none, List.cons_append, List.nil_append, List.append_nil, patch, List.foldl_cons, List.foldl_nil, Act.put, List.setIfInBounds_toArray, List.set_cons_zero, List.set_cons_succ, u13]
  generalize U 12 = s12 at *
  clear u13 hU hHeld
  have hc2 := C.at0 (by omega) Hc2.out
  have hfin : ∃ v' : Value, MkA N0 big f (tn : Nat) nx xR b v' (l ++ [⟨6, 2, 5, ((1 + tn / 4 : Nat) : Int), []⟩]) k ∧ MkStep w b v xR v' := HM.out.chain hT C
  have Hfin := Lib.hid hfin
  clear hfin C
  go_wp2
  go_ret
  exact ⟨congrArg (fun x => Ending.returned (.int .i64 x)) (show (tn : Int) % 4 = ((tn % 4 : Nat) : Int) by omega), Hfin.out⟩
end Go.Proofs.YtppihkneeolomaaGreatDoor
end
/- package client: a node goes onto a thread's list. -/
section
namespace Go.Proofs.YtppihkneeolomaaGreatDoor
open Go.RowKit Qs Qh
variable {N0 K tn f : Nat} {big : Prop} {nx : Int} {w w1 w2 : World} {b k : Nat} {v v1 v2 : Value} {l : List Instr}
set_option maxHeartbeats 16000000 in
theorem later_ok (HF : FreshH N0 big f (tn : Nat) nx K) (hT : big → lowT N0) (htn : tn < 6) (M : MkA N0 big f (tn : Nat) nx w b v l k) (hk : k < K) (hl : l.length ≤ 100000) :
    Calls Tryz.prog 77 #[.pointer (some ⟨b, 0, none⟩)] w fun e w' => e = .returned (.tuple #[]) ∧ ∃ v', MkA N0 big f (tn : Nat) nx w' b v' (l ++ Qc.laterBlk (Qu.labN (k + 1)) tn nx) (k + 1) ∧ MkStep w b v w' v' := by
  have HM := Lib.hid M
  have Hfr := Lib.hid (HF w b v l k hk M)
  unfold Qc.laterBlk
  generalize Qu.labN (k + 1) = lb at *
  clear M HF
  go_enter Tryz.func77, Tryz.ntmps77
  go_wp2_with fail
  refine Hfr.out.mono ?_
  rintro e w1 ⟨rfl, M1, S1⟩
  have HM1 := Lib.hid M1
  have HS1 := Lib.hid S1
  have HC1 := Lib.hid (Chain.start M1.m.emit)
  clear M1 S1
  go_wp2_with fail
  refine (to1_chain (HC1.out.quiet ((Mod.refl _ _).alloc _)) (by omega) 14 _ rfl lb _ rfl w1.heap.size 3 1 (by simp) (by simp)).mono ?_
  rintro e w2 ⟨rfl, C⟩
  obtain ⟨v2, M2, S2⟩ := HM1.out.chain hT C
  have HM2 := Lib.hid M2
  have HS2 := Lib.hid (HS1.out.trans HM.out.lt S2)
  clear C M2 S2 HS1 HC1
  go_wp2_with fail
  refine (mklist_ok hT htn HM2.out (by simp; omega)).mono ?_
  rintro e w3 ⟨rfl, v3, M3, S3⟩
  have HM3 := Lib.hid M3
  have HS3 := Lib.hid (HS2.out.trans HM.out.lt S3)
  have Hc3 := Lib.hid M3.c3
  have HC := Lib.hid (Chain.start M3.m.emit)
  clear M3 S3 HS2 HM2
  go_wp2
  refine wp_region_held_drew (S := fun W => W.cell? ⟨b, 3, none⟩ = some (.int .i64 nx)) (by kernel_rfl) ((Mod.refl noF _).drew.cell Hc3.out (fun e => e)) (fun hHeld => ?_)
  refine wpAnyH_take (i := 0) (oi := ?oRx0) (v := ?vRx0) ?qRx0 (by kernel_rfl) ?fRx0 ?gRx0 ?pRx0 ?uRx0 (by assumption) ?rRx0
  case qRx0 => (rw [List.getElem?_toArray]; rfl)
  case fRx0 => kernel_rfl
  case gRx0 => kernel_rfl
  case pRx0 => exact (fun _ _ _ h => h)
  case uRx0 => (refine Or.inl ⟨by rfl, ?_⟩; intro w hSw; (try dsimp only at hSw); go_simp; (try rw [if_neg (by omega)]); try with_reducible rfl)
  try simp only [Act.put, List.setIfInBounds_toArray, List.set_cons_zero, List.set_cons_succ]
  refine wpAnyH_take (i := 1) (oi := ?oRx1) (v := ?vRx1) ?qRx1 (by kernel_rfl) ?fRx1 ?gRx1 ?pRx1 ?uRx1 (by assumption) ?rRx1
  case qRx1 => (rw [List.getElem?_toArray]; rfl)
  case fRx1 => kernel_rfl
  case gRx1 => kernel_rfl
  case pRx1 => exact (fun _ _ _ h => h)
  case uRx1 => (refine Or.inl ⟨by rfl, ?_⟩; intro w hSw; (try dsimp only at hSw); go_simp; (try rw [if_neg (by omega)]); try with_reducible rfl)
  try simp only [Act.put, List.setIfInBounds_toArray, List.set_cons_zero, List.set_cons_succ]
  refine wpAnyH_take (i := 2) (oi := ?oRx2) (v := ?vRx2) ?qRx2 (by kernel_rfl) ?fRx2 ?gRx2 ?pRx2 ?uRx2 (by assumption) ?rRx2
  case qRx2 => (rw [List.getElem?_toArray]; rfl)
  case fRx2 => kernel_rfl
  case gRx2 => kernel_rfl
  case pRx2 => exact (fun _ _ _ h => h)
  case uRx2 => (refine Or.inl ⟨by rfl, ?_⟩; intro w hSw; (try dsimp only at hSw); go_simp; (try rw [if_neg (by omega)]); try with_reducible rfl)
  try simp only [Act.put, List.setIfInBounds_toArray, List.set_cons_zero, List.set_cons_succ]
  refine wpAnyH_take (i := 3) (oi := ?oRx3) (v := ?vRx3) ?qRx3 (by kernel_rfl) ?fRx3 ?gRx3 ?pRx3 ?uRx3 (by assumption) ?rRx3
  case qRx3 => (rw [List.getElem?_toArray]; rfl)
  case fRx3 => kernel_rfl
  case gRx3 => kernel_rfl
  case pRx3 => exact (fun _ _ _ h => h)
  case uRx3 => (refine Or.inl ⟨by rfl, ?_⟩; intro w hSw; (try dsimp only at hSw); go_simp; (try rw [if_neg (by omega)]); try with_reducible rfl)
  try simp only [Act.put, List.setIfInBounds_toArray, List.set_cons_zero, List.set_cons_succ]
  refine wpAnyH_take (i := 6) (oi := ?oRx6) (v := ?vRx6) ?qRx6 (by kernel_rfl) ?fRx6 ?gRx6 ?pRx6 ?uRx6 (by assumption) ?rRx6
  case qRx6 => (rw [List.getElem?_toArray]; rfl)
  case fRx6 => kernel_rfl
  case gRx6 => kernel_rfl
  case pRx6 => exact (fun _ _ _ h => h)
  case uRx6 => (refine Or.inl ⟨by rfl, ?_⟩; intro w hSw; (try dsimp only at hSw); go_simp; (try rw [if_neg (by omega)]); try with_reducible rfl)
  try simp only [Act.put, List.setIfInBounds_toArray, List.set_cons_zero, List.set_cons_succ]
  refine wpAnyH_take (i := 7) (oi := ?oRx7) (v := ?vRx7) ?qRx7 (by kernel_rfl) ?fRx7 ?gRx7 ?pRx7 ?uRx7 (by assumption) ?rRx7
  case qRx7 => (rw [List.getElem?_toArray]; rfl)
  case fRx7 => kernel_rfl
  case gRx7 => kernel_rfl
  case pRx7 => exact (fun _ _ _ h => h)
  case uRx7 => (refine Or.inl ⟨by rfl, ?_⟩; intro w hSw; (try dsimp only at hSw); go_simp; (try rw [if_neg (by omega)]); try with_reducible rfl)
  try simp only [Act.put, List.setIfInBounds_toArray, List.set_cons_zero, List.set_cons_succ]
  refine wpAnyH_take (i := 8) (oi := ?oRx8) (v := ?vRx8) ?qRx8 (by kernel_rfl) ?fRx8 ?gRx8 ?pRx8 ?uRx8 (by assumption) ?rRx8
  case qRx8 => (rw [List.getElem?_toArray]; rfl)
  case fRx8 => kernel_rfl
  case gRx8 => kernel_rfl
  case pRx8 => exact (fun _ _ _ h => h)
  case uRx8 => (refine Or.inl ⟨by rfl, ?_⟩; intro w hSw; (try dsimp only at hSw); go_simp; (try rw [if_neg (by omega)]); try with_reducible rfl)
  try simp only [Act.put, List.setIfInBounds_toArray, List.set_cons_zero, List.set_cons_succ]
  refine wpAnyH_take (i := 9) (oi := ?oRx9) (v := ?vRx9) ?qRx9 (by kernel_rfl) ?fRx9 ?gRx9 ?pRx9 ?uRx9 (by assumption) ?rRx9
  case qRx9 => (rw [List.getElem?_toArray]; rfl)
  case fRx9 => kernel_rfl
  case gRx9 => kernel_rfl
  case pRx9 => exact (fun _ _ _ h => h)
  case uRx9 => (refine Or.inl ⟨by rfl, ?_⟩; intro w hSw; (try dsimp only at hSw); go_simp; (try rw [if_neg (by omega)]); try with_reducible rfl)
  try simp only [Act.put, List.setIfInBounds_toArray, List.set_cons_zero, List.set_cons_succ]
  refine wpAnyH_take (i := 12) (oi := ?oRx12) (v := ?vRx12) ?qRx12 (by kernel_rfl) ?fRx12 ?gRx12 ?pRx12 ?uRx12 (by assumption) ?rRx12
  case qRx12 => (rw [List.getElem?_toArray]; rfl)
  case fRx12 => kernel_rfl
  case gRx12 => kernel_rfl
  case pRx12 => exact (fun _ _ _ h => h)
  case uRx12 => (refine Or.inl ⟨by rfl, ?_⟩; intro w hSw; (try dsimp only at hSw); go_simp; (try rw [if_neg (by omega)]); try with_reducible rfl)
  try simp only [Act.put, List.setIfInBounds_toArray, List.set_cons_zero, List.set_cons_succ]
  refine wpAnyH_take (i := 17) (oi := ?oRx17) (v := ?vRx17) ?qRx17 (by kernel_rfl) ?fRx17 ?gRx17 ?pRx17 ?uRx17 (by assumption) ?rRx17
  case qRx17 => (rw [List.getElem?_toArray]; rfl)
  case fRx17 => kernel_rfl
  case gRx17 => kernel_rfl
  case pRx17 => exact (fun _ _ _ h => h)
  case uRx17 => (refine Or.inl ⟨by rfl, ?_⟩; intro w hSw; (try dsimp only at hSw); go_simp; (try rw [if_neg (by omega)]); try with_reducible rfl)
  try simp only [Act.put, List.setIfInBounds_toArray, List.set_cons_zero, List.set_cons_succ]
  refine Mk.em_spine (fun k => if k = 23 then nx else ((tn % 4 : Nat) : Int)) (items := [⟨some (4, 18), 5, 19⟩, ⟨some (10, 24), 11, 25⟩, ⟨some (13, 27), 14, 28⟩, ⟨some (15, 29), 16, 30⟩, ⟨none, 18, 32⟩]) (E := [⟨6, [.c 0, .c 2, .t 17], [], 0, 0, []⟩, ⟨7, [.c 3, .c 0, .t 23], [], 0, 0, []⟩, ⟨7, [.c 2, .c 3, .t 26], [], 0, 0, []⟩, ⟨0, [.c 3, .c 0], [], 0, 0, []⟩, ⟨17, [], lb, 2, 31, []⟩]) (r0 := 16) (by kernel_rfl) (by kernel_rfl) (by kernel_rfl) (by rfl) ?lbR ?tvR ?moR (by rfl) (by rfl) ?lenR (fun w' l' C => C.at0 (by omega) Hc3.out) (HC.out.quiet (Mod.refl _ _).drew) (by kernel_rfl) ?_
  case lbR => (intro e he hk; simp only [List.mem_cons, List.not_mem_nil, or_false] at he; rcases he with rfl | rfl | rfl | rfl | rfl <;> (first | (simp at hk; done) | exact rfl))
  case tvR => (intro e he k hk; simp only [List.mem_cons, List.not_mem_nil, or_false] at he; rcases he with rfl | rfl | rfl | rfl | rfl <;> (first | (simp at hk; done) | (simp at hk; subst hk; rfl)))
  case moR => (intro e he hk; simp only [List.mem_cons, List.not_mem_nil, or_false] at he; rcases he with rfl | rfl | rfl | rfl | rfl <;> (first | (simp at hk; done) | exact rfl))
  case lenR => (simp [Mk.EmC.code, Mk.EmC.ins]; omega)
  intro U xR C hU
  have u19 : U 19 = _ := hU 0 _ rfl
  have u25 : U 25 = _ := hU 1 _ rfl
  have u28 : U 28 = _ := hU 2 _ rfl
  have u30 : U 30 = _ := hU 3 _ rfl
  have u32 : U 32 = _ := hU 4 _ rfl
  simp only [spTmps, SpI.tmps, List.flatMap_cons, List.flatMap_nil, Option.map_some, Option.map_none, Option.toList_some, Option.toList_none, List.cons_append, List.nil_append, List.append_nil, patch, List.foldl_cons, List.foldl_nil, Act.put, List.setIfInBounds_toArray, List.set_cons_zero, List.set_cons_succ, u19, u25, u28, u30, u32]
  generalize U 18 = s18 at *
  generalize U 24 = s24 at *
  generalize U 27 = s27 at *
  generalize U 29 = s29 at *
  clear u19 u25 u28 u30 u32 hU hHeld
  have hfin : ∃ v' : Value, MkA N0 big f (tn : Nat) nx xR b v' (l ++ [⟨14, 3, 0, 0, lb⟩, ⟨6, 2, 5, ((1 + tn / 4 : Nat) : Int), []⟩, ⟨6, 0, 2, ((tn % 4 : Nat) : Int), []⟩, ⟨7, 3, 0, nx, []⟩, ⟨7, 2, 3, ((tn % 4 : Nat) : Int), []⟩, ⟨0, 3, 0, 0, []⟩, ⟨17, 0, 0, 0, lb⟩]) (k + 1) ∧ MkStep w b v xR v' := by
    obtain ⟨v', M', S'⟩ := HM3.out.chain hT C
    simp only [List.append_assoc] at M'
    exact ⟨v', M', HS3.out.trans HM.out.lt S'⟩
  have Hfin := Lib.hid hfin
  clear hfin C
  (try simp only [Exit.inBlock, Exit.then])
  go_end0
  exact ⟨rfl, Hfin.out⟩
end Go.Proofs.YtppihkneeolomaaGreatDoor
end
/- package client: a thread's list is flushed. -/
section
namespace Go.Proofs.YtppihkneeolomaaGreatDoor
open Go.RowKit Qs Qh
variable {N0 K tn f : Nat} {big : Prop} {nx : Int} {w w1 w2 : World} {b k : Nat} {v v1 v2 : Value} {l : List Instr}
set_option maxHeartbeats 16000000 in
theorem flush_ok (HF : FreshH N0 big f (tn : Nat) nx K) (hT : big → lowT N0) (h1 : 1 ≤ f) (h4 : f ≤ 4) (htn : tn < 6) (M : MkA N0 big f (tn : Nat) nx w b v l k) (hk : k + 2 < K) (hK : K ≤ 120) (hl : l.length ≤ 90000) :
    Calls Tryz.prog 78 #[.pointer (some ⟨b, 0, none⟩)] w fun e w' => e = .returned (.tuple #[]) ∧ ∃ v', MkA N0 big f (tn : Nat) nx w' b v' (l ++ Qc.flushBlk f k tn nx) (k + 3) ∧ MkStep w b v w' v' := by
  have HM := Lib.hid M
  have hp := part4_ok HF hT h1 h4 M (by omega) hK (by omega)
  have Hp := Lib.hid hp
  have hlen : (preC (Qu.labN (k + 1)) (gcode f 4)).length ≤ 70 := by unfold preC; rw [List.length_map]; exact gcode_len h4 (by decide)
  have hf2 := fun w v l (M : MkA N0 big f (tn : Nat) nx w b v l (k + 1)) => HF w b v l (k + 1) (by omega) M
  have hf3 := fun w v l (M : MkA N0 big f (tn : Nat) nx w b v l (k + 1 + 1)) => HF w b v l (k + 1 + 1) (by omega) M
  have Hf2 := Lib.hid hf2
  have Hf3 := Lib.hid hf3
  unfold Qc.flushBlk Qc.part Qc.flushTail
  rw [show k + 2 = k + 1 + 1 from rfl, show k + 3 = k + 1 + 1 + 1 from rfl]
  generalize hpc : preC (Qu.labN (k + 1)) (gcode f 4) = pc at *
  generalize Qu.labN (k + 1 + 1) = la at *
  generalize Qu.labN (k + 1 + 1 + 1) = lb at *
  clear M HF hp hf2 hf3 hpc
  go_enter Tryz.func78, Tryz.ntmps78
  go_wp2_with fail
  refine Hp.out.mono ?_
  rintro e w1 ⟨rfl, v1, M1, S1⟩
  have HM1 := Lib.hid M1
  have HS1 := Lib.hid S1
  clear M1 S1
  go_wp2_with fail
  refine (Hf2.out _ _ _ HM1.out).mono ?_
  rintro e w2 ⟨rfl, M2, S2⟩
  have HM2 := Lib.hid M2
  have HS2 := Lib.hid (HS1.out.trans HM.out.lt S2)
  clear M2 S2 HS1 HM1
  go_wp2_with fail
  refine (Hf3.out _ _ _ HM2.out).mono ?_
  rintro e w3 ⟨rfl, M3, S3⟩
  have HM3 := Lib.hid M3
  have HS3 := Lib.hid (HS2.out.trans HM.out.lt S3)
  clear M3 S3 HS2 HM2
  go_wp2_with fail
  refine (mklist_ok hT htn HM3.out (by simp; omega)).mono ?_
  rintro e w4 ⟨rfl, v4, M4, S4⟩
  have HM4 := Lib.hid M4
  have HS4 := Lib.hid (HS3.out.trans HM.out.lt S4)
  have Hc3 := Lib.hid M4.c3
  have HC := Lib.hid (Chain.start M4.m.emit)
  clear M4 S4 HS3 HM3
  go_wp2
  refine wp_region_held_drew (S := fun W => W.cell? ⟨b, 3, none⟩ = some (.int .i64 nx)) (by kernel_rfl) ((Mod.refl noF _).drew.cell Hc3.out (fun e => e)) (fun hHeld => ?_)
  refine wpAnyH_take (i := 0) (oi := ?oRx0) (v := ?vRx0) ?qRx0 (by kernel_rfl) ?fRx0 ?gRx0 ?pRx0 ?uRx0 (by assumption) ?rRx0
  case qRx0 => (rw [List.getElem?_toArray]; rfl)
  case fRx0 => kernel_rfl
  case gRx0 => kernel_rfl
  case pRx0 => exact (fun _ _ _ h => h)
  case uRx0 => (refine Or.inl ⟨by rfl, ?_⟩; intro w hSw; (try dsimp only at hSw); go_simp; (try rw [if_neg (by omega)]); try with_reducible rfl)
  try simp only [Act.put, List.setIfInBounds_toArray, List.set_cons_zero, List.set_cons_succ]
  refine wpAnyH_take (i := 1) (oi := ?oRx1) (v := ?vRx1) ?qRx1 (by kernel_rfl) ?fRx1 ?gRx1 ?pRx1 ?uRx1 (by assumption) ?rRx1
  case qRx1 => (rw [List.getElem?_toArray]; rfl)
  case fRx1 => kernel_rfl
  case gRx1 => kernel_rfl
  case pRx1 => exact (fun _ _ _ h => h)
  case uRx1 => (refine Or.inl ⟨by rfl, ?_⟩; intro w hSw; (try dsimp only at hSw); go_simp; (try rw [if_neg (by omega)]); try with_reducible rfl)
  try simp only [Act.put, List.setIfInBounds_toArray, List.set_cons_zero, List.set_cons_succ]
  refine wpAnyH_take (i := 2) (oi := ?oRx2) (v := ?vRx2) ?qRx2 (by kernel_rfl) ?fRx2 ?gRx2 ?pRx2 ?uRx2 (by assumption) ?rRx2
  case qRx2 => (rw [List.getElem?_toArray]; rfl)
  case fRx2 => kernel_rfl
  case gRx2 => kernel_rfl
  case pRx2 => exact (fun _ _ _ h => h)
  case uRx2 => (refine Or.inl ⟨by rfl, ?_⟩; intro w hSw; (try dsimp only at hSw); go_simp; (try rw [if_neg (by omega)]); try with_reducible rfl)
  try simp only [Act.put, List.setIfInBounds_toArray, List.set_cons_zero, List.set_cons_succ]
  refine wpAnyH_take (i := 3) (oi := ?oRx3) (v := ?vRx3) ?qRx3 (by kernel_rfl) ?fRx3 ?gRx3 ?pRx3 ?uRx3 (by assumption) ?rRx3
  case qRx3 => (rw [List.getElem?_toArray]; rfl)
  case fRx3 => kernel_rfl
  case gRx3 => kernel_rfl
  case pRx3 => exact (fun _ _ _ h => h)
  case uRx3 => (refine Or.inl ⟨by rfl, ?_⟩; intro w hSw; (try dsimp only at hSw); go_simp; (try rw [if_neg (by omega)]); try with_reducible rfl)
  try simp only [Act.put, List.setIfInBounds_toArray, List.set_cons_zero, List.set_cons_succ]
  refine wpAnyH_take (i := 5) (oi := ?oRx5) (v := ?vRx5) ?qRx5 (by kernel_rfl) ?fRx5 ?gRx5 ?pRx5 ?uRx5 (by assumption) ?rRx5
  case qRx5 => (rw [List.getElem?_toArray]; rfl)
  case fRx5 => kernel_rfl
  case gRx5 => kernel_rfl
  case pRx5 => exact (fun _ _ _ h => h)
  case uRx5 => (refine Or.inl ⟨by rfl, ?_⟩; intro w hSw; (try dsimp only at hSw); go_simp; (try rw [if_neg (by omega)]); try with_reducible rfl)
  try simp only [Act.put, List.setIfInBounds_toArray, List.set_cons_zero, List.set_cons_succ]
  refine wpAnyH_take (i := 8) (oi := ?oRx8) (v := ?vRx8) ?qRx8 (by kernel_rfl) ?fRx8 ?gRx8 ?pRx8 ?uRx8 (by assumption) ?rRx8
  case qRx8 => (rw [List.getElem?_toArray]; rfl)
  case fRx8 => kernel_rfl
  case gRx8 => kernel_rfl
  case pRx8 => exact (fun _ _ _ h => h)
  case uRx8 => (refine Or.inl ⟨by rfl, ?_⟩; intro w hSw; (try dsimp only at hSw); go_simp; (try rw [if_neg (by omega)]); try with_reducible rfl)
  try simp only [Act.put, List.setIfInBounds_toArray, List.set_cons_zero, List.set_cons_succ]
  refine wpAnyH_take (i := 11) (oi := ?oRx11) (v := ?vRx11) ?qRx11 (by kernel_rfl) ?fRx11 ?gRx11 ?pRx11 ?uRx11 (by assumption) ?rRx11
  case qRx11 => (rw [List.getElem?_toArray]; rfl)
  case fRx11 => kernel_rfl
  case gRx11 => kernel_rfl
  case pRx11 => exact (fun _ _ _ h => h)
  case uRx11 => (refine Or.inl ⟨by rfl, ?_⟩; intro w hSw; (try dsimp only at hSw); go_simp; (try rw [if_neg (by omega)]); try with_reducible rfl)
  try simp only [Act.put, List.setIfInBounds_toArray, List.set_cons_zero, List.set_cons_succ]
  refine wpAnyH_take (i := 12) (oi := ?oRx12) (v := ?vRx12) ?qRx12 (by kernel_rfl) ?fRx12 ?gRx12 ?pRx12 ?uRx12 (by assumption) ?rRx12
  case qRx12 => (rw [List.getElem?_toArray]; rfl)
  case fRx12 => kernel_rfl
  case gRx12 => kernel_rfl
  case pRx12 => exact (fun _ _ _ h => h)
  case uRx12 => (refine Or.inl ⟨by rfl, ?_⟩; intro w hSw; (try dsimp only at hSw); go_simp; (try rw [if_neg (by omega)]); try with_reducible rfl)
  try simp only [Act.put, List.setIfInBounds_toArray, List.set_cons_zero, List.set_cons_succ]
  refine wpAnyH_take (i := 13) (oi := ?oRx13) (v := ?vRx13) ?qRx13 (by kernel_rfl) ?fRx13 ?gRx13 ?pRx13 ?uRx13 (by assumption) ?rRx13
  case qRx13 => (rw [List.getElem?_toArray]; rfl)
  case fRx13 => kernel_rfl
  case gRx13 => kernel_rfl
  case pRx13 => exact (fun _ _ _ h => h)
  case uRx13 => (refine Or.inl ⟨by rfl, ?_⟩; intro w hSw; (try dsimp only at hSw); go_simp; (try rw [if_neg (by omega)]); try with_reducible rfl)
  try simp only [Act.put, List.setIfInBounds_toArray, List.set_cons_zero, List.set_cons_succ]
  refine wpAnyH_take (i := 14) (oi := ?oRx14) (v := ?vRx14) ?qRx14 (by kernel_rfl) ?fRx14 ?gRx14 ?pRx14 ?uRx14 (by assumption) ?rRx14
  case qRx14 => (rw [List.getElem?_toArray]; rfl)
  case fRx14 => kernel_rfl
  case gRx14 => kernel_rfl
  case pRx14 => exact (fun _ _ _ h => h)
  case uRx14 => (refine Or.inl ⟨by rfl, ?_⟩; intro w hSw; (try dsimp only at hSw); go_simp; (try rw [if_neg (by omega)]); try with_reducible rfl)
  try simp only [Act.put, List.setIfInBounds_toArray, List.set_cons_zero, List.set_cons_succ]
  refine wpAnyH_take (i := 17) (oi := ?oRx17) (v := ?vRx17) ?qRx17 (by kernel_rfl) ?fRx17 ?gRx17 ?pRx17 ?uRx17 (by assumption) ?rRx17
  case qRx17 => (rw [List.getElem?_toArray]; rfl)
  case fRx17 => kernel_rfl
  case gRx17 => kernel_rfl
  case pRx17 => exact (fun _ _ _ h => h)
  case uRx17 => (refine Or.inl ⟨by rfl, ?_⟩; intro w hSw; (try dsimp only at hSw); go_simp; (try rw [if_neg (by omega)]); try with_reducible rfl)
  try simp only [Act.put, List.setIfInBounds_toArray, List.set_cons_zero, List.set_cons_succ]
  refine wpAnyH_take (i := 22) (oi := ?oRx22) (v := ?vRx22) ?qRx22 (by kernel_rfl) ?fRx22 ?gRx22 ?pRx22 ?uRx22 (by assumption) ?rRx22
  case qRx22 => (rw [List.getElem?_toArray]; rfl)
  case fRx22 => kernel_rfl
  case gRx22 => kernel_rfl
  case pRx22 => exact (fun _ _ _ h => h)
  case uRx22 => (refine Or.inl ⟨by rfl, ?_⟩; intro w hSw; (try dsimp only at hSw); go_simp; (try rw [if_neg (by omega)]); try with_reducible rfl)
  try simp only [Act.put, List.setIfInBounds_toArray, List.set_cons_zero, List.set_cons_succ]
  refine wpAnyH_take (i := 24) (oi := ?oRx24) (v := ?vRx24) ?qRx24 (by kernel_rfl) ?fRx24 ?gRx24 ?pRx24 ?uRx24 (by assumption) ?rRx24
  case qRx24 => (rw [List.getElem?_toArray]; rfl)
  case fRx24 => kernel_rfl
  case gRx24 => kernel_rfl
  case pRx24 => exact (fun _ _ _ h => h)
  case uRx24 => (refine Or.inl ⟨by rfl, ?_⟩; intro w hSw; (try dsimp only at hSw); go_simp; (try rw [if_neg (by omega)]); try with_reducible rfl)
  try simp only [Act.put, List.setIfInBounds_toArray, List.set_cons_zero, List.set_cons_succ]
  refine Mk.em_spine (fun k => if k = 27 then nx else ((tn % 4 : Nat) : Int)) (items := [⟨none, 4, 17⟩, ⟨some (6, 19), 7, 20⟩, ⟨some (9, 22), 10, 23⟩, ⟨some (15, 28), 16, 29⟩, ⟨some (18, 31), 19, 32⟩, ⟨some (20, 33), 21, 34⟩, ⟨none, 23, 36⟩, ⟨none, 25, 38⟩]) (E := [⟨17, [], la, 2, 16, []⟩, ⟨6, [.c 0, .c 2, .t 18], [], 0, 0, []⟩, ⟨14, [.c 0], lb, 1, 21, []⟩, ⟨6, [.c 1, .c 0, .t 27], [], 0, 0, []⟩, ⟨7, [.c 2, .c 1, .t 30], [], 0, 0, []⟩, ⟨11, [.c 0], [], 0, 0, []⟩, ⟨16, [], la, 1, 35, []⟩, ⟨17, [], lb, 2, 37, []⟩]) (r0 := 15) (by kernel_rfl) (by kernel_rfl) (by kernel_rfl) (by rfl) ?lbR ?tvR ?moR (by rfl) (by rfl) ?lenR (fun w' l' C => C.at0 (by omega) Hc3.out) (HC.out.quiet (Mod.refl _ _).drew) (by kernel_rfl) ?_
  case lbR => (intro e he hk; simp only [List.mem_cons, List.not_mem_nil, or_false] at he; rcases he with rfl | rfl | rfl | rfl | rfl | rfl | rfl | rfl <;> (first | (simp at hk; done) | exact rfl))
  case tvR => (intro e he k hk; simp only [List.mem_cons, List.not_mem_nil, or_false] at he; rcases he with rfl | rfl | rfl | rfl | rfl | rfl | rfl | rfl <;> (first | (simp at hk; done) | (simp at hk; subst hk; rfl)))
  case moR => (intro e he hk; simp only [List.mem_cons, List.not_mem_nil, or_false] at he; rcases he with rfl | rfl | rfl | rfl | rfl | rfl | rfl | rfl <;> (first | (simp at hk; done) | exact rfl))
  case lenR => (simp [Mk.EmC.code, Mk.EmC.ins]; omega)
  intro U xR C hU
  have u17 : U 17 = _ := hU 0 _ rfl
  have u20 : U 20 = _ := hU 1 _ rfl
  have u23 : U 23 = _ := hU 2 _ rfl
  have u29 : U 29 = _ := hU 3 _ rfl
  have u32 : U 32 = _ := hU 4 _ rfl
  have u34 : U 34 = _ := hU 5 _ rfl
  have u36 : U 36 = _ := hU 6 _ rfl
  have u38 : U 38 = _ := hU 7 _ rfl
  simp only [spTmps, SpI.tmps, List.flatMap_cons, List.flatMap_nil, Option.map_some, Option.map_none, Option.toList_some, Option.toList_none, List.cons_append, List.nil_append, List.append_nil, patch, List.foldl_cons, List.foldl_nil, Act.put, List.setIfInBounds_toArray, List.set_cons_zero, List.set_cons_succ, u17, u20, u23, u29, u32, u34, u36, u38]
  generalize U 19 = s19 at *
  generalize U 22 = s22 at *
  generalize U 28 = s28 at *
  generalize U 31 = s31 at *
  generalize U 33 = s33 at *
  clear u17 u20 u23 u29 u32 u34 u36 u38 hU hHeld
  have hfin : ∃ v' : Value, MkA N0 big f (tn : Nat) nx xR b v' (l ++ (pc ++ [⟨6, 2, 5, ((1 + tn / 4 : Nat) : Int), []⟩, ⟨17, 0, 0, 0, la⟩, ⟨6, 0, 2, ((tn % 4 : Nat) : Int), []⟩, ⟨14, 0, 0, 0, lb⟩, ⟨6, 1, 0, nx, []⟩, ⟨7, 2, 1, ((tn % 4 : Nat) : Int), []⟩, ⟨11, 0, 0, 0, []⟩, ⟨16, 0, 0, 0, la⟩, ⟨17, 0, 0, 0, lb⟩])) (k + 1 + 1 + 1) ∧ MkStep w b v xR v' := by
    obtain ⟨v', M', S'⟩ := HM4.out.chain hT C
    simp only [List.append_assoc] at M'
    exact ⟨v', M', HS4.out.trans HM.out.lt S'⟩
  have Hfin := Lib.hid hfin
  clear hfin C
  (try simp only [Exit.inBlock, Exit.then])
  go_end0
  exact ⟨rfl, Hfin.out⟩
end Go.Proofs.YtppihkneeolomaaGreatDoor
end
/- package client: an op's code. -/
section
namespace Qc
open Qs Qu Go.Proofs.YtppihkneeolomaaGreatDoor
inductive COp where
  | enter | leave | rest | wait | read | put (n : Int) | drop | later | flush
deriving DecidableEq
def readBlk : List Instr := [⟨6, 0, 5, 0, []⟩, ⟨6, 4, 0, 0, []⟩, ⟨19, 4, 0, 0, []⟩, ⟨18, 4, 0, 0, []⟩]
def putBlkC (p : List UInt8) (n : Int) : List Instr := [⟨10, 4, 0, 0, []⟩, ⟨14, 4, 0, 0, p⟩, ⟨0, 0, n, 0, []⟩, ⟨7, 4, 0, 0, []⟩, ⟨8, 4, 5, 0, []⟩, ⟨1, 3, 4, 0, []⟩, ⟨17, 0, 0, 0, p⟩]
def dropBlk (p : List UInt8) : List Instr := [⟨14, 3, 0, 0, p⟩, ⟨11, 3, 0, 0, []⟩, ⟨0, 3, 0, 0, []⟩, ⟨17, 0, 0, 0, p⟩]
/-- An op's code: labels from k + 1 on. -/
def cblk (f tn k : Nat) : COp → List Instr
  | .enter => part f k 0
  | .leave => part f k 1
  | .rest => part f k 2
  | .wait => part f k 4
  | .read => readBlk
  | .put n => putBlkC (labN (k + 1)) n
  | .drop => dropBlk (labN (k + 1))
  | .later => laterBlk (labN (k + 1)) tn 1
  | .flush => flushBlk f k tn 1
def cinc : COp → Nat
  | .read => 0
  | .flush => 3
  | _ => 1
end Qc
namespace Go.Proofs.YtppihkneeolomaaGreatDoor
open Go.RowKit Qs Qh
variable {N0 K tn f : Nat} {big : Prop} {w w1 w2 : World} {b k : Nat} {v v1 v2 : Value} {l : List Instr}
set_option maxHeartbeats 16000000 in
theorem cop_enter (HF : FreshH N0 big f (tn : Nat) 1 K) (hT : big → lowT N0) (h1 : 1 ≤ f) (h4 : f ≤ 4) (htn : tn < 6) (M : MkA N0 big f (tn : Nat) 1 w b v l k) (hk : k + 3 < K) (hK : K ≤ 120) (hl : l.length ≤ 80000) :
    Calls Tryz.prog 58 #[.pointer (some ⟨b, 0, none⟩), .agg #[.string ⟨#[101, 110, 116, 101, 114]⟩, .int .i64 0]] w fun e w' => e = .returned (.tuple #[]) ∧ ∃ v', MkA N0 big f (tn : Nat) 1 w' b v' (l ++ Qc.cblk f tn k .enter) (k + 1) ∧ MkStep w b v w' v' := by
  have hq := (Mod.refl noF w).alloc (.cells #[.string ⟨#[101, 110, 116, 101, 114]⟩, .int .i64 0] 88)
  have M1 := M.quiet hq
  have S1 := (MkStep.refl w b v).quiet hq
  have hbx : w.heap.size ≠ b := by have := M.lt; omega
  have hvx : v.ownBlock ≠ some w.heap.size := fun e => by have := M.vlt e; omega
  have e0 : ((⟨#[101, 110, 116, 101, 114]⟩ : ByteArray).toList == (⟨#[101, 110, 116, 101, 114]⟩ : ByteArray).toList) = true := by simp
  have HM := Lib.hid M
  have HM1 := Lib.hid M1
  have HS1 := Lib.hid S1
  have Hbx := Lib.hid hbx
  have Hvx := Lib.hid hvx
  have hc := part0_ok HF hT h1 h4 HM1.out (by omega) hK (by omega)
  have Hc := Lib.hid hc
  unfold Qc.cblk Qc.part
  clear M M1 S1 hbx hvx HF hq hc
  go_enter Tryz.func58, Tryz.ntmps58
  go_wp2_with fail
  refine Hc.out.mono ?_
  rintro e w2 ⟨rfl, v2, M2, S2⟩
  have HM2 := Lib.hid M2
  have HS2 := Lib.hid (HS1.out.trans HM.out.lt S2)
  clear M2 S2
  go_wp2
  go_end0
  exact ⟨rfl, v2, HM2.out, HS2.out⟩
set_option maxHeartbeats 16000000 in
theorem cop_leave (HF : FreshH N0 big f (tn : Nat) 1 K) (hT : big → lowT N0) (h1 : 1 ≤ f) (h4 : f ≤ 4) (htn : tn < 6) (M : MkA N0 big f (tn : Nat) 1 w b v l k) (hk : k + 3 < K) (hK : K ≤ 120) (hl : l.length ≤ 80000) :
    Calls Tryz.prog 58 #[.pointer (some ⟨b, 0, none⟩), .agg #[.string ⟨#[108, 101, 97, 118, 101]⟩, .int .i64 0]] w fun e w' => e = .returned (.tuple #[]) ∧ ∃ v', MkA N0 big f (tn : Nat) 1 w' b v' (l ++ Qc.cblk f tn k .leave) (k + 1) ∧ MkStep w b v w' v' := by
  have hq := (Mod.refl noF w).alloc (.cells #[.string ⟨#[108, 101, 97, 118, 101]⟩, .int .i64 0] 88)
  have M1 := M.quiet hq
  have S1 := (MkStep.refl w b v).quiet hq
  have hbx : w.heap.size ≠ b := by have := M.lt; omega
  have hvx : v.ownBlock ≠ some w.heap.size := fun e => by have := M.vlt e; omega
  have e0 : ((⟨#[108, 101, 97, 118, 101]⟩ : ByteArray).toList == (⟨#[101, 110, 116, 101, 114]⟩ : ByteArray).toList) = false := by
    rw [ByteArray.toList_eq, ByteArray.toList_eq]; rfl
  have e1 : ((⟨#[108, 101, 97, 118, 101]⟩ : ByteArray).toList == (⟨#[108, 101, 97, 118, 101]⟩ : ByteArray).toList) = true := by simp
  have HM := Lib.hid M
  have HM1 := Lib.hid M1
  have HS1 := Lib.hid S1
  have Hbx := Lib.hid hbx
  have Hvx := Lib.hid hvx
  have hc := part1_ok HF hT h1 h4 HM1.out (by omega) hK (by omega)
  have Hc := Lib.hid hc
  unfold Qc.cblk Qc.part
  clear M M1 S1 hbx hvx HF hq hc
  go_enter Tryz.func58, Tryz.ntmps58
  go_wp2_with fail
  refine Hc.out.mono ?_
  rintro e w2 ⟨rfl, v2, M2, S2⟩
  have HM2 := Lib.hid M2
  have HS2 := Lib.hid (HS1.out.trans HM.out.lt S2)
  clear M2 S2
  go_wp2
  go_end0
  exact ⟨rfl, v2, HM2.out, HS2.out⟩
set_option maxHeartbeats 16000000 in
theorem cop_rest (HF : FreshH N0 big f (tn : Nat) 1 K) (hT : big → lowT N0) (h1 : 1 ≤ f) (h4 : f ≤ 4) (htn : tn < 6) (M : MkA N0 big f (tn : Nat) 1 w b v l k) (hk : k + 3 < K) (hK : K ≤ 120) (hl : l.length ≤ 80000) :
    Calls Tryz.prog 58 #[.pointer (some ⟨b, 0, none⟩), .agg #[.string ⟨#[114, 101, 115, 116]⟩, .int .i64 0]] w fun e w' => e = .returned (.tuple #[]) ∧ ∃ v', MkA N0 big f (tn : Nat) 1 w' b v' (l ++ Qc.cblk f tn k .rest) (k + 1) ∧ MkStep w b v w' v' := by
  have hq := (Mod.refl noF w).alloc (.cells #[.string ⟨#[114, 101, 115, 116]⟩, .int .i64 0] 88)
  have M1 := M.quiet hq
  have S1 := (MkStep.refl w b v).quiet hq
  have hbx : w.heap.size ≠ b := by have := M.lt; omega
  have hvx : v.ownBlock ≠ some w.heap.size := fun e => by have := M.vlt e; omega
  have e0 : ((⟨#[114, 101, 115, 116]⟩ : ByteArray).toList == (⟨#[101, 110, 116, 101, 114]⟩ : ByteArray).toList) = false := by
    rw [ByteArray.toList_eq, ByteArray.toList_eq]; rfl
  have e1 : ((⟨#[114, 101, 115, 116]⟩ : ByteArray).toList == (⟨#[108, 101, 97, 118, 101]⟩ : ByteArray).toList) = false := by
    rw [ByteArray.toList_eq, ByteArray.toList_eq]; rfl
  have e2 : ((⟨#[114, 101, 115, 116]⟩ : ByteArray).toList == (⟨#[114, 101, 115, 116]⟩ : ByteArray).toList) = true := by simp
  have HM := Lib.hid M
  have HM1 := Lib.hid M1
  have HS1 := Lib.hid S1
  have Hbx := Lib.hid hbx
  have Hvx := Lib.hid hvx
  have hc := part2_ok HF hT h1 h4 HM1.out (by omega) hK (by omega)
  have Hc := Lib.hid hc
  unfold Qc.cblk Qc.part
  clear M M1 S1 hbx hvx HF hq hc
  go_enter Tryz.func58, Tryz.ntmps58
  go_wp2_with fail
  refine Hc.out.mono ?_
  rintro e w2 ⟨rfl, v2, M2, S2⟩
  have HM2 := Lib.hid M2
  have HS2 := Lib.hid (HS1.out.trans HM.out.lt S2)
  clear M2 S2
  go_wp2
  go_end0
  exact ⟨rfl, v2, HM2.out, HS2.out⟩
set_option maxHeartbeats 16000000 in
theorem cop_wait (HF : FreshH N0 big f (tn : Nat) 1 K) (hT : big → lowT N0) (h1 : 1 ≤ f) (h4 : f ≤ 4) (htn : tn < 6) (M : MkA N0 big f (tn : Nat) 1 w b v l k) (hk : k + 3 < K) (hK : K ≤ 120) (hl : l.length ≤ 80000) :
    Calls Tryz.prog 58 #[.pointer (some ⟨b, 0, none⟩), .agg #[.string ⟨#[119, 97, 105, 116]⟩, .int .i64 0]] w fun e w' => e = .returned (.tuple #[]) ∧ ∃ v', MkA N0 big f (tn : Nat) 1 w' b v' (l ++ Qc.cblk f tn k .wait) (k + 1) ∧ MkStep w b v w' v' := by
  have hq := (Mod.refl noF w).alloc (.cells #[.string ⟨#[119, 97, 105, 116]⟩, .int .i64 0] 88)
  have M1 := M.quiet hq
  have S1 := (MkStep.refl w b v).quiet hq
  have hbx : w.heap.size ≠ b := by have := M.lt; omega
  have hvx : v.ownBlock ≠ some w.heap.size := fun e => by have := M.vlt e; omega
  have e0 : ((⟨#[119, 97, 105, 116]⟩ : ByteArray).toList == (⟨#[101, 110, 116, 101, 114]⟩ : ByteArray).toList) = false := by
    rw [ByteArray.toList_eq, ByteArray.toList_eq]; rfl
  have e1 : ((⟨#[119, 97, 105, 116]⟩ : ByteArray).toList == (⟨#[108, 101, 97, 118, 101]⟩ : ByteArray).toList) = false := by
    rw [ByteArray.toList_eq, ByteArray.toList_eq]; rfl
  have e2 : ((⟨#[119, 97, 105, 116]⟩ : ByteArray).toList == (⟨#[114, 101, 115, 116]⟩ : ByteArray).toList) = false := by
    rw [ByteArray.toList_eq, ByteArray.toList_eq]; rfl
  have e3 : ((⟨#[119, 97, 105, 116]⟩ : ByteArray).toList == (⟨#[119, 97, 105, 116]⟩ : ByteArray).toList) = true := by simp
  have HM := Lib.hid M
  have HM1 := Lib.hid M1
  have HS1 := Lib.hid S1
  have Hbx := Lib.hid hbx
  have Hvx := Lib.hid hvx
  have hc := part4_ok HF hT h1 h4 HM1.out (by omega) hK (by omega)
  have Hc := Lib.hid hc
  unfold Qc.cblk Qc.part
  clear M M1 S1 hbx hvx HF hq hc
  go_enter Tryz.func58, Tryz.ntmps58
  go_wp2_with fail
  refine Hc.out.mono ?_
  rintro e w2 ⟨rfl, v2, M2, S2⟩
  have HM2 := Lib.hid M2
  have HS2 := Lib.hid (HS1.out.trans HM.out.lt S2)
  clear M2 S2
  go_wp2
  go_end0
  exact ⟨rfl, v2, HM2.out, HS2.out⟩
set_option maxHeartbeats 16000000 in
theorem cop_read (HF : FreshH N0 big f (tn : Nat) 1 K) (hT : big → lowT N0) (h1 : 1 ≤ f) (h4 : f ≤ 4) (htn : tn < 6) (M : MkA N0 big f (tn : Nat) 1 w b v l k) (hk : k + 3 < K) (hK : K ≤ 120) (hl : l.length ≤ 80000) :
    Calls Tryz.prog 58 #[.pointer (some ⟨b, 0, none⟩), .agg #[.string ⟨#[114, 101, 97, 100]⟩, .int .i64 0]] w fun e w' => e = .returned (.tuple #[]) ∧ ∃ v', MkA N0 big f (tn : Nat) 1 w' b v' (l ++ Qc.cblk f tn k .read) (k + 0) ∧ MkStep w b v w' v' := by
  have hq := (Mod.refl noF w).alloc (.cells #[.string ⟨#[114, 101, 97, 100]⟩, .int .i64 0] 88)
  have M1 := M.quiet hq
  have S1 := (MkStep.refl w b v).quiet hq
  have hbx : w.heap.size ≠ b := by have := M.lt; omega
  have hvx : v.ownBlock ≠ some w.heap.size := fun e => by have := M.vlt e; omega
  have e0 : ((⟨#[114, 101, 97, 100]⟩ : ByteArray).toList == (⟨#[101, 110, 116, 101, 114]⟩ : ByteArray).toList) = false := by
    rw [ByteArray.toList_eq, ByteArray.toList_eq]; rfl
  have e1 : ((⟨#[114, 101, 97, 100]⟩ : ByteArray).toList == (⟨#[108, 101, 97, 118, 101]⟩ : ByteArray).toList) = false := by
    rw [ByteArray.toList_eq, ByteArray.toList_eq]; rfl
  have e2 : ((⟨#[114, 101, 97, 100]⟩ : ByteArray).toList == (⟨#[114, 101, 115, 116]⟩ : ByteArray).toList) = false := by
    rw [ByteArray.toList_eq, ByteArray.toList_eq]; rfl
  have e3 : ((⟨#[114, 101, 97, 100]⟩ : ByteArray).toList == (⟨#[119, 97, 105, 116]⟩ : ByteArray).toList) = false := by
    rw [ByteArray.toList_eq, ByteArray.toList_eq]; rfl
  have e4 : ((⟨#[114, 101, 97, 100]⟩ : ByteArray).toList == (⟨#[114, 101, 97, 100]⟩ : ByteArray).toList) = true := by simp
  have HM := Lib.hid M
  have HM1 := Lib.hid M1
  have HS1 := Lib.hid S1
  have Hbx := Lib.hid hbx
  have Hvx := Lib.hid hvx
  have HC := Lib.hid (Chain.start M1.m.emit)
  unfold Qc.cblk Qc.readBlk
  clear M M1 S1 hbx hvx HF hq
  go_enter Tryz.func58, Tryz.ntmps58
  go_wp2_with fail
  generalize hx0 : w.alloc (.cells #[.string ⟨#[114, 101, 97, 100]⟩, .int .i64 0] 88) = x0 at *
  have hsz : w.heap.size + 1 = x0.heap.size := by rw [← hx0]; simp
  rw [hsz]
  clear hsz hx0
  refine (op3_chain (HC.out.quiet ((Mod.refl _ _).alloc _)) (by omega) 6 _ rfl x0.heap.size 0 5 0 3 (by simp) (by simp) (by simp) (by simp)).mono ?_
  rintro e x1 ⟨rfl, C⟩
  have HC1 := Lib.hid C
  clear C
  go_wp2_with fail
  refine (op3_chain (HC1.out.quiet ((Mod.refl _ _).alloc _)) (by simp; omega) 6 _ rfl x1.heap.size 4 0 0 3 (by simp) (by simp) (by simp) (by simp)).mono ?_
  rintro e x2 ⟨rfl, C⟩
  have HC2 := Lib.hid C
  clear C
  go_wp2_with fail
  refine (op1_chain (HC2.out.quiet ((Mod.refl _ _).alloc _)) (by simp; omega) 19 _ rfl x2.heap.size 4 1 (by simp) (by simp)).mono ?_
  rintro e x3 ⟨rfl, C⟩
  have HC3 := Lib.hid C
  clear C
  go_wp2_with fail
  refine (op1_chain (HC3.out.quiet ((Mod.refl _ _).alloc _)) (by simp; omega) 18 _ rfl x3.heap.size 4 1 (by simp) (by simp)).mono ?_
  rintro e x4 ⟨rfl, C⟩
  have hfin : ∃ v' : Value, MkA N0 big f (tn : Nat) 1 x4 b v' (l ++ [⟨6, 0, 5, 0, []⟩, ⟨6, 4, 0, 0, []⟩, ⟨19, 4, 0, 0, []⟩, ⟨18, 4, 0, 0, []⟩]) (k + 0) ∧ MkStep w b v x4 v' := by
    obtain ⟨v', M', S'⟩ := HM1.out.chain hT C
    simp only [List.append_assoc] at M'
    exact ⟨v', M', HS1.out.trans HM.out.lt S'⟩
  have Hfin := Lib.hid hfin
  clear hfin C
  go_wp2
  go_end0
  exact ⟨rfl, Hfin.out⟩
set_option maxHeartbeats 16000000 in
theorem cop_put (n : Int) (HF : FreshH N0 big f (tn : Nat) 1 K) (hT : big → lowT N0) (h1 : 1 ≤ f) (h4 : f ≤ 4) (htn : tn < 6) (M : MkA N0 big f (tn : Nat) 1 w b v l k) (hk : k + 3 < K) (hK : K ≤ 120) (hl : l.length ≤ 80000) :
    Calls Tryz.prog 58 #[.pointer (some ⟨b, 0, none⟩), .agg #[.string ⟨#[112, 117, 116]⟩, .int .i64 n]] w fun e w' => e = .returned (.tuple #[]) ∧ ∃ v', MkA N0 big f (tn : Nat) 1 w' b v' (l ++ Qc.cblk f tn k (.put n)) (k + 1) ∧ MkStep w b v w' v' := by
  have hq := (Mod.refl noF w).alloc (.cells #[.string ⟨#[112, 117, 116]⟩, .int .i64 n] 88)
  have M1 := M.quiet hq
  have S1 := (MkStep.refl w b v).quiet hq
  have hbx : w.heap.size ≠ b := by have := M.lt; omega
  have hvx : v.ownBlock ≠ some w.heap.size := fun e => by have := M.vlt e; omega
  have e0 : ((⟨#[112, 117, 116]⟩ : ByteArray).toList == (⟨#[101, 110, 116, 101, 114]⟩ : ByteArray).toList) = false := by
    rw [ByteArray.toList_eq, ByteArray.toList_eq]; rfl
  have e1 : ((⟨#[112, 117, 116]⟩ : ByteArray).toList == (⟨#[108, 101, 97, 118, 101]⟩ : ByteArray).toList) = false := by
    rw [ByteArray.toList_eq, ByteArray.toList_eq]; rfl
  have e2 : ((⟨#[112, 117, 116]⟩ : ByteArray).toList == (⟨#[114, 101, 115, 116]⟩ : ByteArray).toList) = false := by
    rw [ByteArray.toList_eq, ByteArray.toList_eq]; rfl
  have e3 : ((⟨#[112, 117, 116]⟩ : ByteArray).toList == (⟨#[119, 97, 105, 116]⟩ : ByteArray).toList) = false := by
    rw [ByteArray.toList_eq, ByteArray.toList_eq]; rfl
  have e4 : ((⟨#[112, 117, 116]⟩ : ByteArray).toList == (⟨#[114, 101, 97, 100]⟩ : ByteArray).toList) = false := by
    rw [ByteArray.toList_eq, ByteArray.toList_eq]; rfl
  have e5 : ((⟨#[112, 117, 116]⟩ : ByteArray).toList == (⟨#[112, 117, 116]⟩ : ByteArray).toList) = true := by simp
  have HM := Lib.hid M
  have HM1 := Lib.hid M1
  have HS1 := Lib.hid S1
  have Hbx := Lib.hid hbx
  have Hvx := Lib.hid hvx
  have c1 : (w.alloc (.cells #[.string ⟨#[112, 117, 116]⟩, .int .i64 n] 88)).cell? ⟨w.heap.size, 1, none⟩ = some (.int .i64 n) := by simp
  have Hc1 := Lib.hid c1
  have hfr := HF _ _ _ _ k (by omega) M1
  have Hfr := Lib.hid hfr
  unfold Qc.cblk Qc.putBlkC
  generalize Qu.labN (k + 1) = lb at *
  clear M M1 S1 hbx hvx HF hq hfr c1
  go_enter Tryz.func58, Tryz.ntmps58
  go_wp2_with fail
  refine Hfr.out.mono ?_
  rintro e w2 ⟨rfl, M2, S2⟩
  have HM2 := Lib.hid M2
  have Hg1 := Lib.hid (S2.old (p := ⟨w.heap.size, 1, none⟩) Hbx.out Hvx.out Hc1.out)
  have HS2 := Lib.hid (HS1.out.trans HM.out.lt S2)
  have HC := Lib.hid (Chain.start M2.m.emit)
  clear M2 S2
  go_wp2
  refine wp_region_held_drew (S := fun W => W.cell? ⟨w.heap.size, 1, none⟩ = some (.int .i64 n)) (by kernel_rfl) ((Mod.refl noF _).drew.cell Hg1.out (fun e => e)) (fun hHeld => ?_)
  refine wpAnyH_take (i := 0) (oi := ?oRx0) (v := ?vRx0) ?qRx0 (by kernel_rfl) ?fRx0 ?gRx0 ?pRx0 ?uRx0 (by assumption) ?rRx0
  case qRx0 => (rw [List.getElem?_toArray]; rfl)
  case fRx0 => kernel_rfl
  case gRx0 => kernel_rfl
  case pRx0 => exact (fun _ _ _ h => h)
  case uRx0 => (refine Or.inl ⟨by rfl, ?_⟩; intro w hSw; (try dsimp only at hSw); go_simp; (try rw [if_neg (by omega)]); try with_reducible rfl)
  try simp only [Act.put, List.setIfInBounds_toArray, List.set_cons_zero, List.set_cons_succ]
  refine wpAnyH_take (i := 1) (oi := ?oRx1) (v := ?vRx1) ?qRx1 (by kernel_rfl) ?fRx1 ?gRx1 ?pRx1 ?uRx1 (by assumption) ?rRx1
  case qRx1 => (rw [List.getElem?_toArray]; rfl)
  case fRx1 => kernel_rfl
  case gRx1 => kernel_rfl
  case pRx1 => exact (fun _ _ _ h => h)
  case uRx1 => (refine Or.inl ⟨by rfl, ?_⟩; intro w hSw; (try dsimp only at hSw); go_simp; (try rw [if_neg (by omega)]); try with_reducible rfl)
  try simp only [Act.put, List.setIfInBounds_toArray, List.set_cons_zero, List.set_cons_succ]
  refine wpAnyH_take (i := 2) (oi := ?oRx2) (v := ?vRx2) ?qRx2 (by kernel_rfl) ?fRx2 ?gRx2 ?pRx2 ?uRx2 (by assumption) ?rRx2
  case qRx2 => (rw [List.getElem?_toArray]; rfl)
  case fRx2 => kernel_rfl
  case gRx2 => kernel_rfl
  case pRx2 => exact (fun _ _ _ h => h)
  case uRx2 => (refine Or.inl ⟨by rfl, ?_⟩; intro w hSw; (try dsimp only at hSw); go_simp; (try rw [if_neg (by omega)]); try with_reducible rfl)
  try simp only [Act.put, List.setIfInBounds_toArray, List.set_cons_zero, List.set_cons_succ]
  refine wpAnyH_take (i := 5) (oi := ?oRx5) (v := ?vRx5) ?qRx5 (by kernel_rfl) ?fRx5 ?gRx5 ?pRx5 ?uRx5 (by assumption) ?rRx5
  case qRx5 => (rw [List.getElem?_toArray]; rfl)
  case fRx5 => kernel_rfl
  case gRx5 => kernel_rfl
  case pRx5 => exact (fun _ _ _ h => h)
  case uRx5 => (refine Or.inl ⟨by rfl, ?_⟩; intro w hSw; (try dsimp only at hSw); go_simp; (try rw [if_neg (by omega)]); try with_reducible rfl)
  try simp only [Act.put, List.setIfInBounds_toArray, List.set_cons_zero, List.set_cons_succ]
  refine wpAnyH_take (i := 8) (oi := ?oRx8) (v := ?vRx8) ?qRx8 (by kernel_rfl) ?fRx8 ?gRx8 ?pRx8 ?uRx8 (by assumption) ?rRx8
  case qRx8 => (rw [List.getElem?_toArray]; rfl)
  case fRx8 => kernel_rfl
  case gRx8 => kernel_rfl
  case pRx8 => exact (fun _ _ _ h => h)
  case uRx8 => (refine Or.inl ⟨by rfl, ?_⟩; intro w hSw; (try dsimp only at hSw); go_simp; (try rw [if_neg (by omega)]); try with_reducible rfl)
  try simp only [Act.put, List.setIfInBounds_toArray, List.set_cons_zero, List.set_cons_succ]
  refine wpAnyH_take (i := 9) (oi := ?oRx9) (v := ?vRx9) ?qRx9 (by kernel_rfl) ?fRx9 ?gRx9 ?pRx9 ?uRx9 (by assumption) ?rRx9
  case qRx9 => (rw [List.getElem?_toArray]; rfl)
  case fRx9 => kernel_rfl
  case gRx9 => kernel_rfl
  case pRx9 => exact (fun _ _ _ h => h)
  case uRx9 => (refine Or.inl ⟨by rfl, ?_⟩; intro w hSw; (try dsimp only at hSw); go_simp; (try rw [if_neg (by omega)]); try with_reducible rfl)
  try simp only [Act.put, List.setIfInBounds_toArray, List.set_cons_zero, List.set_cons_succ]
  refine wpAnyH_take (i := 18) (oi := ?oRx18) (v := ?vRx18) ?qRx18 (by kernel_rfl) ?fRx18 ?gRx18 ?pRx18 ?uRx18 (by assumption) ?rRx18
  case qRx18 => (rw [List.getElem?_toArray]; rfl)
  case fRx18 => kernel_rfl
  case gRx18 => kernel_rfl
  case pRx18 => exact (fun _ _ _ h => h)
  case uRx18 => (refine Or.inl ⟨by rfl, ?_⟩; intro w hSw; (try dsimp only at hSw); go_simp; (try rw [if_neg (by omega)]); try with_reducible rfl)
  try simp only [Act.put, List.setIfInBounds_toArray, List.set_cons_zero, List.set_cons_succ]
  refine Mk.em_spine (fun _ => n) (items := [⟨some (3, 44), 4, 45⟩, ⟨some (6, 47), 7, 48⟩, ⟨some (10, 51), 11, 52⟩, ⟨some (12, 53), 13, 54⟩, ⟨some (14, 55), 15, 56⟩, ⟨some (16, 57), 17, 58⟩, ⟨none, 19, 60⟩]) (E := [⟨10, [.c 4], [], 0, 0, []⟩, ⟨14, [.c 4], lb, 1, 46, []⟩, ⟨0, [.c 0, .t 50], [], 0, 0, []⟩, ⟨7, [.c 4, .c 0, .c 0], [], 0, 0, []⟩, ⟨8, [.c 4, .c 5, .c 0], [], 0, 0, []⟩, ⟨1, [.c 3, .c 4], [], 0, 0, []⟩, ⟨17, [], lb, 2, 59, []⟩]) (r0 := 43) (by kernel_rfl) (by kernel_rfl) (by kernel_rfl) (by rfl) ?lbR ?tvR ?moR (by rfl) (by rfl) ?lenR (fun w' l' C => C.mine (p := ⟨w.heap.size, 1, none⟩) Hbx.out Hvx.out Hg1.out) (HC.out.quiet (Mod.refl _ _).drew) (by kernel_rfl) ?_
  case lbR => (intro e he hk; simp only [List.mem_cons, List.not_mem_nil, or_false] at he; rcases he with rfl | rfl | rfl | rfl | rfl | rfl | rfl <;> (first | (simp at hk; done) | exact rfl))
  case tvR => (intro e he k hk; simp only [List.mem_cons, List.not_mem_nil, or_false] at he; rcases he with rfl | rfl | rfl | rfl | rfl | rfl | rfl <;> (first | (simp at hk; done) | (simp at hk; subst hk; rfl)))
  case moR => (intro e he hk; simp only [List.mem_cons, List.not_mem_nil, or_false] at he; rcases he with rfl | rfl | rfl | rfl | rfl | rfl | rfl <;> (first | (simp at hk; done) | exact rfl))
  case lenR => (simp [Mk.EmC.code, Mk.EmC.ins]; omega)
  intro U xR C hU
  have u45 : U 45 = _ := hU 0 _ rfl
  have u48 : U 48 = _ := hU 1 _ rfl
  have u52 : U 52 = _ := hU 2 _ rfl
  have u54 : U 54 = _ := hU 3 _ rfl
  have u56 : U 56 = _ := hU 4 _ rfl
  have u58 : U 58 = _ := hU 5 _ rfl
  have u60 : U 60 = _ := hU 6 _ rfl
  simp only [spTmps, SpI.tmps, List.flatMap_cons, List.flatMap_nil, Option.map_some, Option.map_none, Option.toList_some, Option.toList_none, List.cons_append, List.nil_append, List.append_nil, patch, List.foldl_cons, List.foldl_nil, Act.put, List.setIfInBounds_toArray, List.set_cons_zero, List.set_cons_succ, u45, u48, u52, u54, u56, u58, u60]
  generalize U 44 = s44 at *
  generalize U 47 = s47 at *
  generalize U 51 = s51 at *
  generalize U 53 = s53 at *
  generalize U 55 = s55 at *
  generalize U 57 = s57 at *
  clear u45 u48 u52 u54 u56 u58 u60 hU hHeld
  have hfin : ∃ v' : Value, MkA N0 big f (tn : Nat) 1 xR b v' (l ++ [⟨10, 4, 0, 0, []⟩, ⟨14, 4, 0, 0, lb⟩, ⟨0, 0, n, 0, []⟩, ⟨7, 4, 0, 0, []⟩, ⟨8, 4, 5, 0, []⟩, ⟨1, 3, 4, 0, []⟩, ⟨17, 0, 0, 0, lb⟩]) (k + 1) ∧ MkStep w b v xR v' := by
    obtain ⟨v', M', S'⟩ := HM2.out.chain hT C
    exact ⟨v', M', HS2.out.trans HM.out.lt S'⟩
  have Hfin := Lib.hid hfin
  clear hfin C
  go_wp2
  (try simp only [Exit.inBlock, Exit.then])
  go_end0
  exact ⟨rfl, Hfin.out⟩
set_option maxHeartbeats 16000000 in
theorem cop_drop (HF : FreshH N0 big f (tn : Nat) 1 K) (hT : big → lowT N0) (h1 : 1 ≤ f) (h4 : f ≤ 4) (htn : tn < 6) (M : MkA N0 big f (tn : Nat) 1 w b v l k) (hk : k + 3 < K) (hK : K ≤ 120) (hl : l.length ≤ 80000) :
    Calls Tryz.prog 58 #[.pointer (some ⟨b, 0, none⟩), .agg #[.string ⟨#[100, 114, 111, 112]⟩, .int .i64 0]] w fun e w' => e = .returned (.tuple #[]) ∧ ∃ v', MkA N0 big f (tn : Nat) 1 w' b v' (l ++ Qc.cblk f tn k .drop) (k + 1) ∧ MkStep w b v w' v' := by
  have hq := (Mod.refl noF w).alloc (.cells #[.string ⟨#[100, 114, 111, 112]⟩, .int .i64 0] 88)
  have M1 := M.quiet hq
  have S1 := (MkStep.refl w b v).quiet hq
  have hbx : w.heap.size ≠ b := by have := M.lt; omega
  have hvx : v.ownBlock ≠ some w.heap.size := fun e => by have := M.vlt e; omega
  have e0 : ((⟨#[100, 114, 111, 112]⟩ : ByteArray).toList == (⟨#[101, 110, 116, 101, 114]⟩ : ByteArray).toList) = false := by
    rw [ByteArray.toList_eq, ByteArray.toList_eq]; rfl
  have e1 : ((⟨#[100, 114, 111, 112]⟩ : ByteArray).toList == (⟨#[108, 101, 97, 118, 101]⟩ : ByteArray).toList) = false := by
    rw [ByteArray.toList_eq, ByteArray.toList_eq]; rfl
  have e2 : ((⟨#[100, 114, 111, 112]⟩ : ByteArray).toList == (⟨#[114, 101, 115, 116]⟩ : ByteArray).toList) = false := by
    rw [ByteArray.toList_eq, ByteArray.toList_eq]; rfl
  have e3 : ((⟨#[100, 114, 111, 112]⟩ : ByteArray).toList == (⟨#[119, 97, 105, 116]⟩ : ByteArray).toList) = false := by
    rw [ByteArray.toList_eq, ByteArray.toList_eq]; rfl
  have e4 : ((⟨#[100, 114, 111, 112]⟩ : ByteArray).toList == (⟨#[114, 101, 97, 100]⟩ : ByteArray).toList) = false := by
    rw [ByteArray.toList_eq, ByteArray.toList_eq]; rfl
  have e5 : ((⟨#[100, 114, 111, 112]⟩ : ByteArray).toList == (⟨#[112, 117, 116]⟩ : ByteArray).toList) = false := by
    rw [ByteArray.toList_eq, ByteArray.toList_eq]; rfl
  have e6 : ((⟨#[100, 114, 111, 112]⟩ : ByteArray).toList == (⟨#[100, 114, 111, 112]⟩ : ByteArray).toList) = true := by simp
  have HM := Lib.hid M
  have HM1 := Lib.hid M1
  have HS1 := Lib.hid S1
  have Hbx := Lib.hid hbx
  have Hvx := Lib.hid hvx
  have hfr := HF _ _ _ _ k (by omega) M1
  have Hfr := Lib.hid hfr
  unfold Qc.cblk Qc.dropBlk
  generalize Qu.labN (k + 1) = lb at *
  clear M M1 S1 hbx hvx HF hq hfr
  go_enter Tryz.func58, Tryz.ntmps58
  go_wp2_with fail
  refine Hfr.out.mono ?_
  rintro e w2 ⟨rfl, M2, S2⟩
  have HM2 := Lib.hid M2
  have HS2 := Lib.hid (HS1.out.trans HM.out.lt S2)
  have HC := Lib.hid (Chain.start M2.m.emit)
  clear M2 S2
  go_wp2_with fail
  refine (to1_chain (HC.out.quiet ((Mod.refl _ _).alloc _)) (by omega) 14 _ rfl lb _ rfl w2.heap.size 3 1 (by simp) (by simp)).mono ?_
  rintro e x1 ⟨rfl, C⟩
  have HC1 := Lib.hid C
  clear C
  go_wp2_with fail
  refine (op1_chain (HC1.out.quiet ((Mod.refl _ _).alloc _)) (by simp; omega) 11 _ rfl x1.heap.size 3 1 (by simp) (by simp)).mono ?_
  rintro e x2 ⟨rfl, C⟩
  have HC2 := Lib.hid C
  clear C
  go_wp2_with fail
  refine (op2_chain (HC2.out.quiet ((Mod.refl _ _).alloc _)) (by simp; omega) 0 _ rfl x2.heap.size 3 0 2 (by simp) (by simp) (by simp)).mono ?_
  rintro e x3 ⟨rfl, C⟩
  have HC3 := Lib.hid C
  clear C
  go_wp2_with fail
  refine (label_chain HC3.out (by simp; omega) lb _ rfl).mono ?_
  rintro e x4 ⟨rfl, C⟩
  have hfin : ∃ v' : Value, MkA N0 big f (tn : Nat) 1 x4 b v' (l ++ [⟨14, 3, 0, 0, lb⟩, ⟨11, 3, 0, 0, []⟩, ⟨0, 3, 0, 0, []⟩, ⟨17, 0, 0, 0, lb⟩]) (k + 1) ∧ MkStep w b v x4 v' := by
    obtain ⟨v', M', S'⟩ := HM2.out.chain hT C
    simp only [List.append_assoc] at M'
    exact ⟨v', M', HS2.out.trans HM.out.lt S'⟩
  have Hfin := Lib.hid hfin
  clear hfin C
  go_wp2
  go_end0
  exact ⟨rfl, Hfin.out⟩
set_option maxHeartbeats 16000000 in
theorem cop_later (HF : FreshH N0 big f (tn : Nat) 1 K) (hT : big → lowT N0) (h1 : 1 ≤ f) (h4 : f ≤ 4) (htn : tn < 6) (M : MkA N0 big f (tn : Nat) 1 w b v l k) (hk : k + 3 < K) (hK : K ≤ 120) (hl : l.length ≤ 80000) :
    Calls Tryz.prog 58 #[.pointer (some ⟨b, 0, none⟩), .agg #[.string ⟨#[108, 97, 116, 101, 114]⟩, .int .i64 0]] w fun e w' => e = .returned (.tuple #[]) ∧ ∃ v', MkA N0 big f (tn : Nat) 1 w' b v' (l ++ Qc.cblk f tn k .later) (k + 1) ∧ MkStep w b v w' v' := by
  have hq := (Mod.refl noF w).alloc (.cells #[.string ⟨#[108, 97, 116, 101, 114]⟩, .int .i64 0] 88)
  have M1 := M.quiet hq
  have S1 := (MkStep.refl w b v).quiet hq
  have hbx : w.heap.size ≠ b := by have := M.lt; omega
  have hvx : v.ownBlock ≠ some w.heap.size := fun e => by have := M.vlt e; omega
  have e0 : ((⟨#[108, 97, 116, 101, 114]⟩ : ByteArray).toList == (⟨#[101, 110, 116, 101, 114]⟩ : ByteArray).toList) = false := by
    rw [ByteArray.toList_eq, ByteArray.toList_eq]; rfl
  have e1 : ((⟨#[108, 97, 116, 101, 114]⟩ : ByteArray).toList == (⟨#[108, 101, 97, 118, 101]⟩ : ByteArray).toList) = false := by
    rw [ByteArray.toList_eq, ByteArray.toList_eq]; rfl
  have e2 : ((⟨#[108, 97, 116, 101, 114]⟩ : ByteArray).toList == (⟨#[114, 101, 115, 116]⟩ : ByteArray).toList) = false := by
    rw [ByteArray.toList_eq, ByteArray.toList_eq]; rfl
  have e3 : ((⟨#[108, 97, 116, 101, 114]⟩ : ByteArray).toList == (⟨#[119, 97, 105, 116]⟩ : ByteArray).toList) = false := by
    rw [ByteArray.toList_eq, ByteArray.toList_eq]; rfl
  have e4 : ((⟨#[108, 97, 116, 101, 114]⟩ : ByteArray).toList == (⟨#[114, 101, 97, 100]⟩ : ByteArray).toList) = false := by
    rw [ByteArray.toList_eq, ByteArray.toList_eq]; rfl
  have e5 : ((⟨#[108, 97, 116, 101, 114]⟩ : ByteArray).toList == (⟨#[112, 117, 116]⟩ : ByteArray).toList) = false := by
    rw [ByteArray.toList_eq, ByteArray.toList_eq]; rfl
  have e6 : ((⟨#[108, 97, 116, 101, 114]⟩ : ByteArray).toList == (⟨#[100, 114, 111, 112]⟩ : ByteArray).toList) = false := by
    rw [ByteArray.toList_eq, ByteArray.toList_eq]; rfl
  have e7 : ((⟨#[108, 97, 116, 101, 114]⟩ : ByteArray).toList == (⟨#[108, 97, 116, 101, 114]⟩ : ByteArray).toList) = true := by simp
  have HM := Lib.hid M
  have HM1 := Lib.hid M1
  have HS1 := Lib.hid S1
  have Hbx := Lib.hid hbx
  have Hvx := Lib.hid hvx
  have hc := later_ok HF hT htn HM1.out (by omega) (by omega)
  have Hc := Lib.hid hc
  unfold Qc.cblk
  clear M M1 S1 hbx hvx HF hq hc
  go_enter Tryz.func58, Tryz.ntmps58
  go_wp2_with fail
  refine Hc.out.mono ?_
  rintro e w2 ⟨rfl, v2, M2, S2⟩
  have HM2 := Lib.hid M2
  have HS2 := Lib.hid (HS1.out.trans HM.out.lt S2)
  clear M2 S2
  go_wp2
  go_end0
  exact ⟨rfl, v2, HM2.out, HS2.out⟩
set_option maxHeartbeats 16000000 in
theorem cop_flush (HF : FreshH N0 big f (tn : Nat) 1 K) (hT : big → lowT N0) (h1 : 1 ≤ f) (h4 : f ≤ 4) (htn : tn < 6) (M : MkA N0 big f (tn : Nat) 1 w b v l k) (hk : k + 3 < K) (hK : K ≤ 120) (hl : l.length ≤ 80000) :
    Calls Tryz.prog 58 #[.pointer (some ⟨b, 0, none⟩), .agg #[.string ⟨#[102, 108, 117, 115, 104]⟩, .int .i64 0]] w fun e w' => e = .returned (.tuple #[]) ∧ ∃ v', MkA N0 big f (tn : Nat) 1 w' b v' (l ++ Qc.cblk f tn k .flush) (k + 3) ∧ MkStep w b v w' v' := by
  have hq := (Mod.refl noF w).alloc (.cells #[.string ⟨#[102, 108, 117, 115, 104]⟩, .int .i64 0] 88)
  have M1 := M.quiet hq
  have S1 := (MkStep.refl w b v).quiet hq
  have hbx : w.heap.size ≠ b := by have := M.lt; omega
  have hvx : v.ownBlock ≠ some w.heap.size := fun e => by have := M.vlt e; omega
  have e0 : ((⟨#[102, 108, 117, 115, 104]⟩ : ByteArray).toList == (⟨#[101, 110, 116, 101, 114]⟩ : ByteArray).toList) = false := by
    rw [ByteArray.toList_eq, ByteArray.toList_eq]; rfl
  have e1 : ((⟨#[102, 108, 117, 115, 104]⟩ : ByteArray).toList == (⟨#[108, 101, 97, 118, 101]⟩ : ByteArray).toList) = false := by
    rw [ByteArray.toList_eq, ByteArray.toList_eq]; rfl
  have e2 : ((⟨#[102, 108, 117, 115, 104]⟩ : ByteArray).toList == (⟨#[114, 101, 115, 116]⟩ : ByteArray).toList) = false := by
    rw [ByteArray.toList_eq, ByteArray.toList_eq]; rfl
  have e3 : ((⟨#[102, 108, 117, 115, 104]⟩ : ByteArray).toList == (⟨#[119, 97, 105, 116]⟩ : ByteArray).toList) = false := by
    rw [ByteArray.toList_eq, ByteArray.toList_eq]; rfl
  have e4 : ((⟨#[102, 108, 117, 115, 104]⟩ : ByteArray).toList == (⟨#[114, 101, 97, 100]⟩ : ByteArray).toList) = false := by
    rw [ByteArray.toList_eq, ByteArray.toList_eq]; rfl
  have e5 : ((⟨#[102, 108, 117, 115, 104]⟩ : ByteArray).toList == (⟨#[112, 117, 116]⟩ : ByteArray).toList) = false := by
    rw [ByteArray.toList_eq, ByteArray.toList_eq]; rfl
  have e6 : ((⟨#[102, 108, 117, 115, 104]⟩ : ByteArray).toList == (⟨#[100, 114, 111, 112]⟩ : ByteArray).toList) = false := by
    rw [ByteArray.toList_eq, ByteArray.toList_eq]; rfl
  have e7 : ((⟨#[102, 108, 117, 115, 104]⟩ : ByteArray).toList == (⟨#[108, 97, 116, 101, 114]⟩ : ByteArray).toList) = false := by
    rw [ByteArray.toList_eq, ByteArray.toList_eq]; rfl
  have e8 : ((⟨#[102, 108, 117, 115, 104]⟩ : ByteArray).toList == (⟨#[102, 108, 117, 115, 104]⟩ : ByteArray).toList) = true := by simp
  have HM := Lib.hid M
  have HM1 := Lib.hid M1
  have HS1 := Lib.hid S1
  have Hbx := Lib.hid hbx
  have Hvx := Lib.hid hvx
  have hc := flush_ok HF hT h1 h4 htn HM1.out (by omega) hK (by omega)
  have Hc := Lib.hid hc
  unfold Qc.cblk
  clear M M1 S1 hbx hvx HF hq hc
  go_enter Tryz.func58, Tryz.ntmps58
  go_wp2_with fail
  refine Hc.out.mono ?_
  rintro e w2 ⟨rfl, v2, M2, S2⟩
  have HM2 := Lib.hid M2
  have HS2 := Lib.hid (HS1.out.trans HM.out.lt S2)
  clear M2 S2
  go_wp2
  go_end0
  exact ⟨rfl, v2, HM2.out, HS2.out⟩
end Go.Proofs.YtppihkneeolomaaGreatDoor
end
/- Clients' ops: their code; their names. -/
section
namespace Qc
open Qs Qu Go.Proofs.YtppihkneeolomaaGreatDoor
def copsCode (f tn : Nat) : Nat → List COp → List Instr
  | _, [] => []
  | k, x :: l => cblk f tn k x ++ copsCode f tn (k + cinc x) l
def clabs : List COp → Nat
  | [] => 0
  | x :: l => cinc x + clabs l
theorem clabs_snoc (x : COp) : ∀ l, clabs (l ++ [x]) = clabs l + cinc x
  | [] => by simp [clabs]
  | y :: l => by simp only [List.cons_append, clabs, clabs_snoc x l]; omega
theorem clabs_le : ∀ l, clabs l ≤ 3 * l.length
  | [] => by simp [clabs]
  | x :: l => by
    have := clabs_le l
    have h : cinc x ≤ 3 := by cases x <;> simp [cinc]
    simp only [clabs, List.length_cons]; omega
theorem copsCode_snoc (f tn : Nat) (x : COp) : ∀ (l : List COp) (k : Nat), copsCode f tn k (l ++ [x]) = copsCode f tn k l ++ cblk f tn (k + clabs l) x
  | [], k => by simp [copsCode, clabs]
  | y :: l, k => by
    rw [List.cons_append, copsCode, copsCode, copsCode_snoc f tn x l, List.append_assoc]
    simp only [clabs]
    rw [show k + cinc y + clabs l = k + (cinc y + clabs l) by omega]
theorem part_len2 {f j : Nat} (h4 : f ≤ 4) (hj : j < 5) (k : Nat) : (part f k j).length ≤ 70 := by unfold part preC; rw [List.length_map]; exact gcode_len h4 hj
theorem cblk_len {f : Nat} (h4 : f ≤ 4) (tn k : Nat) (x : COp) : (cblk f tn k x).length ≤ 80 := by
  cases x with
  | enter => have := part_len2 h4 (show 0 < 5 by decide) k; show (part f k 0).length ≤ 80; omega
  | leave => have := part_len2 h4 (show 1 < 5 by decide) k; show (part f k 1).length ≤ 80; omega
  | rest => have := part_len2 h4 (show 2 < 5 by decide) k; show (part f k 2).length ≤ 80; omega
  | wait => have := part_len2 h4 (show 4 < 5 by decide) k; show (part f k 4).length ≤ 80; omega
  | flush =>
    have := part_len2 h4 (show 4 < 5 by decide) k
    show (part f k 4 ++ flushTail (labN (k + 2)) (labN (k + 3)) tn 1).length ≤ 80
    rw [List.length_append]
    simp only [flushTail, List.length_cons, List.length_nil]; omega
  | read => simp [cblk, readBlk]
  | put n => simp [cblk, putBlkC]
  | drop => simp [cblk, dropBlk]
  | later => simp [cblk, laterBlk]
theorem copsCode_len {f : Nat} (h4 : f ≤ 4) (tn : Nat) : ∀ (l : List COp) (k : Nat), (copsCode f tn k l).length ≤ 80 * l.length
  | [], k => by simp [copsCode]
  | x :: l, k => by
    have h1 := copsCode_len h4 tn l (k + cinc x)
    have h2 := cblk_len h4 tn k x
    simp only [copsCode, List.length_append, List.length_cons]; omega
/-- A thread's code. -/
def ccode (f tn : Nat) (ops : List COp) : List Instr := (copsCode f tn 0 ops ++ part f (clabs ops) 3) ++ [⟨20, 0, 0, 0, []⟩]
end Qc
namespace Go.Proofs.YtppihkneeolomaaGreatDoor
open Go.RowKit Qs Qh Qc
def cK : COp → ByteArray
  | .enter => kEnter
  | .leave => kLeave
  | .rest => kRest
  | .wait => kWait
  | .read => kRead
  | .put _ => kPut
  | .drop => kDrop
  | .later => kLater
  | .flush => kFlush
def cN : COp → Int
  | .put n => n
  | _ => 0
def cR (x : COp) : ROp := (cK x, cN x)
def rawC (q : List (List COp)) : List (List ROp) := q.map (·.map cR)
variable {N0 K tn f : Nat} {big : Prop} {w w1 w2 : World} {b k : Nat} {v v1 v2 : Value} {l : List Instr}
theorem cop_any (x : COp) (HF : FreshH N0 big f (tn : Nat) 1 K) (hT : big → lowT N0) (h1 : 1 ≤ f) (h4 : f ≤ 4) (htn : tn < 6) (M : MkA N0 big f (tn : Nat) 1 w b v l k) (hk : k + 3 < K) (hK : K ≤ 120) (hl : l.length ≤ 80000) :
    Calls Tryz.prog 58 #[.pointer (some ⟨b, 0, none⟩), .agg #[.string (cK x), .int .i64 (cN x)]] w fun e w' => e = .returned (.tuple #[]) ∧ ∃ v', MkA N0 big f (tn : Nat) 1 w' b v' (l ++ cblk f tn k x) (k + cinc x) ∧ MkStep w b v w' v' := by
  cases x with
  | enter => exact cop_enter HF hT h1 h4 htn M hk hK hl
  | leave => exact cop_leave HF hT h1 h4 htn M hk hK hl
  | rest => exact cop_rest HF hT h1 h4 htn M hk hK hl
  | wait => exact cop_wait HF hT h1 h4 htn M hk hK hl
  | read => exact cop_read HF hT h1 h4 htn M hk hK hl
  | put n => exact cop_put n HF hT h1 h4 htn M hk hK hl
  | drop => exact cop_drop HF hT h1 h4 htn M hk hK hl
  | later => exact cop_later HF hT h1 h4 htn M hk hK hl
  | flush => exact cop_flush HF hT h1 h4 htn M hk hK hl
end Go.Proofs.YtppihkneeolomaaGreatDoor
end
/- client.Build: what it makes, in plain. -/
section
namespace Qc
open Qs Qu Go.Proofs.YtppihkneeolomaaGreatDoor
def gReg3 (n t : Nat) : List Int := [0, 0, 0, 0, 0, (n : Int) + 5, (t : Int) + 1, (n : Int) + 1]
def cInit (f n : Nat) : List (List Int) := rowsF (gOwnC f) n ++ [gHubC f n] ++ [[1]] ++ [[]] ++ [[]] ++ [[(n : Int) + 2, (n : Int) + 3, (n : Int) + 4]]
def cRegs (n : Nat) : List (List Int) := rowsF (gReg3 n) n
def cCs (f : Nat) (q : List (List COp)) (t : Nat) : List Instr := ccode f t (q.getD t [])
def cCodes (f : Nat) (q : List (List COp)) : List (List Instr) := (List.range q.length).map (cCs f q)
theorem gReg_step (n t : Nat) : (gReg2 n t).set 5 ((n : Int) + 5) = gReg3 n t := rfl
theorem cInit_len (f n : Nat) : (cInit f n).length = n + 5 := by simp [cInit, rowsF_len]
theorem cInit_all (f n : Nat) : ∀ l ∈ cInit f n, l.length ≤ 4 := fun l hl => by
  simp only [cInit, List.mem_append, List.mem_singleton] at hl
  rcases hl with ((((h | h) | h) | h) | h) | h
  · obtain ⟨i, -, rfl⟩ := List.mem_map.1 h
    simp [gOwnC]
  all_goals subst h; simp [gHubC]
theorem cInit_rows (f n : Nat) : ∀ l ∈ cInit f n, l.length ≤ 100 := fun l hl => Nat.le_trans (cInit_all f n l hl) (by decide)
theorem cRegs_len (n : Nat) : (cRegs n).length = n := rowsF_len
theorem cCodes_len (f : Nat) (q : List (List COp)) : (cCodes f q).length = q.length := by simp [cCodes]
theorem cCs_get {f t : Nat} {q : List (List COp)} {l : List COp} (h : q[t]? = some l) : cCs f q t = ccode f t l := by unfold cCs; rw [List.getD_eq_getElem?_getD, h]; rfl
end Qc
end
