/- quiescentref2.IsPrefix, Plain, where all is right. -/
import Derived.Test.YtamfbfajlfbooaaDoorGCodeFault
import Derived.Test.YtamfbfajlfbooaaDoorGIsName
import Derived.Deep.QuietTactic
import Derived.BigQuiet
import Derived.Outline
set_option linter.unusedVariables false
set_option linter.unusedSimpArgs false
set_option linter.unusedSectionVars false
namespace Go.Proofs.YtamfbfajlfbooaaDoor
open Go.RowKit Qs Qh
theorem isPrefix_any (s : ByteArray) (n : Int) (w : World) (hs : s.size ≤ maxLen) :
    Calls Tryd.prog 52 #[.string s, .int .i64 n] w fun e w' => e = .returned (.bool (nameB s.data.toList && decide ((s.size : Int) ≤ n))) ∧ w = w' := by
  cases hn : nameB s.data.toList with
  | false =>
    have hcall := isName_any s w hs
    rw [hn] at hcall
    have Hcall := Lib.hid hcall
    clear hcall hn
    go_enter Tryd.func52, Tryd.ntmps52
    go_wp2_with fail
    refine Hcall.out.mono ?_
    rintro e w1 ⟨rfl, rfl⟩
    go_wp2
    go_ret
    exact ⟨by simp, rfl⟩
  | true =>
    have hcall := isName_any s w hs
    rw [hn] at hcall
    have Hcall := Lib.hid hcall
    clear hcall hn
    by_cases hle : (s.size : Int) ≤ n
    · have hd : decide ((s.size : Int) ≤ n) = true := by simpa using hle
      rw [hd]
      go_enter Tryd.func52, Tryd.ntmps52
      go_wp2_with fail
      refine Hcall.out.mono ?_
      rintro e w1 ⟨rfl, rfl⟩
      go_wp2
      go_ret
      exact ⟨by simp, rfl⟩
    · have hd : decide ((s.size : Int) ≤ n) = false := by simpa using hle
      rw [hd]
      go_enter Tryd.func52, Tryd.ntmps52
      go_wp2_with fail
      refine Hcall.out.mono ?_
      rintro e w1 ⟨rfl, rfl⟩
      go_wp2
      go_ret
      exact ⟨by simp, rfl⟩
/-- Strings in memory, read only. -/
structure StrsAt (w : World) (v : Value) (l : List ByteArray) : Prop where
  at_ : ∃ a c, v = .slice a l.length c ∧ l.length ≤ 1000 ∧ ∀ (i : Nat) x, l[i]? = some x → ∃ b off, a = some ⟨b, off, none⟩ ∧ b < w.heap.size ∧ w.cell? ⟨b, off + i, none⟩ = some (.string x)
theorem StrsAt.frame0 {w w' : World} {v : Value} {l : List ByteArray} (h : StrsAt w v l) (hM : Mod noF w w') : StrsAt w' v l := by
  obtain ⟨a, c, rfl, hl, hx⟩ := h.at_
  refine ⟨a, c, rfl, hl, fun i x hi => ?_⟩
  obtain ⟨b, off, rfl, hb, hc⟩ := hx i x hi
  exact ⟨b, off, rfl, Nat.lt_of_lt_of_le hb hM.size, hM.cell hc (fun e => e)⟩
theorem fault_code' (w : World) : (Go.Instr.field 32 (.agg #[.int .i64 0, .int .i64 (-1)]) 0).run Tryd.prog w = .ok (.int .i64 0) w := by kernel_rfl
theorem bytes_toList_inj {a b : ByteArray} (h : a.toList = b.toList) : a = b := by
  rw [ByteArray.toList_eq, ByteArray.toList_eq] at h
  exact ByteArray.ext (Array.toList_inj.1 h)
/-- A label that is none, or begins with p. -/
def ToOk (p : ByteArray) (x : Instr) : Prop := x.to = [] ∨ (p.size ≤ x.to.length ∧ x.to.take p.size = p.data.toList)
set_option maxHeartbeats 8000000 in
theorem plain_ok (v u : Value) (l : List Instr) (p : ByteArray) (most : Nat) (bars : List ByteArray) (w : World) (hc : CodeAt w v l) (hf : CodeFine l) (hm : l.length ≤ most) (hm2 : most ≤ 1000) (hu : StrsAt w u bars)
    (hb : ∀ x ∈ l, ∀ b ∈ bars, opStr x.op ≠ b) (ht : ∀ x ∈ l, ToOk p x) (hp : p.size ≤ maxLen) :
    Calls Tryd.prog 54 #[v, .string p, .int .i64 most, u] w fun e w' => e = .returned (.bool true) ∧ Mod noF w w' := by
  have hcall := codeFault_ok v l w hc hf
  obtain ⟨a, c, rfl, hcm, -⟩ := hc.at_
  obtain ⟨ua, uc, rfl, hul, -⟩ := hu.at_
  have d0 : decide ((most : Int) < (l.length : Int)) = false := by simp; omega
  have d0' : decide (most < l.length) = false := by simp; omega
  have hfd := fault_code'
  have Hcall := Lib.hid hcall
  have Hc := Lib.hid hc
  have Hu := Lib.hid hu
  have Hb := Lib.hid hb
  have Ht := Lib.hid ht
  clear hcall hc hu hb ht
  go_enter Tryd.func54, Tryd.ntmps54
  go_wp2_with fail
  refine Hcall.out.mono ?_
  rintro e w1 ⟨rfl, hm1⟩
  have Hm1 := Lib.hid hm1
  clear hm1 Hcall
  go_wp2
  go_loopw [9, 10] (fun i _ wr => ∃ k : Nat, k ≤ l.length ∧ i = .int .i64 k ∧ Mod noF w1 wr) (fun i _ _ => l.length - (intOf i).toNat)
  case atStart => exact ⟨0, Nat.zero_le _, rfl, Mod.refl _ _⟩
  case round =>
    obtain ⟨k, hk, rfl, hm⟩ := hrel
    have Hm := Lib.hid hm
    clear hm
    by_cases hlt : k < l.length
    · have hd : decide ((k : Int) < (l.length : Int)) = true := by simp; omega
      have hki : (k : Int) < (l.length : Int) := by omega
      obtain ⟨x, hx⟩ : ∃ x, l[k]? = some x := ⟨_, List.getElem?_eq_getElem hlt⟩
      have Hx := Lib.hid hx
      clear hx
      go_wp2
      go_loopw [10] (fun j wr2 => ∃ q : Nat, q ≤ bars.length ∧ j = .int .i64 q ∧ Mod noF wr wr2) (fun j _ => bars.length - (intOf j).toNat)
      case atStart => exact ⟨0, Nat.zero_le _, rfl, Mod.refl _ _⟩
      case round =>
        obtain ⟨q, hq, rfl, hm2⟩ := hrel
        have hM2 := (Hm1.out.trans0 Hm.out).trans0 hm2
        obtain ⟨a', c', e', -, hcell⟩ := (Hc.out.frame hM2 (fun _ _ e => e)).at_
        cases e'
        obtain ⟨b, off, rfl, hbl, hv⟩ := hcell k x Hx.out
        have o0 : wr.cell? ⟨b, off + k * 5, none⟩ = some (.string (opStr x.op)) := hv 0 _ rfl
        have o4 : wr.cell? ⟨b, off + k * 5 + 4, none⟩ = some (sv x.to) := hv 4 _ rfl
        have Hm2 := Lib.hid hm2
        have HM2 := Lib.hid hM2
        by_cases hlq : q < bars.length
        · have hd2 : decide ((q : Int) < (bars.length : Int)) = true := by simp; omega
          have hqi : (q : Int) < (bars.length : Int) := by omega
          obtain ⟨y, hy⟩ : ∃ y, bars[q]? = some y := ⟨_, List.getElem?_eq_getElem hlq⟩
          obtain ⟨ua', uc', e', -, hucell⟩ := (Hu.out.frame0 hM2).at_
          cases e'
          obtain ⟨ub, uoff, rfl, hub, hcy⟩ := hucell q y hy
          have hne : ((opStr x.op).toList == y.toList) = false := by
            rw [beq_eq_false_iff_ne]
            intro e
            exact Hb.out x (List.mem_of_getElem? Hx.out) y (List.mem_of_getElem? hy) (bytes_toList_inj e)
          generalize opStr x.op = ox at o0 hne
          clear hm2 hM2 hcell hv hucell hy o4
          go_wp2
          go_quiet (fail)
          go_wp2
          exact ⟨⟨q + 1, by omega, by go_num, Hm2.out.drewN _⟩, by simp [intOf]; omega⟩
        · have hd2 : decide ((q : Int) < (bars.length : Int)) = false := by simp; omega
          clear hm2 hM2 hcell hv o0
          by_cases h0 : x.to = []
          · have o4' : wr.cell? ⟨b, off + k * 5 + 4, none⟩ = some (.string ⟨#[]⟩) := by rw [o4, h0]; rfl
            have he : ((⟨#[]⟩ : ByteArray).toList == (⟨#[]⟩ : ByteArray).toList) = true := by simp
            clear o4 h0
            go_wp2
            go_roundw
            case rel => exact ⟨k + 1, by omega, by go_num, Hm.out.trans0 Hm2.out⟩
            case measure => simp [intOf]; omega
          · obtain ⟨h1, h2⟩ := (Ht.out x (List.mem_of_getElem? Hx.out)).resolve_left h0
            obtain ⟨tb, htb⟩ : ∃ tb : ByteArray, tb = ⟨x.to.toArray⟩ := ⟨_, rfl⟩
            have o4' : wr.cell? ⟨b, off + k * 5 + 4, none⟩ = some (.string tb) := by rw [o4, htb]; rfl
            have htl : tb.data.toList = x.to := by rw [htb]
            have he : (tb.toList == (⟨#[]⟩ : ByteArray).toList) = false := by
              rw [beq_eq_false_iff_ne, ByteArray.toList_eq, ByteArray.toList_eq, htl]
              simpa using h0
            have hsz : tb.size = x.to.length := by rw [htb]; simp [ByteArray.size]
            have hle : ¬ (tb.size : Int) < (p.size : Int) := by omega
            have hle' : decide ((tb.size : Int) < (p.size : Int)) = false := by simpa using hle
            have hle2 : decide (tb.size < p.size) = false := by simp; omega
            have hpi : (0 : Int) ≤ (p.size : Int) ∧ (p.size : Int) ≤ (tb.size : Int) := by omega
            have hex : ((tb.extract 0 p.size).toList == p.toList) = true := by
              rw [beq_iff_eq, ByteArray.toList_eq, ByteArray.toList_eq]
              rw [ByteArray.data_extract, Array.toList_extract, htl]
              simpa [List.extract] using h2
            clear o4 h0 h1 h2 htb htl hsz
            go_wp2
            all_goals exact ⟨⟨k + 1, by omega, by go_num, Hm.out.trans0 Hm2.out⟩, by simp [intOf]; omega⟩
    · have hd : decide ((k : Int) < (l.length : Int)) = false := by simp; omega
      go_wp2
      go_ret
      exact ⟨rfl, Hm1.out.trans0 Hm.out⟩
end Go.Proofs.YtamfbfajlfbooaaDoor
