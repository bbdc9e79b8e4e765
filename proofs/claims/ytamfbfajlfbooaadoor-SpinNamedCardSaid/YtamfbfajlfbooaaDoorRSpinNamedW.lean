/- SpinNamed, walked. -/
import Derived.Test.YtamfbfajlfbooaaDoorRNamed
import Derived.Test.YtamfbfajlfbooaaDoorRLocked
import Derived.Test.YtamfbfajlfbooaaDoorRIsName
import Derived.Test.YtamfbfajlfbooaaDoorRCoded2
import Derived.Outline
import Derived.Laws.StructEq
set_option linter.unusedVariables false
set_option linter.unusedSimpArgs false
set_option linter.unusedSectionVars false
namespace Go.Proofs.YtamfbfajlfbooaaDoor
open Go.RowKit Qs Qh
def wantR (p : ByteArray) (l : List RIns) : Int := if l.all (rightR p) then 0 else 4
theorem wantR_next (p : ByteArray) {l : List RIns} {k : Nat} {x : RIns} (h : l[k]? = some x) : wantR p (l.take (k + 1)) = if rightR p x then wantR p (l.take k) else 4 := by
  obtain ⟨hk, rfl⟩ := List.getElem?_eq_some_iff.1 h
  unfold wantR
  rw [List.take_succ_eq_append_getElem hk, List.all_append]
  cases (l.take k).all (rightR p) <;> cases h : rightR p l[k] <;> simp [h]
theorem spinNamed_big (p : ByteArray) (w : World) (E : ∃ a, ErrsAt w a) (v : Value) (l : List RIns) (R : RowsAt RIns.vals 5 w v l) (hk : ∀ x ∈ l, x.Ok) (hp : p.size ≤ maxLen) (hbig : 100 < p.size ∨ 200 < l.length) :
    Calls Tryd.prog 16 #[.string p, v] w fun e w' => e = .returned (.bool true) ∧ Mod noF w w' := by
  obtain ⟨a0, c0, rfl, hl0, hc0, hn0, hx0⟩ := id R
  clear R hx0
  by_cases h1 : 100 < p.size
  · have hd : decide ((100 : Int) < (p.size : Int)) = true := by simp; omega
    go_enter Tryd.func16, Tryd.ntmps16
    go_wp2_with fail
    refine (locked_any w).mono ?_
    rintro e w1 ⟨rfl, hm1⟩
    have Hm1 := Lib.hid hm1
    clear hm1
    go_wp2
    go_ret
    exact ⟨rfl, Hm1.out⟩
  · have hd : decide ((100 : Int) < (p.size : Int)) = false := by simp; omega
    have h2 : 200 < l.length := by omega
    have hd2 : decide ((200 : Int) < (l.length : Int)) = true := by simp; omega
    go_enter Tryd.func16, Tryd.ntmps16
    go_wp2_with fail
    refine (locked_any w).mono ?_
    rintro e w1 ⟨rfl, hm1⟩
    have Hm1 := Lib.hid hm1
    clear hm1
    go_wp2
    go_ret
    exact ⟨rfl, Hm1.out⟩
theorem eqIns (op to : ByteArray) (A B C : Int) (w : World) : (binOp .neq 124 (.agg #[.string op, .int .i64 A, .int .i64 B, .int .i64 C, .string to]) (.agg #[.string op, .int .i64 A, .int .i64 B, .int .i64 C, .string to])).run Tryd.prog w = .ok (.bool false) w := by
  have hS : Tryd.prog.underlying 124 = some (.struct (Tryd.prog.fieldsOf 124)) := by kernel_rfl
  have hp : Tryd.prog.stoodInHeld 124 = false := by kernel_rfl
  rw [run_neq_struct, show (10000 : Nat) = 9999 + 1 from rfl, run_equalIn_agg w 9999 _ _ _ hS hp]
  simp only [Program.fieldsOf, Tryd.underlying124]
  go_simp
set_option maxHeartbeats 8000000 in
theorem spinNamed_small (p : ByteArray) (w : World) (a : Nat → Addr) (E : ErrsAt w a) (v : Value) (l : List RIns) (R : RowsAt RIns.vals 5 w v l) (hok : ∀ x ∈ l, x.Ok) (hp : p.size ≤ 100) (hl : l.length ≤ 200) :
    Calls Tryd.prog 16 #[.string p, v] w fun e w' => e = .returned (.bool true) ∧ Mod noF w w' := by
  have HR := Lib.hid R
  have HE := Lib.hid E
  have Hok := Lib.hid hok
  obtain ⟨a0, c0, rfl, hl0, hc0, hn0, hx0⟩ := id R
  clear R E hok hx0 hn0
  have hd : decide ((100 : Int) < (p.size : Int)) = false := by simp; omega
  have hd2 : decide ((200 : Int) < (l.length : Int)) = false := by simp; omega
  go_enter Tryd.func16, Tryd.ntmps16
  go_wp2_with fail
  refine (locked_any w).mono ?_
  rintro e w1 ⟨rfl, hm1⟩
  have Hm1 := Lib.hid hm1
  clear hm1
  go_wp2
  go_loop [6, 7] (fun v i => ∃ k : Nat, k ≤ l.length ∧ i = .int .i64 k ∧ v = .int .i64 (wantR p (l.take k)) ∧ ∀ x ∈ l.take k, x.to.size ≤ 100) (fun _ i => l.length - (intOf i).toNat)
  case atStart => exact ⟨0, Nat.zero_le _, rfl, rfl, by simp⟩
  case round =>
    obtain ⟨k, hk, rfl, rfl, hsz⟩ := hrel
    have Hsz := Lib.hid hsz
    clear hsz
    by_cases hlt : k < l.length
    · have hd3 : decide ((k : Int) < (l.length : Int)) = true := by simp; omega
      have hki : (k : Int) < (l.length : Int) := by omega
      obtain ⟨x, hx⟩ : ∃ x, l[k]? = some x := ⟨_, List.getElem?_eq_getElem hlt⟩
      obtain ⟨a1, c1, e1, _, _, _, hcell⟩ := HR.out.frame0 Hm1.out
      obtain ⟨b, off, rfl, hb, hj⟩ := hcell k x hx
      simp only [Value.slice.injEq, Option.some.injEq, true_and] at e1
      obtain ⟨rfl, rfl⟩ := e1
      have o4 : w1.cell? ⟨b, off + k * 5 + 4, none⟩ = some (.string x.to) := hj 4 _ rfl
      have hxs := (Hok.out x (List.mem_of_getElem? hx)).to
      have hwn := wantR_next p hx
      have Hx := Lib.hid hx
      have Hwn := Lib.hid hwn
      generalize hto : x.to = to at o4 hxs
      have Hto := Lib.hid hto
      clear hx hcell hj hwn hto
      by_cases hbig : 100 < to.size
      · have hd4 : decide ((100 : Int) < (to.size : Int)) = true := by simp; omega
        go_wp2
        go_ret
        exact ⟨rfl, Hm1.out⟩
      have hd4 : decide ((100 : Int) < (to.size : Int)) = false := by simp; omega
      have hsz' : ∀ y ∈ l.take (k + 1), y.to.size ≤ 100 := by
        intro y hy
        rw [List.take_succ_eq_append_getElem hlt] at hy
        rcases List.mem_append.1 hy with h | h
        · exact Hsz.out y h
        · simp only [List.mem_singleton] at h
          have hxy : l[k] = x := Option.some.inj ((List.getElem?_eq_getElem hlt).symm.trans Hx.out)
          rw [h, hxy, Hto.out]; omega
      have Hsz' := Lib.hid hsz'
      clear hsz'
      cases hb : bare x with
      | true =>
        have he : to.toList.isEmpty = true := by rw [Lib.toList_data, ← Hto.out]; exact hb
        have hr : rightR p x = true := by unfold rightR; rw [hb]; rfl
        rw [hr] at Hwn
        clear hb hr
        go_wp2
        go_round
        case rel => exact ⟨k + 1, by omega, by go_num, by rw [Hwn.out]; rfl, Hsz'.out⟩
        case measure => simp [intOf]; omega
      | false =>
        have he : to.toList.isEmpty = false := by rw [Lib.toList_data, ← Hto.out]; exact hb
        have hts : ((to ++ ⟨#[46]⟩) ++ p).size ≤ maxLen := by rw [ByteArray.size_append', ByteArray.size_append', show (⟨#[46]⟩ : ByteArray).size = 1 from rfl]; unfold maxLen; omega
        have hr : rightR p x = nameB ((to ++ ⟨#[46]⟩) ++ p).data.toList := by unfold rightR; rw [hb, Hto.out, ByteArray.append_assoc]; rfl
        rw [hr] at Hwn
        clear hb hr
        cases hn : nameB ((to ++ ⟨#[46]⟩) ++ p).data.toList with
        | true =>
          rw [hn] at Hwn
          have Hn := Lib.hid hn
          clear hn
          go_wp2_with (go_at_call 73; refine (isName_any _ _ hts).mono ?_; rintro e w2 ⟨rfl, rfl⟩; rw [Hn.out])
          exact ⟨⟨k + 1, by omega, by go_num, by rw [Hwn.out]; rfl, Hsz'.out⟩, by simp [intOf]; omega⟩
        | false =>
          rw [hn] at Hwn
          have Hn := Lib.hid hn
          clear hn
          go_wp2_with (go_at_call 73; refine (isName_any _ _ hts).mono ?_; rintro e w2 ⟨rfl, rfl⟩; rw [Hn.out])
          exact ⟨⟨k + 1, by omega, by go_num, by rw [Hwn.out]; rfl, Hsz'.out⟩, by simp [intOf]; omega⟩
    · have hd3 : decide ((k : Int) < (l.length : Int)) = false := by simp; omega
      obtain rfl : k = l.length := by omega
      rw [List.take_length] at Hsz ⊢
      cases hr : l.all (rightR p) with
      | false =>
        have hw4 : wantR p l = 4 := by unfold wantR; rw [hr]; rfl
        rw [hw4]
        have Hr := Lib.hid hr
        clear hr hw4
        go_wp2_with (first
          | (at_builtin; refine wpList_copy rfl (.tmp 60) (.tmp 61) rfl (HR.out.frame0 Hm1.out) rfl rfl (by omega) ?_; intro v2 w2 hR2 hm2 hn2; obtain ⟨a2, c2, rfl, hc2, hl2⟩ := hR2.slice; have HR2 := Lib.hid hR2; have Hm2 := Lib.hid (Hm1.out.trans0 hm2); clear hR2 hm2 hn2)
          | (go_at_call 74; refine (named_any w2 a (HE.out.keep Hm2.out) p _ l HR2.out (by omega) hp Hsz.out).mono ?_; rintro e w3 ⟨hm3, hpo⟩; rw [Hr.out] at hpo; obtain rfl : e = _ := hpo; have Hm3 := Lib.hid (Hm2.out.trans0 hm3); clear hm3))
        have hcd := coded2_at (HE.out.keep Hm3.out) 3 (by omega) 4
        rw [show decide ((4 : Int) = ((3 : Nat) : Int) + 1) = true by decide] at hcd
        refine hcd.mono ?_
        rintro e w4 ⟨rfl, hm4⟩
        have Hm4 := Lib.hid (Hm3.out.trans0 hm4)
        clear hcd hm4
        go_wp2
        go_ret
        exact ⟨rfl, Hm4.out⟩
      | true =>
        have hw0 : wantR p l = 0 := by unfold wantR; rw [hr]; rfl
        rw [hw0]
        have Hr := Lib.hid hr
        clear hr hw0
        go_wp2_with (first
          | (at_builtin; refine wpList_copy rfl (.tmp 60) (.tmp 61) rfl (HR.out.frame0 Hm1.out) rfl rfl (by omega) ?_; intro v2 w2 hR2 hm2 hn2; obtain ⟨a2, c2, rfl, hc2, hl2⟩ := hR2.slice; have HR2 := Lib.hid hR2; have Hm2 := Lib.hid (Hm1.out.trans0 hm2); clear hR2 hm2 hn2)
          | (go_at_call 74; refine (named_any w2 a (HE.out.keep Hm2.out) p _ l HR2.out (by omega) hp Hsz.out).mono ?_; rintro e w3 ⟨hm3, hpo⟩; rw [Hr.out, if_pos rfl] at hpo; obtain ⟨v3, rfl, hR3⟩ := hpo; obtain ⟨a3, c3, rfl, hc3, hl3⟩ := hR3.slice; have HR3 := Lib.hid hR3; have Hm3 := Lib.hid (Hm2.out.trans0 hm3); rw [List.length_map] at *; clear hm3 hR3))
        go_loopw [11, 12] (fun i _ wr => ∃ k : Nat, k ≤ l.length ∧ i = .int .i64 k ∧ Mod noF w3 wr) (fun i _ _ => l.length - (intOf i).toNat)
        case atStart => exact ⟨0, Nat.zero_le _, rfl, Mod.refl _ _⟩
        case round =>
          rename_i wr
          obtain ⟨k, hk, rfl, hm⟩ := hrel
          have Hm := Lib.hid hm
          clear hm
          by_cases hlt : k < l.length
          · have hd3 : decide ((k : Int) < (l.length : Int)) = true := by simp; omega
            have hki : (k : Int) < (l.length : Int) := by omega
            obtain ⟨x, hx⟩ : ∃ x, l[k]? = some x := ⟨_, List.getElem?_eq_getElem hlt⟩
            obtain ⟨a1, c1, e1, _, _, _, hcell⟩ := HR.out.frame0 (Hm3.out.trans0 Hm.out)
            obtain ⟨b, off, rfl, hb, hj⟩ := hcell k x hx
            simp only [Value.slice.injEq, Option.some.injEq, true_and] at e1
            obtain ⟨rfl, rfl⟩ := e1
            have o0 : wr.cell? ⟨b, off + k * 5, none⟩ = some (.string x.op) := hj 0 _ rfl
            have o1 : wr.cell? ⟨b, off + k * 5 + 1, none⟩ = some (.int .i64 x.A) := hj 1 _ rfl
            have o2 : wr.cell? ⟨b, off + k * 5 + 2, none⟩ = some (.int .i64 x.B) := hj 2 _ rfl
            have o3 : wr.cell? ⟨b, off + k * 5 + 3, none⟩ = some (.int .i64 x.C) := hj 3 _ rfl
            have o4 : wr.cell? ⟨b, off + k * 5 + 4, none⟩ = some (.string x.to) := hj 4 _ rfl
            have hR := RInsRow.keep HR3.out Hm.out (fun _ _ e => e)
            obtain ⟨g, c, e, hg, _, hc⟩ := RInsRow.cell (x := namedR p x) hR (i := k) (by rw [List.getElem?_map, hx]; rfl)
            have hsame := HR3.out
            rw [List.length_map] at e
            simp only [Value.slice.injEq, true_and] at e
            obtain ⟨rfl, rfl⟩ := e
            have Hc := Lib.hid hc
            have hxs := (Hok.out x (List.mem_of_getElem? hx)).to
            clear hcell hj hc hR hsame
            cases hb0 : bare x with
            | true =>
              have he : x.to.toList.isEmpty = true := by rw [Lib.toList_data]; exact hb0
              have hnm : namedR p x = x := by unfold namedR; rw [hb0]; rfl
              rw [hnm] at Hc
              have Hx := Lib.hid hx
              obtain ⟨op, A, B, C, to⟩ := x
              simp only at o0 o1 o2 o3 o4 he hxs
              clear hb0 hnm hx
              go_wp2
              obtain ⟨wz, hwz⟩ : ∃ wz, wz = wr.alloc (.cells #[.string op, .int .i64 A, .int .i64 B, .int .i64 C, .string to] 124) := ⟨_, rfl⟩
              rw [← hwz]
              have hx : wz.heap[wr.heap.size]? = some (.cells #[.string op, .int .i64 A, .int .i64 B, .int .i64 C, .string to] 124) := hwz ▸ heap_alloc_new wr _
              have hM : Mod noF wr wz := hwz ▸ (Mod.refl noF wr).alloc _
              have c0 : wz.cell? ⟨g, k * 5, none⟩ = some (.string op) := hM.cell (Hc.out 0 _ rfl) (fun e => e)
              have c1 : wz.cell? ⟨g, k * 5 + 1, none⟩ = some (.int .i64 A) := hM.cell (Hc.out 1 _ rfl) (fun e => e)
              have c2 : wz.cell? ⟨g, k * 5 + 2, none⟩ = some (.int .i64 B) := hM.cell (Hc.out 2 _ rfl) (fun e => e)
              have c3 : wz.cell? ⟨g, k * 5 + 3, none⟩ = some (.int .i64 C) := hM.cell (Hc.out 3 _ rfl) (fun e => e)
              have c4 : wz.cell? ⟨g, k * 5 + 4, none⟩ = some (.string to) := hM.cell (Hc.out 4 _ rfl) (fun e => e)
              have n0 : wz.cell? ⟨wr.heap.size, 0, none⟩ = some (.string op) := (cell_of_heap hx 0).trans rfl
              have n1 : wz.cell? ⟨wr.heap.size, 1, none⟩ = some (.int .i64 A) := (cell_of_heap hx 1).trans rfl
              have n2 : wz.cell? ⟨wr.heap.size, 2, none⟩ = some (.int .i64 B) := (cell_of_heap hx 2).trans rfl
              have n3 : wz.cell? ⟨wr.heap.size, 3, none⟩ = some (.int .i64 C) := (cell_of_heap hx 3).trans rfl
              have n4 : wz.cell? ⟨wr.heap.size, 4, none⟩ = some (.string to) := (cell_of_heap hx 4).trans rfl
              have hl1 : wr.heap.size < wz.heap.size := lt_of_block hx
              have hl2 : g < wz.heap.size := by omega
              have qE := eqIns op to A B C
              have HM := Lib.hid hM
              clear hwz hx hM o0 o1 o2 o3 o4 Hc
              first | (go_quiet (fail)) | (trace_state; fail "quiet")
              go_wp2
              go_roundw
              case rel => exact ⟨k + 1, by omega, by go_num, (Hm.out.trans0 HM.out).drewN _⟩
              case measure => simp [intOf]; omega
            | false =>
              have he : x.to.toList.isEmpty = false := by rw [Lib.toList_data]; exact hb0
              have hnm : namedR p x = { x with to := (x.to ++ ⟨#[46]⟩) ++ p } := by unfold namedR; rw [hb0, ByteArray.append_assoc]; rfl
              rw [hnm] at Hc
              have Hx := Lib.hid hx
              obtain ⟨op, A, B, C, to⟩ := x
              simp only at o0 o1 o2 o3 o4 he hxs
              have hto2 := Hsz.out _ (List.mem_of_getElem? hx)
              simp only at hto2
              have hts : ((to ++ ⟨#[46]⟩) ++ p).size ≤ maxLen := by rw [ByteArray.size_append', ByteArray.size_append', show (⟨#[46]⟩ : ByteArray).size = 1 from rfl]; unfold maxLen; omega
              clear hb0 hnm hx
              go_wp2
              obtain ⟨wz, hwz⟩ : ∃ wz, wz = wr.alloc (.cells #[.string op, .int .i64 A, .int .i64 B, .int .i64 C, .string ((to ++ ⟨#[46]⟩) ++ p)] 124) := ⟨_, rfl⟩
              rw [← hwz]
              have hx : wz.heap[wr.heap.size]? = some (.cells #[.string op, .int .i64 A, .int .i64 B, .int .i64 C, .string ((to ++ ⟨#[46]⟩) ++ p)] 124) := hwz ▸ heap_alloc_new wr _
              have hM : Mod noF wr wz := hwz ▸ (Mod.refl noF wr).alloc _
              have c0 : wz.cell? ⟨g, k * 5, none⟩ = some (.string op) := hM.cell (Hc.out 0 _ rfl) (fun e => e)
              have c1 : wz.cell? ⟨g, k * 5 + 1, none⟩ = some (.int .i64 A) := hM.cell (Hc.out 1 _ rfl) (fun e => e)
              have c2 : wz.cell? ⟨g, k * 5 + 2, none⟩ = some (.int .i64 B) := hM.cell (Hc.out 2 _ rfl) (fun e => e)
              have c3 : wz.cell? ⟨g, k * 5 + 3, none⟩ = some (.int .i64 C) := hM.cell (Hc.out 3 _ rfl) (fun e => e)
              have c4 : wz.cell? ⟨g, k * 5 + 4, none⟩ = some (.string ((to ++ ⟨#[46]⟩) ++ p)) := hM.cell (Hc.out 4 _ rfl) (fun e => e)
              have n0 : wz.cell? ⟨wr.heap.size, 0, none⟩ = some (.string op) := (cell_of_heap hx 0).trans rfl
              have n1 : wz.cell? ⟨wr.heap.size, 1, none⟩ = some (.int .i64 A) := (cell_of_heap hx 1).trans rfl
              have n2 : wz.cell? ⟨wr.heap.size, 2, none⟩ = some (.int .i64 B) := (cell_of_heap hx 2).trans rfl
              have n3 : wz.cell? ⟨wr.heap.size, 3, none⟩ = some (.int .i64 C) := (cell_of_heap hx 3).trans rfl
              have n4 : wz.cell? ⟨wr.heap.size, 4, none⟩ = some (.string ((to ++ ⟨#[46]⟩) ++ p)) := (cell_of_heap hx 4).trans rfl
              have hl1 : wr.heap.size < wz.heap.size := lt_of_block hx
              have hl2 : g < wz.heap.size := by omega
              have qE := eqIns op ((to ++ ⟨#[46]⟩) ++ p) A B C
              have HM := Lib.hid hM
              clear hwz hx hM o0 o1 o2 o3 o4 Hc
              first | (go_quiet (fail)) | (trace_state; fail "quiet")
              go_wp2
              go_roundw
              case rel => exact ⟨k + 1, by omega, by go_num, (Hm.out.trans0 HM.out).drewN _⟩
              case measure => simp [intOf]; omega
          · have hd3 : decide ((k : Int) < (l.length : Int)) = false := by simp; omega
            obtain rfl : k = l.length := by omega
            go_wp2
            go_ret
            exact ⟨rfl, Hm3.out.trans0 Hm.out⟩
theorem spinNamed_any (p : ByteArray) (a : Option Addr) (len cap : Nat) (z : List RIns) (w : World) (hp : p.size ≤ maxLen) (hz : IsIns w a len cap z) (h : ∃ a, ErrsAt w a) :
    Calls Tryd.prog 16 #[.string p, .slice a len cap] w fun e w' => e = .returned (.bool true) ∧ Below w.heap.size w w' := by
  by_cases hs : p.size ≤ 100 ∧ z.length ≤ 200
  · obtain ⟨e, he⟩ := h
    exact (spinNamed_small p w e he _ z hz.1 hz.2 hs.1 hs.2).mono fun e w' h => ⟨h.1, h.2.toBelow⟩
  · exact (spinNamed_big p w h _ z hz.1 hz.2 hp (by omega)).mono fun e w' h => ⟨h.1, h.2.toBelow⟩
end Go.Proofs.YtamfbfajlfbooaaDoor
