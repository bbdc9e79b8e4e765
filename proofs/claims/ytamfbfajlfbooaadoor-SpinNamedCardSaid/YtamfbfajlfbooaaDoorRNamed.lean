/- spin.Named. -/
import Derived.Test.YtamfbfajlfbooaaDoorRClone
import Derived.Test.YtamfbfajlfbooaaDoorRSpinBad
set_option linter.unusedVariables false
set_option linter.unusedSimpArgs false
set_option linter.unusedSectionVars false
namespace Go.Proofs.YtamfbfajlfbooaaDoor
open Go.RowKit Qs Qh
def dot : ByteArray := ⟨#[46]⟩
def bare (x : RIns) : Bool := x.to.data.toList.isEmpty
def namedR (p : ByteArray) (x : RIns) : RIns := if bare x then x else { x with to := x.to ++ (dot ++ p) }
def rightR (p : ByteArray) (x : RIns) : Bool := bare x || nameB (x.to ++ (dot ++ p)).data.toList
/-- So many are named. -/
def upTo (p : ByteArray) (l : List RIns) (k : Nat) : List RIns := (l.take k).map (namedR p) ++ l.drop k
theorem upTo_get {p : ByteArray} {l : List RIns} {k : Nat} {x : RIns} (h : l[k]? = some x) : (upTo p l k)[k]? = some x := by
  have hk := (List.getElem?_eq_some_iff.1 h).1
  unfold upTo
  rw [List.getElem?_append_right (by simp; omega)]
  simp [List.getElem?_drop, show min k l.length = k by omega, h]
theorem upTo_len (p : ByteArray) (l : List RIns) {k : Nat} (hk : k ≤ l.length) : (upTo p l k).length = l.length := by
  unfold upTo; simp; omega
theorem upTo_set {p : ByteArray} {l : List RIns} {k : Nat} {x : RIns} (h : l[k]? = some x) : (upTo p l k).set k (namedR p x) = upTo p l (k + 1) := by
  have hk := (List.getElem?_eq_some_iff.1 h)
  obtain ⟨hk, rfl⟩ := hk
  unfold upTo
  rw [List.set_append_right _ _ (by simp; omega), List.take_succ_eq_append_getElem hk, List.map_append, List.drop_eq_getElem_cons hk]
  simp only [List.length_map, List.length_take, show min k l.length = k by omega, Nat.sub_self, List.set_cons_zero, List.map_cons, List.map_nil, List.append_assoc, List.singleton_append]
theorem upTo_same {p : ByteArray} {l : List RIns} {k : Nat} {x : RIns} (h : l[k]? = some x) (hb : bare x = true) : upTo p l k = upTo p l (k + 1) := by
  rw [← upTo_set h]
  have hg := upTo_get (p := p) h
  have : namedR p x = x := by unfold namedR; rw [hb]; rfl
  rw [this]
  apply List.ext_getElem?
  intro i
  by_cases hi : i = k
  · subst hi
    rw [hg, List.getElem?_set_self (List.getElem?_eq_some_iff.1 hg).1]
  · rw [List.getElem?_set_ne (fun e => hi e.symm)]
theorem upTo_zero (p : ByteArray) (l : List RIns) : upTo p l 0 = l := by simp [upTo]
theorem upTo_all (p : ByteArray) (l : List RIns) : upTo p l l.length = l.map (namedR p) := by simp [upTo]
def namedE (w : World) (a : Nat → Addr) (p : ByteArray) (l : List RIns) (e : Ending) (w' : World) : Prop := Mod noF w w' ∧ if l.all (rightR p) then ∃ v', e = .returned (.tuple #[v', .nilIface]) ∧ RInsRow w' v' (l.map (namedR p)) else e = .returned (.tuple #[.slice none 0 0, errV a 3])
theorem all_more {q : RIns → Bool} {l : List RIns} {k : Nat} {x : RIns} (h : (l.take k).all q = true) (hx : l[k]? = some x) (hq : q x = true) : (l.take (k + 1)).all q = true := by
  obtain ⟨hk, rfl⟩ := List.getElem?_eq_some_iff.1 hx
  rw [List.take_succ_eq_append_getElem hk, List.all_append, h]; simp [hq]
set_option maxHeartbeats 4000000 in
theorem named_any (w : World) (a : Nat → Addr) (E : ErrsAt w a) (p : ByteArray) (v : Value) (l : List RIns) (R : RInsRow w v l) (hl : l.length ≤ 1000) (hp : p.size ≤ 100) (ht : ∀ x ∈ l, x.to.size ≤ 100) :
    Calls Tryd.prog 74 #[.string p, v] w (namedE w a p l) := by
  have HR := Lib.hid R
  have HE := Lib.hid E
  have Ht := Lib.hid ht
  clear R E ht
  go_enter Tryd.func74, Tryd.ntmps74
  go_wp2_with fail
  refine (clone_any w v l HR.out hl).mono ?_
  rintro e w1 ⟨v1, rfl, hR1, hm1, hn1⟩
  obtain ⟨a1, c1, rfl, hc1, hl1⟩ := hR1.slice
  have HR1 := Lib.hid hR1
  have Hm1 := Lib.hid hm1
  have Hn1 := Lib.hid hn1
  clear hR1 hm1 hn1 HR
  go_wp2
  go_loopw [7, 12] (fun _ i wr => ∃ k : Nat, k ≤ l.length ∧ i = .int .i64 k ∧ RInsRow wr (.slice a1 l.length c1) (upTo p l k) ∧ Mod noF w wr ∧ (l.take k).all (rightR p) = true) (fun _ i _ => l.length - (intOf i).toNat)
  case atStart => exact ⟨0, Nat.zero_le _, rfl, by rw [upTo_zero]; exact HR1.out, Hm1.out, rfl⟩
  case round =>
    rename_i wr
    obtain ⟨k, hk, rfl, hR, hm, hall⟩ := hrel
    have HR := Lib.hid hR
    have Hm := Lib.hid hm
    have Hall := Lib.hid hall
    clear hR hm hall
    by_cases hlt : k < l.length
    · have hd : decide ((k : Int) < (l.length : Int)) = true := by simp; omega
      have hki : (k : Int) < (l.length : Int) := by omega
      obtain ⟨x, hx⟩ : ∃ x, l[k]? = some x := ⟨_, List.getElem?_eq_getElem hlt⟩
      have hxs := Ht.out x (List.mem_of_getElem? hx)
      obtain ⟨g, c, e, hg, hfz, hcell⟩ := HR.out.cell (upTo_get hx)
      rw [upTo_len p l hk] at e
      simp only [Value.slice.injEq, true_and] at e
      obtain ⟨rfl, rfl⟩ := e
      have hgw : w.heap.size ≤ g := Hn1.out g rfl
      have o4 : wr.cell? ⟨g, k * 5 + 4, none⟩ = some (.string x.to) := hcell 4 _ rfl
      have f4 := hfz (k * 5 + 4)
      have Hx := Lib.hid hx
      clear hx hcell hfz
      cases hb : bare x with
      | true =>
        have he : x.to.toList.isEmpty = true := by rw [Lib.toList_data]; exact hb
        have Hb := Lib.hid hb
        clear hb
        go_wp2
        go_roundw
        case rel => exact ⟨k + 1, by omega, by go_num, by rw [← upTo_same Hx.out Hb.out]; exact HR.out, Hm.out, all_more Hall.out Hx.out (by unfold rightR; rw [Hb.out]; rfl)⟩
        case measure => simp [intOf]; omega
      | false =>
        have he : x.to.toList.isEmpty = false := by rw [Lib.toList_data]; exact hb
        have Hb := Lib.hid hb
        clear hb
        generalize hto : x.to = to at o4 he hxs
        have Hto := Lib.hid hto
        clear hto
        have hts : (to ++ (⟨#[46]⟩ ++ p)).size ≤ maxLen := by rw [ByteArray.size_append', ByteArray.size_append', show (⟨#[46]⟩ : ByteArray).size = 1 from rfl]; unfold maxLen; omega
        go_wp2_with fail
        refine (name_any _ _ hts).mono ?_
        rintro e w2 ⟨rfl, rfl⟩
        have hm2 : Mod noF w (wr.setCell ⟨g, k * 5 + 4, none⟩ (.string (to ++ (⟨#[46]⟩ ++ p)))) := Hm.out.trans ((Mod.refl (fun x => x = g) wr).setCell (fun _ => rfl) _) (fun x hx e => by subst e; omega)
        have Hm2 := Lib.hid hm2
        clear hm2
        cases hn : nameB (to ++ (⟨#[46]⟩ ++ p)).data.toList with
        | true =>
          have hr : rightR p x = true := by unfold rightR; rw [Hto.out]; unfold dot; rw [hn]; simp
          have Hr := Lib.hid hr
          clear hn hr
          go_wp2
          go_roundw
          case rel =>
            refine ⟨k + 1, by omega, by go_num, ?_, Hm2.out, all_more Hall.out Hx.out Hr.out⟩
            rw [← upTo_set Hx.out]
            have hR := HR.out
            rw [← upTo_len p l hk] at hR
            have := hR.set (j := 4) (u := .string (to ++ (⟨#[46]⟩ ++ p))) (y := namedR p x) (upTo_get Hx.out) (by omega) (by unfold namedR; rw [Hb.out]; simp only [RIns.vals, Hto.out, dot, List.set_cons_succ, List.set_cons_zero]; rfl)
            rw [upTo_len p l hk] at this
            exact this
          case measure => simp [intOf]; omega
        | false =>
          have hr : l.all (rightR p) = false := by
            rw [List.all_eq_false]
            exact ⟨x, List.mem_of_getElem? Hx.out, by unfold rightR; rw [Hto.out, Hb.out]; unfold dot; rw [hn]; simp⟩
          have Hr := Lib.hid hr
          have hv := (HE.out.keep Hm2.out).var 3 (by omega)
          clear hn hr
          unfold errV at *
          go_wp2
          go_quiet (fail)
          go_wp2
          go_ret2
          refine ⟨Hm2.out.drewN _, ?_⟩
          rw [Hr.out]
          exact rfl
    · have hd : decide ((k : Int) < (l.length : Int)) = false := by simp; omega
      obtain rfl : k = l.length := by omega
      go_wp2
      go_ret2
      refine ⟨Hm.out, ?_⟩
      rw [List.take_length] at Hall
      rw [Hall.out, if_pos rfl]
      exact ⟨_, rfl, by rw [← upTo_all]; exact HR.out⟩
end Go.Proofs.YtamfbfajlfbooaaDoor
