/- Texts that belong together, joined. -/
import Derived.Test.YtppihkneeolomaaGreatDoorCBm6
import Derived.Test.YtppihkneeolomaaGreatDoorCBm8
import Derived.Deep.RegionHeld3
import Derived.Test.YtppihkneeolomaaGreatDoorCBFaultCode
import Derived.LaidLaws
import Derived.SliceStrings
import Derived.ChangeShapes
set_option linter.unusedVariables false
set_option linter.unusedSimpArgs false
set_option linter.unusedSectionVars false
/- package client: a part of grace. -/
section
namespace Go.Proofs.YtppihkneeolomaaGreatDoor
open Go.RowKit Qs Qh
/-- Grace's parts by numbers. -/
def graceFn : Nat → Nat
  | 0 => 75
  | 1 => 76
  | 2 => 85
  | 3 => 48
  | _ => 86
theorem gcode_lenAll : ((List.range 5).all fun f => (List.range 5).all fun k => decide ((gcode f k).length ≤ 70)) = true := by decide +kernel
theorem gcode_len {f j : Nat} (h4 : f ≤ 4) (hj : j < 5) : (gcode f j).length ≤ 70 := by
  have h := List.all_eq_true.1 (List.all_eq_true.1 gcode_lenAll f (List.mem_range.2 (by omega))) j (List.mem_range.2 hj)
  simpa using h
theorem grace_good {f j : Nat} (h1 : 1 ≤ f) (h4 : f ≤ 4) (hj : j < 5) (s : ByteArray) (w : World) (hn : nameB s.data.toList = true) (hs : s.size ≤ 4) :
    Calls Tryz.prog (graceFn j) #[.int .i64 f, .string s] w fun e w' => ∃ v, e = .returned (.tuple #[v, .nilIface]) ∧ Made (preC s.data.toList (gcode f j)) w v w' := by
  match f, h1, h4, j, hj with
  | 1, _, _, 0, _ => exact genter1_ok s w hn hs
  | 1, _, _, 1, _ => exact gleave1_ok s w hn hs
  | 1, _, _, 2, _ => exact grest1_ok s w hn hs
  | 1, _, _, 3, _ => exact ggone1_ok s w hn hs
  | 1, _, _, 4, _ => exact gwait1_ok s w hn hs
  | 2, _, _, 0, _ => exact genter2_ok s w hn hs
  | 2, _, _, 1, _ => exact gleave2_ok s w hn hs
  | 2, _, _, 2, _ => exact grest2_ok s w hn hs
  | 2, _, _, 3, _ => exact ggone2_ok s w hn hs
  | 2, _, _, 4, _ => exact gwait2_ok s w hn hs
  | 3, _, _, 0, _ => exact genter3_ok s w hn hs
  | 3, _, _, 1, _ => exact gleave3_ok s w hn hs
  | 3, _, _, 2, _ => exact grest3_ok s w hn hs
  | 3, _, _, 3, _ => exact ggone3_ok s w hn hs
  | 3, _, _, 4, _ => exact gwait3_ok s w hn hs
  | 4, _, _, 0, _ => exact genter4_ok s w hn hs
  | 4, _, _, 1, _ => exact gleave4_ok s w hn hs
  | 4, _, _, 2, _ => exact grest4_ok s w hn hs
  | 4, _, _, 3, _ => exact ggone4_ok s w hn hs
  | 4, _, _, 4, _ => exact gwait4_ok s w hn hs
variable {N0 K : Nat} {big : Prop} {t nx : Int} {f : Nat} {w w1 w2 : World} {b k : Nat} {v v1 v2 : Value} {l : List Instr}
set_option maxHeartbeats 8000000 in
theorem part0_ok (HF : FreshH N0 big f t nx K) (hT : big → lowT N0) (h1 : 1 ≤ f) (h4 : f ≤ 4) (M : MkA N0 big f t nx w b v l k) (hk : k < K) (hK : K ≤ 120) (hl : l.length ≤ 100000) :
    Calls Tryz.prog 47 #[.pointer (some ⟨b, 0, none⟩), .func (.func 75) #[] #[]] w fun e w' => e = .returned (.tuple #[]) ∧ ∃ v', MkA N0 big f t nx w' b v' (l ++ preC (Qu.labN (k + 1)) (gcode f 0)) (k + 1) ∧ MkStep w b v w' v' := by
  have hfr := fun W (hW : Mod noF w W) => HF W b v l k hk (M.quiet hW)
  have hla := (Qu.labN_facts (k + 1) (by omega)).2
  have hg := fun W => grace_good h1 h4 (show 0 < 5 by decide) ⟨(Qu.labN (k + 1)).toArray⟩ W (by simpa using hla.2.1) (by simpa [ByteArray.size] using hla.1)
  have hlen : (preC (Qu.labN (k + 1)) (gcode f 0)).length ≤ 70 := by unfold preC; rw [List.length_map]; exact gcode_len h4 (by decide)
  have Hlen := Lib.hid hlen
  simp only at hg
  unfold graceFn at hg
  generalize hlb : (⟨(Qu.labN (k + 1)).toArray⟩ : ByteArray) = lb at *
  generalize preC (Qu.labN (k + 1)) (gcode f 0) = pc at *
  generalize ((f : Nat) : Int) = fi at *
  have c1 := M.c1
  have HM := Lib.hid M
  have Hfr := Lib.hid hfr
  have Hg := Lib.hid hg
  have hfi := fi
  clear M hfr hla hg HF hlb hlen
  go_enter Tryz.func47, Tryz.ntmps47
  go_wp2
  refine wp_region_held_drew (S := fun W => W.cell? ⟨b, 1, none⟩ = some (.int .i64 fi)) (by kernel_rfl) ((Mod.refl noF _).drew.cell c1 (fun e => e)) (fun hHeld => ?_)
  refine wpAnyH_take (i := 0) (oi := ?oP0) (v := ?vP0) ?qP0 (by kernel_rfl) ?fP0 ?gP0 ?pP0 ?uP0 (by assumption) ?rP0
  case qP0 => (rw [List.getElem?_toArray]; rfl)
  case fP0 => kernel_rfl
  case gP0 => kernel_rfl
  case pP0 => exact (fun _ _ _ h => h)
  case uP0 => (refine Or.inl ⟨by rfl, ?_⟩; intro w hSw; (try dsimp only at hSw); go_simp; (try rw [if_neg (by omega)]); try with_reducible rfl)
  try simp only [Act.put, List.setIfInBounds_toArray, List.set_cons_zero, List.set_cons_succ]
  refine wpAnyH_take (i := 1) (oi := ?oP1) (v := ?vP1) ?qP1 (by kernel_rfl) ?fP1 ?gP1 ?pP1 ?uP1 (by assumption) ?rP1
  case qP1 => (rw [List.getElem?_toArray]; rfl)
  case fP1 => kernel_rfl
  case gP1 => kernel_rfl
  case pP1 => exact (fun _ _ _ h => h)
  case uP1 => (refine Or.inl ⟨by rfl, ?_⟩; intro w hSw; (try dsimp only at hSw); go_simp; (try rw [if_neg (by omega)]); try with_reducible rfl)
  try simp only [Act.put, List.setIfInBounds_toArray, List.set_cons_zero, List.set_cons_succ]
  refine wpAnyH_take (i := 2) (oi := ?oP2) (v := ?vP2) ?qP2 (by kernel_rfl) ?fP2 ?gP2 ?pP2 ?uP2 (by assumption) ?rP2
  case qP2 => (rw [List.getElem?_toArray]; rfl)
  case fP2 => kernel_rfl
  case gP2 => kernel_rfl
  case pP2 => exact (fun _ _ _ h => h)
  case uP2 => (refine Or.inl ⟨by rfl, ?_⟩; intro w hSw; (try dsimp only at hSw); go_simp; (try rw [if_neg (by omega)]); try with_reducible rfl)
  try simp only [Act.put, List.setIfInBounds_toArray, List.set_cons_zero, List.set_cons_succ]
  refine wpAnyH_take (i := 3) (oi := ?oP3) (v := ?vP3) ?qP3 (by kernel_rfl) ?fP3 ?gP3 ?pP3 ?uP3 (by assumption) ?rP3
  case qP3 => (rw [List.getElem?_toArray]; rfl)
  case fP3 => kernel_rfl
  case gP3 => kernel_rfl
  case pP3 => exact (fun _ _ _ h => h)
  case uP3 => (refine Or.inl ⟨by rfl, ?_⟩; intro w hSw; (try dsimp only at hSw); go_simp; (try rw [if_neg (by omega)]); try with_reducible rfl)
  try simp only [Act.put, List.setIfInBounds_toArray, List.set_cons_zero, List.set_cons_succ]
  refine wpAnyH_take (i := 4) (oi := ?oP4) (v := ?vP4) ?qP4 (by kernel_rfl) ?fP4 ?gP4 ?pP4 ?uP4 (by assumption) ?rP4
  case qP4 => (rw [List.getElem?_toArray]; rfl)
  case fP4 => kernel_rfl
  case gP4 => kernel_rfl
  case pP4 => exact (fun _ _ _ h => h)
  case uP4 => (refine Or.inl ⟨by rfl, ?_⟩; intro w hSw; (try dsimp only at hSw); go_simp; (try rw [if_neg (by omega)]); try with_reducible rfl)
  try simp only [Act.put, List.setIfInBounds_toArray, List.set_cons_zero, List.set_cons_succ]
  refine wpAnyH_take (i := 5) (oi := ?oP5) (v := ?vP5) ?qP5 (by kernel_rfl) ?fP5 ?gP5 ?pP5 ?uP5 (by assumption) ?rP5
  case qP5 => (rw [List.getElem?_toArray]; rfl)
  case fP5 => kernel_rfl
  case gP5 => kernel_rfl
  case pP5 => exact (fun _ _ _ h => h)
  case uP5 => (refine Or.inl ⟨by rfl, ?_⟩; intro w hSw; (try dsimp only at hSw); go_simp; (try rw [if_neg (by omega)]); try with_reducible rfl)
  try simp only [Act.put, List.setIfInBounds_toArray, List.set_cons_zero, List.set_cons_succ]
  refine wpAnyH_ready (rs := [6]) (by kernel_rfl) (by simp) ?_
  refine AllReadyH.cons rfl (fun K hK => ?_) AllReadyH.nil
  go_simp
  refine (Hfr.out _ (Mod.refl _ _).drew).mono ?_
  rintro e w4 ⟨rfl, hm4, hs4⟩
  have Hm4 := Lib.hid hm4
  have Hs4 := Lib.hid hs4
  refine Shut.out hK _ _ hm4.c1 (fun hS4 => ?_)
  clear hm4 hs4 c1
  try simp only [Act.put, List.setIfInBounds_toArray, List.set_cons_zero, List.set_cons_succ]
  refine wpAnyH_ready (rs := [7]) (by kernel_rfl) (by simp) ?_
  refine AllReadyH.cons rfl (fun K hK => ?_) AllReadyH.nil
  go_simp
  refine (Hg.out _).mono ?_
  rintro e w5 ⟨pv, rfl, hmade⟩
  have hq5 := Mod.below hmade.2.1
  have hM5 := Hm4.out.quiet hq5
  have Hm5 := Lib.hid hM5
  have Hs5 := Lib.hid (Hs4.out.quiet hq5)
  have Hpv := Lib.hid hmade.1
  have Hpn := Lib.hid hmade.2.2
  refine Shut.out hK _ _ hM5.c1 (fun hS5 => ?_)
  clear hM5 hmade hq5
  try simp only [Act.put, List.setIfInBounds_toArray, List.set_cons_zero, List.set_cons_succ]
  refine wpAnyH_take (i := 8) (oi := ?oP8) (v := ?vP8) ?qP8 (by kernel_rfl) ?fP8 ?gP8 ?pP8 ?uP8 (by assumption) ?rP8
  case qP8 => (rw [List.getElem?_toArray]; rfl)
  case fP8 => kernel_rfl
  case gP8 => kernel_rfl
  case pP8 => exact (fun _ _ _ h => h)
  case uP8 => (refine Or.inl ⟨by rfl, ?_⟩; intro w hSw; (try dsimp only at hSw); go_simp; (try rw [if_neg (by omega)]); try with_reducible rfl)
  try simp only [Act.put, List.setIfInBounds_toArray, List.set_cons_zero, List.set_cons_succ]
  refine wpAnyH_take (i := 9) (oi := ?oP9) (v := ?vP9) ?qP9 (by kernel_rfl) ?fP9 ?gP9 ?pP9 ?uP9 (by assumption) ?rP9
  case qP9 => (rw [List.getElem?_toArray]; rfl)
  case fP9 => kernel_rfl
  case gP9 => kernel_rfl
  case pP9 => exact (fun _ _ _ h => h)
  case uP9 => (refine Or.inl ⟨by rfl, ?_⟩; intro w hSw; (try dsimp only at hSw); go_simp; (try rw [if_neg (by omega)]); try with_reducible rfl)
  try simp only [Act.put, List.setIfInBounds_toArray, List.set_cons_zero, List.set_cons_succ]
  refine wpAnyH_take (i := 10) (oi := ?oP10) (v := ?vP10) ?qP10 (by kernel_rfl) ?fP10 ?gP10 ?pP10 ?uP10 (by assumption) ?rP10
  case qP10 => (rw [List.getElem?_toArray]; rfl)
  case fP10 => kernel_rfl
  case gP10 => kernel_rfl
  case pP10 => exact (fun _ _ _ h => h)
  case uP10 => (refine Or.inl ⟨by rfl, ?_⟩; intro w hSw; (try dsimp only at hSw); go_simp; (try rw [if_neg (by omega)]); try with_reducible rfl)
  try simp only [Act.put, List.setIfInBounds_toArray, List.set_cons_zero, List.set_cons_succ]
  refine wpAnyH_take (i := 11) (oi := ?oP11) (v := ?vP11) ?qP11 (by kernel_rfl) ?fP11 ?gP11 ?pP11 ?uP11 (by assumption) ?rP11
  case qP11 => (rw [List.getElem?_toArray]; rfl)
  case fP11 => kernel_rfl
  case gP11 => kernel_rfl
  case pP11 => exact (fun _ _ _ h => h)
  case uP11 => (refine Or.inl ⟨by rfl, ?_⟩; intro w hSw; (try dsimp only at hSw); go_simp; (try rw [if_neg (by omega)]); try with_reducible rfl)
  try simp only [Act.put, List.setIfInBounds_toArray, List.set_cons_zero, List.set_cons_succ]
  refine wpAnyH_take (i := 12) (oi := ?oP12) (v := ?vP12) ?qP12 (by kernel_rfl) ?fP12 ?gP12 ?pP12 ?uP12 (by assumption) ?rP12
  case qP12 => (rw [List.getElem?_toArray]; rfl)
  case fP12 => kernel_rfl
  case gP12 => kernel_rfl
  case pP12 => exact (fun _ _ _ h => h)
  case uP12 => (refine Or.inl ⟨by rfl, ?_⟩; intro w hSw; (try dsimp only at hSw); go_simp; (try rw [if_neg (by omega)]); try with_reducible rfl)
  try simp only [Act.put, List.setIfInBounds_toArray, List.set_cons_zero, List.set_cons_succ]
  refine wpAnyH_done (by kernel_rfl) ?_ _
  clear hS4 hS5 hK hHeld
  have HC := Lib.hid (Chain.start Hm5.out.m.emit)
  go_wp2_with fail
  refine (made_more HC.out (by omega) (by have := Hlen.out; omega) Hpv.out).mono ?_
  rintro e w6 ⟨rfl, C⟩
  have hfin : ∃ v', MkA N0 big fi t nx w6 b v' (l ++ pc) (k + 1) ∧ MkStep w b v w6 v' := by
    obtain ⟨v', M', S'⟩ := Hm5.out.chain hT C
    exact ⟨v', M', (((MkStep.refl w b v).quiet (Mod.refl noF w).drew).trans HM.out.lt Hs5.out).trans HM.out.lt S'⟩
  have Hfin := Lib.hid hfin
  clear hfin C
  go_wp2
  go_end0
  exact ⟨rfl, Hfin.out⟩
set_option maxHeartbeats 8000000 in
theorem part1_ok (HF : FreshH N0 big f t nx K) (hT : big → lowT N0) (h1 : 1 ≤ f) (h4 : f ≤ 4) (M : MkA N0 big f t nx w b v l k) (hk : k < K) (hK : K ≤ 120) (hl : l.length ≤ 100000) :
    Calls Tryz.prog 47 #[.pointer (some ⟨b, 0, none⟩), .func (.func 76) #[] #[]] w fun e w' => e = .returned (.tuple #[]) ∧ ∃ v', MkA N0 big f t nx w' b v' (l ++ preC (Qu.labN (k + 1)) (gcode f 1)) (k + 1) ∧ MkStep w b v w' v' := by
  have hfr := fun W (hW : Mod noF w W) => HF W b v l k hk (M.quiet hW)
  have hla := (Qu.labN_facts (k + 1) (by omega)).2
  have hg := fun W => grace_good h1 h4 (show 1 < 5 by decide) ⟨(Qu.labN (k + 1)).toArray⟩ W (by simpa using hla.2.1) (by simpa [ByteArray.size] using hla.1)
  have hlen : (preC (Qu.labN (k + 1)) (gcode f 1)).length ≤ 70 := by unfold preC; rw [List.length_map]; exact gcode_len h4 (by decide)
  have Hlen := Lib.hid hlen
  simp only at hg
  unfold graceFn at hg
  generalize hlb : (⟨(Qu.labN (k + 1)).toArray⟩ : ByteArray) = lb at *
  generalize preC (Qu.labN (k + 1)) (gcode f 1) = pc at *
  generalize ((f : Nat) : Int) = fi at *
  have c1 := M.c1
  have HM := Lib.hid M
  have Hfr := Lib.hid hfr
  have Hg := Lib.hid hg
  have hfi := fi
  clear M hfr hla hg HF hlb hlen
  go_enter Tryz.func47, Tryz.ntmps47
  go_wp2
  refine wp_region_held_drew (S := fun W => W.cell? ⟨b, 1, none⟩ = some (.int .i64 fi)) (by kernel_rfl) ((Mod.refl noF _).drew.cell c1 (fun e => e)) (fun hHeld => ?_)
  refine wpAnyH_take (i := 0) (oi := ?oP0) (v := ?vP0) ?qP0 (by kernel_rfl) ?fP0 ?gP0 ?pP0 ?uP0 (by assumption) ?rP0
  case qP0 => (rw [List.getElem?_toArray]; rfl)
  case fP0 => kernel_rfl
  case gP0 => kernel_rfl
  case pP0 => exact (fun _ _ _ h => h)
  case uP0 => (refine Or.inl ⟨by rfl, ?_⟩; intro w hSw; (try dsimp only at hSw); go_simp; (try rw [if_neg (by omega)]); try with_reducible rfl)
  try simp only [Act.put, List.setIfInBounds_toArray, List.set_cons_zero, List.set_cons_succ]
  refine wpAnyH_take (i := 1) (oi := ?oP1) (v := ?vP1) ?qP1 (by kernel_rfl) ?fP1 ?gP1 ?pP1 ?uP1 (by assumption) ?rP1
  case qP1 => (rw [List.getElem?_toArray]; rfl)
  case fP1 => kernel_rfl
  case gP1 => kernel_rfl
  case pP1 => exact (fun _ _ _ h => h)
  case uP1 => (refine Or.inl ⟨by rfl, ?_⟩; intro w hSw; (try dsimp only at hSw); go_simp; (try rw [if_neg (by omega)]); try with_reducible rfl)
  try simp only [Act.put, List.setIfInBounds_toArray, List.set_cons_zero, List.set_cons_succ]
  refine wpAnyH_take (i := 2) (oi := ?oP2) (v := ?vP2) ?qP2 (by kernel_rfl) ?fP2 ?gP2 ?pP2 ?uP2 (by assumption) ?rP2
  case qP2 => (rw [List.getElem?_toArray]; rfl)
  case fP2 => kernel_rfl
  case gP2 => kernel_rfl
  case pP2 => exact (fun _ _ _ h => h)
  case uP2 => (refine Or.inl ⟨by rfl, ?_⟩; intro w hSw; (try dsimp only at hSw); go_simp; (try rw [if_neg (by omega)]); try with_reducible rfl)
  try simp only [Act.put, List.setIfInBounds_toArray, List.set_cons_zero, List.set_cons_succ]
  refine wpAnyH_take (i := 3) (oi := ?oP3) (v := ?vP3) ?qP3 (by kernel_rfl) ?fP3 ?gP3 ?pP3 ?uP3 (by assumption) ?rP3
  case qP3 => (rw [List.getElem?_toArray]; rfl)
  case fP3 => kernel_rfl
  case gP3 => kernel_rfl
  case pP3 => exact (fun _ _ _ h => h)
  case uP3 => (refine Or.inl ⟨by rfl, ?_⟩; intro w hSw; (try dsimp only at hSw); go_simp; (try rw [if_neg (by omega)]); try with_reducible rfl)
  try simp only [Act.put, List.setIfInBounds_toArray, List.set_cons_zero, List.set_cons_succ]
  refine wpAnyH_take (i := 4) (oi := ?oP4) (v := ?vP4) ?qP4 (by kernel_rfl) ?fP4 ?gP4 ?pP4 ?uP4 (by assumption) ?rP4
  case qP4 => (rw [List.getElem?_toArray]; rfl)
  case fP4 => kernel_rfl
  case gP4 => kernel_rfl
  case pP4 => exact (fun _ _ _ h => h)
  case uP4 => (refine Or.inl ⟨by rfl, ?_⟩; intro w hSw; (try dsimp only at hSw); go_simp; (try rw [if_neg (by omega)]); try with_reducible rfl)
  try simp only [Act.put, List.setIfInBounds_toArray, List.set_cons_zero, List.set_cons_succ]
  refine wpAnyH_take (i := 5) (oi := ?oP5) (v := ?vP5) ?qP5 (by kernel_rfl) ?fP5 ?gP5 ?pP5 ?uP5 (by assumption) ?rP5
  case qP5 => (rw [List.getElem?_toArray]; rfl)
  case fP5 => kernel_rfl
  case gP5 => kernel_rfl
  case pP5 => exact (fun _ _ _ h => h)
  case uP5 => (refine Or.inl ⟨by rfl, ?_⟩; intro w hSw; (try dsimp only at hSw); go_simp; (try rw [if_neg (by omega)]); try with_reducible rfl)
  try simp only [Act.put, List.setIfInBounds_toArray, List.set_cons_zero, List.set_cons_succ]
  refine wpAnyH_ready (rs := [6]) (by kernel_rfl) (by simp) ?_
  refine AllReadyH.cons rfl (fun K hK => ?_) AllReadyH.nil
  go_simp
  refine (Hfr.out _ (Mod.refl _ _).drew).mono ?_
  rintro e w4 ⟨rfl, hm4, hs4⟩
  have Hm4 := Lib.hid hm4
  have Hs4 := Lib.hid hs4
  refine Shut.out hK _ _ hm4.c1 (fun hS4 => ?_)
  clear hm4 hs4 c1
  try simp only [Act.put, List.setIfInBounds_toArray, List.set_cons_zero, List.set_cons_succ]
  refine wpAnyH_ready (rs := [7]) (by kernel_rfl) (by simp) ?_
  refine AllReadyH.cons rfl (fun K hK => ?_) AllReadyH.nil
  go_simp
  refine (Hg.out _).mono ?_
  rintro e w5 ⟨pv, rfl, hmade⟩
  have hq5 := Mod.below hmade.2.1
  have hM5 := Hm4.out.quiet hq5
  have Hm5 := Lib.hid hM5
  have Hs5 := Lib.hid (Hs4.out.quiet hq5)
  have Hpv := Lib.hid hmade.1
  have Hpn := Lib.hid hmade.2.2
  refine Shut.out hK _ _ hM5.c1 (fun hS5 => ?_)
  clear hM5 hmade hq5
  try simp only [Act.put, List.setIfInBounds_toArray, List.set_cons_zero, List.set_cons_succ]
  refine wpAnyH_take (i := 8) (oi := ?oP8) (v := ?vP8) ?qP8 (by kernel_rfl) ?fP8 ?gP8 ?pP8 ?uP8 (by assumption) ?rP8
  case qP8 => (rw [List.getElem?_toArray]; rfl)
  case fP8 => kernel_rfl
  case gP8 => kernel_rfl
  case pP8 => exact (fun _ _ _ h => h)
  case uP8 => (refine Or.inl ⟨by rfl, ?_⟩; intro w hSw; (try dsimp only at hSw); go_simp; (try rw [if_neg (by omega)]); try with_reducible rfl)
  try simp only [Act.put, List.setIfInBounds_toArray, List.set_cons_zero, List.set_cons_succ]
  refine wpAnyH_take (i := 9) (oi := ?oP9) (v := ?vP9) ?qP9 (by kernel_rfl) ?fP9 ?gP9 ?pP9 ?uP9 (by assumption) ?rP9
  case qP9 => (rw [List.getElem?_toArray]; rfl)
  case fP9 => kernel_rfl
  case gP9 => kernel_rfl
  case pP9 => exact (fun _ _ _ h => h)
  case uP9 => (refine Or.inl ⟨by rfl, ?_⟩; intro w hSw; (try dsimp only at hSw); go_simp; (try rw [if_neg (by omega)]); try with_reducible rfl)
  try simp only [Act.put, List.setIfInBounds_toArray, List.set_cons_zero, List.set_cons_succ]
  refine wpAnyH_take (i := 10) (oi := ?oP10) (v := ?vP10) ?qP10 (by kernel_rfl) ?fP10 ?gP10 ?pP10 ?uP10 (by assumption) ?rP10
  case qP10 => (rw [List.getElem?_toArray]; rfl)
  case fP10 => kernel_rfl
  case gP10 => kernel_rfl
  case pP10 => exact (fun _ _ _ h => h)
  case uP10 => (refine Or.inl ⟨by rfl, ?_⟩; intro w hSw; (try dsimp only at hSw); go_simp; (try rw [if_neg (by omega)]); try with_reducible rfl)
  try simp only [Act.put, List.setIfInBounds_toArray, List.set_cons_zero, List.set_cons_succ]
  refine wpAnyH_take (i := 11) (oi := ?oP11) (v := ?vP11) ?qP11 (by kernel_rfl) ?fP11 ?gP11 ?pP11 ?uP11 (by assumption) ?rP11
  case qP11 => (rw [List.getElem?_toArray]; rfl)
  case fP11 => kernel_rfl
  case gP11 => kernel_rfl
  case pP11 => exact (fun _ _ _ h => h)
  case uP11 => (refine Or.inl ⟨by rfl, ?_⟩; intro w hSw; (try dsimp only at hSw); go_simp; (try rw [if_neg (by omega)]); try with_reducible rfl)
  try simp only [Act.put, List.setIfInBounds_toArray, List.set_cons_zero, List.set_cons_succ]
  refine wpAnyH_take (i := 12) (oi := ?oP12) (v := ?vP12) ?qP12 (by kernel_rfl) ?fP12 ?gP12 ?pP12 ?uP12 (by assumption) ?rP12
  case qP12 => (rw [List.getElem?_toArray]; rfl)
  case fP12 => kernel_rfl
  case gP12 => kernel_rfl
  case pP12 => exact (fun _ _ _ h => h)
  case uP12 => (refine Or.inl ⟨by rfl, ?_⟩; intro w hSw; (try dsimp only at hSw); go_simp; (try rw [if_neg (by omega)]); try with_reducible rfl)
  try simp only [Act.put, List.setIfInBounds_toArray, List.set_cons_zero, List.set_cons_succ]
  refine wpAnyH_done (by kernel_rfl) ?_ _
  clear hS4 hS5 hK hHeld
  have HC := Lib.hid (Chain.start Hm5.out.m.emit)
  go_wp2_with fail
  refine (made_more HC.out (by omega) (by have := Hlen.out; omega) Hpv.out).mono ?_
  rintro e w6 ⟨rfl, C⟩
  have hfin : ∃ v', MkA N0 big fi t nx w6 b v' (l ++ pc) (k + 1) ∧ MkStep w b v w6 v' := by
    obtain ⟨v', M', S'⟩ := Hm5.out.chain hT C
    exact ⟨v', M', (((MkStep.refl w b v).quiet (Mod.refl noF w).drew).trans HM.out.lt Hs5.out).trans HM.out.lt S'⟩
  have Hfin := Lib.hid hfin
  clear hfin C
  go_wp2
  go_end0
  exact ⟨rfl, Hfin.out⟩
set_option maxHeartbeats 8000000 in
theorem part2_ok (HF : FreshH N0 big f t nx K) (hT : big → lowT N0) (h1 : 1 ≤ f) (h4 : f ≤ 4) (M : MkA N0 big f t nx w b v l k) (hk : k < K) (hK : K ≤ 120) (hl : l.length ≤ 100000) :
    Calls Tryz.prog 47 #[.pointer (some ⟨b, 0, none⟩), .func (.func 85) #[] #[]] w fun e w' => e = .returned (.tuple #[]) ∧ ∃ v', MkA N0 big f t nx w' b v' (l ++ preC (Qu.labN (k + 1)) (gcode f 2)) (k + 1) ∧ MkStep w b v w' v' := by
  have hfr := fun W (hW : Mod noF w W) => HF W b v l k hk (M.quiet hW)
  have hla := (Qu.labN_facts (k + 1) (by omega)).2
  have hg := fun W => grace_good h1 h4 (show 2 < 5 by decide) ⟨(Qu.labN (k + 1)).toArray⟩ W (by simpa using hla.2.1) (by simpa [ByteArray.size] using hla.1)
  have hlen : (preC (Qu.labN (k + 1)) (gcode f 2)).length ≤ 70 := by unfold preC; rw [List.length_map]; exact gcode_len h4 (by decide)
  have Hlen := Lib.hid hlen
  simp only at hg
  unfold graceFn at hg
  generalize hlb : (⟨(Qu.labN (k + 1)).toArray⟩ : ByteArray) = lb at *
  generalize preC (Qu.labN (k + 1)) (gcode f 2) = pc at *
  generalize ((f : Nat) : Int) = fi at *
  have c1 := M.c1
  have HM := Lib.hid M
  have Hfr := Lib.hid hfr
  have Hg := Lib.hid hg
  have hfi := fi
  clear M hfr hla hg HF hlb hlen
  go_enter Tryz.func47, Tryz.ntmps47
  go_wp2
  refine wp_region_held_drew (S := fun W => W.cell? ⟨b, 1, none⟩ = some (.int .i64 fi)) (by kernel_rfl) ((Mod.refl noF _).drew.cell c1 (fun e => e)) (fun hHeld => ?_)
  refine wpAnyH_take (i := 0) (oi := ?oP0) (v := ?vP0) ?qP0 (by kernel_rfl) ?fP0 ?gP0 ?pP0 ?uP0 (by assumption) ?rP0
  case qP0 => (rw [List.getElem?_toArray]; rfl)
  case fP0 => kernel_rfl
  case gP0 => kernel_rfl
  case pP0 => exact (fun _ _ _ h => h)
  case uP0 => (refine Or.inl ⟨by rfl, ?_⟩; intro w hSw; (try dsimp only at hSw); go_simp; (try rw [if_neg (by omega)]); try with_reducible rfl)
  try simp only [Act.put, List.setIfInBounds_toArray, List.set_cons_zero, List.set_cons_succ]
  refine wpAnyH_take (i := 1) (oi := ?oP1) (v := ?vP1) ?qP1 (by kernel_rfl) ?fP1 ?gP1 ?pP1 ?uP1 (by assumption) ?rP1
  case qP1 => (rw [List.getElem?_toArray]; rfl)
  case fP1 => kernel_rfl
  case gP1 => kernel_rfl
  case pP1 => exact (fun _ _ _ h => h)
  case uP1 => (refine Or.inl ⟨by rfl, ?_⟩; intro w hSw; (try dsimp only at hSw); go_simp; (try rw [if_neg (by omega)]); try with_reducible rfl)
  try simp only [Act.put, List.setIfInBounds_toArray, List.set_cons_zero, List.set_cons_succ]
  refine wpAnyH_take (i := 2) (oi := ?oP2) (v := ?vP2) ?qP2 (by kernel_rfl) ?fP2 ?gP2 ?pP2 ?uP2 (by assumption) ?rP2
  case qP2 => (rw [List.getElem?_toArray]; rfl)
  case fP2 => kernel_rfl
  case gP2 => kernel_rfl
  case pP2 => exact (fun _ _ _ h => h)
  case uP2 => (refine Or.inl ⟨by rfl, ?_⟩; intro w hSw; (try dsimp only at hSw); go_simp; (try rw [if_neg (by omega)]); try with_reducible rfl)
  try simp only [Act.put, List.setIfInBounds_toArray, List.set_cons_zero, List.set_cons_succ]
  refine wpAnyH_take (i := 3) (oi := ?oP3) (v := ?vP3) ?qP3 (by kernel_rfl) ?fP3 ?gP3 ?pP3 ?uP3 (by assumption) ?rP3
  case qP3 => (rw [List.getElem?_toArray]; rfl)
  case fP3 => kernel_rfl
  case gP3 => kernel_rfl
  case pP3 => exact (fun _ _ _ h => h)
  case uP3 => (refine Or.inl ⟨by rfl, ?_⟩; intro w hSw; (try dsimp only at hSw); go_simp; (try rw [if_neg (by omega)]); try with_reducible rfl)
  try simp only [Act.put, List.setIfInBounds_toArray, List.set_cons_zero, List.set_cons_succ]
  refine wpAnyH_take (i := 4) (oi := ?oP4) (v := ?vP4) ?qP4 (by kernel_rfl) ?fP4 ?gP4 ?pP4 ?uP4 (by assumption) ?rP4
  case qP4 => (rw [List.getElem?_toArray]; rfl)
  case fP4 => kernel_rfl
  case gP4 => kernel_rfl
  case pP4 => exact (fun _ _ _ h => h)
  case uP4 => (refine Or.inl ⟨by rfl, ?_⟩; intro w hSw; (try dsimp only at hSw); go_simp; (try rw [if_neg (by omega)]); try with_reducible rfl)
  try simp only [Act.put, List.setIfInBounds_toArray, List.set_cons_zero, List.set_cons_succ]
  refine wpAnyH_take (i := 5) (oi := ?oP5) (v := ?vP5) ?qP5 (by kernel_rfl) ?fP5 ?gP5 ?pP5 ?uP5 (by assumption) ?rP5
  case qP5 => (rw [List.getElem?_toArray]; rfl)
  case fP5 => kernel_rfl
  case gP5 => kernel_rfl
  case pP5 => exact (fun _ _ _ h => h)
  case uP5 => (refine Or.inl ⟨by rfl, ?_⟩; intro w hSw; (try dsimp only at hSw); go_simp; (try rw [if_neg (by omega)]); try with_reducible rfl)
  try simp only [Act.put, List.setIfInBounds_toArray, List.set_cons_zero, List.set_cons_succ]
  refine wpAnyH_ready (rs := [6]) (by kernel_rfl) (by simp) ?_
  refine AllReadyH.cons rfl (fun K hK => ?_) AllReadyH.nil
  go_simp
  refine (Hfr.out _ (Mod.refl _ _).drew).mono ?_
  rintro e w4 ⟨rfl, hm4, hs4⟩
  have Hm4 := Lib.hid hm4
  have Hs4 := Lib.hid hs4
  refine Shut.out hK _ _ hm4.c1 (fun hS4 => ?_)
  clear hm4 hs4 c1
  try simp only [Act.put, List.setIfInBounds_toArray, List.set_cons_zero, List.set_cons_succ]
  refine wpAnyH_ready (rs := [7]) (by kernel_rfl) (by simp) ?_
  refine AllReadyH.cons rfl (fun K hK => ?_) AllReadyH.nil
  go_simp
  refine (Hg.out _).mono ?_
  rintro e w5 ⟨pv, rfl, hmade⟩
  have hq5 := Mod.below hmade.2.1
  have hM5 := Hm4.out.quiet hq5
  have Hm5 := Lib.hid hM5
  have Hs5 := Lib.hid (Hs4.out.quiet hq5)
  have Hpv := Lib.hid hmade.1
  have Hpn := Lib.hid hmade.2.2
  refine Shut.out hK _ _ hM5.c1 (fun hS5 => ?_)
  clear hM5 hmade hq5
  try simp only [Act.put, List.setIfInBounds_toArray, List.set_cons_zero, List.set_cons_succ]
  refine wpAnyH_take (i := 8) (oi := ?oP8) (v := ?vP8) ?qP8 (by kernel_rfl) ?fP8 ?gP8 ?pP8 ?uP8 (by assumption) ?rP8
  case qP8 => (rw [List.getElem?_toArray]; rfl)
  case fP8 => kernel_rfl
  case gP8 => kernel_rfl
  case pP8 => exact (fun _ _ _ h => h)
  case uP8 => (refine Or.inl ⟨by rfl, ?_⟩; intro w hSw; (try dsimp only at hSw); go_simp; (try rw [if_neg (by omega)]); try with_reducible rfl)
  try simp only [Act.put, List.setIfInBounds_toArray, List.set_cons_zero, List.set_cons_succ]
  refine wpAnyH_take (i := 9) (oi := ?oP9) (v := ?vP9) ?qP9 (by kernel_rfl) ?fP9 ?gP9 ?pP9 ?uP9 (by assumption) ?rP9
  case qP9 => (rw [List.getElem?_toArray]; rfl)
  case fP9 => kernel_rfl
  case gP9 => kernel_rfl
  case pP9 => exact (fun _ _ _ h => h)
  case uP9 => (refine Or.inl ⟨by rfl, ?_⟩; intro w hSw; (try dsimp only at hSw); go_simp; (try rw [if_neg (by omega)]); try with_reducible rfl)
  try simp only [Act.put, List.setIfInBounds_toArray, List.set_cons_zero, List.set_cons_succ]
  refine wpAnyH_take (i := 10) (oi := ?oP10) (v := ?vP10) ?qP10 (by kernel_rfl) ?fP10 ?gP10 ?pP10 ?uP10 (by assumption) ?rP10
  case qP10 => (rw [List.getElem?_toArray]; rfl)
  case fP10 => kernel_rfl
  case gP10 => kernel_rfl
  case pP10 => exact (fun _ _ _ h => h)
  case uP10 => (refine Or.inl ⟨by rfl, ?_⟩; intro w hSw; (try dsimp only at hSw); go_simp; (try rw [if_neg (by omega)]); try with_reducible rfl)
  try simp only [Act.put, List.setIfInBounds_toArray, List.set_cons_zero, List.set_cons_succ]
  refine wpAnyH_take (i := 11) (oi := ?oP11) (v := ?vP11) ?qP11 (by kernel_rfl) ?fP11 ?gP11 ?pP11 ?uP11 (by assumption) ?rP11
  case qP11 => (rw [List.getElem?_toArray]; rfl)
  case fP11 => kernel_rfl
  case gP11 => kernel_rfl
  case pP11 => exact (fun _ _ _ h => h)
  case uP11 => (refine Or.inl ⟨by rfl, ?_⟩; intro w hSw; (try dsimp only at hSw); go_simp; (try rw [if_neg (by omega)]); try with_reducible rfl)
  try simp only [Act.put, List.setIfInBounds_toArray, List.set_cons_zero, List.set_cons_succ]
  refine wpAnyH_take (i := 12) (oi := ?oP12) (v := ?vP12) ?qP12 (by kernel_rfl) ?fP12 ?gP12 ?pP12 ?uP12 (by assumption) ?rP12
  case qP12 => (rw [List.getElem?_toArray]; rfl)
  case fP12 => kernel_rfl
  case gP12 => kernel_rfl
  case pP12 => exact (fun _ _ _ h => h)
  case uP12 => (refine Or.inl ⟨by rfl, ?_⟩; intro w hSw; (try dsimp only at hSw); go_simp; (try rw [if_neg (by omega)]); try with_reducible rfl)
  try simp only [Act.put, List.setIfInBounds_toArray, List.set_cons_zero, List.set_cons_succ]
  refine wpAnyH_done (by kernel_rfl) ?_ _
  clear hS4 hS5 hK hHeld
  have HC := Lib.hid (Chain.start Hm5.out.m.emit)
  go_wp2_with fail
  refine (made_more HC.out (by omega) (by have := Hlen.out; omega) Hpv.out).mono ?_
  rintro e w6 ⟨rfl, C⟩
  have hfin : ∃ v', MkA N0 big fi t nx w6 b v' (l ++ pc) (k + 1) ∧ MkStep w b v w6 v' := by
    obtain ⟨v', M', S'⟩ := Hm5.out.chain hT C
    exact ⟨v', M', (((MkStep.refl w b v).quiet (Mod.refl noF w).drew).trans HM.out.lt Hs5.out).trans HM.out.lt S'⟩
  have Hfin := Lib.hid hfin
  clear hfin C
  go_wp2
  go_end0
  exact ⟨rfl, Hfin.out⟩
set_option maxHeartbeats 8000000 in
theorem part3_ok (HF : FreshH N0 big f t nx K) (hT : big → lowT N0) (h1 : 1 ≤ f) (h4 : f ≤ 4) (M : MkA N0 big f t nx w b v l k) (hk : k < K) (hK : K ≤ 120) (hl : l.length ≤ 100000) :
    Calls Tryz.prog 47 #[.pointer (some ⟨b, 0, none⟩), .func (.func 48) #[] #[]] w fun e w' => e = .returned (.tuple #[]) ∧ ∃ v', MkA N0 big f t nx w' b v' (l ++ preC (Qu.labN (k + 1)) (gcode f 3)) (k + 1) ∧ MkStep w b v w' v' := by
  have hfr := fun W (hW : Mod noF w W) => HF W b v l k hk (M.quiet hW)
  have hla := (Qu.labN_facts (k + 1) (by omega)).2
  have hg := fun W => grace_good h1 h4 (show 3 < 5 by decide) ⟨(Qu.labN (k + 1)).toArray⟩ W (by simpa using hla.2.1) (by simpa [ByteArray.size] using hla.1)
  have hlen : (preC (Qu.labN (k + 1)) (gcode f 3)).length ≤ 70 := by unfold preC; rw [List.length_map]; exact gcode_len h4 (by decide)
  have Hlen := Lib.hid hlen
  simp only at hg
  unfold graceFn at hg
  generalize hlb : (⟨(Qu.labN (k + 1)).toArray⟩ : ByteArray) = lb at *
  generalize preC (Qu.labN (k + 1)) (gcode f 3) = pc at *
  generalize ((f : Nat) : Int) = fi at *
  have c1 := M.c1
  have HM := Lib.hid M
  have Hfr := Lib.hid hfr
  have Hg := Lib.hid hg
  have hfi := fi
  clear M hfr hla hg HF hlb hlen
  go_enter Tryz.func47, Tryz.ntmps47
  go_wp2
  refine wp_region_held_drew (S := fun W => W.cell? ⟨b, 1, none⟩ = some (.int .i64 fi)) (by kernel_rfl) ((Mod.refl noF _).drew.cell c1 (fun e => e)) (fun hHeld => ?_)
  refine wpAnyH_take (i := 0) (oi := ?oP0) (v := ?vP0) ?qP0 (by kernel_rfl) ?fP0 ?gP0 ?pP0 ?uP0 (by assumption) ?rP0
  case qP0 => (rw [List.getElem?_toArray]; rfl)
  case fP0 => kernel_rfl
  case gP0 => kernel_rfl
  case pP0 => exact (fun _ _ _ h => h)
  case uP0 => (refine Or.inl ⟨by rfl, ?_⟩; intro w hSw; (try dsimp only at hSw); go_simp; (try rw [if_neg (by omega)]); try with_reducible rfl)
  try simp only [Act.put, List.setIfInBounds_toArray, List.set_cons_zero, List.set_cons_succ]
  refine wpAnyH_take (i := 1) (oi := ?oP1) (v := ?vP1) ?qP1 (by kernel_rfl) ?fP1 ?gP1 ?pP1 ?uP1 (by assumption) ?rP1
  case qP1 => (rw [List.getElem?_toArray]; rfl)
  case fP1 => kernel_rfl
  case gP1 => kernel_rfl
  case pP1 => exact (fun _ _ _ h => h)
  case uP1 => (refine Or.inl ⟨by rfl, ?_⟩; intro w hSw; (try dsimp only at hSw); go_simp; (try rw [if_neg (by omega)]); try with_reducible rfl)
  try simp only [Act.put, List.setIfInBounds_toArray, List.set_cons_zero, List.set_cons_succ]
  refine wpAnyH_take (i := 2) (oi := ?oP2) (v := ?vP2) ?qP2 (by kernel_rfl) ?fP2 ?gP2 ?pP2 ?uP2 (by assumption) ?rP2
  case qP2 => (rw [List.getElem?_toArray]; rfl)
  case fP2 => kernel_rfl
  case gP2 => kernel_rfl
  case pP2 => exact (fun _ _ _ h => h)
  case uP2 => (refine Or.inl ⟨by rfl, ?_⟩; intro w hSw; (try dsimp only at hSw); go_simp; (try rw [if_neg (by omega)]); try with_reducible rfl)
  try simp only [Act.put, List.setIfInBounds_toArray, List.set_cons_zero, List.set_cons_succ]
  refine wpAnyH_take (i := 3) (oi := ?oP3) (v := ?vP3) ?qP3 (by kernel_rfl) ?fP3 ?gP3 ?pP3 ?uP3 (by assumption) ?rP3
  case qP3 => (rw [List.getElem?_toArray]; rfl)
  case fP3 => kernel_rfl
  case gP3 => kernel_rfl
  case pP3 => exact (fun _ _ _ h => h)
  case uP3 => (refine Or.inl ⟨by rfl, ?_⟩; intro w hSw; (try dsimp only at hSw); go_simp; (try rw [if_neg (by omega)]); try with_reducible rfl)
  try simp only [Act.put, List.setIfInBounds_toArray, List.set_cons_zero, List.set_cons_succ]
  refine wpAnyH_take (i := 4) (oi := ?oP4) (v := ?vP4) ?qP4 (by kernel_rfl) ?fP4 ?gP4 ?pP4 ?uP4 (by assumption) ?rP4
  case qP4 => (rw [List.getElem?_toArray]; rfl)
  case fP4 => kernel_rfl
  case gP4 => kernel_rfl
  case pP4 => exact (fun _ _ _ h => h)
  case uP4 => (refine Or.inl ⟨by rfl, ?_⟩; intro w hSw; (try dsimp only at hSw); go_simp; (try rw [if_neg (by omega)]); try with_reducible rfl)
  try simp only [Act.put, List.setIfInBounds_toArray, List.set_cons_zero, List.set_cons_succ]
  refine wpAnyH_take (i := 5) (oi := ?oP5) (v := ?vP5) ?qP5 (by kernel_rfl) ?fP5 ?gP5 ?pP5 ?uP5 (by assumption) ?rP5
  case qP5 => (rw [List.getElem?_toArray]; rfl)
  case fP5 => kernel_rfl
  case gP5 => kernel_rfl
  case pP5 => exact (fun _ _ _ h => h)
  case uP5 => (refine Or.inl ⟨by rfl, ?_⟩; intro w hSw; (try dsimp only at hSw); go_simp; (try rw [if_neg (by omega)]); try with_reducible rfl)
  try simp only [Act.put, List.setIfInBounds_toArray, List.set_cons_zero, List.set_cons_succ]
  refine wpAnyH_ready (rs := [6]) (by kernel_rfl) (by simp) ?_
  refine AllReadyH.cons rfl (fun K hK => ?_) AllReadyH.nil
  go_simp
  refine (Hfr.out _ (Mod.refl _ _).drew).mono ?_
  rintro e w4 ⟨rfl, hm4, hs4⟩
  have Hm4 := Lib.hid hm4
  have Hs4 := Lib.hid hs4
  refine Shut.out hK _ _ hm4.c1 (fun hS4 => ?_)
  clear hm4 hs4 c1
  try simp only [Act.put, List.setIfInBounds_toArray, List.set_cons_zero, List.set_cons_succ]
  refine wpAnyH_ready (rs := [7]) (by kernel_rfl) (by simp) ?_
  refine AllReadyH.cons rfl (fun K hK => ?_) AllReadyH.nil
  go_simp
  refine (Hg.out _).mono ?_
  rintro e w5 ⟨pv, rfl, hmade⟩
  have hq5 := Mod.below hmade.2.1
  have hM5 := Hm4.out.quiet hq5
  have Hm5 := Lib.hid hM5
  have Hs5 := Lib.hid (Hs4.out.quiet hq5)
  have Hpv := Lib.hid hmade.1
  have Hpn := Lib.hid hmade.2.2
  refine Shut.out hK _ _ hM5.c1 (fun hS5 => ?_)
  clear hM5 hmade hq5
  try simp only [Act.put, List.setIfInBounds_toArray, List.set_cons_zero, List.set_cons_succ]
  refine wpAnyH_take (i := 8) (oi := ?oP8) (v := ?vP8) ?qP8 (by kernel_rfl) ?fP8 ?gP8 ?pP8 ?uP8 (by assumption) ?rP8
  case qP8 => (rw [List.getElem?_toArray]; rfl)
  case fP8 => kernel_rfl
  case gP8 => kernel_rfl
  case pP8 => exact (fun _ _ _ h => h)
  case uP8 => (refine Or.inl ⟨by rfl, ?_⟩; intro w hSw; (try dsimp only at hSw); go_simp; (try rw [if_neg (by omega)]); try with_reducible rfl)
  try simp only [Act.put, List.setIfInBounds_toArray, List.set_cons_zero, List.set_cons_succ]
  refine wpAnyH_take (i := 9) (oi := ?oP9) (v := ?vP9) ?qP9 (by kernel_rfl) ?fP9 ?gP9 ?pP9 ?uP9 (by assumption) ?rP9
  case qP9 => (rw [List.getElem?_toArray]; rfl)
  case fP9 => kernel_rfl
  case gP9 => kernel_rfl
  case pP9 => exact (fun _ _ _ h => h)
  case uP9 => (refine Or.inl ⟨by rfl, ?_⟩; intro w hSw; (try dsimp only at hSw); go_simp; (try rw [if_neg (by omega)]); try with_reducible rfl)
  try simp only [Act.put, List.setIfInBounds_toArray, List.set_cons_zero, List.set_cons_succ]
  refine wpAnyH_take (i := 10) (oi := ?oP10) (v := ?vP10) ?qP10 (by kernel_rfl) ?fP10 ?gP10 ?pP10 ?uP10 (by assumption) ?rP10
  case qP10 => (rw [List.getElem?_toArray]; rfl)
  case fP10 => kernel_rfl
  case gP10 => kernel_rfl
  case pP10 => exact (fun _ _ _ h => h)
  case uP10 => (refine Or.inl ⟨by rfl, ?_⟩; intro w hSw; (try dsimp only at hSw); go_simp; (try rw [if_neg (by omega)]); try with_reducible rfl)
  try simp only [Act.put, List.setIfInBounds_toArray, List.set_cons_zero, List.set_cons_succ]
  refine wpAnyH_take (i := 11) (oi := ?oP11) (v := ?vP11) ?qP11 (by kernel_rfl) ?fP11 ?gP11 ?pP11 ?uP11 (by assumption) ?rP11
  case qP11 => (rw [List.getElem?_toArray]; rfl)
  case fP11 => kernel_rfl
  case gP11 => kernel_rfl
  case pP11 => exact (fun _ _ _ h => h)
  case uP11 => (refine Or.inl ⟨by rfl, ?_⟩; intro w hSw; (try dsimp only at hSw); go_simp; (try rw [if_neg (by omega)]); try with_reducible rfl)
  try simp only [Act.put, List.setIfInBounds_toArray, List.set_cons_zero, List.set_cons_succ]
  refine wpAnyH_take (i := 12) (oi := ?oP12) (v := ?vP12) ?qP12 (by kernel_rfl) ?fP12 ?gP12 ?pP12 ?uP12 (by assumption) ?rP12
  case qP12 => (rw [List.getElem?_toArray]; rfl)
  case fP12 => kernel_rfl
  case gP12 => kernel_rfl
  case pP12 => exact (fun _ _ _ h => h)
  case uP12 => (refine Or.inl ⟨by rfl, ?_⟩; intro w hSw; (try dsimp only at hSw); go_simp; (try rw [if_neg (by omega)]); try with_reducible rfl)
  try simp only [Act.put, List.setIfInBounds_toArray, List.set_cons_zero, List.set_cons_succ]
  refine wpAnyH_done (by kernel_rfl) ?_ _
  clear hS4 hS5 hK hHeld
  have HC := Lib.hid (Chain.start Hm5.out.m.emit)
  go_wp2_with fail
  refine (made_more HC.out (by omega) (by have := Hlen.out; omega) Hpv.out).mono ?_
  rintro e w6 ⟨rfl, C⟩
  have hfin : ∃ v', MkA N0 big fi t nx w6 b v' (l ++ pc) (k + 1) ∧ MkStep w b v w6 v' := by
    obtain ⟨v', M', S'⟩ := Hm5.out.chain hT C
    exact ⟨v', M', (((MkStep.refl w b v).quiet (Mod.refl noF w).drew).trans HM.out.lt Hs5.out).trans HM.out.lt S'⟩
  have Hfin := Lib.hid hfin
  clear hfin C
  go_wp2
  go_end0
  exact ⟨rfl, Hfin.out⟩
set_option maxHeartbeats 8000000 in
theorem part4_ok (HF : FreshH N0 big f t nx K) (hT : big → lowT N0) (h1 : 1 ≤ f) (h4 : f ≤ 4) (M : MkA N0 big f t nx w b v l k) (hk : k < K) (hK : K ≤ 120) (hl : l.length ≤ 100000) :
    Calls Tryz.prog 47 #[.pointer (some ⟨b, 0, none⟩), .func (.func 86) #[] #[]] w fun e w' => e = .returned (.tuple #[]) ∧ ∃ v', MkA N0 big f t nx w' b v' (l ++ preC (Qu.labN (k + 1)) (gcode f 4)) (k + 1) ∧ MkStep w b v w' v' := by
  have hfr := fun W (hW : Mod noF w W) => HF W b v l k hk (M.quiet hW)
  have hla := (Qu.labN_facts (k + 1) (by omega)).2
  have hg := fun W => grace_good h1 h4 (show 4 < 5 by decide) ⟨(Qu.labN (k + 1)).toArray⟩ W (by simpa using hla.2.1) (by simpa [ByteArray.size] using hla.1)
  have hlen : (preC (Qu.labN (k + 1)) (gcode f 4)).length ≤ 70 := by unfold preC; rw [List.length_map]; exact gcode_len h4 (by decide)
  have Hlen := Lib.hid hlen
  simp only at hg
  unfold graceFn at hg
  generalize hlb : (⟨(Qu.labN (k + 1)).toArray⟩ : ByteArray) = lb at *
  generalize preC (Qu.labN (k + 1)) (gcode f 4) = pc at *
  generalize ((f : Nat) : Int) = fi at *
  have c1 := M.c1
  have HM := Lib.hid M
  have Hfr := Lib.hid hfr
  have Hg := Lib.hid hg
  have hfi := fi
  clear M hfr hla hg HF hlb hlen
  go_enter Tryz.func47, Tryz.ntmps47
  go_wp2
  refine wp_region_held_drew (S := fun W => W.cell? ⟨b, 1, none⟩ = some (.int .i64 fi)) (by kernel_rfl) ((Mod.refl noF _).drew.cell c1 (fun e => e)) (fun hHeld => ?_)
  refine wpAnyH_take (i := 0) (oi := ?oP0) (v := ?vP0) ?qP0 (by kernel_rfl) ?fP0 ?gP0 ?pP0 ?uP0 (by assumption) ?rP0
  case qP0 => (rw [List.getElem?_toArray]; rfl)
  case fP0 => kernel_rfl
  case gP0 => kernel_rfl
  case pP0 => exact (fun _ _ _ h => h)
  case uP0 => (refine Or.inl ⟨by rfl, ?_⟩; intro w hSw; (try dsimp only at hSw); go_simp; (try rw [if_neg (by omega)]); try with_reducible rfl)
  try simp only [Act.put, List.setIfInBounds_toArray, List.set_cons_zero, List.set_cons_succ]
  refine wpAnyH_take (i := 1) (oi := ?oP1) (v := ?vP1) ?qP1 (by kernel_rfl) ?fP1 ?gP1 ?pP1 ?uP1 (by assumption) ?rP1
  case qP1 => (rw [List.getElem?_toArray]; rfl)
  case fP1 => kernel_rfl
  case gP1 => kernel_rfl
  case pP1 => exact (fun _ _ _ h => h)
  case uP1 => (refine Or.inl ⟨by rfl, ?_⟩; intro w hSw; (try dsimp only at hSw); go_simp; (try rw [if_neg (by omega)]); try with_reducible rfl)
  try simp only [Act.put, List.setIfInBounds_toArray, List.set_cons_zero, List.set_cons_succ]
  refine wpAnyH_take (i := 2) (oi := ?oP2) (v := ?vP2) ?qP2 (by kernel_rfl) ?fP2 ?gP2 ?pP2 ?uP2 (by assumption) ?rP2
  case qP2 => (rw [List.getElem?_toArray]; rfl)
  case fP2 => kernel_rfl
  case gP2 => kernel_rfl
  case pP2 => exact (fun _ _ _ h => h)
  case uP2 => (refine Or.inl ⟨by rfl, ?_⟩; intro w hSw; (try dsimp only at hSw); go_simp; (try rw [if_neg (by omega)]); try with_reducible rfl)
  try simp only [Act.put, List.setIfInBounds_toArray, List.set_cons_zero, List.set_cons_succ]
  refine wpAnyH_take (i := 3) (oi := ?oP3) (v := ?vP3) ?qP3 (by kernel_rfl) ?fP3 ?gP3 ?pP3 ?uP3 (by assumption) ?rP3
  case qP3 => (rw [List.getElem?_toArray]; rfl)
  case fP3 => kernel_rfl
  case gP3 => kernel_rfl
  case pP3 => exact (fun _ _ _ h => h)
  case uP3 => (refine Or.inl ⟨by rfl, ?_⟩; intro w hSw; (try dsimp only at hSw); go_simp; (try rw [if_neg (by omega)]); try with_reducible rfl)
  try simp only [Act.put, List.setIfInBounds_toArray, List.set_cons_zero, List.set_cons_succ]
  refine wpAnyH_take (i := 4) (oi := ?oP4) (v := ?vP4) ?qP4 (by kernel_rfl) ?fP4 ?gP4 ?pP4 ?uP4 (by assumption) ?rP4
  case qP4 => (rw [List.getElem?_toArray]; rfl)
  case fP4 => kernel_rfl
  case gP4 => kernel_rfl
  case pP4 => exact (fun _ _ _ h => h)
  case uP4 => (refine Or.inl ⟨by rfl, ?_⟩; intro w hSw; (try dsimp only at hSw); go_simp; (try rw [if_neg (by omega)]); try with_reducible rfl)
  try simp only [Act.put, List.setIfInBounds_toArray, List.set_cons_zero, List.set_cons_succ]
  refine wpAnyH_take (i := 5) (oi := ?oP5) (v := ?vP5) ?qP5 (by kernel_rfl) ?fP5 ?gP5 ?pP5 ?uP5 (by assumption) ?rP5
  case qP5 => (rw [List.getElem?_toArray]; rfl)
  case fP5 => kernel_rfl
  case gP5 => kernel_rfl
  case pP5 => exact (fun _ _ _ h => h)
  case uP5 => (refine Or.inl ⟨by rfl, ?_⟩; intro w hSw; (try dsimp only at hSw); go_simp; (try rw [if_neg (by omega)]); try with_reducible rfl)
  try simp only [Act.put, List.setIfInBounds_toArray, List.set_cons_zero, List.set_cons_succ]
  refine wpAnyH_ready (rs := [6]) (by kernel_rfl) (by simp) ?_
  refine AllReadyH.cons rfl (fun K hK => ?_) AllReadyH.nil
  go_simp
  refine (Hfr.out _ (Mod.refl _ _).drew).mono ?_
  rintro e w4 ⟨rfl, hm4, hs4⟩
  have Hm4 := Lib.hid hm4
  have Hs4 := Lib.hid hs4
  refine Shut.out hK _ _ hm4.c1 (fun hS4 => ?_)
  clear hm4 hs4 c1
  try simp only [Act.put, List.setIfInBounds_toArray, List.set_cons_zero, List.set_cons_succ]
  refine wpAnyH_ready (rs := [7]) (by kernel_rfl) (by simp) ?_
  refine AllReadyH.cons rfl (fun K hK => ?_) AllReadyH.nil
  go_simp
  refine (Hg.out _).mono ?_
  rintro e w5 ⟨pv, rfl, hmade⟩
  have hq5 := Mod.below hmade.2.1
  have hM5 := Hm4.out.quiet hq5
  have Hm5 := Lib.hid hM5
  have Hs5 := Lib.hid (Hs4.out.quiet hq5)
  have Hpv := Lib.hid hmade.1
  have Hpn := Lib.hid hmade.2.2
  refine Shut.out hK _ _ hM5.c1 (fun hS5 => ?_)
  clear hM5 hmade hq5
  try simp only [Act.put, List.setIfInBounds_toArray, List.set_cons_zero, List.set_cons_succ]
  refine wpAnyH_take (i := 8) (oi := ?oP8) (v := ?vP8) ?qP8 (by kernel_rfl) ?fP8 ?gP8 ?pP8 ?uP8 (by assumption) ?rP8
  case qP8 => (rw [List.getElem?_toArray]; rfl)
  case fP8 => kernel_rfl
  case gP8 => kernel_rfl
  case pP8 => exact (fun _ _ _ h => h)
  case uP8 => (refine Or.inl ⟨by rfl, ?_⟩; intro w hSw; (try dsimp only at hSw); go_simp; (try rw [if_neg (by omega)]); try with_reducible rfl)
  try simp only [Act.put, List.setIfInBounds_toArray, List.set_cons_zero, List.set_cons_succ]
  refine wpAnyH_take (i := 9) (oi := ?oP9) (v := ?vP9) ?qP9 (by kernel_rfl) ?fP9 ?gP9 ?pP9 ?uP9 (by assumption) ?rP9
  case qP9 => (rw [List.getElem?_toArray]; rfl)
  case fP9 => kernel_rfl
  case gP9 => kernel_rfl
  case pP9 => exact (fun _ _ _ h => h)
  case uP9 => (refine Or.inl ⟨by rfl, ?_⟩; intro w hSw; (try dsimp only at hSw); go_simp; (try rw [if_neg (by omega)]); try with_reducible rfl)
  try simp only [Act.put, List.setIfInBounds_toArray, List.set_cons_zero, List.set_cons_succ]
  refine wpAnyH_take (i := 10) (oi := ?oP10) (v := ?vP10) ?qP10 (by kernel_rfl) ?fP10 ?gP10 ?pP10 ?uP10 (by assumption) ?rP10
  case qP10 => (rw [List.getElem?_toArray]; rfl)
  case fP10 => kernel_rfl
  case gP10 => kernel_rfl
  case pP10 => exact (fun _ _ _ h => h)
  case uP10 => (refine Or.inl ⟨by rfl, ?_⟩; intro w hSw; (try dsimp only at hSw); go_simp; (try rw [if_neg (by omega)]); try with_reducible rfl)
  try simp only [Act.put, List.setIfInBounds_toArray, List.set_cons_zero, List.set_cons_succ]
  refine wpAnyH_take (i := 11) (oi := ?oP11) (v := ?vP11) ?qP11 (by kernel_rfl) ?fP11 ?gP11 ?pP11 ?uP11 (by assumption) ?rP11
  case qP11 => (rw [List.getElem?_toArray]; rfl)
  case fP11 => kernel_rfl
  case gP11 => kernel_rfl
  case pP11 => exact (fun _ _ _ h => h)
  case uP11 => (refine Or.inl ⟨by rfl, ?_⟩; intro w hSw; (try dsimp only at hSw); go_simp; (try rw [if_neg (by omega)]); try with_reducible rfl)
  try simp only [Act.put, List.setIfInBounds_toArray, List.set_cons_zero, List.set_cons_succ]
  refine wpAnyH_take (i := 12) (oi := ?oP12) (v := ?vP12) ?qP12 (by kernel_rfl) ?fP12 ?gP12 ?pP12 ?uP12 (by assumption) ?rP12
  case qP12 => (rw [List.getElem?_toArray]; rfl)
  case fP12 => kernel_rfl
  case gP12 => kernel_rfl
  case pP12 => exact (fun _ _ _ h => h)
  case uP12 => (refine Or.inl ⟨by rfl, ?_⟩; intro w hSw; (try dsimp only at hSw); go_simp; (try rw [if_neg (by omega)]); try with_reducible rfl)
  try simp only [Act.put, List.setIfInBounds_toArray, List.set_cons_zero, List.set_cons_succ]
  refine wpAnyH_done (by kernel_rfl) ?_ _
  clear hS4 hS5 hK hHeld
  have HC := Lib.hid (Chain.start Hm5.out.m.emit)
  go_wp2_with fail
  refine (made_more HC.out (by omega) (by have := Hlen.out; omega) Hpv.out).mono ?_
  rintro e w6 ⟨rfl, C⟩
  have hfin : ∃ v', MkA N0 big fi t nx w6 b v' (l ++ pc) (k + 1) ∧ MkStep w b v w6 v' := by
    obtain ⟨v', M', S'⟩ := Hm5.out.chain hT C
    exact ⟨v', M', (((MkStep.refl w b v).quiet (Mod.refl noF w).drew).trans HM.out.lt Hs5.out).trans HM.out.lt S'⟩
  have Hfin := Lib.hid hfin
  clear hfin C
  go_wp2
  go_end0
  exact ⟨rfl, Hfin.out⟩
end Go.Proofs.YtppihkneeolomaaGreatDoor
end
/- package client: a maker's list. -/
section
namespace Go.Proofs.YtppihkneeolomaaGreatDoor
open Go.RowKit Qs Qh
variable {N0 K tn f : Nat} {big : Prop} {nx : Int} {w w1 w2 : World} {b k : Nat} {v v1 v2 : Value} {l : List Instr}
theorem Chain.at0 {w0 : World} {o : Nat} {v0 : Value} (C : Chain w0 b o v0 l w) {j : Nat} (hj : j ≠ o) {u : Value} (h : w0.cell? ⟨b, j, none⟩ = some u) : w.cell? ⟨b, j, none⟩ = some u := by
  obtain ⟨hb, v, E, G⟩ := C
  exact G.cells j _ hj h
set_option maxHeartbeats 16000000 in
theorem mklist_ok (hT : big → lowT N0) (htn : tn < 6) (M : MkA N0 big f (tn : Nat) nx w b v l k) (hl : l.length ≤ 200000) :
    Calls Tryz.prog 97 #[.pointer (some ⟨b, 0, none⟩)] w fun e w' => e = .returned (.int .i64 ((tn % 4 : Nat) : Int)) ∧ ∃ v', MkA N0 big f (tn : Nat) nx w' b v' (l ++ [⟨6, 2, 5, ((1 + tn / 4 : Nat) : Int), []⟩]) k ∧ MkStep w b v w' v' := by
  have HM := Lib.hid M
  have Hc2 := Lib.hid M.c2
  have c2 := M.c2
  have hwr : IntKind.i64.wrap (1 + IntKind.i64.wrap ((tn : Int) / 4)) = ((1 + tn / 4 : Nat) : Int) := by
    rcases (by omega : tn = 0 ∨ tn = 1 ∨ tn = 2 ∨ tn = 3 ∨ tn = 4 ∨ tn = 5) with rfl | rfl | rfl | rfl | rfl | rfl <;> decide
  clear M
  go_enter Tryz.func97, Tryz.ntmps97
  have HC := Lib.hid (Chain.start HM.out.m.emit)
  go_wp2
  refine wp_region_held_drew (S := fun W => W.cell? ⟨b, 2, none⟩ = some (.int .i64 ((tn : Nat) : Int))) (by kernel_rfl) ((Mod.refl noF _).drew.cell Hc2.out (fun e => e)) (fun hHeld => ?_)
  refine wpAnyH_take (i := 0) (oi := ?oRx0) (v := ?vRx0) ?qRx0 (by kernel_rfl) ?fRx0 ?gRx0 ?pRx0 ?uRx0 (by assumption) ?rRx0
  case qRx0 => (rw [List.getElem?_toArray]; rfl)
  case fRx0 => kernel_rfl
  case gRx0 => kernel_rfl
  case pRx0 => exact (fun _ _ _ h => h)
  case uRx0 => (refine Or.inl ⟨by rfl, ?_⟩; intro w hSw; (try dsimp only at hSw); go_simp; (try rw [if_neg (by omega)]); try with_reducible rfl)
  try simp only [Act.put, List.setIfInBounds_toArray, List.set_cons_zero, List.set_cons_succ]
  refine wpAnyH_take (i := 1) (oi := ?oRx1) (v := ?vRx1) ?qRx1 (by kernel_rfl) ?fRx1 ?gRx1 ?pRx1 ?uRx1 (by assumption) ?rRx1
  case qRx1 => (rw [List.getElem?_toArray]; rfl)
  case fRx1 => kernel_rfl
  case gRx1 => kernel_rfl
  case pRx1 => exact (fun _ _ _ h => h)
  case uRx1 => (refine Or.inl ⟨by rfl, ?_⟩; intro w hSw; (try dsimp only at hSw); go_simp; (try rw [if_neg (by omega)]); try with_reducible rfl)
  try simp only [Act.put, List.setIfInBounds_toArray, List.set_cons_zero, List.set_cons_succ]
  refine wpAnyH_take (i := 2) (oi := ?oRx2) (v := ?vRx2) ?qRx2 (by kernel_rfl) ?fRx2 ?gRx2 ?pRx2 ?uRx2 (by assumption) ?rRx2
  case qRx2 => (rw [List.getElem?_toArray]; rfl)
  case fRx2 => kernel_rfl
  case gRx2 => kernel_rfl
  case pRx2 => exact (fun _ _ _ h => h)
  case uRx2 => (refine Or.inl ⟨by rfl, ?_⟩; intro w hSw; (try dsimp only at hSw); go_simp; (try rw [if_neg (by omega)]); try with_reducible rfl)
  try simp only [Act.put, List.setIfInBounds_toArray, List.set_cons_zero, List.set_cons_succ]
  refine wpAnyH_take (i := 3) (oi := ?oRx3) (v := ?vRx3) ?qRx3 (by kernel_rfl) ?fRx3 ?gRx3 ?pRx3 ?uRx3 (by assumption) ?rRx3
  case qRx3 => (rw [List.getElem?_toArray]; rfl)
  case fRx3 => kernel_rfl
  case gRx3 => kernel_rfl
  case pRx3 => exact (fun _ _ _ h => h)
  case uRx3 => (refine Or.inl ⟨by rfl, ?_⟩; intro w hSw; (try dsimp only at hSw); go_simp; (try rw [if_neg (by omega)]); try with_reducible rfl)
  try simp only [Act.put, List.setIfInBounds_toArray, List.set_cons_zero, List.set_cons_succ]
  refine wpAnyH_take (i := 4) (oi := ?oRx4) (v := ?vRx4) ?qRx4 (by kernel_rfl) ?fRx4 ?gRx4 ?pRx4 ?uRx4 (by assumption) ?rRx4
  case qRx4 => (rw [List.getElem?_toArray]; rfl)
  case fRx4 => kernel_rfl
  case gRx4 => kernel_rfl
  case pRx4 => exact (fun _ _ _ h => h)
  case uRx4 => (refine Or.inl ⟨by rfl, ?_⟩; intro w hSw; (try dsimp only at hSw); go_simp; (try rw [if_neg (by omega)]); try with_reducible rfl)
  try simp only [Act.put, List.setIfInBounds_toArray, List.set_cons_zero, List.set_cons_succ]
  refine wpAnyH_take (i := 5) (oi := ?oRx5) (v := ?vRx5) ?qRx5 (by kernel_rfl) ?fRx5 ?gRx5 ?pRx5 ?uRx5 (by assumption) ?rRx5
  case qRx5 => (rw [List.getElem?_toArray]; rfl)
  case fRx5 => kernel_rfl
  case gRx5 => kernel_rfl
  case pRx5 => exact (fun _ _ _ h => h)
  case uRx5 => (refine Or.inl ⟨by rfl, ?_⟩; intro w hSw; (try dsimp only at hSw); go_simp; (try rw [if_neg (by omega)]); try with_reducible rfl)
  try simp only [Act.put, List.setIfInBounds_toArray, List.set_cons_zero, List.set_cons_succ]
  refine wpAnyH_take (i := 6) (oi := ?oRx6) (v := ?vRx6) ?qRx6 (by kernel_rfl) ?fRx6 ?gRx6 ?pRx6 ?uRx6 (by assumption) ?rRx6
  case qRx6 => (rw [List.getElem?_toArray]; rfl)
  case fRx6 => kernel_rfl
  case gRx6 => kernel_rfl
  case pRx6 => exact (fun _ _ _ h => h)
  case uRx6 => (refine Or.inl ⟨by rfl, ?_⟩; intro w hSw; (try dsimp only at hSw); go_simp; (try rw [if_neg (by omega)]); try with_reducible rfl)
  try simp only [Act.put, List.setIfInBounds_toArray, List.set_cons_zero, List.set_cons_succ]
  refine wpAnyH_take (i := 7) (oi := ?oRx7) (v := ?vRx7) ?qRx7 (by kernel_rfl) ?fRx7 ?gRx7 ?pRx7 ?uRx7 (by assumption) ?rRx7
  case qRx7 => (rw [List.getElem?_toArray]; rfl)
  case fRx7 => kernel_rfl
  case gRx7 => kernel_rfl
  case pRx7 => exact (fun _ _ _ h => h)
  case uRx7 => (refine Or.inl ⟨by rfl, ?_⟩; intro w hSw; (try dsimp only at hSw); go_simp; (try rw [if_neg (by omega)]); try with_reducible rfl)
  try simp only [Act.put, List.setIfInBounds_toArray, List.set_cons_zero, List.set_cons_succ]
  refine wpAnyH_take (i := 8) (oi := ?oRx8) (v := ?vRx8) ?qRx8 (by kernel_rfl) ?fRx8 ?gRx8 ?pRx8 ?uRx8 (by assumption) ?rRx8
  case qRx8 => (rw [List.getElem?_toArray]; rfl)
  case fRx8 => kernel_rfl
  case gRx8 => kernel_rfl
  case pRx8 => exact (fun _ _ _ h => h)
  case uRx8 => (refine Or.inl ⟨by rfl, ?_⟩; intro w hSw; (try dsimp only at hSw); go_simp; (try rw [if_neg (by omega)]); try with_reducible rfl)
  try simp only [Act.put, List.setIfInBounds_toArray, List.set_cons_zero, List.set_cons_succ]
  refine Mk.em_spine (fun _ => ((1 + tn / 4 : Nat) : Int)) (items := [⟨some (9, 12), 10, 13⟩]) (E := [⟨6, [.c 2, .c 5, .t 11], [], 0, 0, []⟩]) (r0 := 5) (by kernel_rfl) (by kernel_rfl) (by kernel_rfl) (by rfl) ?lbR ?tvR ?moR (by rfl) (by rfl) ?lenR (fun w' l' C => C.at0 (by omega) Hc2.out) (HC.out.quiet (Mod.refl _ _).drew) (by kernel_rfl) ?_
  case lbR => (intro e he hk; simp only [List.mem_cons, List.not_mem_nil, or_false] at he; rcases he with rfl <;> (first | (simp at hk; done) | exact rfl))
  case tvR => (intro e he k hk; simp only [List.mem_cons, List.not_mem_nil, or_false] at he; rcases he with rfl <;> (first | (simp at hk; done) | (simp at hk; subst hk; exact congrArg (Value.int .i64) (show (1 : Int) + (tn : Int) / 4 = ((1 + tn / 4 : Nat) : Int) by omega))))
  case moR => (intro e he hk; simp only [List.mem_cons, List.not_mem_nil, or_false] at he; rcases he with rfl <;> (first | (simp at hk; done) | exact rfl))
  case lenR => (simp [Mk.EmC.code, Mk.EmC.ins]; omega)
  intro U xR C hU
  have u13 : U 13 = _ := hU 0 _ rfl
  simp only [spTmps, SpI.tmps, List.flatMap_cons, List.flatMap_nil, Option.map_some, Option.map_none, Option.toList_some, Option.toList_none, List.cons_append, List.nil_append, List.append_nil, patch, List.foldl_cons, List.foldl_nil, Act.put, List.setIfInBounds_toArray, List.set_cons_zero, List.set_cons_succ, u13]
  generalize U 12 = s12 at *
  clear u13 hU hHeld
  have hc2 := C.at0 (by omega) Hc2.out
  have hfin : ∃ v' : Value, MkA N0 big f (tn : Nat) nx xR b v' (l ++ [⟨6, 2, 5, ((1 + tn / 4 : Nat) : Int), []⟩]) k ∧ MkStep w b v xR v' := HM.out.chain hT C
  have Hfin := Lib.hid hfin
  clear hfin C
  go_wp2
  go_ret
  exact ⟨congrArg (fun x => Ending.returned (.int .i64 x)) (show (tn : Int) % 4 = ((tn % 4 : Nat) : Int) by omega), Hfin.out⟩
end Go.Proofs.YtppihkneeolomaaGreatDoor
end
/- package client: a node goes onto a thread's list. -/
section
namespace Go.Proofs.YtppihkneeolomaaGreatDoor
open Go.RowKit Qs Qh
variable {N0 K tn f : Nat} {big : Prop} {nx : Int} {w w1 w2 : World} {b k : Nat} {v v1 v2 : Value} {l : List Instr}
set_option maxHeartbeats 16000000 in
theorem later_ok (HF : FreshH N0 big f (tn : Nat) nx K) (hT : big → lowT N0) (htn : tn < 6) (M : MkA N0 big f (tn : Nat) nx w b v l k) (hk : k < K) (hl : l.length ≤ 100000) :
    Calls Tryz.prog 77 #[.pointer (some ⟨b, 0, none⟩)] w fun e w' => e = .returned (.tuple #[]) ∧ ∃ v', MkA N0 big f (tn : Nat) nx w' b v' (l ++ Qc.laterBlk (Qu.labN (k + 1)) tn nx) (k + 1) ∧ MkStep w b v w' v' := by
  have HM := Lib.hid M
  have Hfr := Lib.hid (HF w b v l k hk M)
  unfold Qc.laterBlk
  generalize Qu.labN (k + 1) = lb at *
  clear M HF
  go_enter Tryz.func77, Tryz.ntmps77
  go_wp2_with fail
  refine Hfr.out.mono ?_
  rintro e w1 ⟨rfl, M1, S1⟩
  have HM1 := Lib.hid M1
  have HS1 := Lib.hid S1
  have HC1 := Lib.hid (Chain.start M1.m.emit)
  clear M1 S1
  go_wp2_with fail
  refine (to1_chain (HC1.out.quiet ((Mod.refl _ _).alloc _)) (by omega) 14 _ rfl lb _ rfl w1.heap.size 3 1 (by simp) (by simp)).mono ?_
  rintro e w2 ⟨rfl, C⟩
  obtain ⟨v2, M2, S2⟩ := HM1.out.chain hT C
  have HM2 := Lib.hid M2
  have HS2 := Lib.hid (HS1.out.trans HM.out.lt S2)
  clear C M2 S2 HS1 HC1
  go_wp2_with fail
  refine (mklist_ok hT htn HM2.out (by simp; omega)).mono ?_
  rintro e w3 ⟨rfl, v3, M3, S3⟩
  have HM3 := Lib.hid M3
  have HS3 := Lib.hid (HS2.out.trans HM.out.lt S3)
  have Hc3 := Lib.hid M3.c3
  have HC := Lib.hid (Chain.start M3.m.emit)
  clear M3 S3 HS2 HM2
  go_wp2
  refine wp_region_held_drew (S := fun W => W.cell? ⟨b, 3, none⟩ = some (.int .i64 nx)) (by kernel_rfl) ((Mod.refl noF _).drew.cell Hc3.out (fun e => e)) (fun hHeld => ?_)
  refine wpAnyH_take (i := 0) (oi := ?oRx0) (v := ?vRx0) ?qRx0 (by kernel_rfl) ?fRx0 ?gRx0 ?pRx0 ?uRx0 (by assumption) ?rRx0
  case qRx0 => (rw [List.getElem?_toArray]; rfl)
  case fRx0 => kernel_rfl
  case gRx0 => kernel_rfl
  case pRx0 => exact (fun _ _ _ h => h)
  case uRx0 => (refine Or.inl ⟨by rfl, ?_⟩; intro w hSw; (try dsimp only at hSw); go_simp; (try rw [if_neg (by omega)]); try with_reducible rfl)
  try simp only [Act.put, List.setIfInBounds_toArray, List.set_cons_zero, List.set_cons_succ]
  refine wpAnyH_take (i := 1) (oi := ?oRx1) (v := ?vRx1) ?qRx1 (by kernel_rfl) ?fRx1 ?gRx1 ?pRx1 ?uRx1 (by assumption) ?rRx1
  case qRx1 => (rw [List.getElem?_toArray]; rfl)
  case fRx1 => kernel_rfl
  case gRx1 => kernel_rfl
  case pRx1 => exact (fun _ _ _ h => h)
  case uRx1 => (refine Or.inl ⟨by rfl, ?_⟩; intro w hSw; (try dsimp only at hSw); go_simp; (try rw [if_neg (by omega)]); try with_reducible rfl)
  try simp only [Act.put, List.setIfInBounds_toArray, List.set_cons_zero, List.set_cons_succ]
  refine wpAnyH_take (i := 2) (oi := ?oRx2) (v := ?vRx2) ?qRx2 (by kernel_rfl) ?fRx2 ?gRx2 ?pRx2 ?uRx2 (by assumption) ?rRx2
  case qRx2 => (rw [List.getElem?_toArray]; rfl)
  case fRx2 => kernel_rfl
  case gRx2 => kernel_rfl
  case pRx2 => exact (fun _ _ _ h => h)
  case uRx2 => (refine Or.inl ⟨by rfl, ?_⟩; intro w hSw; (try dsimp only at hSw); go_simp; (try rw [if_neg (by omega)]); try with_reducible rfl)
  try simp only [Act.put, List.setIfInBounds_toArray, List.set_cons_zero, List.set_cons_succ]
  refine wpAnyH_take (i := 3) (oi := ?oRx3) (v := ?vRx3) ?qRx3 (by kernel_rfl) ?fRx3 ?gRx3 ?pRx3 ?uRx3 (by assumption) ?rRx3
  case qRx3 => (rw [List.getElem?_toArray]; rfl)
  case fRx3 => kernel_rfl
  case gRx3 => kernel_rfl
  case pRx3 => exact (fun _ _ _ h => h)
  case uRx3 => (refine Or.inl ⟨by rfl, ?_⟩; intro w hSw; (try dsimp only at hSw); go_simp; (try rw [if_neg (by omega)]); try with_reducible rfl)
  try simp only [Act.put, List.setIfInBounds_toArray, List.set_cons_zero, List.set_cons_succ]
  refine wpAnyH_take (i := 6) (oi := ?oRx6) (v := ?vRx6) ?qRx6 (by kernel_rfl) ?fRx6 ?gRx6 ?pRx6 ?uRx6 (by assumption) ?rRx6
  case qRx6 => (rw [List.getElem?_toArray]; rfl)
  case fRx6 => kernel_rfl
  case gRx6 => kernel_rfl
  case pRx6 => exact (fun _ _ _ h => h)
  case uRx6 => (refine Or.inl ⟨by rfl, ?_⟩; intro w hSw; (try dsimp only at hSw); go_simp; (try rw [if_neg (by omega)]); try with_reducible rfl)
  try simp only [Act.put, List.setIfInBounds_toArray, List.set_cons_zero, List.set_cons_succ]
  refine wpAnyH_take (i := 7) (oi := ?oRx7) (v := ?vRx7) ?qRx7 (by kernel_rfl) ?fRx7 ?gRx7 ?pRx7 ?uRx7 (by assumption) ?rRx7
  case qRx7 => (rw [List.getElem?_toArray]; rfl)
  case fRx7 => kernel_rfl
  case gRx7 => kernel_rfl
  case pRx7 => exact (fun _ _ _ h => h)
  case uRx7 => (refine Or.inl ⟨by rfl, ?_⟩; intro w hSw; (try dsimp only at hSw); go_simp; (try rw [if_neg (by omega)]); try with_reducible rfl)
  try simp only [Act.put, List.setIfInBounds_toArray, List.set_cons_zero, List.set_cons_succ]
  refine wpAnyH_take (i := 8) (oi := ?oRx8) (v := ?vRx8) ?qRx8 (by kernel_rfl) ?fRx8 ?gRx8 ?pRx8 ?uRx8 (by assumption) ?rRx8
  case qRx8 => (rw [List.getElem?_toArray]; rfl)
  case fRx8 => kernel_rfl
  case gRx8 => kernel_rfl
  case pRx8 => exact (fun _ _ _ h => h)
  case uRx8 => (refine Or.inl ⟨by rfl, ?_⟩; intro w hSw; (try dsimp only at hSw); go_simp; (try rw [if_neg (by omega)]); try with_reducible rfl)
  try simp only [Act.put, List.setIfInBounds_toArray, List.set_cons_zero, List.set_cons_succ]
  refine wpAnyH_take (i := 9) (oi := ?oRx9) (v := ?vRx9) ?qRx9 (by kernel_rfl) ?fRx9 ?gRx9 ?pRx9 ?uRx9 (by assumption) ?rRx9
  case qRx9 => (rw [List.getElem?_toArray]; rfl)
  case fRx9 => kernel_rfl
  case gRx9 => kernel_rfl
  case pRx9 => exact (fun _ _ _ h => h)
  case uRx9 => (refine Or.inl ⟨by rfl, ?_⟩; intro w hSw; (try dsimp only at hSw); go_simp; (try rw [if_neg (by omega)]); try with_reducible rfl)
  try simp only [Act.put, List.setIfInBounds_toArray, List.set_cons_zero, List.set_cons_succ]
  refine wpAnyH_take (i := 12) (oi := ?oRx12) (v := ?vRx12) ?qRx12 (by kernel_rfl) ?fRx12 ?gRx12 ?pRx12 ?uRx12 (by assumption) ?rRx12
  case qRx12 => (rw [List.getElem?_toArray]; rfl)
  case fRx12 => kernel_rfl
  case gRx12 => kernel_rfl
  case pRx12 => exact (fun _ _ _ h => h)
  case uRx12 => (refine Or.inl ⟨by rfl, ?_⟩; intro w hSw; (try dsimp only at hSw); go_simp; (try rw [if_neg (by omega)]); try with_reducible rfl)
  try simp only [Act.put, List.setIfInBounds_toArray, List.set_cons_zero, List.set_cons_succ]
  refine wpAnyH_take (i := 17) (oi := ?oRx17) (v := ?vRx17) ?qRx17 (by kernel_rfl) ?fRx17 ?gRx17 ?pRx17 ?uRx17 (by assumption) ?rRx17
  case qRx17 => (rw [List.getElem?_toArray]; rfl)
  case fRx17 => kernel_rfl
  case gRx17 => kernel_rfl
  case pRx17 => exact (fun _ _ _ h => h)
  case uRx17 => (refine Or.inl ⟨by rfl, ?_⟩; intro w hSw; (try dsimp only at hSw); go_simp; (try rw [if_neg (by omega)]); try with_reducible rfl)
  try simp only [Act.put, List.setIfInBounds_toArray, List.set_cons_zero, List.set_cons_succ]
  refine Mk.em_spine (fun k => if k = 23 then nx else ((tn % 4 : Nat) : Int)) (items := [⟨some (4, 18), 5, 19⟩, ⟨some (10, 24), 11, 25⟩, ⟨some (13, 27), 14, 28⟩, ⟨some (15, 29), 16, 30⟩, ⟨none, 18, 32⟩]) (E := [⟨6, [.c 0, .c 2, .t 17], [], 0, 0, []⟩, ⟨7, [.c 3, .c 0, .t 23], [], 0, 0, []⟩, ⟨7, [.c 2, .c 3, .t 26], [], 0, 0, []⟩, ⟨0, [.c 3, .c 0], [], 0, 0, []⟩, ⟨17, [], lb, 2, 31, []⟩]) (r0 := 16) (by kernel_rfl) (by kernel_rfl) (by kernel_rfl) (by rfl) ?lbR ?tvR ?moR (by rfl) (by rfl) ?lenR (fun w' l' C => C.at0 (by omega) Hc3.out) (HC.out.quiet (Mod.refl _ _).drew) (by kernel_rfl) ?_
  case lbR => (intro e he hk; simp only [List.mem_cons, List.not_mem_nil, or_false] at he; rcases he with rfl | rfl | rfl | rfl | rfl <;> (first | (simp at hk; done) | exact rfl))
  case tvR => (intro e he k hk; simp only [List.mem_cons, List.not_mem_nil, or_false] at he; rcases he with rfl | rfl | rfl | rfl | rfl <;> (first | (simp at hk; done) | (simp at hk; subst hk; rfl)))
  case moR => (intro e he hk; simp only [List.mem_cons, List.not_mem_nil, or_false] at he; rcases he with rfl | rfl | rfl | rfl | rfl <;> (first | (simp at hk; done) | exact rfl))
  case lenR => (simp [Mk.EmC.code, Mk.EmC.ins]; omega)
  intro U xR C hU
  have u19 : U 19 = _ := hU 0 _ rfl
  have u25 : U 25 = _ := hU 1 _ rfl
  have u28 : U 28 = _ := hU 2 _ rfl
  have u30 : U 30 = _ := hU 3 _ rfl
  have u32 : U 32 = _ := hU 4 _ rfl
  simp only [spTmps, SpI.tmps, List.flatMap_cons, List.flatMap_nil, Option.map_some, Option.map_none, Option.toList_some, Option.toList_none, List.cons_append, List.nil_append, List.append_nil, patch, List.foldl_cons, List.foldl_nil, Act.put, List.setIfInBounds_toArray, List.set_cons_zero, List.set_cons_succ, u19, u25, u28, u30, u32]
  generalize U 18 = s18 at *
  generalize U 24 = s24 at *
  generalize U 27 = s27 at *
  generalize U 29 = s29 at *
  clear u19 u25 u28 u30 u32 hU hHeld
  have hfin : ∃ v' : Value, MkA N0 big f (tn : Nat) nx xR b v' (l ++ [⟨14, 3, 0, 0, lb⟩, ⟨6, 2, 5, ((1 + tn / 4 : Nat) : Int), []⟩, ⟨6, 0, 2, ((tn % 4 : Nat) : Int), []⟩, ⟨7, 3, 0, nx, []⟩, ⟨7, 2, 3, ((tn % 4 : Nat) : Int), []⟩, ⟨0, 3, 0, 0, []⟩, ⟨17, 0, 0, 0, lb⟩]) (k + 1) ∧ MkStep w b v xR v' := by
    obtain ⟨v', M', S'⟩ := HM3.out.chain hT C
    simp only [List.append_assoc] at M'
    exact ⟨v', M', HS3.out.trans HM.out.lt S'⟩
  have Hfin := Lib.hid hfin
  clear hfin C
  (try simp only [Exit.inBlock, Exit.then])
  go_end0
  exact ⟨rfl, Hfin.out⟩
end Go.Proofs.YtppihkneeolomaaGreatDoor
end
/- package client: a thread's list is flushed. -/
section
namespace Go.Proofs.YtppihkneeolomaaGreatDoor
open Go.RowKit Qs Qh
variable {N0 K tn f : Nat} {big : Prop} {nx : Int} {w w1 w2 : World} {b k : Nat} {v v1 v2 : Value} {l : List Instr}
set_option maxHeartbeats 16000000 in
theorem flush_ok (HF : FreshH N0 big f (tn : Nat) nx K) (hT : big → lowT N0) (h1 : 1 ≤ f) (h4 : f ≤ 4) (htn : tn < 6) (M : MkA N0 big f (tn : Nat) nx w b v l k) (hk : k + 2 < K) (hK : K ≤ 120) (hl : l.length ≤ 90000) :
    Calls Tryz.prog 78 #[.pointer (some ⟨b, 0, none⟩)] w fun e w' => e = .returned (.tuple #[]) ∧ ∃ v', MkA N0 big f (tn : Nat) nx w' b v' (l ++ Qc.flushBlk f k tn nx) (k + 3) ∧ MkStep w b v w' v' := by
  have HM := Lib.hid M
  have hp := part4_ok HF hT h1 h4 M (by omega) hK (by omega)
  have Hp := Lib.hid hp
  have hlen : (preC (Qu.labN (k + 1)) (gcode f 4)).length ≤ 70 := by unfold preC; rw [List.length_map]; exact gcode_len h4 (by decide)
  have hf2 := fun w v l (M : MkA N0 big f (tn : Nat) nx w b v l (k + 1)) => HF w b v l (k + 1) (by omega) M
  have hf3 := fun w v l (M : MkA N0 big f (tn : Nat) nx w b v l (k + 1 + 1)) => HF w b v l (k + 1 + 1) (by omega) M
  have Hf2 := Lib.hid hf2
  have Hf3 := Lib.hid hf3
  unfold Qc.flushBlk Qc.part Qc.flushTail
  rw [show k + 2 = k + 1 + 1 from rfl, show k + 3 = k + 1 + 1 + 1 from rfl]
  generalize hpc : preC (Qu.labN (k + 1)) (gcode f 4) = pc at *
  generalize Qu.labN (k + 1 + 1) = la at *
  generalize Qu.labN (k + 1 + 1 + 1) = lb at *
  clear M HF hp hf2 hf3 hpc
  go_enter Tryz.func78, Tryz.ntmps78
  go_wp2_with fail
  refine Hp.out.mono ?_
  rintro e w1 ⟨rfl, v1, M1, S1⟩
  have HM1 := Lib.hid M1
  have HS1 := Lib.hid S1
  clear M1 S1
  go_wp2_with fail
  refine (Hf2.out _ _ _ HM1.out).mono ?_
  rintro e w2 ⟨rfl, M2, S2⟩
  have HM2 := Lib.hid M2
  have HS2 := Lib.hid (HS1.out.trans HM.out.lt S2)
  clear M2 S2 HS1 HM1
  go_wp2_with fail
  refine (Hf3.out _ _ _ HM2.out).mono ?_
  rintro e w3 ⟨rfl, M3, S3⟩
  have HM3 := Lib.hid M3
  have HS3 := Lib.hid (HS2.out.trans HM.out.lt S3)
  clear M3 S3 HS2 HM2
  go_wp2_with fail
  refine (mklist_ok hT htn HM3.out (by simp; omega)).mono ?_
  rintro e w4 ⟨rfl, v4, M4, S4⟩
  have HM4 := Lib.hid M4
  have HS4 := Lib.hid (HS3.out.trans HM.out.lt S4)
  have Hc3 := Lib.hid M4.c3
  have HC := Lib.hid (Chain.start M4.m.emit)
  clear M4 S4 HS3 HM3
  go_wp2
  refine wp_region_held_drew (S := fun W => W.cell? ⟨b, 3, none⟩ = some (.int .i64 nx)) (by kernel_rfl) ((Mod.refl noF _).drew.cell Hc3.out (fun e => e)) (fun hHeld => ?_)
  refine wpAnyH_take (i := 0) (oi := ?oRx0) (v := ?vRx0) ?qRx0 (by kernel_rfl) ?fRx0 ?gRx0 ?pRx0 ?uRx0 (by assumption) ?rRx0
  case qRx0 => (rw [List.getElem?_toArray]; rfl)
  case fRx0 => kernel_rfl
  case gRx0 => kernel_rfl
  case pRx0 => exact (fun _ _ _ h => h)
  case uRx0 => (refine Or.inl ⟨by rfl, ?_⟩; intro w hSw; (try dsimp only at hSw); go_simp; (try rw [if_neg (by omega)]); try with_reducible rfl)
  try simp only [Act.put, List.setIfInBounds_toArray, List.set_cons_zero, List.set_cons_succ]
  refine wpAnyH_take (i := 1) (oi := ?oRx1) (v := ?vRx1) ?qRx1 (by kernel_rfl) ?fRx1 ?gRx1 ?pRx1 ?uRx1 (by assumption) ?rRx1
  case qRx1 => (rw [List.getElem?_toArray]; rfl)
  case fRx1 => kernel_rfl
  case gRx1 => kernel_rfl
  case pRx1 => exact (fun _ _ _ h => h)
  case uRx1 => (refine Or.inl ⟨by rfl, ?_⟩; intro w hSw; (try dsimp only at hSw); go_simp; (try rw [if_neg (by omega)]); try with_reducible rfl)
  try simp only [Act.put, List.setIfInBounds_toArray, List.set_cons_zero, List.set_cons_succ]
  refine wpAnyH_take (i := 2) (oi := ?oRx2) (v := ?vRx2) ?qRx2 (by kernel_rfl) ?fRx2 ?gRx2 ?pRx2 ?uRx2 (by assumption) ?rRx2
  case qRx2 => (rw [List.getElem?_toArray]; rfl)
  case fRx2 => kernel_rfl
  case gRx2 => kernel_rfl
  case pRx2 => exact (fun _ _ _ h => h)
  case uRx2 => (refine Or.inl ⟨by rfl, ?_⟩; intro w hSw; (try dsimp only at hSw); go_simp; (try rw [if_neg (by omega)]); try with_reducible rfl)
  try simp only [Act.put, List.setIfInBounds_toArray, List.set_cons_zero, List.set_cons_succ]
  refine wpAnyH_take (i := 3) (oi := ?oRx3) (v := ?vRx3) ?qRx3 (by kernel_rfl) ?fRx3 ?gRx3 ?pRx3 ?uRx3 (by assumption) ?rRx3
  case qRx3 => (rw [List.getElem?_toArray]; rfl)
  case fRx3 => kernel_rfl
  case gRx3 => kernel_rfl
  case pRx3 => exact (fun _ _ _ h => h)
  case uRx3 => (refine Or.inl ⟨by rfl, ?_⟩; intro w hSw; (try dsimp only at hSw); go_simp; (try rw [if_neg (by omega)]); try with_reducible rfl)
  try simp only [Act.put, List.setIfInBounds_toArray, List.set_cons_zero, List.set_cons_succ]
  refine wpAnyH_take (i := 5) (oi := ?oRx5) (v := ?vRx5) ?qRx5 (by kernel_rfl) ?fRx5 ?gRx5 ?pRx5 ?uRx5 (by assumption) ?rRx5
  case qRx5 => (rw [List.getElem?_toArray]; rfl)
  case fRx5 => kernel_rfl
  case gRx5 => kernel_rfl
  case pRx5 => exact (fun _ _ _ h => h)
  case uRx5 => (refine Or.inl ⟨by rfl, ?_⟩; intro w hSw; (try dsimp only at hSw); go_simp; (try rw [if_neg (by omega)]); try with_reducible rfl)
  try simp only [Act.put, List.setIfInBounds_toArray, List.set_cons_zero, List.set_cons_succ]
  refine wpAnyH_take (i := 8) (oi := ?oRx8) (v := ?vRx8) ?qRx8 (by kernel_rfl) ?fRx8 ?gRx8 ?pRx8 ?uRx8 (by assumption) ?rRx8
  case qRx8 => (rw [List.getElem?_toArray]; rfl)
  case fRx8 => kernel_rfl
  case gRx8 => kernel_rfl
  case pRx8 => exact (fun _ _ _ h => h)
  case uRx8 => (refine Or.inl ⟨by rfl, ?_⟩; intro w hSw; (try dsimp only at hSw); go_simp; (try rw [if_neg (by omega)]); try with_reducible rfl)
  try simp only [Act.put, List.setIfInBounds_toArray, List.set_cons_zero, List.set_cons_succ]
  refine wpAnyH_take (i := 11) (oi := ?oRx11) (v := ?vRx11) ?qRx11 (by kernel_rfl) ?fRx11 ?gRx11 ?pRx11 ?uRx11 (by assumption) ?rRx11
  case qRx11 => (rw [List.getElem?_toArray]; rfl)
  case fRx11 => kernel_rfl
  case gRx11 => kernel_rfl
  case pRx11 => exact (fun _ _ _ h => h)
  case uRx11 => (refine Or.inl ⟨by rfl, ?_⟩; intro w hSw; (try dsimp only at hSw); go_simp; (try rw [if_neg (by omega)]); try with_reducible rfl)
  try simp only [Act.put, List.setIfInBounds_toArray, List.set_cons_zero, List.set_cons_succ]
  refine wpAnyH_take (i := 12) (oi := ?oRx12) (v := ?vRx12) ?qRx12 (by kernel_rfl) ?fRx12 ?gRx12 ?pRx12 ?uRx12 (by assumption) ?rRx12
  case qRx12 => (rw [List.getElem?_toArray]; rfl)
  case fRx12 => kernel_rfl
  case gRx12 => kernel_rfl
  case pRx12 => exact (fun _ _ _ h => h)
  case uRx12 => (refine Or.inl ⟨by rfl, ?_⟩; intro w hSw; (try dsimp only at hSw); go_simp; (try rw [if_neg (by omega)]); try with_reducible rfl)
  try simp only [Act.put, List.setIfInBounds_toArray, List.set_cons_zero, List.set_cons_succ]
  refine wpAnyH_take (i := 13) (oi := ?oRx13) (v := ?vRx13) ?qRx13 (by kernel_rfl) ?fRx13 ?gRx13 ?pRx13 ?uRx13 (by assumption) ?rRx13
  case qRx13 => (rw [List.getElem?_toArray]; rfl)
  case fRx13 => kernel_rfl
  case gRx13 => kernel_rfl
  case pRx13 => exact (fun _ _ _ h => h)
  case uRx13 => (refine Or.inl ⟨by rfl, ?_⟩; intro w hSw; (try dsimp only at hSw); go_simp; (try rw [if_neg (by omega)]); try with_reducible rfl)
  try simp only [Act.put, List.setIfInBounds_toArray, List.set_cons_zero, List.set_cons_succ]
  refine wpAnyH_take (i := 14) (oi := ?oRx14) (v := ?vRx14) ?qRx14 (by kernel_rfl) ?fRx14 ?gRx14 ?pRx14 ?uRx14 (by assumption) ?rRx14
  case qRx14 => (rw [List.getElem?_toArray]; rfl)
  case fRx14 => kernel_rfl
  case gRx14 => kernel_rfl
  case pRx14 => exact (fun _ _ _ h => h)
  case uRx14 => (refine Or.inl ⟨by rfl, ?_⟩; intro w hSw; (try dsimp only at hSw); go_simp; (try rw [if_neg (by omega)]); try with_reducible rfl)
  try simp only [Act.put, List.setIfInBounds_toArray, List.set_cons_zero, List.set_cons_succ]
  refine wpAnyH_take (i := 17) (oi := ?oRx17) (v := ?vRx17) ?qRx17 (by kernel_rfl) ?fRx17 ?gRx17 ?pRx17 ?uRx17 (by assumption) ?rRx17
  case qRx17 => (rw [List.getElem?_toArray]; rfl)
  case fRx17 => kernel_rfl
  case gRx17 => kernel_rfl
  case pRx17 => exact (fun _ _ _ h => h)
  case uRx17 => (refine Or.inl ⟨by rfl, ?_⟩; intro w hSw; (try dsimp only at hSw); go_simp; (try rw [if_neg (by omega)]); try with_reducible rfl)
  try simp only [Act.put, List.setIfInBounds_toArray, List.set_cons_zero, List.set_cons_succ]
  refine wpAnyH_take (i := 22) (oi := ?oRx22) (v := ?vRx22) ?qRx22 (by kernel_rfl) ?fRx22 ?gRx22 ?pRx22 ?uRx22 (by assumption) ?rRx22
  case qRx22 => (rw [List.getElem?_toArray]; rfl)
  case fRx22 => kernel_rfl
  case gRx22 => kernel_rfl
  case pRx22 => exact (fun _ _ _ h => h)
  case uRx22 => (refine Or.inl ⟨by rfl, ?_⟩; intro w hSw; (try dsimp only at hSw); go_simp; (try rw [if_neg (by omega)]); try with_reducible rfl)
  try simp only [Act.put, List.setIfInBounds_toArray, List.set_cons_zero, List.set_cons_succ]
  refine wpAnyH_take (i := 24) (oi := ?oRx24) (v := ?vRx24) ?qRx24 (by kernel_rfl) ?fRx24 ?gRx24 ?pRx24 ?uRx24 (by assumption) ?rRx24
  case qRx24 => (rw [List.getElem?_toArray]; rfl)
  case fRx24 => kernel_rfl
  case gRx24 => kernel_rfl
  case pRx24 => exact (fun _ _ _ h => h)
  case uRx24 => (refine Or.inl ⟨by rfl, ?_⟩; intro w hSw; (try dsimp only at hSw); go_simp; (try rw [if_neg (by omega)]); try with_reducible rfl)
  try simp only [Act.put, List.setIfInBounds_toArray, List.set_cons_zero, List.set_cons_succ]
  refine Mk.em_spine (fun k => if k = 27 then nx else ((tn % 4 : Nat) : Int)) (items := [⟨none, 4, 17⟩, ⟨some (6, 19), 7, 20⟩, ⟨some (9, 22), 10, 23⟩, ⟨some (15, 28), 16, 29⟩, ⟨some (18, 31), 19, 32⟩, ⟨some (20, 33), 21, 34⟩, ⟨none, 23, 36⟩, ⟨none, 25, 38⟩]) (E := [⟨17, [], la, 2, 16, []⟩, ⟨6, [.c 0, .c 2, .t 18], [], 0, 0, []⟩, ⟨14, [.c 0], lb, 1, 21, []⟩, ⟨6, [.c 1, .c 0, .t 27], [], 0, 0, []⟩, ⟨7, [.c 2, .c 1, .t 30], [], 0, 0, []⟩, ⟨11, [.c 0], [], 0, 0, []⟩, ⟨16, [], la, 1, 35, []⟩, ⟨17, [], lb, 2, 37, []⟩]) (r0 := 15) (by kernel_rfl) (by kernel_rfl) (by kernel_rfl) (by rfl) ?lbR ?tvR ?moR (by rfl) (by rfl) ?lenR (fun w' l' C => C.at0 (by omega) Hc3.out) (HC.out.quiet (Mod.refl _ _).drew) (by kernel_rfl) ?_
  case lbR => (intro e he hk; simp only [List.mem_cons, List.not_mem_nil, or_false] at he; rcases he with rfl | rfl | rfl | rfl | rfl | rfl | rfl | rfl <;> (first | (simp at hk; done) | exact rfl))
  case tvR => (intro e he k hk; simp only [List.mem_cons, List.not_mem_nil, or_false] at he; rcases he with rfl | rfl | rfl | rfl | rfl | rfl | rfl | rfl <;> (first | (simp at hk; done) | (simp at hk; subst hk; rfl)))
  case moR => (intro e he hk; simp only [List.mem_cons, List.not_mem_nil, or_false] at he; rcases he with rfl | rfl | rfl | rfl | rfl | rfl | rfl | rfl <;> (first | (simp at hk; done) | exact rfl))
  case lenR => (simp [Mk.EmC.code, Mk.EmC.ins]; omega)
  intro U xR C hU
  have u17 : U 17 = _ := hU 0 _ rfl
  have u20 : U 20 = _ := hU 1 _ rfl
  have u23 : U 23 = _ := hU 2 _ rfl
  have u29 : U 29 = _ := hU 3 _ rfl
  have u32 : U 32 = _ := hU 4 _ rfl
  have u34 : U 34 = _ := hU 5 _ rfl
  have u36 : U 36 = _ := hU 6 _ rfl
  have u38 : U 38 = _ := hU 7 _ rfl
  simp only [spTmps, SpI.tmps, List.flatMap_cons, List.flatMap_nil, Option.map_some, Option.map_none, Option.toList_some, Option.toList_none, List.cons_append, List.nil_append, List.append_nil, patch, List.foldl_cons, List.foldl_nil, Act.put, List.setIfInBounds_toArray, List.set_cons_zero, List.set_cons_succ, u17, u20, u23, u29, u32, u34, u36, u38]
  generalize U 19 = s19 at *
  generalize U 22 = s22 at *
  generalize U 28 = s28 at *
  generalize U 31 = s31 at *
  generalize U 33 = s33 at *
  clear u17 u20 u23 u29 u32 u34 u36 u38 hU hHeld
  have hfin : ∃ v' : Value, MkA N0 big f (tn : Nat) nx xR b v' (l ++ (pc ++ [⟨6, 2, 5, ((1 + tn / 4 : Nat) : Int), []⟩, ⟨17, 0, 0, 0, la⟩, ⟨6, 0, 2, ((tn % 4 : Nat) : Int), []⟩, ⟨14, 0, 0, 0, lb⟩, ⟨6, 1, 0, nx, []⟩, ⟨7, 2, 1, ((tn % 4 : Nat) : Int), []⟩, ⟨11, 0, 0, 0, []⟩, ⟨16, 0, 0, 0, la⟩, ⟨17, 0, 0, 0, lb⟩])) (k + 1 + 1 + 1) ∧ MkStep w b v xR v' := by
    obtain ⟨v', M', S'⟩ := HM4.out.chain hT C
    simp only [List.append_assoc] at M'
    exact ⟨v', M', HS4.out.trans HM.out.lt S'⟩
  have Hfin := Lib.hid hfin
  clear hfin C
  (try simp only [Exit.inBlock, Exit.then])
  go_end0
  exact ⟨rfl, Hfin.out⟩
end Go.Proofs.YtppihkneeolomaaGreatDoor
end
/- package client: an op's code. -/
section
namespace Qc
open Qs Qu Go.Proofs.YtppihkneeolomaaGreatDoor
inductive COp where
  | enter | leave | rest | wait | read | put (n : Int) | drop | later | flush
deriving DecidableEq
def readBlk : List Instr := [⟨6, 0, 5, 0, []⟩, ⟨6, 4, 0, 0, []⟩, ⟨19, 4, 0, 0, []⟩, ⟨18, 4, 0, 0, []⟩]
def putBlkC (p : List UInt8) (n : Int) : List Instr := [⟨10, 4, 0, 0, []⟩, ⟨14, 4, 0, 0, p⟩, ⟨0, 0, n, 0, []⟩, ⟨7, 4, 0, 0, []⟩, ⟨8, 4, 5, 0, []⟩, ⟨1, 3, 4, 0, []⟩, ⟨17, 0, 0, 0, p⟩]
def dropBlk (p : List UInt8) : List Instr := [⟨14, 3, 0, 0, p⟩, ⟨11, 3, 0, 0, []⟩, ⟨0, 3, 0, 0, []⟩, ⟨17, 0, 0, 0, p⟩]
/-- An op's code: labels from k + 1 on. -/
def cblk (f tn k : Nat) : COp → List Instr
  | .enter => part f k 0
  | .leave => part f k 1
  | .rest => part f k 2
  | .wait => part f k 4
  | .read => readBlk
  | .put n => putBlkC (labN (k + 1)) n
  | .drop => dropBlk (labN (k + 1))
  | .later => laterBlk (labN (k + 1)) tn 1
  | .flush => flushBlk f k tn 1
def cinc : COp → Nat
  | .read => 0
  | .flush => 3
  | _ => 1
end Qc
namespace Go.Proofs.YtppihkneeolomaaGreatDoor
open Go.RowKit Qs Qh
variable {N0 K tn f : Nat} {big : Prop} {w w1 w2 : World} {b k : Nat} {v v1 v2 : Value} {l : List Instr}
set_option maxHeartbeats 16000000 in
theorem cop_enter (HF : FreshH N0 big f (tn : Nat) 1 K) (hT : big → lowT N0) (h1 : 1 ≤ f) (h4 : f ≤ 4) (htn : tn < 6) (M : MkA N0 big f (tn : Nat) 1 w b v l k) (hk : k + 3 < K) (hK : K ≤ 120) (hl : l.length ≤ 80000) :
    Calls Tryz.prog 58 #[.pointer (some ⟨b, 0, none⟩), .agg #[.string ⟨#[101, 110, 116, 101, 114]⟩, .int .i64 0]] w fun e w' => e = .returned (.tuple #[]) ∧ ∃ v', MkA N0 big f (tn : Nat) 1 w' b v' (l ++ Qc.cblk f tn k .enter) (k + 1) ∧ MkStep w b v w' v' := by
  have hq := (Mod.refl noF w).alloc (.cells #[.string ⟨#[101, 110, 116, 101, 114]⟩, .int .i64 0] 88)
  have M1 := M.quiet hq
  have S1 := (MkStep.refl w b v).quiet hq
  have hbx : w.heap.size ≠ b := by have := M.lt; omega
  have hvx : v.ownBlock ≠ some w.heap.size := fun e => by have := M.vlt e; omega
  have e0 : ((⟨#[101, 110, 116, 101, 114]⟩ : ByteArray).toList == (⟨#[101, 110, 116, 101, 114]⟩ : ByteArray).toList) = true := by simp
  have HM := Lib.hid M
  have HM1 := Lib.hid M1
  have HS1 := Lib.hid S1
  have Hbx := Lib.hid hbx
  have Hvx := Lib.hid hvx
  have hc := part0_ok HF hT h1 h4 HM1.out (by omega) hK (by omega)
  have Hc := Lib.hid hc
  unfold Qc.cblk Qc.part
  clear M M1 S1 hbx hvx HF hq hc
  go_enter Tryz.func58, Tryz.ntmps58
  go_wp2_with fail
  refine Hc.out.mono ?_
  rintro e w2 ⟨rfl, v2, M2, S2⟩
  have HM2 := Lib.hid M2
  have HS2 := Lib.hid (HS1.out.trans HM.out.lt S2)
  clear M2 S2
  go_wp2
  go_end0
  exact ⟨rfl, v2, HM2.out, HS2.out⟩
set_option maxHeartbeats 16000000 in
theorem cop_leave (HF : FreshH N0 big f (tn : Nat) 1 K) (hT : big → lowT N0) (h1 : 1 ≤ f) (h4 : f ≤ 4) (htn : tn < 6) (M : MkA N0 big f (tn : Nat) 1 w b v l k) (hk : k + 3 < K) (hK : K ≤ 120) (hl : l.length ≤ 80000) :
    Calls Tryz.prog 58 #[.pointer (some ⟨b, 0, none⟩), .agg #[.string ⟨#[108, 101, 97, 118, 101]⟩, .int .i64 0]] w fun e w' => e = .returned (.tuple #[]) ∧ ∃ v', MkA N0 big f (tn : Nat) 1 w' b v' (l ++ Qc.cblk f tn k .leave) (k + 1) ∧ MkStep w b v w' v' := by
  have hq := (Mod.refl noF w).alloc (.cells #[.string ⟨#[108, 101, 97, 118, 101]⟩, .int .i64 0] 88)
  have M1 := M.quiet hq
  have S1 := (MkStep.refl w b v).quiet hq
  have hbx : w.heap.size ≠ b := by have := M.lt; omega
  have hvx : v.ownBlock ≠ some w.heap.size := fun e => by have := M.vlt e; omega
  have e0 : ((⟨#[108, 101, 97, 118, 101]⟩ : ByteArray).toList == (⟨#[101, 110, 116, 101, 114]⟩ : ByteArray).toList) = false := by
    rw [ByteArray.toList_eq, ByteArray.toList_eq]; rfl
  have e1 : ((⟨#[108, 101, 97, 118, 101]⟩ : ByteArray).toList == (⟨#[108, 101, 97, 118, 101]⟩ : ByteArray).toList) = true := by simp
  have HM := Lib.hid M
  have HM1 := Lib.hid M1
  have HS1 := Lib.hid S1
  have Hbx := Lib.hid hbx
  have Hvx := Lib.hid hvx
  have hc := part1_ok HF hT h1 h4 HM1.out (by omega) hK (by omega)
  have Hc := Lib.hid hc
  unfold Qc.cblk Qc.part
  clear M M1 S1 hbx hvx HF hq hc
  go_enter Tryz.func58, Tryz.ntmps58
  go_wp2_with fail
  refine Hc.out.mono ?_
  rintro e w2 ⟨rfl, v2, M2, S2⟩
  have HM2 := Lib.hid M2
  have HS2 := Lib.hid (HS1.out.trans HM.out.lt S2)
  clear M2 S2
  go_wp2
  go_end0
  exact ⟨rfl, v2, HM2.out, HS2.out⟩
set_option maxHeartbeats 16000000 in
theorem cop_rest (HF : FreshH N0 big f (tn : Nat) 1 K) (hT : big → lowT N0) (h1 : 1 ≤ f) (h4 : f ≤ 4) (htn : tn < 6) (M : MkA N0 big f (tn : Nat) 1 w b v l k) (hk : k + 3 < K) (hK : K ≤ 120) (hl : l.length ≤ 80000) :
    Calls Tryz.prog 58 #[.pointer (some ⟨b, 0, none⟩), .agg #[.string ⟨#[114, 101, 115, 116]⟩, .int .i64 0]] w fun e w' => e = .returned (.tuple #[]) ∧ ∃ v', MkA N0 big f (tn : Nat) 1 w' b v' (l ++ Qc.cblk f tn k .rest) (k + 1) ∧ MkStep w b v w' v' := by
  have hq := (Mod.refl noF w).alloc (.cells #[.string ⟨#[114, 101, 115, 116]⟩, .int .i64 0] 88)
  have M1 := M.quiet hq
  have S1 := (MkStep.refl w b v).quiet hq
  have hbx : w.heap.size ≠ b := by have := M.lt; omega
  have hvx : v.ownBlock ≠ some w.heap.size := fun e => by have := M.vlt e; omega
  have e0 : ((⟨#[114, 101, 115, 116]⟩ : ByteArray).toList == (⟨#[101, 110, 116, 101, 114]⟩ : ByteArray).toList) = false := by
    rw [ByteArray.toList_eq, ByteArray.toList_eq]; rfl
  have e1 : ((⟨#[114, 101, 115, 116]⟩ : ByteArray).toList == (⟨#[108, 101, 97, 118, 101]⟩ : ByteArray).toList) = false := by
    rw [ByteArray.toList_eq, ByteArray.toList_eq]; rfl
  have e2 : ((⟨#[114, 101, 115, 116]⟩ : ByteArray).toList == (⟨#[114, 101, 115, 116]⟩ : ByteArray).toList) = true := by simp
  have HM := Lib.hid M
  have HM1 := Lib.hid M1
  have HS1 := Lib.hid S1
  have Hbx := Lib.hid hbx
  have Hvx := Lib.hid hvx
  have hc := part2_ok HF hT h1 h4 HM1.out (by omega) hK (by omega)
  have Hc := Lib.hid hc
  unfold Qc.cblk Qc.part
  clear M M1 S1 hbx hvx HF hq hc
  go_enter Tryz.func58, Tryz.ntmps58
  go_wp2_with fail
  refine Hc.out.mono ?_
  rintro e w2 ⟨rfl, v2, M2, S2⟩
  have HM2 := Lib.hid M2
  have HS2 := Lib.hid (HS1.out.trans HM.out.lt S2)
  clear M2 S2
  go_wp2
  go_end0
  exact ⟨rfl, v2, HM2.out, HS2.out⟩
set_option maxHeartbeats 16000000 in
theorem cop_wait (HF : FreshH N0 big f (tn : Nat) 1 K) (hT : big → lowT N0) (h1 : 1 ≤ f) (h4 : f ≤ 4) (htn : tn < 6) (M : MkA N0 big f (tn : Nat) 1 w b v l k) (hk : k + 3 < K) (hK : K ≤ 120) (hl : l.length ≤ 80000) :
    Calls Tryz.prog 58 #[.pointer (some ⟨b, 0, none⟩), .agg #[.string ⟨#[119, 97, 105, 116]⟩, .int .i64 0]] w fun e w' => e = .returned (.tuple #[]) ∧ ∃ v', MkA N0 big f (tn : Nat) 1 w' b v' (l ++ Qc.cblk f tn k .wait) (k + 1) ∧ MkStep w b v w' v' := by
  have hq := (Mod.refl noF w).alloc (.cells #[.string ⟨#[119, 97, 105, 116]⟩, .int .i64 0] 88)
  have M1 := M.quiet hq
  have S1 := (MkStep.refl w b v).quiet hq
  have hbx : w.heap.size ≠ b := by have := M.lt; omega
  have hvx : v.ownBlock ≠ some w.heap.size := fun e => by have := M.vlt e; omega
  have e0 : ((⟨#[119, 97, 105, 116]⟩ : ByteArray).toList == (⟨#[101, 110, 116, 101, 114]⟩ : ByteArray).toList) = false := by
    rw [ByteArray.toList_eq, ByteArray.toList_eq]; rfl
  have e1 : ((⟨#[119, 97, 105, 116]⟩ : ByteArray).toList == (⟨#[108, 101, 97, 118, 101]⟩ : ByteArray).toList) = false := by
    rw [ByteArray.toList_eq, ByteArray.toList_eq]; rfl
  have e2 : ((⟨#[119, 97, 105, 116]⟩ : ByteArray).toList == (⟨#[114, 101, 115, 116]⟩ : ByteArray).toList) = false := by
    rw [ByteArray.toList_eq, ByteArray.toList_eq]; rfl
  have e3 : ((⟨#[119, 97, 105, 116]⟩ : ByteArray).toList == (⟨#[119, 97, 105, 116]⟩ : ByteArray).toList) = true := by simp
  have HM := Lib.hid M
  have HM1 := Lib.hid M1
  have HS1 := Lib.hid S1
  have Hbx := Lib.hid hbx
  have Hvx := Lib.hid hvx
  have hc := part4_ok HF hT h1 h4 HM1.out (by omega) hK (by omega)
  have Hc := Lib.hid hc
  unfold Qc.cblk Qc.part
  clear M M1 S1 hbx hvx HF hq hc
  go_enter Tryz.func58, Tryz.ntmps58
  go_wp2_with fail
  refine Hc.out.mono ?_
  rintro e w2 ⟨rfl, v2, M2, S2⟩
  have HM2 := Lib.hid M2
  have HS2 := Lib.hid (HS1.out.trans HM.out.lt S2)
  clear M2 S2
  go_wp2
  go_end0
  exact ⟨rfl, v2, HM2.out, HS2.out⟩
set_option maxHeartbeats 16000000 in
theorem cop_read (HF : FreshH N0 big f (tn : Nat) 1 K) (hT : big → lowT N0) (h1 : 1 ≤ f) (h4 : f ≤ 4) (htn : tn < 6) (M : MkA N0 big f (tn : Nat) 1 w b v l k) (hk : k + 3 < K) (hK : K ≤ 120) (hl : l.length ≤ 80000) :
    Calls Tryz.prog 58 #[.pointer (some ⟨b, 0, none⟩), .agg #[.string ⟨#[114, 101, 97, 100]⟩, .int .i64 0]] w fun e w' => e = .returned (.tuple #[]) ∧ ∃ v', MkA N0 big f (tn : Nat) 1 w' b v' (l ++ Qc.cblk f tn k .read) (k + 0) ∧ MkStep w b v w' v' := by
  have hq := (Mod.refl noF w).alloc (.cells #[.string ⟨#[114, 101, 97, 100]⟩, .int .i64 0] 88)
  have M1 := M.quiet hq
  have S1 := (MkStep.refl w b v).quiet hq
  have hbx : w.heap.size ≠ b := by have := M.lt; omega
  have hvx : v.ownBlock ≠ some w.heap.size := fun e => by have := M.vlt e; omega
  have e0 : ((⟨#[114, 101, 97, 100]⟩ : ByteArray).toList == (⟨#[101, 110, 116, 101, 114]⟩ : ByteArray).toList) = false := by
    rw [ByteArray.toList_eq, ByteArray.toList_eq]; rfl
  have e1 : ((⟨#[114, 101, 97, 100]⟩ : ByteArray).toList == (⟨#[108, 101, 97, 118, 101]⟩ : ByteArray).toList) = false := by
    rw [ByteArray.toList_eq, ByteArray.toList_eq]; rfl
  have e2 : ((⟨#[114, 101, 97, 100]⟩ : ByteArray).toList == (⟨#[114, 101, 115, 116]⟩ : ByteArray).toList) = false := by
    rw [ByteArray.toList_eq, ByteArray.toList_eq]; rfl
  have e3 : ((⟨#[114, 101, 97, 100]⟩ : ByteArray).toList == (⟨#[119, 97, 105, 116]⟩ : ByteArray).toList) = false := by
    rw [ByteArray.toList_eq, ByteArray.toList_eq]; rfl
  have e4 : ((⟨#[114, 101, 97, 100]⟩ : ByteArray).toList == (⟨#[114, 101, 97, 100]⟩ : ByteArray).toList) = true := by simp
  have HM := Lib.hid M
  have HM1 := Lib.hid M1
  have HS1 := Lib.hid S1
  have Hbx := Lib.hid hbx
  have Hvx := Lib.hid hvx
  have HC := Lib.hid (Chain.start M1.m.emit)
  unfold Qc.cblk Qc.readBlk
  clear M M1 S1 hbx hvx HF hq
  go_enter Tryz.func58, Tryz.ntmps58
  go_wp2_with fail
  generalize hx0 : w.alloc (.cells #[.string ⟨#[114, 101, 97, 100]⟩, .int .i64 0] 88) = x0 at *
  have hsz : w.heap.size + 1 = x0.heap.size := by rw [← hx0]; simp
  rw [hsz]
  clear hsz hx0
  refine (op3_chain (HC.out.quiet ((Mod.refl _ _).alloc _)) (by omega) 6 _ rfl x0.heap.size 0 5 0 3 (by simp) (by simp) (by simp) (by simp)).mono ?_
  rintro e x1 ⟨rfl, C⟩
  have HC1 := Lib.hid C
  clear C
  go_wp2_with fail
  refine (op3_chain (HC1.out.quiet ((Mod.refl _ _).alloc _)) (by simp; omega) 6 _ rfl x1.heap.size 4 0 0 3 (by simp) (by simp) (by simp) (by simp)).mono ?_
  rintro e x2 ⟨rfl, C⟩
  have HC2 := Lib.hid C
  clear C
  go_wp2_with fail
  refine (op1_chain (HC2.out.quiet ((Mod.refl _ _).alloc _)) (by simp; omega) 19 _ rfl x2.heap.size 4 1 (by simp) (by simp)).mono ?_
  rintro e x3 ⟨rfl, C⟩
  have HC3 := Lib.hid C
  clear C
  go_wp2_with fail
  refine (op1_chain (HC3.out.quiet ((Mod.refl _ _).alloc _)) (by simp; omega) 18 _ rfl x3.heap.size 4 1 (by simp) (by simp)).mono ?_
  rintro e x4 ⟨rfl, C⟩
  have hfin : ∃ v' : Value, MkA N0 big f (tn : Nat) 1 x4 b v' (l ++ [⟨6, 0, 5, 0, []⟩, ⟨6, 4, 0, 0, []⟩, ⟨19, 4, 0, 0, []⟩, ⟨18, 4, 0, 0, []⟩]) (k + 0) ∧ MkStep w b v x4 v' := by
    obtain ⟨v', M', S'⟩ := HM1.out.chain hT C
    simp only [List.append_assoc] at M'
    exact ⟨v', M', HS1.out.trans HM.out.lt S'⟩
  have Hfin := Lib.hid hfin
  clear hfin C
  go_wp2
  go_end0
  exact ⟨rfl, Hfin.out⟩
set_option maxHeartbeats 16000000 in
theorem cop_put (n : Int) (HF : FreshH N0 big f (tn : Nat) 1 K) (hT : big → lowT N0) (h1 : 1 ≤ f) (h4 : f ≤ 4) (htn : tn < 6) (M : MkA N0 big f (tn : Nat) 1 w b v l k) (hk : k + 3 < K) (hK : K ≤ 120) (hl : l.length ≤ 80000) :
    Calls Tryz.prog 58 #[.pointer (some ⟨b, 0, none⟩), .agg #[.string ⟨#[112, 117, 116]⟩, .int .i64 n]] w fun e w' => e = .returned (.tuple #[]) ∧ ∃ v', MkA N0 big f (tn : Nat) 1 w' b v' (l ++ Qc.cblk f tn k (.put n)) (k + 1) ∧ MkStep w b v w' v' := by
  have hq := (Mod.refl noF w).alloc (.cells #[.string ⟨#[112, 117, 116]⟩, .int .i64 n] 88)
  have M1 := M.quiet hq
  have S1 := (MkStep.refl w b v).quiet hq
  have hbx : w.heap.size ≠ b := by have := M.lt; omega
  have hvx : v.ownBlock ≠ some w.heap.size := fun e => by have := M.vlt e; omega
  have e0 : ((⟨#[112, 117, 116]⟩ : ByteArray).toList == (⟨#[101, 110, 116, 101, 114]⟩ : ByteArray).toList) = false := by
    rw [ByteArray.toList_eq, ByteArray.toList_eq]; rfl
  have e1 : ((⟨#[112, 117, 116]⟩ : ByteArray).toList == (⟨#[108, 101, 97, 118, 101]⟩ : ByteArray).toList) = false := by
    rw [ByteArray.toList_eq, ByteArray.toList_eq]; rfl
  have e2 : ((⟨#[112, 117, 116]⟩ : ByteArray).toList == (⟨#[114, 101, 115, 116]⟩ : ByteArray).toList) = false := by
    rw [ByteArray.toList_eq, ByteArray.toList_eq]; rfl
  have e3 : ((⟨#[112, 117, 116]⟩ : ByteArray).toList == (⟨#[119, 97, 105, 116]⟩ : ByteArray).toList) = false := by
    rw [ByteArray.toList_eq, ByteArray.toList_eq]; rfl
  have e4 : ((⟨#[112, 117, 116]⟩ : ByteArray).toList == (⟨#[114, 101, 97, 100]⟩ : ByteArray).toList) = false := by
    rw [ByteArray.toList_eq, ByteArray.toList_eq]; rfl
  have e5 : ((⟨#[112, 117, 116]⟩ : ByteArray).toList == (⟨#[112, 117, 116]⟩ : ByteArray).toList) = true := by simp
  have HM := Lib.hid M
  have HM1 := Lib.hid M1
  have HS1 := Lib.hid S1
  have Hbx := Lib.hid hbx
  have Hvx := Lib.hid hvx
  have c1 : (w.alloc (.cells #[.string ⟨#[112, 117, 116]⟩, .int .i64 n] 88)).cell? ⟨w.heap.size, 1, none⟩ = some (.int .i64 n) := by simp
  have Hc1 := Lib.hid c1
  have hfr := HF _ _ _ _ k (by omega) M1
  have Hfr := Lib.hid hfr
  unfold Qc.cblk Qc.putBlkC
  generalize Qu.labN (k + 1) = lb at *
  clear M M1 S1 hbx hvx HF hq hfr c1
  go_enter Tryz.func58, Tryz.ntmps58
  go_wp2_with fail
  refine Hfr.out.mono ?_
  rintro e w2 ⟨rfl, M2, S2⟩
  have HM2 := Lib.hid M2
  have Hg1 := Lib.hid (S2.old (p := ⟨w.heap.size, 1, none⟩) Hbx.out Hvx.out Hc1.out)
  have HS2 := Lib.hid (HS1.out.trans HM.out.lt S2)
  have HC := Lib.hid (Chain.start M2.m.emit)
  clear M2 S2
  go_wp2
  refine wp_region_held_drew (S := fun W => W.cell? ⟨w.heap.size, 1, none⟩ = some (.int .i64 n)) (by kernel_rfl) ((Mod.refl noF _).drew.cell Hg1.out (fun e => e)) (fun hHeld => ?_)
  refine wpAnyH_take (i := 0) (oi := ?oRx0) (v := ?vRx0) ?qRx0 (by kernel_rfl) ?fRx0 ?gRx0 ?pRx0 ?uRx0 (by assumption) ?rRx0
  case qRx0 => (rw [List.getElem?_toArray]; rfl)
  case fRx0 => kernel_rfl
  case gRx0 => kernel_rfl
  case pRx0 => exact (fun _ _ _ h => h)
  case uRx0 => (refine Or.inl ⟨by rfl, ?_⟩; intro w hSw; (try dsimp only at hSw); go_simp; (try rw [if_neg (by omega)]); try with_reducible rfl)
  try simp only [Act.put, List.setIfInBounds_toArray, List.set_cons_zero, List.set_cons_succ]
  refine wpAnyH_take (i := 1) (oi := ?oRx1) (v := ?vRx1) ?qRx1 (by kernel_rfl) ?fRx1 ?gRx1 ?pRx1 ?uRx1 (by assumption) ?rRx1
  case qRx1 => (rw [List.getElem?_toArray]; rfl)
  case fRx1 => kernel_rfl
  case gRx1 => kernel_rfl
  case pRx1 => exact (fun _ _ _ h => h)
  case uRx1 => (refine Or.inl ⟨by rfl, ?_⟩; intro w hSw; (try dsimp only at hSw); go_simp; (try rw [if_neg (by omega)]); try with_reducible rfl)
  try simp only [Act.put, List.setIfInBounds_toArray, List.set_cons_zero, List.set_cons_succ]
  refine wpAnyH_take (i := 2) (oi := ?oRx2) (v := ?vRx2) ?qRx2 (by kernel_rfl) ?fRx2 ?gRx2 ?pRx2 ?uRx2 (by assumption) ?rRx2
  case qRx2 => (rw [List.getElem?_toArray]; rfl)
  case fRx2 => kernel_rfl
  case gRx2 => kernel_rfl
  case pRx2 => exact (fun _ _ _ h => h)
  case uRx2 => (refine Or.inl ⟨by rfl, ?_⟩; intro w hSw; (try dsimp only at hSw); go_simp; (try rw [if_neg (by omega)]); try with_reducible rfl)
  try simp only [Act.put, List.setIfInBounds_toArray, List.set_cons_zero, List.set_cons_succ]
  refine wpAnyH_take (i := 5) (oi := ?oRx5) (v := ?vRx5) ?qRx5 (by kernel_rfl) ?fRx5 ?gRx5 ?pRx5 ?uRx5 (by assumption) ?rRx5
  case qRx5 => (rw [List.getElem?_toArray]; rfl)
  case fRx5 => kernel_rfl
  case gRx5 => kernel_rfl
  case pRx5 => exact (fun _ _ _ h => h)
  case uRx5 => (refine Or.inl ⟨by rfl, ?_⟩; intro w hSw; (try dsimp only at hSw); go_simp; (try rw [if_neg (by omega)]); try with_reducible rfl)
  try simp only [Act.put, List.setIfInBounds_toArray, List.set_cons_zero, List.set_cons_succ]
  refine wpAnyH_take (i := 8) (oi := ?oRx8) (v := ?vRx8) ?qRx8 (by kernel_rfl) ?fRx8 ?gRx8 ?pRx8 ?uRx8 (by assumption) ?rRx8
  case qRx8 => (rw [List.getElem?_toArray]; rfl)
  case fRx8 => kernel_rfl
  case gRx8 => kernel_rfl
  case pRx8 => exact (fun _ _ _ h => h)
  case uRx8 => (refine Or.inl ⟨by rfl, ?_⟩; intro w hSw; (try dsimp only at hSw); go_simp; (try rw [if_neg (by omega)]); try with_reducible rfl)
  try simp only [Act.put, List.setIfInBounds_toArray, List.set_cons_zero, List.set_cons_succ]
  refine wpAnyH_take (i := 9) (oi := ?oRx9) (v := ?vRx9) ?qRx9 (by kernel_rfl) ?fRx9 ?gRx9 ?pRx9 ?uRx9 (by assumption) ?rRx9
  case qRx9 => (rw [List.getElem?_toArray]; rfl)
  case fRx9 => kernel_rfl
  case gRx9 => kernel_rfl
  case pRx9 => exact (fun _ _ _ h => h)
  case uRx9 => (refine Or.inl ⟨by rfl, ?_⟩; intro w hSw; (try dsimp only at hSw); go_simp; (try rw [if_neg (by omega)]); try with_reducible rfl)
  try simp only [Act.put, List.setIfInBounds_toArray, List.set_cons_zero, List.set_cons_succ]
  refine wpAnyH_take (i := 18) (oi := ?oRx18) (v := ?vRx18) ?qRx18 (by kernel_rfl) ?fRx18 ?gRx18 ?pRx18 ?uRx18 (by assumption) ?rRx18
  case qRx18 => (rw [List.getElem?_toArray]; rfl)
  case fRx18 => kernel_rfl
  case gRx18 => kernel_rfl
  case pRx18 => exact (fun _ _ _ h => h)
  case uRx18 => (refine Or.inl ⟨by rfl, ?_⟩; intro w hSw; (try dsimp only at hSw); go_simp; (try rw [if_neg (by omega)]); try with_reducible rfl)
  try simp only [Act.put, List.setIfInBounds_toArray, List.set_cons_zero, List.set_cons_succ]
  refine Mk.em_spine (fun _ => n) (items := [⟨some (3, 44), 4, 45⟩, ⟨some (6, 47), 7, 48⟩, ⟨some (10, 51), 11, 52⟩, ⟨some (12, 53), 13, 54⟩, ⟨some (14, 55), 15, 56⟩, ⟨some (16, 57), 17, 58⟩, ⟨none, 19, 60⟩]) (E := [⟨10, [.c 4], [], 0, 0, []⟩, ⟨14, [.c 4], lb, 1, 46, []⟩, ⟨0, [.c 0, .t 50], [], 0, 0, []⟩, ⟨7, [.c 4, .c 0, .c 0], [], 0, 0, []⟩, ⟨8, [.c 4, .c 5, .c 0], [], 0, 0, []⟩, ⟨1, [.c 3, .c 4], [], 0, 0, []⟩, ⟨17, [], lb, 2, 59, []⟩]) (r0 := 43) (by kernel_rfl) (by kernel_rfl) (by kernel_rfl) (by rfl) ?lbR ?tvR ?moR (by rfl) (by rfl) ?lenR (fun w' l' C => C.mine (p := ⟨w.heap.size, 1, none⟩) Hbx.out Hvx.out Hg1.out) (HC.out.quiet (Mod.refl _ _).drew) (by kernel_rfl) ?_
  case lbR => (intro e he hk; simp only [List.mem_cons, List.not_mem_nil, or_false] at he; rcases he with rfl | rfl | rfl | rfl | rfl | rfl | rfl <;> (first | (simp at hk; done) | exact rfl))
  case tvR => (intro e he k hk; simp only [List.mem_cons, List.not_mem_nil, or_false] at he; rcases he with rfl | rfl | rfl | rfl | rfl | rfl | rfl <;> (first | (simp at hk; done) | (simp at hk; subst hk; rfl)))
  case moR => (intro e he hk; simp only [List.mem_cons, List.not_mem_nil, or_false] at he; rcases he with rfl | rfl | rfl | rfl | rfl | rfl | rfl <;> (first | (simp at hk; done) | exact rfl))
  case lenR => (simp [Mk.EmC.code, Mk.EmC.ins]; omega)
  intro U xR C hU
  have u45 : U 45 = _ := hU 0 _ rfl
  have u48 : U 48 = _ := hU 1 _ rfl
  have u52 : U 52 = _ := hU 2 _ rfl
  have u54 : U 54 = _ := hU 3 _ rfl
  have u56 : U 56 = _ := hU 4 _ rfl
  have u58 : U 58 = _ := hU 5 _ rfl
  have u60 : U 60 = _ := hU 6 _ rfl
  simp only [spTmps, SpI.tmps, List.flatMap_cons, List.flatMap_nil, Option.map_some, Option.map_none, Option.toList_some, Option.toList_none, List.cons_append, List.nil_append, List.append_nil, patch, List.foldl_cons, List.foldl_nil, Act.put, List.setIfInBounds_toArray, List.set_cons_zero, List.set_cons_succ, u45, u48, u52, u54, u56, u58, u60]
  generalize U 44 = s44 at *
  generalize U 47 = s47 at *
  generalize U 51 = s51 at *
  generalize U 53 = s53 at *
  generalize U 55 = s55 at *
  generalize U 57 = s57 at *
  clear u45 u48 u52 u54 u56 u58 u60 hU hHeld
  have hfin : ∃ v' : Value, MkA N0 big f (tn : Nat) 1 xR b v' (l ++ [⟨10, 4, 0, 0, []⟩, ⟨14, 4, 0, 0, lb⟩, ⟨0, 0, n, 0, []⟩, ⟨7, 4, 0, 0, []⟩, ⟨8, 4, 5, 0, []⟩, ⟨1, 3, 4, 0, []⟩, ⟨17, 0, 0, 0, lb⟩]) (k + 1) ∧ MkStep w b v xR v' := by
    obtain ⟨v', M', S'⟩ := HM2.out.chain hT C
    exact ⟨v', M', HS2.out.trans HM.out.lt S'⟩
  have Hfin := Lib.hid hfin
  clear hfin C
  go_wp2
  (try simp only [Exit.inBlock, Exit.then])
  go_end0
  exact ⟨rfl, Hfin.out⟩
set_option maxHeartbeats 16000000 in
theorem cop_drop (HF : FreshH N0 big f (tn : Nat) 1 K) (hT : big → lowT N0) (h1 : 1 ≤ f) (h4 : f ≤ 4) (htn : tn < 6) (M : MkA N0 big f (tn : Nat) 1 w b v l k) (hk : k + 3 < K) (hK : K ≤ 120) (hl : l.length ≤ 80000) :
    Calls Tryz.prog 58 #[.pointer (some ⟨b, 0, none⟩), .agg #[.string ⟨#[100, 114, 111, 112]⟩, .int .i64 0]] w fun e w' => e = .returned (.tuple #[]) ∧ ∃ v', MkA N0 big f (tn : Nat) 1 w' b v' (l ++ Qc.cblk f tn k .drop) (k + 1) ∧ MkStep w b v w' v' := by
  have hq := (Mod.refl noF w).alloc (.cells #[.string ⟨#[100, 114, 111, 112]⟩, .int .i64 0] 88)
  have M1 := M.quiet hq
  have S1 := (MkStep.refl w b v).quiet hq
  have hbx : w.heap.size ≠ b := by have := M.lt; omega
  have hvx : v.ownBlock ≠ some w.heap.size := fun e => by have := M.vlt e; omega
  have e0 : ((⟨#[100, 114, 111, 112]⟩ : ByteArray).toList == (⟨#[101, 110, 116, 101, 114]⟩ : ByteArray).toList) = false := by
    rw [ByteArray.toList_eq, ByteArray.toList_eq]; rfl
  have e1 : ((⟨#[100, 114, 111, 112]⟩ : ByteArray).toList == (⟨#[108, 101, 97, 118, 101]⟩ : ByteArray).toList) = false := by
    rw [ByteArray.toList_eq, ByteArray.toList_eq]; rfl
  have e2 : ((⟨#[100, 114, 111, 112]⟩ : ByteArray).toList == (⟨#[114, 101, 115, 116]⟩ : ByteArray).toList) = false := by
    rw [ByteArray.toList_eq, ByteArray.toList_eq]; rfl
  have e3 : ((⟨#[100, 114, 111, 112]⟩ : ByteArray).toList == (⟨#[119, 97, 105, 116]⟩ : ByteArray).toList) = false := by
    rw [ByteArray.toList_eq, ByteArray.toList_eq]; rfl
  have e4 : ((⟨#[100, 114, 111, 112]⟩ : ByteArray).toList == (⟨#[114, 101, 97, 100]⟩ : ByteArray).toList) = false := by
    rw [ByteArray.toList_eq, ByteArray.toList_eq]; rfl
  have e5 : ((⟨#[100, 114, 111, 112]⟩ : ByteArray).toList == (⟨#[112, 117, 116]⟩ : ByteArray).toList) = false := by
    rw [ByteArray.toList_eq, ByteArray.toList_eq]; rfl
  have e6 : ((⟨#[100, 114, 111, 112]⟩ : ByteArray).toList == (⟨#[100, 114, 111, 112]⟩ : ByteArray).toList) = true := by simp
  have HM := Lib.hid M
  have HM1 := Lib.hid M1
  have HS1 := Lib.hid S1
  have Hbx := Lib.hid hbx
  have Hvx := Lib.hid hvx
  have hfr := HF _ _ _ _ k (by omega) M1
  have Hfr := Lib.hid hfr
  unfold Qc.cblk Qc.dropBlk
  generalize Qu.labN (k + 1) = lb at *
  clear M M1 S1 hbx hvx HF hq hfr
  go_enter Tryz.func58, Tryz.ntmps58
  go_wp2_with fail
  refine Hfr.out.mono ?_
  rintro e w2 ⟨rfl, M2, S2⟩
  have HM2 := Lib.hid M2
  have HS2 := Lib.hid (HS1.out.trans HM.out.lt S2)
  have HC := Lib.hid (Chain.start M2.m.emit)
  clear M2 S2
  go_wp2_with fail
  refine (to1_chain (HC.out.quiet ((Mod.refl _ _).alloc _)) (by omega) 14 _ rfl lb _ rfl w2.heap.size 3 1 (by simp) (by simp)).mono ?_
  rintro e x1 ⟨rfl, C⟩
  have HC1 := Lib.hid C
  clear C
  go_wp2_with fail
  refine (op1_chain (HC1.out.quiet ((Mod.refl _ _).alloc _)) (by simp; omega) 11 _ rfl x1.heap.size 3 1 (by simp) (by simp)).mono ?_
  rintro e x2 ⟨rfl, C⟩
  have HC2 := Lib.hid C
  clear C
  go_wp2_with fail
  refine (op2_chain (HC2.out.quiet ((Mod.refl _ _).alloc _)) (by simp; omega) 0 _ rfl x2.heap.size 3 0 2 (by simp) (by simp) (by simp)).mono ?_
  rintro e x3 ⟨rfl, C⟩
  have HC3 := Lib.hid C
  clear C
  go_wp2_with fail
  refine (label_chain HC3.out (by simp; omega) lb _ rfl).mono ?_
  rintro e x4 ⟨rfl, C⟩
  have hfin : ∃ v' : Value, MkA N0 big f (tn : Nat) 1 x4 b v' (l ++ [⟨14, 3, 0, 0, lb⟩, ⟨11, 3, 0, 0, []⟩, ⟨0, 3, 0, 0, []⟩, ⟨17, 0, 0, 0, lb⟩]) (k + 1) ∧ MkStep w b v x4 v' := by
    obtain ⟨v', M', S'⟩ := HM2.out.chain hT C
    simp only [List.append_assoc] at M'
    exact ⟨v', M', HS2.out.trans HM.out.lt S'⟩
  have Hfin := Lib.hid hfin
  clear hfin C
  go_wp2
  go_end0
  exact ⟨rfl, Hfin.out⟩
set_option maxHeartbeats 16000000 in
theorem cop_later (HF : FreshH N0 big f (tn : Nat) 1 K) (hT : big → lowT N0) (h1 : 1 ≤ f) (h4 : f ≤ 4) (htn : tn < 6) (M : MkA N0 big f (tn : Nat) 1 w b v l k) (hk : k + 3 < K) (hK : K ≤ 120) (hl : l.length ≤ 80000) :
    Calls Tryz.prog 58 #[.pointer (some ⟨b, 0, none⟩), .agg #[.string ⟨#[108, 97, 116, 101, 114]⟩, .int .i64 0]] w fun e w' => e = .returned (.tuple #[]) ∧ ∃ v', MkA N0 big f (tn : Nat) 1 w' b v' (l ++ Qc.cblk f tn k .later) (k + 1) ∧ MkStep w b v w' v' := by
  have hq := (Mod.refl noF w).alloc (.cells #[.string ⟨#[108, 97, 116, 101, 114]⟩, .int .i64 0] 88)
  have M1 := M.quiet hq
  have S1 := (MkStep.refl w b v).quiet hq
  have hbx : w.heap.size ≠ b := by have := M.lt; omega
  have hvx : v.ownBlock ≠ some w.heap.size := fun e => by have := M.vlt e; omega
  have e0 : ((⟨#[108, 97, 116, 101, 114]⟩ : ByteArray).toList == (⟨#[101, 110, 116, 101, 114]⟩ : ByteArray).toList) = false := by
    rw [ByteArray.toList_eq, ByteArray.toList_eq]; rfl
  have e1 : ((⟨#[108, 97, 116, 101, 114]⟩ : ByteArray).toList == (⟨#[108, 101, 97, 118, 101]⟩ : ByteArray).toList) = false := by
    rw [ByteArray.toList_eq, ByteArray.toList_eq]; rfl
  have e2 : ((⟨#[108, 97, 116, 101, 114]⟩ : ByteArray).toList == (⟨#[114, 101, 115, 116]⟩ : ByteArray).toList) = false := by
    rw [ByteArray.toList_eq, ByteArray.toList_eq]; rfl
  have e3 : ((⟨#[108, 97, 116, 101, 114]⟩ : ByteArray).toList == (⟨#[119, 97, 105, 116]⟩ : ByteArray).toList) = false := by
    rw [ByteArray.toList_eq, ByteArray.toList_eq]; rfl
  have e4 : ((⟨#[108, 97, 116, 101, 114]⟩ : ByteArray).toList == (⟨#[114, 101, 97, 100]⟩ : ByteArray).toList) = false := by
    rw [ByteArray.toList_eq, ByteArray.toList_eq]; rfl
  have e5 : ((⟨#[108, 97, 116, 101, 114]⟩ : ByteArray).toList == (⟨#[112, 117, 116]⟩ : ByteArray).toList) = false := by
    rw [ByteArray.toList_eq, ByteArray.toList_eq]; rfl
  have e6 : ((⟨#[108, 97, 116, 101, 114]⟩ : ByteArray).toList == (⟨#[100, 114, 111, 112]⟩ : ByteArray).toList) = false := by
    rw [ByteArray.toList_eq, ByteArray.toList_eq]; rfl
  have e7 : ((⟨#[108, 97, 116, 101, 114]⟩ : ByteArray).toList == (⟨#[108, 97, 116, 101, 114]⟩ : ByteArray).toList) = true := by simp
  have HM := Lib.hid M
  have HM1 := Lib.hid M1
  have HS1 := Lib.hid S1
  have Hbx := Lib.hid hbx
  have Hvx := Lib.hid hvx
  have hc := later_ok HF hT htn HM1.out (by omega) (by omega)
  have Hc := Lib.hid hc
  unfold Qc.cblk
  clear M M1 S1 hbx hvx HF hq hc
  go_enter Tryz.func58, Tryz.ntmps58
  go_wp2_with fail
  refine Hc.out.mono ?_
  rintro e w2 ⟨rfl, v2, M2, S2⟩
  have HM2 := Lib.hid M2
  have HS2 := Lib.hid (HS1.out.trans HM.out.lt S2)
  clear M2 S2
  go_wp2
  go_end0
  exact ⟨rfl, v2, HM2.out, HS2.out⟩
set_option maxHeartbeats 16000000 in
theorem cop_flush (HF : FreshH N0 big f (tn : Nat) 1 K) (hT : big → lowT N0) (h1 : 1 ≤ f) (h4 : f ≤ 4) (htn : tn < 6) (M : MkA N0 big f (tn : Nat) 1 w b v l k) (hk : k + 3 < K) (hK : K ≤ 120) (hl : l.length ≤ 80000) :
    Calls Tryz.prog 58 #[.pointer (some ⟨b, 0, none⟩), .agg #[.string ⟨#[102, 108, 117, 115, 104]⟩, .int .i64 0]] w fun e w' => e = .returned (.tuple #[]) ∧ ∃ v', MkA N0 big f (tn : Nat) 1 w' b v' (l ++ Qc.cblk f tn k .flush) (k + 3) ∧ MkStep w b v w' v' := by
  have hq := (Mod.refl noF w).alloc (.cells #[.string ⟨#[102, 108, 117, 115, 104]⟩, .int .i64 0] 88)
  have M1 := M.quiet hq
  have S1 := (MkStep.refl w b v).quiet hq
  have hbx : w.heap.size ≠ b := by have := M.lt; omega
  have hvx : v.ownBlock ≠ some w.heap.size := fun e => by have := M.vlt e; omega
  have e0 : ((⟨#[102, 108, 117, 115, 104]⟩ : ByteArray).toList == (⟨#[101, 110, 116, 101, 114]⟩ : ByteArray).toList) = false := by
    rw [ByteArray.toList_eq, ByteArray.toList_eq]; rfl
  have e1 : ((⟨#[102, 108, 117, 115, 104]⟩ : ByteArray).toList == (⟨#[108, 101, 97, 118, 101]⟩ : ByteArray).toList) = false := by
    rw [ByteArray.toList_eq, ByteArray.toList_eq]; rfl
  have e2 : ((⟨#[102, 108, 117, 115, 104]⟩ : ByteArray).toList == (⟨#[114, 101, 115, 116]⟩ : ByteArray).toList) = false := by
    rw [ByteArray.toList_eq, ByteArray.toList_eq]; rfl
  have e3 : ((⟨#[102, 108, 117, 115, 104]⟩ : ByteArray).toList == (⟨#[119, 97, 105, 116]⟩ : ByteArray).toList) = false := by
    rw [ByteArray.toList_eq, ByteArray.toList_eq]; rfl
  have e4 : ((⟨#[102, 108, 117, 115, 104]⟩ : ByteArray).toList == (⟨#[114, 101, 97, 100]⟩ : ByteArray).toList) = false := by
    rw [ByteArray.toList_eq, ByteArray.toList_eq]; rfl
  have e5 : ((⟨#[102, 108, 117, 115, 104]⟩ : ByteArray).toList == (⟨#[112, 117, 116]⟩ : ByteArray).toList) = false := by
    rw [ByteArray.toList_eq, ByteArray.toList_eq]; rfl
  have e6 : ((⟨#[102, 108, 117, 115, 104]⟩ : ByteArray).toList == (⟨#[100, 114, 111, 112]⟩ : ByteArray).toList) = false := by
    rw [ByteArray.toList_eq, ByteArray.toList_eq]; rfl
  have e7 : ((⟨#[102, 108, 117, 115, 104]⟩ : ByteArray).toList == (⟨#[108, 97, 116, 101, 114]⟩ : ByteArray).toList) = false := by
    rw [ByteArray.toList_eq, ByteArray.toList_eq]; rfl
  have e8 : ((⟨#[102, 108, 117, 115, 104]⟩ : ByteArray).toList == (⟨#[102, 108, 117, 115, 104]⟩ : ByteArray).toList) = true := by simp
  have HM := Lib.hid M
  have HM1 := Lib.hid M1
  have HS1 := Lib.hid S1
  have Hbx := Lib.hid hbx
  have Hvx := Lib.hid hvx
  have hc := flush_ok HF hT h1 h4 htn HM1.out (by omega) hK (by omega)
  have Hc := Lib.hid hc
  unfold Qc.cblk
  clear M M1 S1 hbx hvx HF hq hc
  go_enter Tryz.func58, Tryz.ntmps58
  go_wp2_with fail
  refine Hc.out.mono ?_
  rintro e w2 ⟨rfl, v2, M2, S2⟩
  have HM2 := Lib.hid M2
  have HS2 := Lib.hid (HS1.out.trans HM.out.lt S2)
  clear M2 S2
  go_wp2
  go_end0
  exact ⟨rfl, v2, HM2.out, HS2.out⟩
end Go.Proofs.YtppihkneeolomaaGreatDoor
end
/- An error by its number and place; plain.Code, faulted of it. -/
section
namespace Go.Proofs.YtppihkneeolomaaGreatDoor
open Go.RowKit Qs Qh
/-- What an error is: none, a sentinel, a sentinel with its place. -/
def ErrIs (a : Nat → Addr) (w : World) (v : Value) (c p : Int) : Prop :=
  (c = 0 ∧ p = -1 ∧ v = .nilIface) ∨ (∃ i : Nat, i < 9 ∧ c = (i : Int) + 1 ∧ p = -1 ∧ v = errV a i) ∨
    ∃ i pb : Nat, i < 9 ∧ c = (i : Int) + 1 ∧ v = .iface 125 (.pointer (some ⟨pb, 0, none⟩)) ∧ pb < w.heap.size ∧ w.cell? ⟨pb, 0, none⟩ = some (.int .i64 p) ∧ w.cell? ⟨pb, 1, none⟩ = some (errV a i)
variable {a : Nat → Addr} {w w' : World} {v : Value} {c p : Int}
theorem ErrIs.keep (h : ErrIs a w v c p) {F : Nat → Prop} (hM : Mod F w w') (hF : ∀ b, b < w.heap.size → ¬ F b) : ErrIs a w' v c p := by
  rcases h with h | h | ⟨i, pb, h1, h2, h3, h4, h5, h6⟩
  · exact .inl h
  · exact .inr (.inl h)
  · exact .inr (.inr ⟨i, pb, h1, h2, h3, Nat.lt_of_lt_of_le h4 hM.size, hM.cell h5 (hF pb h4), hM.cell h6 (hF pb h4)⟩)
theorem ErrIs.keepNe (h : ErrIs a w v c p) {F : Nat → Prop} (hM : Mod F w w') (hF : ∀ b, F b → w.cell? ⟨b, 1, none⟩ = some (.slice none 0 0)) : ErrIs a w' v c p := by
  rcases h with h | h | ⟨i, pb, h1, h2, h3, h4, h5, h6⟩
  · exact .inl h
  · exact .inr (.inl h)
  · have hn : ¬ F pb := fun e => by rw [hF pb e] at h6; cases h6
    exact .inr (.inr ⟨i, pb, h1, h2, h3, Nat.lt_of_lt_of_le h4 hM.size, hM.cell h5 hn, hM.cell h6 hn⟩)
theorem ErrIs.nil (h : ErrIs a w v 0 p) : v = .nilIface := by
  rcases h with h | ⟨i, h1, h2, _⟩ | ⟨i, pb, h1, h2, _⟩
  · exact h.2.2
  · omega
  · omega
theorem ErrIs.some (h : ErrIs a w v c p) (hc : c ≠ 0) : ∃ T x, v = .iface T (.pointer (some x)) := by
  rcases h with h | ⟨i, h1, h2, h3, h4⟩ | ⟨i, pb, h1, h2, h3, _⟩
  · exact absurd h.1 hc
  · exact ⟨_, _, h4⟩
  · exact ⟨_, _, h3⟩
theorem code_any (E : ErrsAt w a) (h : ErrIs a w v c p) : Calls Tryz.prog 59 #[v] w fun e w' => e = .returned (.tuple #[.int .i64 c, .int .i64 p]) ∧ Mod noF w w' := by
  rcases h with ⟨rfl, rfl, rfl⟩ | ⟨i, h1, rfl, rfl, rfl⟩ | ⟨i, pb, h1, rfl, rfl, h4, h5, h6⟩
  · exact (code_nil w).mono fun e w' h => ⟨h.1, h.2 ▸ Mod.refl _ _⟩
  · exact code_at E i h1
  · exact code_fault E i h1 pb p h5 h6
/-- Is an error what is told? -/
def faultB (c p c' p' : Int) : Bool := decide (c = c') && (decide (c = 0) || decide (p = p'))
theorem faultB_self (c p : Int) : faultB c p c p = true := by simp [faultB]
end Go.Proofs.YtppihkneeolomaaGreatDoor
end
/- stack.Check: over any lists of ops. -/
section
namespace Go.Proofs.YtppihkneeolomaaGreatDoor
open Go.RowKit Qs Qh
variable {N : Nat} {w w' : World} {v u : Value} {ll : List (List ROp)} {l : List ROp} {W : ByteArray} {ks : List ByteArray}
def IdxPost (ks : List ByteArray) (s : ByteArray) (w : World) (e : Ending) (w' : World) : Prop := ∃ n : Int, e = .returned (.int .i64 n) ∧ w' = w ∧ (s ∈ ks → 0 ≤ n) ∧ (¬ s ∈ ks → n = -1)
def IdlPost (ll : List (List ROp)) (w : World) (e : Ending) (w' : World) : Prop := ∃ n : Int, e = .returned (.int .i64 n) ∧ w' = w ∧ ((∀ l ∈ ll, l.length ≤ 20) → n = -1) ∧ (¬ (∀ l ∈ ll, l.length ≤ 20) → 0 ≤ n)
theorem manyB_iff : manyB ll = true ↔ 1 ≤ ll.length ∧ ll.length ≤ 6 ∧ ∀ l ∈ ll, l.length ≤ 20 := by
  unfold manyB
  simp [and_assoc]
theorem manyB_false (h : manyB ll = false) : ll.length < 1 ∨ 6 < ll.length ∨ ¬ ∀ l ∈ ll, l.length ≤ 20 := by
  by_cases h1 : ll.length < 1
  · exact .inl h1
  · by_cases h2 : 6 < ll.length
    · exact .inr (.inl h2)
    · refine .inr (.inr fun h3 => ?_)
      have := manyB_iff.2 ⟨by omega, by omega, h3⟩
      rw [this] at h; cases h
variable {a : Nat → Addr}
end Go.Proofs.YtppihkneeolomaaGreatDoor
end
/- package client: the kinds of its ops, laid in a variable; is a name one? -/
section
namespace Go.Proofs.YtppihkneeolomaaGreatDoor
open Go.RowKit Qs Qh
def kindsC : List ByteArray := [⟨#[101, 110, 116, 101, 114]⟩, ⟨#[108, 101, 97, 118, 101]⟩, ⟨#[114, 101, 115, 116]⟩, ⟨#[119, 97, 105, 116]⟩, ⟨#[114, 101, 97, 100]⟩, ⟨#[112, 117, 116]⟩, ⟨#[100, 114, 111, 112]⟩, ⟨#[108, 97, 116, 101, 114]⟩, ⟨#[102, 108, 117, 115, 104]⟩]
def kindsD : DataW Unit := .slice (ChangeShapes.strs kindsC) []
/-- The variable and its row. -/
def KindsW (w : World) : Prop := ∃ g off cap, w.cell? ⟨10, 0, none⟩ = some (.slice (some ⟨g, off, none⟩) 9 cap) ∧ ∀ (i : Nat) x, kindsC[i]? = some x → w.cell? ⟨g, off + i, none⟩ = some (.string x)
theorem KindsW.keep {w w' : World} (h : KindsW w) (hM : Mod noF w w') : KindsW w' := by
  obtain ⟨g, off, cap, h1, h2⟩ := h
  exact ⟨g, off, cap, hM.cell h1 (fun e => e), fun i x hi => hM.cell (h2 i x hi) (fun e => e)⟩
theorem indexK2 (w : World) (g off cap : Nat) (ks : List ByteArray) (s : ByteArray) (hg : ∀ (i : Nat) x, ks[i]? = some x → w.cell? ⟨g, off + i, none⟩ = some (.string x)) (hl : ks.length ≤ 1000) :
    Calls Tryz.prog 93 #[.slice (some ⟨g, off, none⟩) ks.length cap, .string s] w (IdxPost ks s w) := by
  have Hg := Lib.hid hg
  clear hg
  go_enter Tryz.func93, Tryz.ntmps93
  go_wp2
  go_loop [5, 8] (fun j i => ∃ k : Nat, k ≤ ks.length ∧ i = .int .i64 k ∧ ¬ s ∈ ks.take k) (fun _ i => ks.length - (intOf i).toNat)
  case atStart => exact ⟨0, Nat.zero_le _, rfl, by simp⟩
  case round =>
    obtain ⟨k, hk, rfl, hno⟩ := hrel
    have Hno := Lib.hid hno
    clear hno
    by_cases hlt : k < ks.length
    · have hd : decide ((k : Int) < (ks.length : Int)) = true := by simp; omega
      have hki : (k : Int) < (ks.length : Int) := by omega
      obtain ⟨y, hy⟩ : ∃ y, ks[k]? = some y := ⟨_, List.getElem?_eq_getElem hlt⟩
      have hyc := Hg.out k y hy
      have hmem := List.mem_of_getElem? hy
      have htk : ks.take (k + 1) = ks.take k ++ [y] := by rw [List.take_add_one, hy]; rfl
      have Htk := Lib.hid htk
      have Hmem := Lib.hid hmem
      clear hy htk hmem
      by_cases hxy : y = s
      · subst hxy
        have ey := str_eq y
        go_wp2
        go_ret
        exact ⟨_, rfl, rfl, fun _ => by omega, fun h => absurd Hmem.out h⟩
      · have ey : (s.toList == y.toList) = false := str_ne fun e => hxy e.symm
        have ey2 : (y.toList == s.toList) = false := str_ne hxy
        go_wp2
        go_round
        case rel => exact ⟨k + 1, by omega, by go_num, by rw [Htk.out]; intro h; rcases List.mem_append.1 h with h | h; exact Hno.out h; exact hxy (List.mem_singleton.1 h).symm⟩
        case measure => simp [intOf]; omega
    · have hd : decide ((k : Int) < (ks.length : Int)) = false := by simp; omega
      obtain rfl : k = ks.length := by omega
      have hno := Hno.out
      rw [List.take_length] at hno
      go_wp2
      go_ret
      exact ⟨-1, rfl, rfl, fun h => absurd h hno, fun _ => rfl⟩
theorem containsK2 (w : World) (g off cap : Nat) (ks : List ByteArray) (s : ByteArray) (hg : ∀ (i : Nat) x, ks[i]? = some x → w.cell? ⟨g, off + i, none⟩ = some (.string x)) (hl : ks.length ≤ 1000) :
    Calls Tryz.prog 68 #[.slice (some ⟨g, off, none⟩) ks.length cap, .string s] w fun e w' => e = .returned (.bool (memK ks s)) ∧ w' = w := by
  have Hcall := Lib.hid (indexK2 w g off cap ks s hg hl)
  clear hg
  by_cases hs : s ∈ ks
  · have ds : memK ks s = true := memK_iff.2 hs
    rw [ds]
    go_enter Tryz.func68, Tryz.ntmps68
    go_wp2_with fail
    refine Hcall.out.mono ?_
    rintro e w' ⟨n, rfl, rfl, h1, h2⟩
    have d : decide ((0 : Int) ≤ n) = true := by simpa using h1 hs
    clear h1 h2 hs
    go_wp2
    go_ret
    exact ⟨rfl, rfl⟩
  · have ds : memK ks s = false := by cases h : memK ks s with
      | true => exact absurd (memK_iff.1 h) hs
      | false => rfl
    rw [ds]
    go_enter Tryz.func68, Tryz.ntmps68
    go_wp2_with fail
    refine Hcall.out.mono ?_
    rintro e w' ⟨n, rfl, rfl, h1, h2⟩
    obtain rfl := h2 hs
    clear h1 h2 hs
    go_wp2
    go_ret
    exact ⟨rfl, rfl⟩
theorem strs_inj : ∀ {a b : List ByteArray}, (ChangeShapes.strs a : List (DataW Unit)) = ChangeShapes.strs b → a = b := by
  intro a b h
  have h1 := congrArg (List.map fun y : DataW Unit => match y with | .lit (.string bs) => (⟨bs.toArray⟩ : ByteArray) | _ => ByteArray.empty) h
  unfold ChangeShapes.strs at h1
  rw [List.map_map, List.map_map] at h1
  have h2 : ∀ l : List ByteArray, l.map ((fun y : DataW Unit => match y with | .lit (.string bs) => (⟨bs.toArray⟩ : ByteArray) | _ => ByteArray.empty) ∘ fun s => .lit (.string s.data.toList)) = l := fun l => by
    conv => rhs; rw [← List.map_id l]
    refine List.map_congr_left fun s _ => ?_
    cases s; simp
  rw [h2, h2] at h1
  exact h1
/-- What 'laid' gives a walk. -/
theorem kinds_of_vars {W : World} {nm : String} (hn : Tryz.prog.globalNamed nm = some 10) (ht : (Tryz.prog.globals[10]?).map (·.type) = some 29) {ps : List MemPlace} (h : DataW.LaidVars Tryz.prog W [(nm, kindsD)] ps) : KindsW W := by
  obtain ⟨g0, t0, cs0, f0, p0, q0, hg0, ht0, hv0, hd0, hr, e0⟩ := h
  obtain rfl := Option.some.inj (hn.symm.trans hg0)
  obtain rfl := Option.some.inj (ht.symm.trans ht0)
  obtain ⟨l0⟩ := cs0
  rcases ChangeShapes.open_strings Tryz.underlying29 Tryz.underlying9 (by kernel_rfl) hd0 with ⟨_, h2⟩ | ⟨a, len, cap, ss, hcs, _, hl, hm, hlen, hx, hcell, _⟩
  · simp [kindsD] at h2
  · simp only at hcs
    subst hcs
    simp only [if_true] at hlen
    have hx1 := congrArg Prod.fst hx
    simp only [kindsD] at hx1
    have hx2 : (ChangeShapes.strs kindsC : List (DataW Unit)) = ChangeShapes.strs (ss.take len) := by injection hx1
    have hk := strs_inj hx2
    have hl9 : len = 9 := by
      have := congrArg List.length hk
      rw [List.length_take, hlen] at this
      have h9 : kindsC.length = 9 := rfl
      omega
    subst hl9
    have hc0 := hcell 0 (by omega)
    have hsp : a.spot = none := by
      have := World.cell?_spot hc0
      unfold Addr.add at this
      split at this
      · assumption
      · simp_all
    obtain ⟨g, off, sp⟩ := a
    simp only at hsp
    subst hsp
    refine ⟨g, off, cap, ?_, fun i x hi => ?_⟩
    · simpa using World.var?_cell hg0 hv0 0
    · have hlt := (List.getElem?_eq_some_iff.1 hi).1
      have h9 : kindsC.length = 9 := rfl
      have := hcell i (by omega)
      rw [Go.WideShapes.add_plain] at this
      rw [this]
      have hi2 := hi
      rw [hk, List.getElem?_take, if_pos (by omega)] at hi2
      rw [List.getD_eq_getElem?_getD, hi2]; rfl
end Go.Proofs.YtppihkneeolomaaGreatDoor
end
/- What clients may do, in plain: the program's words. -/
section
namespace Go.Proofs.YtppihkneeolomaaGreatDoor
open Go.RowKit Qs Qh
def kEnter : ByteArray := ⟨#[101, 110, 116, 101, 114]⟩
def kLeave : ByteArray := ⟨#[108, 101, 97, 118, 101]⟩
def kRest : ByteArray := ⟨#[114, 101, 115, 116]⟩
def kWait : ByteArray := ⟨#[119, 97, 105, 116]⟩
def kRead : ByteArray := ⟨#[114, 101, 97, 100]⟩
def kPut : ByteArray := ⟨#[112, 117, 116]⟩
def kDrop : ByteArray := ⟨#[100, 114, 111, 112]⟩
def kLater : ByteArray := ⟨#[108, 97, 116, 101, 114]⟩
def kFlush : ByteArray := ⟨#[102, 108, 117, 115, 104]⟩
/-- A thread's state: how deep, whether something is retired, waited behind it, whether it is unsafe. -/
structure CSt where
  d : Nat
  r : Bool
  w : Bool
  u : Bool
deriving DecidableEq
/-- An op's fault, and the state behind it. -/
def cfOp (s : CSt) (x : ROp) : Int × CSt :=
  if memK kindsC x.1 = false ∨ (x.1 ≠ kPut ∧ x.2 ≠ 0) then (3, s)
  else if x.1 = kPut ∧ (x.2 < 1 ∨ 1000 < x.2) then (2, s)
  else if x.1 = kEnter then (0, { s with d := s.d + 1 })
  else if x.1 = kLeave then (if s.d = 0 then (8, s) else (0, { s with d := s.d - 1 }))
  else if x.1 = kRest ∨ x.1 = kWait ∨ x.1 = kFlush then (if s.d ≠ 0 then (8, s) else (0, { s with w := s.w || decide (x.1 ≠ kRest) }))
  else if x.1 = kRead then (if s.d = 0 then (8, s) else (0, s))
  else if x.1 = kPut then (if s.d ≠ 0 ∨ s.r = true then (8, s) else (0, { s with r := true, w := false }))
  else (if s.r = false then (5, s) else (0, { s with r := false, u := s.u || (decide (x.1 = kDrop) && !s.w) }))
/-- A thread's ops: the first fault, and the state there. -/
def cRun : CSt → List ROp → Int × CSt
  | s, [] => (0, s)
  | s, x :: l => if (cfOp s x).1 ≠ 0 then cfOp s x else cRun (cfOp s x).2 l
def c0 : CSt := ⟨0, false, false, false⟩
def cRowF (l : List ROp) : Option Int := if (cRun c0 l).1 ≠ 0 then some (cRun c0 l).1 else if (cRun c0 l).2.d ≠ 0 then some 8 else none
def cSafe (l : List ROp) : Bool := !(cRun c0 l).2.u
def cfG (ll : List (List ROp)) : Int × Int := if manyB ll then allR cRowF 0 ll else (2, -1)
/-- Is it safe? Where there is no fault. -/
def csG (ll : List (List ROp)) : Bool := decide ((cfG ll).1 = 0) && ll.all cSafe
theorem cRun_take_succ {x : ROp} {s : CSt} : ∀ (l : List ROp) (q : Nat) (s0 : CSt), l[q]? = some x → cRun s0 (l.take q) = (0, s) → cRun s0 (l.take (q + 1)) = (if (cfOp s x).1 ≠ 0 then cfOp s x else (0, (cfOp s x).2))
  | [], q, s0, h, _ => by simp at h
  | y :: l, 0, s0, h, h0 => by
    simp at h; subst h
    simp only [List.take_zero, cRun, Prod.mk.injEq, true_and] at h0
    subst h0
    simp [cRun]
  | y :: l, q + 1, s0, h, h0 => by
    rw [List.take_succ_cons] at h0 ⊢
    unfold cRun at h0 ⊢
    by_cases hf : (cfOp s0 y).1 ≠ 0
    · rw [if_pos hf] at h0
      rw [h0] at hf; exact absurd rfl hf
    · rw [if_neg hf] at h0 ⊢
      exact cRun_take_succ l q _ (by simpa using h) h0
theorem cRun_fault {x : ROp} {s : CSt} : ∀ (l : List ROp) (q : Nat) (s0 : CSt), l[q]? = some x → cRun s0 (l.take q) = (0, s) → (cfOp s x).1 ≠ 0 → cRun s0 l = cfOp s x
  | [], q, s0, h, _, _ => by simp at h
  | y :: l, 0, s0, h, h0, hf => by
    simp at h; subst h
    simp only [List.take_zero, cRun, Prod.mk.injEq, true_and] at h0
    subst h0
    unfold cRun
    rw [if_pos hf]
  | y :: l, q + 1, s0, h, h0, hf => by
    rw [List.take_succ_cons] at h0
    unfold cRun at h0 ⊢
    by_cases hg : (cfOp s0 y).1 ≠ 0
    · rw [if_pos hg] at h0
      rw [h0] at hg; exact absurd rfl hg
    · rw [if_neg hg] at h0 ⊢
      exact cRun_fault l q _ (by simpa using h) h0 hf
theorem cfOp_num (s : CSt) (x : ROp) : (cfOp s x).1 = 0 ∨ (cfOp s x).1 = 2 ∨ (cfOp s x).1 = 3 ∨ (cfOp s x).1 = 5 ∨ (cfOp s x).1 = 8 := by
  unfold cfOp
  repeat' split
  all_goals simp
theorem cRun_num : ∀ (l : List ROp) (s : CSt), (cRun s l).1 = 0 ∨ (cRun s l).1 = 2 ∨ (cRun s l).1 = 3 ∨ (cRun s l).1 = 5 ∨ (cRun s l).1 = 8
  | [], s => .inl rfl
  | x :: l, s => by
    unfold cRun
    split
    · exact cfOp_num s x
    · exact cRun_num l _
theorem cRowF_num {l : List ROp} {c : Int} (h : cRowF l = some c) : c = 2 ∨ c = 3 ∨ c = 5 ∨ c = 8 := by
  unfold cRowF at h
  split at h
  · rename_i hn
    have := cRun_num l c0
    have hc := Option.some.inj h
    omega
  · split at h
    · have := Option.some.inj h; omega
    · cases h
theorem cfG_num (ll : List (List ROp)) : cfG ll = (0, -1) ∨ (cfG ll).1 = 2 ∨ (cfG ll).1 = 3 ∨ (cfG ll).1 = 5 ∨ (cfG ll).1 = 8 := by
  unfold cfG
  split
  · rcases allR_cases (rf := cRowF) ll 0 with ⟨h, _⟩ | ⟨k, l', c, h1, h2, h3, h4⟩
    · exact .inl h
    · rw [h3]; exact .inr (cRowF_num h2)
  · exact .inr (.inl rfl)
end Go.Proofs.YtppihkneeolomaaGreatDoor
end
/- quiescentlaw2.faulted -/
section
namespace Go.Proofs.YtppihkneeolomaaGreatDoor
open Go.RowKit Qs Qh
variable {a : Nat → Addr} {w w' : World} {v : Value} {c p : Int}
theorem faulted2_any (E : ErrsAt w a) (h : ErrIs a w v c p) (c' p' : Int) : Calls Tryz.prog 33 #[v, .agg #[.int .i64 c', .int .i64 p']] w fun e w' => e = .returned (.bool (faultB c p c' p')) ∧ Mod noF w w' := by
  have hq := (Mod.refl noF w).alloc (.cells #[.int .i64 c', .int .i64 p'] 27)
  have Hc := Lib.hid (code_any (E.keep hq) (h.keep hq (fun _ _ e => e)))
  have f0 : (w.alloc (.cells #[.int .i64 c', .int .i64 p'] 27)).cell? ⟨w.heap.size, 0, none⟩ = some (.int .i64 c') := by simp
  have f1 : (w.alloc (.cells #[.int .i64 c', .int .i64 p'] 27)).cell? ⟨w.heap.size, 1, none⟩ = some (.int .i64 p') := by simp
  have Hf0 := Lib.hid f0
  have Hf1 := Lib.hid f1
  clear E h hq f0 f1
  unfold faultB
  by_cases h1 : c = c'
  · subst h1
    by_cases h2 : c = 0
    · subst h2
      go_enter Tryz.func33, Tryz.ntmps33
      go_wp2_with fail
      refine Hc.out.mono ?_
      rintro e w1 ⟨rfl, hm⟩
      have g0 := hm.cell Hf0.out (fun e => e)
      have g1 := hm.cell Hf1.out (fun e => e)
      have Hm := Lib.hid hm
      clear hm
      go_wp2
      go_ret
      exact ⟨rfl, ((Mod.refl noF w).alloc _).trans0 Hm.out⟩
    · have d2 : (c == 0) = false := by simpa using h2
      have d3 : decide (c = 0) = false := by simpa using h2
      by_cases h3 : p = p'
      · subst h3
        rw [d3]
        go_enter Tryz.func33, Tryz.ntmps33
        go_wp2_with fail
        refine Hc.out.mono ?_
        rintro e w1 ⟨rfl, hm⟩
        have g0 := hm.cell Hf0.out (fun e => e)
        have g1 := hm.cell Hf1.out (fun e => e)
        have Hm := Lib.hid hm
        clear hm
        go_wp2
        go_ret
        exact ⟨by simp, ((Mod.refl noF w).alloc _).trans0 Hm.out⟩
      · have d4 : (p == p') = false := by simpa using h3
        have d5 : decide (p = p') = false := by simpa using h3
        rw [d3, d5]
        go_enter Tryz.func33, Tryz.ntmps33
        go_wp2_with fail
        refine Hc.out.mono ?_
        rintro e w1 ⟨rfl, hm⟩
        have g0 := hm.cell Hf0.out (fun e => e)
        have g1 := hm.cell Hf1.out (fun e => e)
        have Hm := Lib.hid hm
        clear hm
        go_wp2
        go_ret
        exact ⟨by simp, ((Mod.refl noF w).alloc _).trans0 Hm.out⟩
  · have d1 : (c == c') = false := by simpa using h1
    have d5 : decide (c = c') = false := by simpa using h1
    rw [d5]
    go_enter Tryz.func33, Tryz.ntmps33
    go_wp2_with fail
    refine Hc.out.mono ?_
    rintro e w1 ⟨rfl, hm⟩
    have g0 := hm.cell Hf0.out (fun e => e)
    have g1 := hm.cell Hf1.out (fun e => e)
    have Hm := Lib.hid hm
    clear hm
    go_wp2
    go_ret
    exact ⟨by simp, ((Mod.refl noF w).alloc _).trans0 Hm.out⟩
end Go.Proofs.YtppihkneeolomaaGreatDoor
end
