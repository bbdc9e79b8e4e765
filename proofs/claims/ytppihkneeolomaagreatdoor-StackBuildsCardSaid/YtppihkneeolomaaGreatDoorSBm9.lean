/- Texts that belong together, joined. -/
import Derived.Test.YtppihkneeolomaaGreatDoorSBm8
import Derived.Test.YtppihkneeolomaaGreatDoorSBm6
import Derived.Test.YtppihkneeolomaaGreatDoorSBm1
import Derived.Test.YtppihkneeolomaaGreatDoorSBm7
import Derived.Test.YtppihkneeolomaaGreatDoorSBm5
import Derived.Test.YtppihkneeolomaaGreatDoorSBSkinds2
import Derived.Test.YtppihkneeolomaaGreatDoorSBFaultCode
import Derived.LaidLaws
import Derived.SliceStrings
import Derived.ChangeShapes
import Derived.Test.YtppihkneeolomaaGreatDoorSBm3
import Derived.ChangeArms
set_option linter.unusedVariables false
set_option linter.unusedSimpArgs false
set_option linter.unusedSectionVars false
/- package client: a maker's list. -/
section
namespace Go.Proofs.YtppihkneeolomaaGreatDoor
open Go.RowKit Qs Qh
variable {N0 K tn f : Nat} {big : Prop} {nx : Int} {w w1 w2 : World} {b k : Nat} {v v1 v2 : Value} {l : List Instr}
theorem Chain.at0 {w0 : World} {o : Nat} {v0 : Value} (C : Chain w0 b o v0 l w) {j : Nat} (hj : j ≠ o) {u : Value} (h : w0.cell? ⟨b, j, none⟩ = some u) : w.cell? ⟨b, j, none⟩ = some u := by
  obtain ⟨hb, v, E, G⟩ := C
  exact G.cells j _ hj h
set_option maxHeartbeats 16000000 in
theorem mklist_ok (hT : big → lowT N0) (htn : tn < 6) (M : MkA N0 big f (tn : Nat) nx w b v l k) (hl : l.length ≤ 200000) :
    Calls Tryz.prog 97 #[.pointer (some ⟨b, 0, none⟩)] w fun e w' => e = .returned (.int .i64 ((tn % 4 : Nat) : Int)) ∧ ∃ v', MkA N0 big f (tn : Nat) nx w' b v' (l ++ [⟨6, 2, 5, ((1 + tn / 4 : Nat) : Int), []⟩]) k ∧ MkStep w b v w' v' := by
  have HM := Lib.hid M
  have Hc2 := Lib.hid M.c2
  have c2 := M.c2
  have hwr : IntKind.i64.wrap (1 + IntKind.i64.wrap ((tn : Int) / 4)) = ((1 + tn / 4 : Nat) : Int) := by
    rcases (by omega : tn = 0 ∨ tn = 1 ∨ tn = 2 ∨ tn = 3 ∨ tn = 4 ∨ tn = 5) with rfl | rfl | rfl | rfl | rfl | rfl <;> decide
  clear M
  go_enter Tryz.func97, Tryz.ntmps97
  have HC := Lib.hid (Chain.start HM.out.m.emit)
  go_wp2
  refine wp_region_held_drew (S := fun W => W.cell? ⟨b, 2, none⟩ = some (.int .i64 ((tn : Nat) : Int))) (by kernel_rfl) ((Mod.refl noF _).drew.cell Hc2.out (fun e => e)) (fun hHeld => ?_)
  refine wpAnyH_take (i := 0) (oi := ?oRx0) (v := ?vRx0) ?qRx0 (by kernel_rfl) ?fRx0 ?gRx0 ?pRx0 ?uRx0 (by assumption) ?rRx0
  case qRx0 => (rw [List.getElem?_toArray]; rfl)
  case fRx0 => kernel_rfl
  case gRx0 => kernel_rfl
  case pRx0 => exact (fun _ _ _ h => h)
  case uRx0 => (refine Or.inl ⟨by rfl, ?_⟩; intro w hSw; (try dsimp only at hSw); go_simp; (try rw [if_neg (by omega)]); try with_reducible rfl)
  try simp only [Act.put, List.setIfInBounds_toArray, List.set_cons_zero, List.set_cons_succ]
  refine wpAnyH_take (i := 1) (oi := ?oRx1) (v := ?vRx1) ?qRx1 (by kernel_rfl) ?fRx1 ?gRx1 ?pRx1 ?uRx1 (by assumption) ?rRx1
  case qRx1 => (rw [List.getElem?_toArray]; rfl)
  case fRx1 => kernel_rfl
  case gRx1 => kernel_rfl
  case pRx1 => exact (fun _ _ _ h => h)
  case uRx1 => (refine Or.inl ⟨by rfl, ?_⟩; intro w hSw; (try dsimp only at hSw); go_simp; (try rw [if_neg (by omega)]); try with_reducible rfl)
  try simp only [Act.put, List.setIfInBounds_toArray, List.set_cons_zero, List.set_cons_succ]
  refine wpAnyH_take (i := 2) (oi := ?oRx2) (v := ?vRx2) ?qRx2 (by kernel_rfl) ?fRx2 ?gRx2 ?pRx2 ?uRx2 (by assumption) ?rRx2
  case qRx2 => (rw [List.getElem?_toArray]; rfl)
  case fRx2 => kernel_rfl
  case gRx2 => kernel_rfl
  case pRx2 => exact (fun _ _ _ h => h)
  case uRx2 => (refine Or.inl ⟨by rfl, ?_⟩; intro w hSw; (try dsimp only at hSw); go_simp; (try rw [if_neg (by omega)]); try with_reducible rfl)
  try simp only [Act.put, List.setIfInBounds_toArray, List.set_cons_zero, List.set_cons_succ]
  refine wpAnyH_take (i := 3) (oi := ?oRx3) (v := ?vRx3) ?qRx3 (by kernel_rfl) ?fRx3 ?gRx3 ?pRx3 ?uRx3 (by assumption) ?rRx3
  case qRx3 => (rw [List.getElem?_toArray]; rfl)
  case fRx3 => kernel_rfl
  case gRx3 => kernel_rfl
  case pRx3 => exact (fun _ _ _ h => h)
  case uRx3 => (refine Or.inl ⟨by rfl, ?_⟩; intro w hSw; (try dsimp only at hSw); go_simp; (try rw [if_neg (by omega)]); try with_reducible rfl)
  try simp only [Act.put, List.setIfInBounds_toArray, List.set_cons_zero, List.set_cons_succ]
  refine wpAnyH_take (i := 4) (oi := ?oRx4) (v := ?vRx4) ?qRx4 (by kernel_rfl) ?fRx4 ?gRx4 ?pRx4 ?uRx4 (by assumption) ?rRx4
  case qRx4 => (rw [List.getElem?_toArray]; rfl)
  case fRx4 => kernel_rfl
  case gRx4 => kernel_rfl
  case pRx4 => exact (fun _ _ _ h => h)
  case uRx4 => (refine Or.inl ⟨by rfl, ?_⟩; intro w hSw; (try dsimp only at hSw); go_simp; (try rw [if_neg (by omega)]); try with_reducible rfl)
  try simp only [Act.put, List.setIfInBounds_toArray, List.set_cons_zero, List.set_cons_succ]
  refine wpAnyH_take (i := 5) (oi := ?oRx5) (v := ?vRx5) ?qRx5 (by kernel_rfl) ?fRx5 ?gRx5 ?pRx5 ?uRx5 (by assumption) ?rRx5
  case qRx5 => (rw [List.getElem?_toArray]; rfl)
  case fRx5 => kernel_rfl
  case gRx5 => kernel_rfl
  case pRx5 => exact (fun _ _ _ h => h)
  case uRx5 => (refine Or.inl ⟨by rfl, ?_⟩; intro w hSw; (try dsimp only at hSw); go_simp; (try rw [if_neg (by omega)]); try with_reducible rfl)
  try simp only [Act.put, List.setIfInBounds_toArray, List.set_cons_zero, List.set_cons_succ]
  refine wpAnyH_take (i := 6) (oi := ?oRx6) (v := ?vRx6) ?qRx6 (by kernel_rfl) ?fRx6 ?gRx6 ?pRx6 ?uRx6 (by assumption) ?rRx6
  case qRx6 => (rw [List.getElem?_toArray]; rfl)
  case fRx6 => kernel_rfl
  case gRx6 => kernel_rfl
  case pRx6 => exact (fun _ _ _ h => h)
  case uRx6 => (refine Or.inl ⟨by rfl, ?_⟩; intro w hSw; (try dsimp only at hSw); go_simp; (try rw [if_neg (by omega)]); try with_reducible rfl)
  try simp only [Act.put, List.setIfInBounds_toArray, List.set_cons_zero, List.set_cons_succ]
  refine wpAnyH_take (i := 7) (oi := ?oRx7) (v := ?vRx7) ?qRx7 (by kernel_rfl) ?fRx7 ?gRx7 ?pRx7 ?uRx7 (by assumption) ?rRx7
  case qRx7 => (rw [List.getElem?_toArray]; rfl)
  case fRx7 => kernel_rfl
  case gRx7 => kernel_rfl
  case pRx7 => exact (fun _ _ _ h => h)
  case uRx7 => (refine Or.inl ⟨by rfl, ?_⟩; intro w hSw; (try dsimp only at hSw); go_simp; (try rw [if_neg (by omega)]); try with_reducible rfl)
  try simp only [Act.put, List.setIfInBounds_toArray, List.set_cons_zero, List.set_cons_succ]
  refine wpAnyH_take (i := 8) (oi := ?oRx8) (v := ?vRx8) ?qRx8 (by kernel_rfl) ?fRx8 ?gRx8 ?pRx8 ?uRx8 (by assumption) ?rRx8
  case qRx8 => (rw [List.getElem?_toArray]; rfl)
  case fRx8 => kernel_rfl
  case gRx8 => kernel_rfl
  case pRx8 => exact (fun _ _ _ h => h)
  case uRx8 => (refine Or.inl ⟨by rfl, ?_⟩; intro w hSw; (try dsimp only at hSw); go_simp; (try rw [if_neg (by omega)]); try with_reducible rfl)
  try simp only [Act.put, List.setIfInBounds_toArray, List.set_cons_zero, List.set_cons_succ]
  refine Mk.em_spine (fun _ => ((1 + tn / 4 : Nat) : Int)) (items := [⟨some (9, 12), 10, 13⟩]) (E := [⟨6, [.c 2, .c 5, .t 11], [], 0, 0, []⟩]) (r0 := 5) (by kernel_rfl) (by kernel_rfl) (by kernel_rfl) (by rfl) ?lbR ?tvR ?moR (by rfl) (by rfl) ?lenR (fun w' l' C => C.at0 (by omega) Hc2.out) (HC.out.quiet (Mod.refl _ _).drew) (by kernel_rfl) ?_
  case lbR => (intro e he hk; simp only [List.mem_cons, List.not_mem_nil, or_false] at he; rcases he with rfl <;> (first | (simp at hk; done) | exact rfl))
  case tvR => (intro e he k hk; simp only [List.mem_cons, List.not_mem_nil, or_false] at he; rcases he with rfl <;> (first | (simp at hk; done) | (simp at hk; subst hk; exact congrArg (Value.int .i64) (show (1 : Int) + (tn : Int) / 4 = ((1 + tn / 4 : Nat) : Int) by omega))))
  case moR => (intro e he hk; simp only [List.mem_cons, List.not_mem_nil, or_false] at he; rcases he with rfl <;> (first | (simp at hk; done) | exact rfl))
  case lenR => (simp [Mk.EmC.code, Mk.EmC.ins]; omega)
  intro U xR C hU
  have u13 : U 13 = _ := hU 0 _ rfl
  simp only [spTmps, SpI.tmps, List.flatMap_cons, List.flatMap_nil, Option.map_some, Option.map_none, Option.toList_some, Option.toList_none, List.cons_append, List.nil_append, List.append_nil, patch, List.foldl_cons, List.foldl_nil, Act.put, List.setIfInBounds_toArray, List.set_cons_zero, List.set_cons_succ, u13]
  generalize U 12 = s12 at *
  clear u13 hU hHeld
  have hc2 := C.at0 (by omega) Hc2.out
  have hfin : ∃ v' : Value, MkA N0 big f (tn : Nat) nx xR b v' (l ++ [⟨6, 2, 5, ((1 + tn / 4 : Nat) : Int), []⟩]) k ∧ MkStep w b v xR v' := HM.out.chain hT C
  have Hfin := Lib.hid hfin
  clear hfin C
  go_wp2
  go_ret
  exact ⟨congrArg (fun x => Ending.returned (.int .i64 x)) (show (tn : Int) % 4 = ((tn % 4 : Nat) : Int) by omega), Hfin.out⟩
end Go.Proofs.YtppihkneeolomaaGreatDoor
end
/- package client: a node goes onto a thread's list. -/
section
namespace Go.Proofs.YtppihkneeolomaaGreatDoor
open Go.RowKit Qs Qh
variable {N0 K tn f : Nat} {big : Prop} {nx : Int} {w w1 w2 : World} {b k : Nat} {v v1 v2 : Value} {l : List Instr}
set_option maxHeartbeats 16000000 in
theorem later_ok (HF : FreshH N0 big f (tn : Nat) nx K) (hT : big → lowT N0) (htn : tn < 6) (M : MkA N0 big f (tn : Nat) nx w b v l k) (hk : k < K) (hl : l.length ≤ 100000) :
    Calls Tryz.prog 77 #[.pointer (some ⟨b, 0, none⟩)] w fun e w' => e = .returned (.tuple #[]) ∧ ∃ v', MkA N0 big f (tn : Nat) nx w' b v' (l ++ Qc.laterBlk (Qu.labN (k + 1)) tn nx) (k + 1) ∧ MkStep w b v w' v' := by
  have HM := Lib.hid M
  have Hfr := Lib.hid (HF w b v l k hk M)
  unfold Qc.laterBlk
  generalize Qu.labN (k + 1) = lb at *
  clear M HF
  go_enter Tryz.func77, Tryz.ntmps77
  go_wp2_with fail
  refine Hfr.out.mono ?_
  rintro e w1 ⟨rfl, M1, S1⟩
  have HM1 := Lib.hid M1
  have HS1 := Lib.hid S1
  have HC1 := Lib.hid (Chain.start M1.m.emit)
  clear M1 S1
  go_wp2_with fail
  refine (to1_chain (HC1.out.quiet ((Mod.refl _ _).alloc _)) (by omega) 14 _ rfl lb _ rfl w1.heap.size 3 1 (by simp) (by simp)).mono ?_
  rintro e w2 ⟨rfl, C⟩
  obtain ⟨v2, M2, S2⟩ := HM1.out.chain hT C
  have HM2 := Lib.hid M2
  have HS2 := Lib.hid (HS1.out.trans HM.out.lt S2)
  clear C M2 S2 HS1 HC1
  go_wp2_with fail
  refine (mklist_ok hT htn HM2.out (by simp; omega)).mono ?_
  rintro e w3 ⟨rfl, v3, M3, S3⟩
  have HM3 := Lib.hid M3
  have HS3 := Lib.hid (HS2.out.trans HM.out.lt S3)
  have Hc3 := Lib.hid M3.c3
  have HC := Lib.hid (Chain.start M3.m.emit)
  clear M3 S3 HS2 HM2
  go_wp2
  refine wp_region_held_drew (S := fun W => W.cell? ⟨b, 3, none⟩ = some (.int .i64 nx)) (by kernel_rfl) ((Mod.refl noF _).drew.cell Hc3.out (fun e => e)) (fun hHeld => ?_)
  refine wpAnyH_take (i := 0) (oi := ?oRx0) (v := ?vRx0) ?qRx0 (by kernel_rfl) ?fRx0 ?gRx0 ?pRx0 ?uRx0 (by assumption) ?rRx0
  case qRx0 => (rw [List.getElem?_toArray]; rfl)
  case fRx0 => kernel_rfl
  case gRx0 => kernel_rfl
  case pRx0 => exact (fun _ _ _ h => h)
  case uRx0 => (refine Or.inl ⟨by rfl, ?_⟩; intro w hSw; (try dsimp only at hSw); go_simp; (try rw [if_neg (by omega)]); try with_reducible rfl)
  try simp only [Act.put, List.setIfInBounds_toArray, List.set_cons_zero, List.set_cons_succ]
  refine wpAnyH_take (i := 1) (oi := ?oRx1) (v := ?vRx1) ?qRx1 (by kernel_rfl) ?fRx1 ?gRx1 ?pRx1 ?uRx1 (by assumption) ?rRx1
  case qRx1 => (rw [List.getElem?_toArray]; rfl)
  case fRx1 => kernel_rfl
  case gRx1 => kernel_rfl
  case pRx1 => exact (fun _ _ _ h => h)
  case uRx1 => (refine Or.inl ⟨by rfl, ?_⟩; intro w hSw; (try dsimp only at hSw); go_simp; (try rw [if_neg (by omega)]); try with_reducible rfl)
  try simp only [Act.put, List.setIfInBounds_toArray, List.set_cons_zero, List.set_cons_succ]
  refine wpAnyH_take (i := 2) (oi := ?oRx2) (v := ?vRx2) ?qRx2 (by kernel_rfl) ?fRx2 ?gRx2 ?pRx2 ?uRx2 (by assumption) ?rRx2
  case qRx2 => (rw [List.getElem?_toArray]; rfl)
  case fRx2 => kernel_rfl
  case gRx2 => kernel_rfl
  case pRx2 => exact (fun _ _ _ h => h)
  case uRx2 => (refine Or.inl ⟨by rfl, ?_⟩; intro w hSw; (try dsimp only at hSw); go_simp; (try rw [if_neg (by omega)]); try with_reducible rfl)
  try simp only [Act.put, List.setIfInBounds_toArray, List.set_cons_zero, List.set_cons_succ]
  refine wpAnyH_take (i := 3) (oi := ?oRx3) (v := ?vRx3) ?qRx3 (by kernel_rfl) ?fRx3 ?gRx3 ?pRx3 ?uRx3 (by assumption) ?rRx3
  case qRx3 => (rw [List.getElem?_toArray]; rfl)
  case fRx3 => kernel_rfl
  case gRx3 => kernel_rfl
  case pRx3 => exact (fun _ _ _ h => h)
  case uRx3 => (refine Or.inl ⟨by rfl, ?_⟩; intro w hSw; (try dsimp only at hSw); go_simp; (try rw [if_neg (by omega)]); try with_reducible rfl)
  try simp only [Act.put, List.setIfInBounds_toArray, List.set_cons_zero, List.set_cons_succ]
  refine wpAnyH_take (i := 6) (oi := ?oRx6) (v := ?vRx6) ?qRx6 (by kernel_rfl) ?fRx6 ?gRx6 ?pRx6 ?uRx6 (by assumption) ?rRx6
  case qRx6 => (rw [List.getElem?_toArray]; rfl)
  case fRx6 => kernel_rfl
  case gRx6 => kernel_rfl
  case pRx6 => exact (fun _ _ _ h => h)
  case uRx6 => (refine Or.inl ⟨by rfl, ?_⟩; intro w hSw; (try dsimp only at hSw); go_simp; (try rw [if_neg (by omega)]); try with_reducible rfl)
  try simp only [Act.put, List.setIfInBounds_toArray, List.set_cons_zero, List.set_cons_succ]
  refine wpAnyH_take (i := 7) (oi := ?oRx7) (v := ?vRx7) ?qRx7 (by kernel_rfl) ?fRx7 ?gRx7 ?pRx7 ?uRx7 (by assumption) ?rRx7
  case qRx7 => (rw [List.getElem?_toArray]; rfl)
  case fRx7 => kernel_rfl
  case gRx7 => kernel_rfl
  case pRx7 => exact (fun _ _ _ h => h)
  case uRx7 => (refine Or.inl ⟨by rfl, ?_⟩; intro w hSw; (try dsimp only at hSw); go_simp; (try rw [if_neg (by omega)]); try with_reducible rfl)
  try simp only [Act.put, List.setIfInBounds_toArray, List.set_cons_zero, List.set_cons_succ]
  refine wpAnyH_take (i := 8) (oi := ?oRx8) (v := ?vRx8) ?qRx8 (by kernel_rfl) ?fRx8 ?gRx8 ?pRx8 ?uRx8 (by assumption) ?rRx8
  case qRx8 => (rw [List.getElem?_toArray]; rfl)
  case fRx8 => kernel_rfl
  case gRx8 => kernel_rfl
  case pRx8 => exact (fun _ _ _ h => h)
  case uRx8 => (refine Or.inl ⟨by rfl, ?_⟩; intro w hSw; (try dsimp only at hSw); go_simp; (try rw [if_neg (by omega)]); try with_reducible rfl)
  try simp only [Act.put, List.setIfInBounds_toArray, List.set_cons_zero, List.set_cons_succ]
  refine wpAnyH_take (i := 9) (oi := ?oRx9) (v := ?vRx9) ?qRx9 (by kernel_rfl) ?fRx9 ?gRx9 ?pRx9 ?uRx9 (by assumption) ?rRx9
  case qRx9 => (rw [List.getElem?_toArray]; rfl)
  case fRx9 => kernel_rfl
  case gRx9 => kernel_rfl
  case pRx9 => exact (fun _ _ _ h => h)
  case uRx9 => (refine Or.inl ⟨by rfl, ?_⟩; intro w hSw; (try dsimp only at hSw); go_simp; (try rw [if_neg (by omega)]); try with_reducible rfl)
  try simp only [Act.put, List.setIfInBounds_toArray, List.set_cons_zero, List.set_cons_succ]
  refine wpAnyH_take (i := 12) (oi := ?oRx12) (v := ?vRx12) ?qRx12 (by kernel_rfl) ?fRx12 ?gRx12 ?pRx12 ?uRx12 (by assumption) ?rRx12
  case qRx12 => (rw [List.getElem?_toArray]; rfl)
  case fRx12 => kernel_rfl
  case gRx12 => kernel_rfl
  case pRx12 => exact (fun _ _ _ h => h)
  case uRx12 => (refine Or.inl ⟨by rfl, ?_⟩; intro w hSw; (try dsimp only at hSw); go_simp; (try rw [if_neg (by omega)]); try with_reducible rfl)
  try simp only [Act.put, List.setIfInBounds_toArray, List.set_cons_zero, List.set_cons_succ]
  refine wpAnyH_take (i := 17) (oi := ?oRx17) (v := ?vRx17) ?qRx17 (by kernel_rfl) ?fRx17 ?gRx17 ?pRx17 ?uRx17 (by assumption) ?rRx17
  case qRx17 => (rw [List.getElem?_toArray]; rfl)
  case fRx17 => kernel_rfl
  case gRx17 => kernel_rfl
  case pRx17 => exact (fun _ _ _ h => h)
  case uRx17 => (refine Or.inl ⟨by rfl, ?_⟩; intro w hSw; (try dsimp only at hSw); go_simp; (try rw [if_neg (by omega)]); try with_reducible rfl)
  try simp only [Act.put, List.setIfInBounds_toArray, List.set_cons_zero, List.set_cons_succ]
  refine Mk.em_spine (fun k => if k = 23 then nx else ((tn % 4 : Nat) : Int)) (items := [⟨some (4, 18), 5, 19⟩, ⟨some (10, 24), 11, 25⟩, ⟨some (13, 27), 14, 28⟩, ⟨some (15, 29), 16, 30⟩, ⟨none, 18, 32⟩]) (E := [⟨6, [.c 0, .c 2, .t 17], [], 0, 0, []⟩, ⟨7, [.c 3, .c 0, .t 23], [], 0, 0, []⟩, ⟨7, [.c 2, .c 3, .t 26], [], 0, 0, []⟩, ⟨0, [.c 3, .c 0], [], 0, 0, []⟩, ⟨17, [], lb, 2, 31, []⟩]) (r0 := 16) (by kernel_rfl) (by kernel_rfl) (by kernel_rfl) (by rfl) ?lbR ?tvR ?moR (by rfl) (by rfl) ?lenR (fun w' l' C => C.at0 (by omega) Hc3.out) (HC.out.quiet (Mod.refl _ _).drew) (by kernel_rfl) ?_
  case lbR => (intro e he hk; simp only [List.mem_cons, List.not_mem_nil, or_false] at he; rcases he with rfl | rfl | rfl | rfl | rfl <;> (first | (simp at hk; done) | exact rfl))
  case tvR => (intro e he k hk; simp only [List.mem_cons, List.not_mem_nil, or_false] at he; rcases he with rfl | rfl | rfl | rfl | rfl <;> (first | (simp at hk; done) | (simp at hk; subst hk; rfl)))
  case moR => (intro e he hk; simp only [List.mem_cons, List.not_mem_nil, or_false] at he; rcases he with rfl | rfl | rfl | rfl | rfl <;> (first | (simp at hk; done) | exact rfl))
  case lenR => (simp [Mk.EmC.code, Mk.EmC.ins]; omega)
  intro U xR C hU
  have u19 : U 19 = _ := hU 0 _ rfl
  have u25 : U 25 = _ := hU 1 _ rfl
  have u28 : U 28 = _ := hU 2 _ rfl
  have u30 : U 30 = _ := hU 3 _ rfl
  have u32 : U 32 = _ := hU 4 _ rfl
  simp only [spTmps, SpI.tmps, List.flatMap_cons, List.flatMap_nil, Option.map_some, Option.map_none, Option.toList_some, Option.toList_none, List.cons_append, List.nil_append, List.append_nil, patch, List.foldl_cons, List.foldl_nil, Act.put, List.setIfInBounds_toArray, List.set_cons_zero, List.set_cons_succ, u19, u25, u28, u30, u32]
  generalize U 18 = s18 at *
  generalize U 24 = s24 at *
  generalize U 27 = s27 at *
  generalize U 29 = s29 at *
  clear u19 u25 u28 u30 u32 hU hHeld
  have hfin : ∃ v' : Value, MkA N0 big f (tn : Nat) nx xR b v' (l ++ [⟨14, 3, 0, 0, lb⟩, ⟨6, 2, 5, ((1 + tn / 4 : Nat) : Int), []⟩, ⟨6, 0, 2, ((tn % 4 : Nat) : Int), []⟩, ⟨7, 3, 0, nx, []⟩, ⟨7, 2, 3, ((tn % 4 : Nat) : Int), []⟩, ⟨0, 3, 0, 0, []⟩, ⟨17, 0, 0, 0, lb⟩]) (k + 1) ∧ MkStep w b v xR v' := by
    obtain ⟨v', M', S'⟩ := HM3.out.chain hT C
    simp only [List.append_assoc] at M'
    exact ⟨v', M', HS3.out.trans HM.out.lt S'⟩
  have Hfin := Lib.hid hfin
  clear hfin C
  (try simp only [Exit.inBlock, Exit.then])
  go_end0
  exact ⟨rfl, Hfin.out⟩
end Go.Proofs.YtppihkneeolomaaGreatDoor
end
/- package client: a thread's list is flushed. -/
section
namespace Go.Proofs.YtppihkneeolomaaGreatDoor
open Go.RowKit Qs Qh
variable {N0 K tn f : Nat} {big : Prop} {nx : Int} {w w1 w2 : World} {b k : Nat} {v v1 v2 : Value} {l : List Instr}
set_option maxHeartbeats 16000000 in
theorem flush_ok (HF : FreshH N0 big f (tn : Nat) nx K) (hT : big → lowT N0) (h1 : 1 ≤ f) (h4 : f ≤ 4) (htn : tn < 6) (M : MkA N0 big f (tn : Nat) nx w b v l k) (hk : k + 2 < K) (hK : K ≤ 120) (hl : l.length ≤ 90000) :
    Calls Tryz.prog 78 #[.pointer (some ⟨b, 0, none⟩)] w fun e w' => e = .returned (.tuple #[]) ∧ ∃ v', MkA N0 big f (tn : Nat) nx w' b v' (l ++ Qc.flushBlk f k tn nx) (k + 3) ∧ MkStep w b v w' v' := by
  have HM := Lib.hid M
  have hp := part4_ok HF hT h1 h4 M (by omega) hK (by omega)
  have Hp := Lib.hid hp
  have hlen : (preC (Qu.labN (k + 1)) (gcode f 4)).length ≤ 70 := by unfold preC; rw [List.length_map]; exact gcode_len h4 (by decide)
  have hf2 := fun w v l (M : MkA N0 big f (tn : Nat) nx w b v l (k + 1)) => HF w b v l (k + 1) (by omega) M
  have hf3 := fun w v l (M : MkA N0 big f (tn : Nat) nx w b v l (k + 1 + 1)) => HF w b v l (k + 1 + 1) (by omega) M
  have Hf2 := Lib.hid hf2
  have Hf3 := Lib.hid hf3
  unfold Qc.flushBlk Qc.part Qc.flushTail
  rw [show k + 2 = k + 1 + 1 from rfl, show k + 3 = k + 1 + 1 + 1 from rfl]
  generalize hpc : preC (Qu.labN (k + 1)) (gcode f 4) = pc at *
  generalize Qu.labN (k + 1 + 1) = la at *
  generalize Qu.labN (k + 1 + 1 + 1) = lb at *
  clear M HF hp hf2 hf3 hpc
  go_enter Tryz.func78, Tryz.ntmps78
  go_wp2_with fail
  refine Hp.out.mono ?_
  rintro e w1 ⟨rfl, v1, M1, S1⟩
  have HM1 := Lib.hid M1
  have HS1 := Lib.hid S1
  clear M1 S1
  go_wp2_with fail
  refine (Hf2.out _ _ _ HM1.out).mono ?_
  rintro e w2 ⟨rfl, M2, S2⟩
  have HM2 := Lib.hid M2
  have HS2 := Lib.hid (HS1.out.trans HM.out.lt S2)
  clear M2 S2 HS1 HM1
  go_wp2_with fail
  refine (Hf3.out _ _ _ HM2.out).mono ?_
  rintro e w3 ⟨rfl, M3, S3⟩
  have HM3 := Lib.hid M3
  have HS3 := Lib.hid (HS2.out.trans HM.out.lt S3)
  clear M3 S3 HS2 HM2
  go_wp2_with fail
  refine (mklist_ok hT htn HM3.out (by simp; omega)).mono ?_
  rintro e w4 ⟨rfl, v4, M4, S4⟩
  have HM4 := Lib.hid M4
  have HS4 := Lib.hid (HS3.out.trans HM.out.lt S4)
  have Hc3 := Lib.hid M4.c3
  have HC := Lib.hid (Chain.start M4.m.emit)
  clear M4 S4 HS3 HM3
  go_wp2
  refine wp_region_held_drew (S := fun W => W.cell? ⟨b, 3, none⟩ = some (.int .i64 nx)) (by kernel_rfl) ((Mod.refl noF _).drew.cell Hc3.out (fun e => e)) (fun hHeld => ?_)
  refine wpAnyH_take (i := 0) (oi := ?oRx0) (v := ?vRx0) ?qRx0 (by kernel_rfl) ?fRx0 ?gRx0 ?pRx0 ?uRx0 (by assumption) ?rRx0
  case qRx0 => (rw [List.getElem?_toArray]; rfl)
  case fRx0 => kernel_rfl
  case gRx0 => kernel_rfl
  case pRx0 => exact (fun _ _ _ h => h)
  case uRx0 => (refine Or.inl ⟨by rfl, ?_⟩; intro w hSw; (try dsimp only at hSw); go_simp; (try rw [if_neg (by omega)]); try with_reducible rfl)
  try simp only [Act.put, List.setIfInBounds_toArray, List.set_cons_zero, List.set_cons_succ]
  refine wpAnyH_take (i := 1) (oi := ?oRx1) (v := ?vRx1) ?qRx1 (by kernel_rfl) ?fRx1 ?gRx1 ?pRx1 ?uRx1 (by assumption) ?rRx1
  case qRx1 => (rw [List.getElem?_toArray]; rfl)
  case fRx1 => kernel_rfl
  case gRx1 => kernel_rfl
  case pRx1 => exact (fun _ _ _ h => h)
  case uRx1 => (refine Or.inl ⟨by rfl, ?_⟩; intro w hSw; (try dsimp only at hSw); go_simp; (try rw [if_neg (by omega)]); try with_reducible rfl)
  try simp only [Act.put, List.setIfInBounds_toArray, List.set_cons_zero, List.set_cons_succ]
  refine wpAnyH_take (i := 2) (oi := ?oRx2) (v := ?vRx2) ?qRx2 (by kernel_rfl) ?fRx2 ?gRx2 ?pRx2 ?uRx2 (by assumption) ?rRx2
  case qRx2 => (rw [List.getElem?_toArray]; rfl)
  case fRx2 => kernel_rfl
  case gRx2 => kernel_rfl
  case pRx2 => exact (fun _ _ _ h => h)
  case uRx2 => (refine Or.inl ⟨by rfl, ?_⟩; intro w hSw; (try dsimp only at hSw); go_simp; (try rw [if_neg (by omega)]); try with_reducible rfl)
  try simp only [Act.put, List.setIfInBounds_toArray, List.set_cons_zero, List.set_cons_succ]
  refine wpAnyH_take (i := 3) (oi := ?oRx3) (v := ?vRx3) ?qRx3 (by kernel_rfl) ?fRx3 ?gRx3 ?pRx3 ?uRx3 (by assumption) ?rRx3
  case qRx3 => (rw [List.getElem?_toArray]; rfl)
  case fRx3 => kernel_rfl
  case gRx3 => kernel_rfl
  case pRx3 => exact (fun _ _ _ h => h)
  case uRx3 => (refine Or.inl ⟨by rfl, ?_⟩; intro w hSw; (try dsimp only at hSw); go_simp; (try rw [if_neg (by omega)]); try with_reducible rfl)
  try simp only [Act.put, List.setIfInBounds_toArray, List.set_cons_zero, List.set_cons_succ]
  refine wpAnyH_take (i := 5) (oi := ?oRx5) (v := ?vRx5) ?qRx5 (by kernel_rfl) ?fRx5 ?gRx5 ?pRx5 ?uRx5 (by assumption) ?rRx5
  case qRx5 => (rw [List.getElem?_toArray]; rfl)
  case fRx5 => kernel_rfl
  case gRx5 => kernel_rfl
  case pRx5 => exact (fun _ _ _ h => h)
  case uRx5 => (refine Or.inl ⟨by rfl, ?_⟩; intro w hSw; (try dsimp only at hSw); go_simp; (try rw [if_neg (by omega)]); try with_reducible rfl)
  try simp only [Act.put, List.setIfInBounds_toArray, List.set_cons_zero, List.set_cons_succ]
  refine wpAnyH_take (i := 8) (oi := ?oRx8) (v := ?vRx8) ?qRx8 (by kernel_rfl) ?fRx8 ?gRx8 ?pRx8 ?uRx8 (by assumption) ?rRx8
  case qRx8 => (rw [List.getElem?_toArray]; rfl)
  case fRx8 => kernel_rfl
  case gRx8 => kernel_rfl
  case pRx8 => exact (fun _ _ _ h => h)
  case uRx8 => (refine Or.inl ⟨by rfl, ?_⟩; intro w hSw; (try dsimp only at hSw); go_simp; (try rw [if_neg (by omega)]); try with_reducible rfl)
  try simp only [Act.put, List.setIfInBounds_toArray, List.set_cons_zero, List.set_cons_succ]
  refine wpAnyH_take (i := 11) (oi := ?oRx11) (v := ?vRx11) ?qRx11 (by kernel_rfl) ?fRx11 ?gRx11 ?pRx11 ?uRx11 (by assumption) ?rRx11
  case qRx11 => (rw [List.getElem?_toArray]; rfl)
  case fRx11 => kernel_rfl
  case gRx11 => kernel_rfl
  case pRx11 => exact (fun _ _ _ h => h)
  case uRx11 => (refine Or.inl ⟨by rfl, ?_⟩; intro w hSw; (try dsimp only at hSw); go_simp; (try rw [if_neg (by omega)]); try with_reducible rfl)
  try simp only [Act.put, List.setIfInBounds_toArray, List.set_cons_zero, List.set_cons_succ]
  refine wpAnyH_take (i := 12) (oi := ?oRx12) (v := ?vRx12) ?qRx12 (by kernel_rfl) ?fRx12 ?gRx12 ?pRx12 ?uRx12 (by assumption) ?rRx12
  case qRx12 => (rw [List.getElem?_toArray]; rfl)
  case fRx12 => kernel_rfl
  case gRx12 => kernel_rfl
  case pRx12 => exact (fun _ _ _ h => h)
  case uRx12 => (refine Or.inl ⟨by rfl, ?_⟩; intro w hSw; (try dsimp only at hSw); go_simp; (try rw [if_neg (by omega)]); try with_reducible rfl)
  try simp only [Act.put, List.setIfInBounds_toArray, List.set_cons_zero, List.set_cons_succ]
  refine wpAnyH_take (i := 13) (oi := ?oRx13) (v := ?vRx13) ?qRx13 (by kernel_rfl) ?fRx13 ?gRx13 ?pRx13 ?uRx13 (by assumption) ?rRx13
  case qRx13 => (rw [List.getElem?_toArray]; rfl)
  case fRx13 => kernel_rfl
  case gRx13 => kernel_rfl
  case pRx13 => exact (fun _ _ _ h => h)
  case uRx13 => (refine Or.inl ⟨by rfl, ?_⟩; intro w hSw; (try dsimp only at hSw); go_simp; (try rw [if_neg (by omega)]); try with_reducible rfl)
  try simp only [Act.put, List.setIfInBounds_toArray, List.set_cons_zero, List.set_cons_succ]
  refine wpAnyH_take (i := 14) (oi := ?oRx14) (v := ?vRx14) ?qRx14 (by kernel_rfl) ?fRx14 ?gRx14 ?pRx14 ?uRx14 (by assumption) ?rRx14
  case qRx14 => (rw [List.getElem?_toArray]; rfl)
  case fRx14 => kernel_rfl
  case gRx14 => kernel_rfl
  case pRx14 => exact (fun _ _ _ h => h)
  case uRx14 => (refine Or.inl ⟨by rfl, ?_⟩; intro w hSw; (try dsimp only at hSw); go_simp; (try rw [if_neg (by omega)]); try with_reducible rfl)
  try simp only [Act.put, List.setIfInBounds_toArray, List.set_cons_zero, List.set_cons_succ]
  refine wpAnyH_take (i := 17) (oi := ?oRx17) (v := ?vRx17) ?qRx17 (by kernel_rfl) ?fRx17 ?gRx17 ?pRx17 ?uRx17 (by assumption) ?rRx17
  case qRx17 => (rw [List.getElem?_toArray]; rfl)
  case fRx17 => kernel_rfl
  case gRx17 => kernel_rfl
  case pRx17 => exact (fun _ _ _ h => h)
  case uRx17 => (refine Or.inl ⟨by rfl, ?_⟩; intro w hSw; (try dsimp only at hSw); go_simp; (try rw [if_neg (by omega)]); try with_reducible rfl)
  try simp only [Act.put, List.setIfInBounds_toArray, List.set_cons_zero, List.set_cons_succ]
  refine wpAnyH_take (i := 22) (oi := ?oRx22) (v := ?vRx22) ?qRx22 (by kernel_rfl) ?fRx22 ?gRx22 ?pRx22 ?uRx22 (by assumption) ?rRx22
  case qRx22 => (rw [List.getElem?_toArray]; rfl)
  case fRx22 => kernel_rfl
  case gRx22 => kernel_rfl
  case pRx22 => exact (fun _ _ _ h => h)
  case uRx22 => (refine Or.inl ⟨by rfl, ?_⟩; intro w hSw; (try dsimp only at hSw); go_simp; (try rw [if_neg (by omega)]); try with_reducible rfl)
  try simp only [Act.put, List.setIfInBounds_toArray, List.set_cons_zero, List.set_cons_succ]
  refine wpAnyH_take (i := 24) (oi := ?oRx24) (v := ?vRx24) ?qRx24 (by kernel_rfl) ?fRx24 ?gRx24 ?pRx24 ?uRx24 (by assumption) ?rRx24
  case qRx24 => (rw [List.getElem?_toArray]; rfl)
  case fRx24 => kernel_rfl
  case gRx24 => kernel_rfl
  case pRx24 => exact (fun _ _ _ h => h)
  case uRx24 => (refine Or.inl ⟨by rfl, ?_⟩; intro w hSw; (try dsimp only at hSw); go_simp; (try rw [if_neg (by omega)]); try with_reducible rfl)
  try simp only [Act.put, List.setIfInBounds_toArray, List.set_cons_zero, List.set_cons_succ]
  refine Mk.em_spine (fun k => if k = 27 then nx else ((tn % 4 : Nat) : Int)) (items := [⟨none, 4, 17⟩, ⟨some (6, 19), 7, 20⟩, ⟨some (9, 22), 10, 23⟩, ⟨some (15, 28), 16, 29⟩, ⟨some (18, 31), 19, 32⟩, ⟨some (20, 33), 21, 34⟩, ⟨none, 23, 36⟩, ⟨none, 25, 38⟩]) (E := [⟨17, [], la, 2, 16, []⟩, ⟨6, [.c 0, .c 2, .t 18], [], 0, 0, []⟩, ⟨14, [.c 0], lb, 1, 21, []⟩, ⟨6, [.c 1, .c 0, .t 27], [], 0, 0, []⟩, ⟨7, [.c 2, .c 1, .t 30], [], 0, 0, []⟩, ⟨11, [.c 0], [], 0, 0, []⟩, ⟨16, [], la, 1, 35, []⟩, ⟨17, [], lb, 2, 37, []⟩]) (r0 := 15) (by kernel_rfl) (by kernel_rfl) (by kernel_rfl) (by rfl) ?lbR ?tvR ?moR (by rfl) (by rfl) ?lenR (fun w' l' C => C.at0 (by omega) Hc3.out) (HC.out.quiet (Mod.refl _ _).drew) (by kernel_rfl) ?_
  case lbR => (intro e he hk; simp only [List.mem_cons, List.not_mem_nil, or_false] at he; rcases he with rfl | rfl | rfl | rfl | rfl | rfl | rfl | rfl <;> (first | (simp at hk; done) | exact rfl))
  case tvR => (intro e he k hk; simp only [List.mem_cons, List.not_mem_nil, or_false] at he; rcases he with rfl | rfl | rfl | rfl | rfl | rfl | rfl | rfl <;> (first | (simp at hk; done) | (simp at hk; subst hk; rfl)))
  case moR => (intro e he hk; simp only [List.mem_cons, List.not_mem_nil, or_false] at he; rcases he with rfl | rfl | rfl | rfl | rfl | rfl | rfl | rfl <;> (first | (simp at hk; done) | exact rfl))
  case lenR => (simp [Mk.EmC.code, Mk.EmC.ins]; omega)
  intro U xR C hU
  have u17 : U 17 = _ := hU 0 _ rfl
  have u20 : U 20 = _ := hU 1 _ rfl
  have u23 : U 23 = _ := hU 2 _ rfl
  have u29 : U 29 = _ := hU 3 _ rfl
  have u32 : U 32 = _ := hU 4 _ rfl
  have u34 : U 34 = _ := hU 5 _ rfl
  have u36 : U 36 = _ := hU 6 _ rfl
  have u38 : U 38 = _ := hU 7 _ rfl
  simp only [spTmps, SpI.tmps, List.flatMap_cons, List.flatMap_nil, Option.map_some, Option.map_none, Option.toList_some, Option.toList_none, List.cons_append, List.nil_append, List.append_nil, patch, List.foldl_cons, List.foldl_nil, Act.put, List.setIfInBounds_toArray, List.set_cons_zero, List.set_cons_succ, u17, u20, u23, u29, u32, u34, u36, u38]
  generalize U 19 = s19 at *
  generalize U 22 = s22 at *
  generalize U 28 = s28 at *
  generalize U 31 = s31 at *
  generalize U 33 = s33 at *
  clear u17 u20 u23 u29 u32 u34 u36 u38 hU hHeld
  have hfin : ∃ v' : Value, MkA N0 big f (tn : Nat) nx xR b v' (l ++ (pc ++ [⟨6, 2, 5, ((1 + tn / 4 : Nat) : Int), []⟩, ⟨17, 0, 0, 0, la⟩, ⟨6, 0, 2, ((tn % 4 : Nat) : Int), []⟩, ⟨14, 0, 0, 0, lb⟩, ⟨6, 1, 0, nx, []⟩, ⟨7, 2, 1, ((tn % 4 : Nat) : Int), []⟩, ⟨11, 0, 0, 0, []⟩, ⟨16, 0, 0, 0, la⟩, ⟨17, 0, 0, 0, lb⟩])) (k + 1 + 1 + 1) ∧ MkStep w b v xR v' := by
    obtain ⟨v', M', S'⟩ := HM4.out.chain hT C
    simp only [List.append_assoc] at M'
    exact ⟨v', M', HS4.out.trans HM.out.lt S'⟩
  have Hfin := Lib.hid hfin
  clear hfin C
  (try simp only [Exit.inBlock, Exit.then])
  go_end0
  exact ⟨rfl, Hfin.out⟩
end Go.Proofs.YtppihkneeolomaaGreatDoor
end
/- package stack: an op's code. -/
section
namespace Qc
open Qs Qu Go.Proofs.YtppihkneeolomaaGreatDoor
inductive SOp where
  | push (n : Int) | pop | flush
deriving DecidableEq
def pushBlk (p q : List UInt8) (n : Int) : List Instr := [⟨10, 3, 0, 0, []⟩, ⟨14, 3, 0, 0, p⟩, ⟨0, 0, n, 0, []⟩, ⟨7, 3, 0, 0, []⟩] ++ pushCode q ++ [⟨17, 0, 0, 0, p⟩]
def popBlk (q p : List UInt8) : List Instr := popCode q ++ [⟨14, 3, 0, 0, p⟩] ++ [⟨6, 0, 3, 0, []⟩] ++ [⟨18, 0, 0, 0, []⟩] ++ [⟨17, 0, 0, 0, p⟩]
/-- An op's code: labels from k + 1 on. -/
def sblk (f tn k : Nat) : SOp → List Instr
  | .push n => pushBlk (labN (k + 1)) (labN (k + 2)) n
  | .pop => part f k 0 ++ popBlk (labN (k + 2)) (labN (k + 3)) ++ part f (k + 3) 1 ++ laterBlk (labN (k + 5)) tn 2
  | .flush => flushBlk f k tn 2
def sinc : SOp → Nat
  | .push _ => 2
  | .pop => 5
  | .flush => 3
end Qc
namespace Go.Proofs.YtppihkneeolomaaGreatDoor
open Go.RowKit Qs Qh
variable {N0 K tn f : Nat} {big : Prop} {w w1 w2 : World} {b k : Nat} {v v1 v2 : Value} {l : List Instr}
set_option maxHeartbeats 16000000 in
theorem sop_k_flush (HF : FreshH N0 big f (tn : Nat) 2 K) (hT : big → lowT N0) (h1 : 1 ≤ f) (h4 : f ≤ 4) (htn : tn < 6) (M : MkA N0 big f (tn : Nat) 2 w b v l k) (hk : k + 5 ≤ K) (hK : K ≤ 120) (hl : l.length ≤ 80000) :
    Calls Tryz.prog 46 #[.pointer (some ⟨b, 0, none⟩), .agg #[.string ⟨#[102, 108, 117, 115, 104]⟩, .int .i64 0]] w fun e w' => e = .returned (.tuple #[]) ∧ ∃ v', MkA N0 big f (tn : Nat) 2 w' b v' (l ++ Qc.sblk f tn k .flush) (k + 3) ∧ MkStep w b v w' v' := by
  have hq := (Mod.refl noF w).alloc (.cells #[.string ⟨#[102, 108, 117, 115, 104]⟩, .int .i64 0] 88)
  have M1 := M.quiet hq
  have S1 := (MkStep.refl w b v).quiet hq
  have hbx : w.heap.size ≠ b := by have := M.lt; omega
  have hvx : v.ownBlock ≠ some w.heap.size := fun e => by have := M.vlt e; omega
  have e0 : ((⟨#[102, 108, 117, 115, 104]⟩ : ByteArray).toList == (⟨#[112, 117, 115, 104]⟩ : ByteArray).toList) = false := by
    rw [ByteArray.toList_eq, ByteArray.toList_eq]; rfl
  have e1 : ((⟨#[102, 108, 117, 115, 104]⟩ : ByteArray).toList == (⟨#[112, 111, 112]⟩ : ByteArray).toList) = false := by
    rw [ByteArray.toList_eq, ByteArray.toList_eq]; rfl
  have e2 : ((⟨#[102, 108, 117, 115, 104]⟩ : ByteArray).toList == (⟨#[102, 108, 117, 115, 104]⟩ : ByteArray).toList) = true := by simp
  have HM := Lib.hid M
  have HM1 := Lib.hid M1
  have HS1 := Lib.hid S1
  have Hbx := Lib.hid hbx
  have Hvx := Lib.hid hvx
  have hc := flush_ok HF hT h1 h4 htn HM1.out (by omega) hK (by omega)
  have Hc := Lib.hid hc
  unfold Qc.sblk
  clear M M1 S1 hbx hvx HF hq hc
  go_enter Tryz.func46, Tryz.ntmps46
  go_wp2_with fail
  refine Hc.out.mono ?_
  rintro e w2 ⟨rfl, v2, M2, S2⟩
  have HM2 := Lib.hid M2
  have HS2 := Lib.hid (HS1.out.trans HM.out.lt S2)
  clear M2 S2
  go_wp2
  go_end0
  exact ⟨rfl, v2, HM2.out, HS2.out⟩
set_option maxHeartbeats 16000000 in
theorem sop_k_push (n : Int) (HF : FreshH N0 big f (tn : Nat) 2 K) (hT : big → lowT N0) (h1 : 1 ≤ f) (h4 : f ≤ 4) (htn : tn < 6) (M : MkA N0 big f (tn : Nat) 2 w b v l k) (hk : k + 5 ≤ K) (hK : K ≤ 120) (hl : l.length ≤ 80000) :
    Calls Tryz.prog 46 #[.pointer (some ⟨b, 0, none⟩), .agg #[.string ⟨#[112, 117, 115, 104]⟩, .int .i64 n]] w fun e w' => e = .returned (.tuple #[]) ∧ ∃ v', MkA N0 big f (tn : Nat) 2 w' b v' (l ++ Qc.sblk f tn k (.push n)) (k + 2) ∧ MkStep w b v w' v' := by
  have hq := (Mod.refl noF w).alloc (.cells #[.string ⟨#[112, 117, 115, 104]⟩, .int .i64 n] 88)
  have M1 := M.quiet hq
  have S1 := (MkStep.refl w b v).quiet hq
  have hbx : w.heap.size ≠ b := by have := M.lt; omega
  have hvx : v.ownBlock ≠ some w.heap.size := fun e => by have := M.vlt e; omega
  have e0 : ((⟨#[112, 117, 115, 104]⟩ : ByteArray).toList == (⟨#[112, 117, 115, 104]⟩ : ByteArray).toList) = true := by simp
  have HM := Lib.hid M
  have HM1 := Lib.hid M1
  have HS1 := Lib.hid S1
  have Hbx := Lib.hid hbx
  have Hvx := Lib.hid hvx
  have c1 : (w.alloc (.cells #[.string ⟨#[112, 117, 115, 104]⟩, .int .i64 n] 88)).cell? ⟨w.heap.size, 1, none⟩ = some (.int .i64 n) := by simp
  have Hc1 := Lib.hid c1
  have hfr := HF _ _ _ _ k (by omega) M1
  have Hfr := Lib.hid hfr
  have hlf := Qu.labN_facts (k + 2) (by omega)
  have hfr2 := fun (W : World) (v : Value) (l : List Instr) (M : MkA N0 big f (tn : Nat) 2 W b v l (k + 1)) => HF W b v l (k + 1) (by omega) M
  have Hfr2 := Lib.hid hfr2
  have hpu := fun W => push_ok ⟨(Qu.labN (k + 2)).toArray⟩ W (by simpa using hlf.2.2.1) (by have := hlf.2.1; simp [ByteArray.size]; omega)
  have Hpu := Lib.hid hpu
  have hpl : (pushCode (Qu.labN (k + 2))).length = 9 := rfl
  unfold Qc.sblk Qc.pushBlk
  rw [show k + 1 + 1 = k + 2 from rfl] at Hfr2
  simp only at Hpu
  generalize Qu.labN (k + 1) = lb at *
  generalize Qu.labN (k + 2) = lc at *
  clear M M1 S1 hbx hvx HF hq hfr c1 hlf hfr2 hpu
  go_enter Tryz.func46, Tryz.ntmps46
  go_wp2_with fail
  refine Hfr.out.mono ?_
  rintro e w2 ⟨rfl, M2, S2⟩
  have HM2 := Lib.hid M2
  have Hg1 := Lib.hid (S2.old (p := ⟨w.heap.size, 1, none⟩) Hbx.out Hvx.out Hc1.out)
  have HS2 := Lib.hid (HS1.out.trans HM.out.lt S2)
  have HC := Lib.hid (Chain.start M2.m.emit)
  clear M2 S2
  go_wp2
  refine wp_region_held_drew (S := fun W => W.cell? ⟨w.heap.size, 1, none⟩ = some (.int .i64 n)) (by kernel_rfl) ((Mod.refl noF _).drew.cell Hg1.out (fun e => e)) (fun hHeld => ?_)
  refine wpAnyH_take (i := 0) (oi := ?oRx0) (v := ?vRx0) ?qRx0 (by kernel_rfl) ?fRx0 ?gRx0 ?pRx0 ?uRx0 (by assumption) ?rRx0
  case qRx0 => (rw [List.getElem?_toArray]; rfl)
  case fRx0 => kernel_rfl
  case gRx0 => kernel_rfl
  case pRx0 => exact (fun _ _ _ h => h)
  case uRx0 => (refine Or.inl ⟨by rfl, ?_⟩; intro w hSw; (try dsimp only at hSw); go_simp; (try rw [if_neg (by omega)]); try with_reducible rfl)
  try simp only [Act.put, List.setIfInBounds_toArray, List.set_cons_zero, List.set_cons_succ]
  refine wpAnyH_take (i := 1) (oi := ?oRx1) (v := ?vRx1) ?qRx1 (by kernel_rfl) ?fRx1 ?gRx1 ?pRx1 ?uRx1 (by assumption) ?rRx1
  case qRx1 => (rw [List.getElem?_toArray]; rfl)
  case fRx1 => kernel_rfl
  case gRx1 => kernel_rfl
  case pRx1 => exact (fun _ _ _ h => h)
  case uRx1 => (refine Or.inl ⟨by rfl, ?_⟩; intro w hSw; (try dsimp only at hSw); go_simp; (try rw [if_neg (by omega)]); try with_reducible rfl)
  try simp only [Act.put, List.setIfInBounds_toArray, List.set_cons_zero, List.set_cons_succ]
  refine wpAnyH_take (i := 2) (oi := ?oRx2) (v := ?vRx2) ?qRx2 (by kernel_rfl) ?fRx2 ?gRx2 ?pRx2 ?uRx2 (by assumption) ?rRx2
  case qRx2 => (rw [List.getElem?_toArray]; rfl)
  case fRx2 => kernel_rfl
  case gRx2 => kernel_rfl
  case pRx2 => exact (fun _ _ _ h => h)
  case uRx2 => (refine Or.inl ⟨by rfl, ?_⟩; intro w hSw; (try dsimp only at hSw); go_simp; (try rw [if_neg (by omega)]); try with_reducible rfl)
  try simp only [Act.put, List.setIfInBounds_toArray, List.set_cons_zero, List.set_cons_succ]
  refine wpAnyH_take (i := 5) (oi := ?oRx5) (v := ?vRx5) ?qRx5 (by kernel_rfl) ?fRx5 ?gRx5 ?pRx5 ?uRx5 (by assumption) ?rRx5
  case qRx5 => (rw [List.getElem?_toArray]; rfl)
  case fRx5 => kernel_rfl
  case gRx5 => kernel_rfl
  case pRx5 => exact (fun _ _ _ h => h)
  case uRx5 => (refine Or.inl ⟨by rfl, ?_⟩; intro w hSw; (try dsimp only at hSw); go_simp; (try rw [if_neg (by omega)]); try with_reducible rfl)
  try simp only [Act.put, List.setIfInBounds_toArray, List.set_cons_zero, List.set_cons_succ]
  refine wpAnyH_take (i := 8) (oi := ?oRx8) (v := ?vRx8) ?qRx8 (by kernel_rfl) ?fRx8 ?gRx8 ?pRx8 ?uRx8 (by assumption) ?rRx8
  case qRx8 => (rw [List.getElem?_toArray]; rfl)
  case fRx8 => kernel_rfl
  case gRx8 => kernel_rfl
  case pRx8 => exact (fun _ _ _ h => h)
  case uRx8 => (refine Or.inl ⟨by rfl, ?_⟩; intro w hSw; (try dsimp only at hSw); go_simp; (try rw [if_neg (by omega)]); try with_reducible rfl)
  try simp only [Act.put, List.setIfInBounds_toArray, List.set_cons_zero, List.set_cons_succ]
  refine wpAnyH_take (i := 9) (oi := ?oRx9) (v := ?vRx9) ?qRx9 (by kernel_rfl) ?fRx9 ?gRx9 ?pRx9 ?uRx9 (by assumption) ?rRx9
  case qRx9 => (rw [List.getElem?_toArray]; rfl)
  case fRx9 => kernel_rfl
  case gRx9 => kernel_rfl
  case pRx9 => exact (fun _ _ _ h => h)
  case uRx9 => (refine Or.inl ⟨by rfl, ?_⟩; intro w hSw; (try dsimp only at hSw); go_simp; (try rw [if_neg (by omega)]); try with_reducible rfl)
  try simp only [Act.put, List.setIfInBounds_toArray, List.set_cons_zero, List.set_cons_succ]
  refine Mk.em_spine (fun _ => n) (items := [⟨some (3, 19), 4, 20⟩, ⟨some (6, 22), 7, 23⟩, ⟨some (10, 26), 11, 27⟩, ⟨some (12, 28), 13, 29⟩]) (E := [⟨10, [.c 3], [], 0, 0, []⟩, ⟨14, [.c 3], lb, 1, 21, []⟩, ⟨0, [.c 0, .t 25], [], 0, 0, []⟩, ⟨7, [.c 3, .c 0, .c 0], [], 0, 0, []⟩]) (r0 := 18) (by kernel_rfl) (by kernel_rfl) (by kernel_rfl) (by rfl) ?lbR ?tvR ?moR (by rfl) (by rfl) ?lenR (fun w' l' C => C.mine (p := ⟨w.heap.size, 1, none⟩) Hbx.out Hvx.out Hg1.out) (HC.out.quiet (Mod.refl _ _).drew) (by kernel_rfl) ?_
  case lbR => (intro e he hk; simp only [List.mem_cons, List.not_mem_nil, or_false] at he; rcases he with rfl | rfl | rfl | rfl <;> (first | (simp at hk; done) | exact rfl))
  case tvR => (intro e he k hk; simp only [List.mem_cons, List.not_mem_nil, or_false] at he; rcases he with rfl | rfl | rfl | rfl <;> (first | (simp at hk; done) | (simp at hk; subst hk; rfl)))
  case moR => (intro e he hk; simp only [List.mem_cons, List.not_mem_nil, or_false] at he; rcases he with rfl | rfl | rfl | rfl <;> (first | (simp at hk; done) | exact rfl))
  case lenR => (simp [Mk.EmC.code, Mk.EmC.ins]; omega)
  intro U xR C hU
  have u20 : U 20 = _ := hU 0 _ rfl
  have u23 : U 23 = _ := hU 1 _ rfl
  have u27 : U 27 = _ := hU 2 _ rfl
  have u29 : U 29 = _ := hU 3 _ rfl
  simp only [spTmps, SpI.tmps, List.flatMap_cons, List.flatMap_nil, Option.map_some, Option.map_none, Option.toList_some, Option.toList_none, List.cons_append, List.nil_append, List.append_nil, patch, List.foldl_cons, List.foldl_nil, Act.put, List.setIfInBounds_toArray, List.set_cons_zero, List.set_cons_succ, u20, u23, u27, u29]
  generalize U 19 = s19 at *
  generalize U 22 = s22 at *
  generalize U 26 = s26 at *
  generalize U 28 = s28 at *
  clear u20 u23 u27 u29 hU hHeld
  have hfin : ∃ v' : Value, MkA N0 big f (tn : Nat) 2 xR b v' (l ++ [⟨10, 3, 0, 0, []⟩, ⟨14, 3, 0, 0, lb⟩, ⟨0, 0, n, 0, []⟩, ⟨7, 3, 0, 0, []⟩]) (k + 1) ∧ MkStep w b v xR v' := by
    obtain ⟨v', M', S'⟩ := HM2.out.chain hT C
    exact ⟨v', M', HS2.out.trans HM.out.lt S'⟩
  obtain ⟨v3, M3, S3⟩ := hfin
  have HM3 := Lib.hid M3
  have HS3 := Lib.hid S3
  have hf3 := Hfr2.out xR v3 _ M3
  have Hf3 := Lib.hid hf3
  clear M3 S3 C hf3
  go_wp2_with fail
  refine Hf3.out.mono ?_
  rintro e w4 ⟨rfl, M4, S4⟩
  have HM4 := Lib.hid M4
  have HS4 := Lib.hid (HS3.out.trans HM.out.lt S4)
  clear M4 S4 Hf3
  go_wp2_with fail
  refine (Hpu.out w4).mono ?_
  rintro e w5 ⟨va, rfl, hma⟩
  have hqa := Mod.below hma.2.1
  obtain ⟨ga, ca, rfl, hsA⟩ := InsRow.src hma.1 (by rw [hpl]; omega)
  have HM5 := Lib.hid (HM4.out.quiet hqa)
  have HS5 := Lib.hid (HS4.out.quiet hqa)
  have HsA := Lib.hid hsA
  have HC5 := Lib.hid (Chain.start HM5.out.m.emit)
  clear hma hqa hsA
  go_wp2_with fail
  refine (more_chain HC5.out (by simp; omega) (pushCode lc) ga ca HsA.out (by rw [hpl]; omega)).mono ?_
  rintro e x1 ⟨rfl, C⟩
  have HC6 := Lib.hid C
  clear C
  go_wp2_with fail
  refine (label_chain HC6.out (by simp; omega) lb _ rfl).mono ?_
  rintro e x2 ⟨rfl, C⟩
  have hfin : ∃ v' : Value, MkA N0 big f (tn : Nat) 2 x2 b v' (l ++ ([⟨10, 3, 0, 0, []⟩, ⟨14, 3, 0, 0, lb⟩, ⟨0, 0, n, 0, []⟩, ⟨7, 3, 0, 0, []⟩] ++ pushCode lc ++ [⟨17, 0, 0, 0, lb⟩])) (k + 2) ∧ MkStep w b v x2 v' := by
    obtain ⟨v', M', S'⟩ := HM5.out.chain hT C
    refine ⟨v', ?_, HS5.out.trans HM.out.lt S'⟩
    simp only [List.append_assoc] at M' ⊢
    exact M'
  have Hfin := Lib.hid hfin
  clear hfin C
  go_wp2
  (try simp only [Exit.inBlock, Exit.then])
  go_end0
  exact ⟨rfl, Hfin.out⟩
set_option maxHeartbeats 16000000 in
theorem sop_k_pop (HF : FreshH N0 big f (tn : Nat) 2 K) (hT : big → lowT N0) (h1 : 1 ≤ f) (h4 : f ≤ 4) (htn : tn < 6) (M : MkA N0 big f (tn : Nat) 2 w b v l k) (hk : k + 5 ≤ K) (hK : K ≤ 120) (hl : l.length ≤ 80000) :
    Calls Tryz.prog 46 #[.pointer (some ⟨b, 0, none⟩), .agg #[.string ⟨#[112, 111, 112]⟩, .int .i64 0]] w fun e w' => e = .returned (.tuple #[]) ∧ ∃ v', MkA N0 big f (tn : Nat) 2 w' b v' (l ++ Qc.sblk f tn k .pop) (k + 5) ∧ MkStep w b v w' v' := by
  have hq := (Mod.refl noF w).alloc (.cells #[.string ⟨#[112, 111, 112]⟩, .int .i64 0] 88)
  have M1 := M.quiet hq
  have S1 := (MkStep.refl w b v).quiet hq
  have hbx : w.heap.size ≠ b := by have := M.lt; omega
  have hvx : v.ownBlock ≠ some w.heap.size := fun e => by have := M.vlt e; omega
  have e0 : ((⟨#[112, 111, 112]⟩ : ByteArray).toList == (⟨#[112, 117, 115, 104]⟩ : ByteArray).toList) = false := by
    rw [ByteArray.toList_eq, ByteArray.toList_eq]; rfl
  have e1 : ((⟨#[112, 111, 112]⟩ : ByteArray).toList == (⟨#[112, 111, 112]⟩ : ByteArray).toList) = true := by simp
  have HM := Lib.hid M
  have HM1 := Lib.hid M1
  have HS1 := Lib.hid S1
  have Hbx := Lib.hid hbx
  have Hvx := Lib.hid hvx
  have hc := part0_ok HF hT h1 h4 HM1.out (by omega) hK (by omega)
  have Hc := Lib.hid hc
  have hlf := Qu.labN_facts (k + 2) (by omega)
  have hfr2 := fun (W : World) (v : Value) (l : List Instr) (M : MkA N0 big f (tn : Nat) 2 W b v l (k + 1)) => HF W b v l (k + 1) (by omega) M
  have hfr3 := fun (W : World) (v : Value) (l : List Instr) (M : MkA N0 big f (tn : Nat) 2 W b v l (k + 2)) => HF W b v l (k + 2) (by omega) M
  have hp1 := fun (W : World) (v : Value) (l : List Instr) (M : MkA N0 big f (tn : Nat) 2 W b v l (k + 3)) (hl : l.length ≤ 100000) => part1_ok HF hT h1 h4 M (by omega) hK hl
  have hl4 := fun (W : World) (v : Value) (l : List Instr) (M : MkA N0 big f (tn : Nat) 2 W b v l (k + 4)) (hl : l.length ≤ 100000) => later_ok HF hT htn M (by omega) hl
  have Hfr2 := Lib.hid hfr2
  have Hfr3 := Lib.hid hfr3
  have Hp1 := Lib.hid hp1
  have Hl4 := Lib.hid hl4
  have hpu := fun W => pop_ok ⟨(Qu.labN (k + 2)).toArray⟩ W (by simpa using hlf.2.2.1) (by have := hlf.2.1; simp [ByteArray.size]; omega)
  have Hpu := Lib.hid hpu
  have hpl : (popCode (Qu.labN (k + 2))).length = 10 := rfl
  have g0 : (Qc.part f k 0).length ≤ 70 := by unfold Qc.part preC; rw [List.length_map]; exact gcode_len h4 (by decide)
  have g1 : (Qc.part f (k + 3) 1).length ≤ 70 := by unfold Qc.part preC; rw [List.length_map]; exact gcode_len h4 (by decide)
  unfold Qc.sblk Qc.popBlk
  rw [show k + 1 + 1 = k + 2 from rfl] at Hfr2
  rw [show k + 2 + 1 = k + 3 from rfl] at Hfr3
  simp only at Hpu
  generalize Qu.labN (k + 3) = lb at *
  generalize Qu.labN (k + 2) = lc at *
  clear M M1 S1 hbx hvx HF hq hc hlf hfr2 hfr3 hp1 hl4 hpu
  go_enter Tryz.func46, Tryz.ntmps46
  go_wp2_with fail
  refine Hc.out.mono ?_
  rintro e w2 ⟨rfl, v2, M2, S2⟩
  have hM2 : MkA N0 big f (tn : Nat) 2 w2 b v2 (l ++ Qc.part f k 0) (k + 1) := M2
  have HS2 := Lib.hid (HS1.out.trans HM.out.lt S2)
  have hf2 := Hfr2.out w2 v2 _ hM2
  have Hf2 := Lib.hid hf2
  clear M2 S2 hM2 hf2 Hc
  go_wp2_with fail
  refine Hf2.out.mono ?_
  rintro e w4 ⟨rfl, M4, S4⟩
  have HM4 := Lib.hid M4
  have HS4 := Lib.hid (HS2.out.trans HM.out.lt S4)
  clear M4 S4 Hf2
  go_wp2_with fail
  refine (Hpu.out w4).mono ?_
  rintro e w5 ⟨va, rfl, hma⟩
  have hqa := Mod.below hma.2.1
  obtain ⟨ga, ca, rfl, hsA⟩ := InsRow.src hma.1 (by rw [hpl]; omega)
  have hga := hma.2.2 ga rfl
  have HM5 := Lib.hid (HM4.out.quiet hqa)
  have HS5 := Lib.hid (HS4.out.quiet hqa)
  have hgb : ga ≠ b := by have := HM4.out.lt; omega
  have hgv : v2.ownBlock ≠ some ga := fun e => by have := HM4.out.vlt e; omega
  have HsA := Lib.hid hsA
  have Hgb := Lib.hid hgb
  have Hgv := Lib.hid hgv
  have hf5 := Hfr3.out w5 v2 _ HM5.out
  have Hf5 := Lib.hid hf5
  clear hma hqa hsA hga hgb hgv hf5
  go_wp2_with fail
  refine Hf5.out.mono ?_
  rintro e w6 ⟨rfl, M6, S6⟩
  have HM6 := Lib.hid M6
  have HS6 := Lib.hid (HS5.out.trans HM.out.lt S6)
  have hsA6 : ∀ j u, (flat insV 0 (popCode lc))[j]? = some u → w6.cell? ((⟨ga, 0, none⟩ : Addr).add j) = some u := fun j u h => by
    have hadd : (⟨ga, 0, none⟩ : Addr).add j = ⟨ga, 0 + j, none⟩ := by unfold Addr.add; split <;> simp_all
    have h2 := HsA.out j u h
    rw [hadd] at h2 ⊢
    exact S6.old (p := ⟨ga, 0 + j, none⟩) Hgb.out Hgv.out h2
  have HsA6 := Lib.hid hsA6
  have HC5 := Lib.hid (Chain.start M6.m.emit)
  clear M6 S6 hsA6 Hf5
  go_wp2_with fail
  refine (more_chain HC5.out (by simp; omega) (popCode lc) ga ca HsA6.out (by rw [hpl]; omega)).mono ?_
  rintro e x1 ⟨rfl, C⟩
  have HC1 := Lib.hid C
  clear C
  go_wp2_with fail
  refine (to1_chain (HC1.out.quiet ((Mod.refl _ _).alloc _)) (by simp; omega) 14 _ rfl lb _ rfl x1.heap.size 3 1 (by simp) (by simp)).mono ?_
  rintro e x2 ⟨rfl, C⟩
  have HC2 := Lib.hid C
  clear C
  go_wp2_with fail
  refine (op3_chain (HC2.out.quiet ((Mod.refl _ _).alloc _)) (by simp; omega) 6 _ rfl x2.heap.size 0 3 0 3 (by simp) (by simp) (by simp) (by simp)).mono ?_
  rintro e x3 ⟨rfl, C⟩
  have HC3 := Lib.hid C
  clear C
  go_wp2_with fail
  refine (op1_chain (HC3.out.quiet ((Mod.refl _ _).alloc _)) (by simp; omega) 18 _ rfl x3.heap.size 0 1 (by simp) (by simp)).mono ?_
  rintro e x4 ⟨rfl, C⟩
  have HC4 := Lib.hid C
  clear C
  go_wp2_with fail
  refine (label_chain HC4.out (by simp; omega) lb _ rfl).mono ?_
  rintro e x5 ⟨rfl, C⟩
  obtain ⟨v7, M7, S7⟩ := HM6.out.chain hT C
  have HS7 := Lib.hid (HS6.out.trans HM.out.lt S7)
  have hp7 := Hp1.out x5 v7 _ M7 (by simp; omega)
  have Hp7 := Lib.hid hp7
  clear C M7 S7 hp7
  go_wp2_with fail
  refine Hp7.out.mono ?_
  rintro e w8 ⟨rfl, v8, M8, S8⟩
  have HS8 := Lib.hid (HS7.out.trans HM.out.lt S8)
  have hp8 := Hl4.out w8 v8 _ M8 (by have : (preC (Qu.labN (k + 3 + 1)) (gcode f 1)).length ≤ 70 := g1; simp; omega)
  have Hp8 := Lib.hid hp8
  clear M8 S8 hp8 Hp7
  go_wp2_with fail
  refine Hp8.out.mono ?_
  rintro e w9 ⟨rfl, v9, M9, S9⟩
  have HS9 := Lib.hid (HS8.out.trans HM.out.lt S9)
  have hM9 : MkA N0 big f (tn : Nat) 2 w9 b v9 (l ++ (Qc.part f k 0 ++ (popCode lc ++ [⟨14, 3, 0, 0, lb⟩] ++ [⟨6, 0, 3, 0, []⟩] ++ [⟨18, 0, 0, 0, []⟩] ++ [⟨17, 0, 0, 0, lb⟩]) ++ Qc.part f (k + 3) 1 ++ Qc.laterBlk (Qu.labN (k + 5)) tn 2)) (k + 5) := by
    unfold Qc.part
    simp only [List.append_assoc] at M9 ⊢
    exact M9
  have HM9 := Lib.hid hM9
  clear M9 S9 hM9 Hp8
  go_wp2
  (try simp only [Exit.inBlock, Exit.then])
  go_end0
  exact ⟨rfl, v9, HM9.out, HS9.out⟩
end Go.Proofs.YtppihkneeolomaaGreatDoor
end
/- Rows of blocks: right code. -/
section
namespace Qc
open Qs Qu Qh Go.Proofs.YtppihkneeolomaaGreatDoor
/-- A label's owner: a number. -/
def digB (c : UInt8) : Bool := decide (48 ≤ c) && decide (c ≤ 57)
def OwnBy (j : Nat) (t : List UInt8) : Prop := j < 128 ∧ ∃ s, t = labN j ++ s ∧ (s.takeWhile digB) = []
theorem labN_digs : ∀ j, j < 128 → ((labN j).head? = some 111 ∧ (labN j).tail.all digB = true) := by decide +kernel
def stemOf (t : List UInt8) : List UInt8 := t.tail.takeWhile digB
theorem stem_lab {j : Nat} (hj : j < 128) {s : List UInt8} (hs : s.takeWhile digB = []) : labN j = 111 :: stemOf (labN j ++ s) := by
  obtain ⟨h1, h2⟩ := labN_digs j hj
  cases hl : labN j with
  | nil => rw [hl] at h1; cases h1
  | cons c ds =>
    rw [hl] at h1 h2
    simp only [List.head?_cons, Option.some.injEq] at h1
    simp only [List.tail_cons, List.all_eq_true] at h2
    unfold stemOf
    rw [List.cons_append, List.tail_cons, List.takeWhile_append_of_pos h2, hs, List.append_nil, h1]
theorem OwnBy.inj {i j : Nat} {t : List UInt8} (h1 : OwnBy i t) (h2 : OwnBy j t) : i = j := by
  obtain ⟨hi, s, e1, z1⟩ := h1
  obtain ⟨hj, s', e2, z2⟩ := h2
  have a1 := stem_lab hi z1
  have a2 := stem_lab hj z2
  rw [← e1] at a1
  rw [← e2] at a2
  exact labN_inj i hi j hj (a1.trans a2.symm)
theorem OwnBy.self {j : Nat} (hj : j < 128) : OwnBy j (labN j) := ⟨hj, [], by simp, rfl⟩
/-- A block whose labels have numbers from k + 1 to n. -/
structure BlkF (k n : Nat) (B : List Instr) : Prop where
  ins : ∀ x ∈ B, insFine x = true
  set : ∀ (i : Nat) x, B[i]? = some x → x.op = 17 → labelAt x.to B 0 = some i
  lab : ∀ x ∈ B, x.to ≠ [] → (labelAt x.to B 0).isSome = true
  own : ∀ x ∈ B, x.to = [] ∨ ∃ j, k < j ∧ j ≤ n ∧ OwnBy j x.to
theorem BlkF.ne {k n : Nat} {B : List Instr} (h : BlkF k n B) {x : Instr} (hx : x ∈ B) (h17 : x.op = 17) : x.to ≠ [] :=
  Qh.nameB_ne (insFine_jump (h.ins x hx) (.inr (.inr (.inr h17))))
theorem BlkF.mono {k n k' n' : Nat} {B : List Instr} (h : BlkF k n B) (h1 : k' ≤ k) (h2 : n ≤ n') : BlkF k' n' B :=
  ⟨h.ins, h.set, h.lab, fun x hx => (h.own x hx).imp id fun ⟨j, a, b, c⟩ => ⟨j, by omega, by omega, c⟩⟩
theorem BlkF.append {k m n : Nat} {A B : List Instr} (hA : BlkF k m A) (hB : BlkF m n B) (h1 : k ≤ m) (h2 : m ≤ n) : BlkF k n (A ++ B) := by
  have hdis : ∀ x ∈ B, x.to ≠ [] → ∀ y ∈ A, y.op = 17 → y.to ≠ x.to := fun x hx hne y hy h17 e => by
    rcases hA.own y hy with h | ⟨i, i1, i2, i3⟩
    · exact hA.ne hy h17 h
    · rcases hB.own x hx with h | ⟨j, j1, j2, j3⟩
      · exact hne h
      · rw [e] at i3
        have := i3.inj j3
        omega
  have hlab : ∀ x ∈ B, x.to ≠ [] → ∀ j, labelAt x.to B 0 = some j → labelAt x.to (A ++ B) 0 = some (A.length + j) := fun x hx hne j hj => by
    have := row_label (C := []) (hdis x hx hne) hj
    rw [List.append_nil] at this
    exact this
  refine ⟨fun x hx => ?_, fun i x hi h17 => ?_, fun x hx hne => ?_, fun x hx => ?_⟩
  · rcases List.mem_append.1 hx with h | h
    · exact hA.ins x h
    · exact hB.ins x h
  · by_cases hlt : i < A.length
    · rw [List.getElem?_append_left hlt] at hi
      exact labelAt_first B 0 (hA.set i x hi h17)
    · rw [List.getElem?_append_right (by omega)] at hi
      have hm := List.mem_of_getElem? hi
      rw [hlab x hm (hB.ne hm h17) _ (hB.set _ x hi h17)]
      congr 1; omega
  · rcases List.mem_append.1 hx with h | h
    · obtain ⟨j, hj⟩ := Option.isSome_iff_exists.1 (hA.lab x h hne)
      rw [labelAt_first B 0 hj]; rfl
    · obtain ⟨j, hj⟩ := Option.isSome_iff_exists.1 (hB.lab x h hne)
      rw [hlab x h hne j hj]; rfl
  · rcases List.mem_append.1 hx with h | h
    · exact (hA.own x h).imp id fun ⟨j, a, b, c⟩ => ⟨j, a, by omega, c⟩
    · exact (hB.own x h).imp id fun ⟨j, a, b, c⟩ => ⟨j, by omega, b, c⟩
theorem BlkF.nil (k : Nat) : BlkF k k [] := ⟨fun x hx => (by cases hx), fun i x hi => (by simp at hi), fun x hx => (by cases hx), fun x hx => (by cases hx)⟩
theorem BlkF.fine {k n : Nat} {B : List Instr} (h : BlkF k n B) (hl : B.length ≤ 2000) : CodeFine B := ⟨hl, h.ins, h.set, h.lab⟩
theorem BlkF.of {k n : Nat} {B : List Instr} (h : CodeFine B) (hown : ∀ x ∈ B, x.to = [] ∨ ∃ j, k < j ∧ j ≤ n ∧ OwnBy j x.to) : BlkF k n B := ⟨h.ins, h.set, h.lab, hown⟩
/-- A part of grace. -/
theorem gcode_pre {f j : Nat} (h1 : 1 ≤ f) (h4 : f ≤ 4) (hj : j < 5) : preOk (gcode f j) = true ∧ ((gcode f j).all fun x => x.to.isEmpty || x.to.takeWhile digB == []) = true := by
  have key : ∀ f < 5, ∀ j < 5, 1 ≤ f → (preOk (gcode f j) && (gcode f j).all fun x => x.to.isEmpty || x.to.takeWhile digB == []) = true := by decide +kernel
  have := key f (by omega) j hj h1
  simpa only [Bool.and_eq_true] using this
theorem part_fine {f j : Nat} (h1 : 1 ≤ f) (h4 : f ≤ 4) (hj : j < 5) (k : Nat) (hk : k < 127) : BlkF k (k + 1) (part f k j) := by
  obtain ⟨g1, g2⟩ := gcode_pre h1 h4 hj
  obtain ⟨l1, l2, l3, l4⟩ := labN_facts (k + 1) (by omega)
  refine BlkF.of (preC_fine l3 l2 g1) fun y hy => ?_
  obtain ⟨x, hx, rfl⟩ := List.mem_map.1 hy
  have := List.all_eq_true.1 g2 x hx
  simp only [Bool.or_eq_true, beq_iff_eq] at this
  unfold preI
  simp only
  by_cases he : x.to.isEmpty = true
  · exact .inl (by rw [if_pos he])
  · refine .inr ⟨k + 1, by omega, by omega, by omega, x.to, by rw [if_neg he], this.resolve_left he⟩
theorem later_fine (tn : Nat) (nx : Int) (ht : tn < 8) (hn : 0 ≤ nx ∧ nx < 4) (k : Nat) (hk : k < 127) : BlkF k (k + 1) (laterBlk (labN (k + 1)) tn nx) := by
  have hnm := (labN_facts (k + 1) (by omega)).2.2.1
  have hne := Qh.nameB_ne hnm
  have o1 : OwnBy (k + 1) (labN (k + 1)) := OwnBy.self (by omega)
  generalize hL : labN (k + 1) = L at *
  have r1 : regB ((1 + tn / 4 : Nat) : Int) 4 = true := by unfold regB; simp; omega
  have r2 : regB ((tn % 4 : Nat) : Int) 4 = true := by unfold regB; simp; omega
  have r3 : regB nx 4 = true := by unfold regB; simp; omega
  have hl6 : labelAt L (laterBlk L tn nx) 0 = some 6 := by simp [laterBlk, labelAt]
  refine ⟨fun x hx => ?_, fun i x hi h17 => ?_, fun x hx hxe => ?_, fun x hx => ?_⟩
  · simp only [laterBlk, List.mem_cons, List.not_mem_nil, or_false] at hx
    rcases hx with rfl | rfl | rfl | rfl | rfl | rfl | rfl
    · show (regB 3 8 && z0 0 && z0 0 && nameB L) = true; rw [hnm]; rfl
    · show (regB 2 8 && regB 5 8 && regB ((1 + tn / 4 : Nat) : Int) 4 && true) = true; rw [r1]; rfl
    · show (regB 0 8 && regB 2 8 && regB ((tn % 4 : Nat) : Int) 4 && true) = true; rw [r2]; rfl
    · show (regB 3 8 && regB 0 8 && regB nx 4 && true) = true; rw [r3]; rfl
    · show (regB 2 8 && regB 3 8 && regB ((tn % 4 : Nat) : Int) 4 && true) = true; rw [r2]; rfl
    · rfl
    · show (z0 0 && z0 0 && z0 0 && nameB L) = true; rw [hnm]; rfl
  · match i, hi with
    | 0, hi => cases hi; simp at h17
    | 1, hi => cases hi; simp at h17
    | 2, hi => cases hi; simp at h17
    | 3, hi => cases hi; simp at h17
    | 4, hi => cases hi; simp at h17
    | 5, hi => cases hi; simp at h17
    | 6, hi => cases hi; exact hl6
    | i + 7, hi => simp [laterBlk] at hi
  · simp only [laterBlk, List.mem_cons, List.not_mem_nil, or_false] at hx
    rcases hx with rfl | rfl | rfl | rfl | rfl | rfl | rfl
    all_goals first
      | exact absurd rfl hxe
      | (simp only; rw [hl6]; rfl)
  · simp only [laterBlk, List.mem_cons, List.not_mem_nil, or_false] at hx
    rcases hx with rfl | rfl | rfl | rfl | rfl | rfl | rfl
    all_goals first
      | exact .inl rfl
      | exact .inr ⟨k + 1, by omega, by omega, o1⟩
theorem flush_fine (tn : Nat) (nx : Int) (ht : tn < 8) (hn : 0 ≤ nx ∧ nx < 4) (k : Nat) (hk : k + 2 < 128) : BlkF k (k + 2) (flushTail (labN (k + 1)) (labN (k + 2)) tn nx) := by
  have hnm := (labN_facts (k + 1) (by omega)).2.2.1
  have hnm2 := (labN_facts (k + 2) (by omega)).2.2.1
  have hne := Qh.nameB_ne hnm
  have hne2 := Qh.nameB_ne hnm2
  have hnn : labN (k + 1) ≠ labN (k + 2) := fun e => by have := labN_lab.1 _ _ e; omega
  have o1 : OwnBy (k + 1) (labN (k + 1)) := OwnBy.self (by omega)
  generalize hL : labN (k + 1) = L at *
  have o2 : OwnBy (k + 2) (labN (k + 2)) := OwnBy.self (by omega)
  generalize hM : labN (k + 2) = M at *
  have r1 : regB ((1 + tn / 4 : Nat) : Int) 4 = true := by unfold regB; simp; omega
  have r2 : regB ((tn % 4 : Nat) : Int) 4 = true := by unfold regB; simp; omega
  have r3 : regB nx 4 = true := by unfold regB; simp; omega
  have hl1 : labelAt L (flushTail L M tn nx) 0 = some 1 := by simp [flushTail, labelAt]
  have hl8 : labelAt M (flushTail L M tn nx) 0 = some 8 := by simp [flushTail, labelAt, hnn]
  refine ⟨fun x hx => ?_, fun i x hi h17 => ?_, fun x hx hxe => ?_, fun x hx => ?_⟩
  · simp only [flushTail, List.mem_cons, List.not_mem_nil, or_false] at hx
    rcases hx with rfl | rfl | rfl | rfl | rfl | rfl | rfl | rfl | rfl
    · show (regB 2 8 && regB 5 8 && regB ((1 + tn / 4 : Nat) : Int) 4 && true) = true; rw [r1]; rfl
    · show (z0 0 && z0 0 && z0 0 && nameB L) = true; rw [hnm]; rfl
    · show (regB 0 8 && regB 2 8 && regB ((tn % 4 : Nat) : Int) 4 && true) = true; rw [r2]; rfl
    · show (regB 0 8 && z0 0 && z0 0 && nameB M) = true; rw [hnm2]; rfl
    · show (regB 1 8 && regB 0 8 && regB nx 4 && true) = true; rw [r3]; rfl
    · show (regB 2 8 && regB 1 8 && regB ((tn % 4 : Nat) : Int) 4 && true) = true; rw [r2]; rfl
    · rfl
    · show (z0 0 && z0 0 && z0 0 && nameB L) = true; rw [hnm]; rfl
    · show (z0 0 && z0 0 && z0 0 && nameB M) = true; rw [hnm2]; rfl
  · match i, hi with
    | 0, hi => cases hi; simp at h17
    | 1, hi => cases hi; exact hl1
    | 2, hi => cases hi; simp at h17
    | 3, hi => cases hi; simp at h17
    | 4, hi => cases hi; simp at h17
    | 5, hi => cases hi; simp at h17
    | 6, hi => cases hi; simp at h17
    | 7, hi => cases hi; simp at h17
    | 8, hi => cases hi; exact hl8
    | i + 9, hi => simp [flushTail] at hi
  · simp only [flushTail, List.mem_cons, List.not_mem_nil, or_false] at hx
    rcases hx with rfl | rfl | rfl | rfl | rfl | rfl | rfl | rfl | rfl
    all_goals first
      | exact absurd rfl hxe
      | (simp only; rw [hl1]; rfl)
      | (simp only; rw [hl8]; rfl)
  · simp only [flushTail, List.mem_cons, List.not_mem_nil, or_false] at hx
    rcases hx with rfl | rfl | rfl | rfl | rfl | rfl | rfl | rfl | rfl
    all_goals first
      | exact .inl rfl
      | exact .inr ⟨k + 1, by omega, by omega, o1⟩
      | exact .inr ⟨k + 2, by omega, by omega, o2⟩
theorem flushBlk_fine {f : Nat} (h1 : 1 ≤ f) (h4 : f ≤ 4) (tn : Nat) (nx : Int) (ht : tn < 8) (hn : 0 ≤ nx ∧ nx < 4) (k : Nat) (hk : k + 3 < 128) : BlkF k (k + 3) (flushBlk f k tn nx) :=
  (part_fine h1 h4 (by decide) k (by omega)).append (flush_fine tn nx ht hn (k + 1) (by omega)) (by omega) (by omega)
theorem stop_fine (k : Nat) : BlkF k k [⟨20, 0, 0, 0, []⟩] :=
  ⟨fun x hx => by rw [List.mem_singleton] at hx; subst hx; rfl, fun i x hi h17 => by
    match i, hi with
    | 0, hi => cases hi; simp at h17
    | i + 1, hi => simp at hi, fun x hx hne => by rw [List.mem_singleton] at hx; subst hx; exact absurd rfl hne, fun x hx => by rw [List.mem_singleton] at hx; subst hx; exact .inl rfl⟩
end Qc
end
/- Faults of lists of ops, in plain: which ops, which numbers. -/
section
namespace Go.Proofs.YtppihkneeolomaaGreatDoor
open Go.RowKit Qs Qh
variable {N : Nat} {w w' : World} {v u : Value} {ll : List (List ROp)} {l : List ROp} {rf : List ROp → Option Int}
/-- The first thread's fault. -/
def allR (rf : List ROp → Option Int) : Nat → List (List ROp) → Int × Int
  | _, [] => (0, -1)
  | i, l :: r => match rf l with
    | some c => (c, i)
    | none => allR rf (i + 1) r
theorem allR_at : ∀ (ll : List (List ROp)) (i k : Nat) (l : List ROp) (c : Int), ll[k]? = some l → (∀ (j : Nat) y, j < k → ll[j]? = some y → rf y = none) → rf l = some c → allR rf i ll = (c, ((i + k : Nat) : Int))
  | [], i, k, l, c, h, _, _ => by simp at h
  | y :: ll, i, 0, l, c, h, _, h0 => by
    simp at h; subst h
    unfold allR; rw [h0]; rfl
  | y :: ll, i, k + 1, l, c, h, ha, h0 => by
    have hy := ha 0 y (by omega) rfl
    have := allR_at ll (i + 1) k l c (by simpa using h) (fun j z hj hz => ha (j + 1) z (by omega) (by simpa using hz)) h0
    unfold allR; rw [hy]
    show allR rf (i + 1) ll = _
    rw [this, show i + 1 + k = i + (k + 1) by omega]
theorem allR_none : ∀ (ll : List (List ROp)) (i : Nat), (∀ (j : Nat) y, ll[j]? = some y → rf y = none) → allR rf i ll = (0, -1)
  | [], i, _ => rfl
  | y :: ll, i, h => by
    unfold allR; rw [h 0 y rfl]
    exact allR_none ll (i + 1) fun j z hz => h (j + 1) z (by simpa using hz)
/-- What is told of lists is a fault of one, or none. -/
theorem allR_cases : ∀ (ll : List (List ROp)) (i : Nat), (allR rf i ll = (0, -1) ∧ ∀ l ∈ ll, rf l = none) ∨ ∃ (k : Nat) (l : List ROp) (c : Int), ll[k]? = some l ∧ rf l = some c ∧ allR rf i ll = (c, ((i + k : Nat) : Int)) ∧ ∀ (j : Nat) y, j < k → ll[j]? = some y → rf y = none
  | [], i => .inl ⟨rfl, fun _ h => by cases h⟩
  | y :: ll, i => by
    cases hy : rf y with
    | some c => exact .inr ⟨0, y, c, rfl, hy, by unfold allR; rw [hy]; rfl, fun j z hj => by omega⟩
    | none =>
      rcases allR_cases ll (i + 1) with ⟨h, h2⟩ | ⟨k, l, c, h1, h2, h3, h4⟩
      · refine .inl ⟨by unfold allR; rw [hy]; exact h, fun l hl => ?_⟩
        rcases List.mem_cons.1 hl with rfl | hl
        · exact hy
        · exact h2 l hl
      · refine .inr ⟨k + 1, l, c, by simpa using h1, h2, ?_, fun j z hj hz => ?_⟩
        · unfold allR; rw [hy]
          show allR rf (i + 1) ll = _
          rw [h3, show i + 1 + k = i + (k + 1) by omega]
        · cases j with
          | zero => simp at hz; subst hz; exact hy
          | succ j => exact h4 j z (by omega) (by simpa using hz)
/-- Is a name among names? -/
def memK (ks : List ByteArray) (s : ByteArray) : Bool := ks.any fun k => decide (k = s)
theorem memK_iff {ks : List ByteArray} {s : ByteArray} : memK ks s = true ↔ s ∈ ks := by
  unfold memK
  rw [List.any_eq_true]
  constructor
  · rintro ⟨k, h, e⟩; rw [← of_decide_eq_true e]; exact h
  · exact fun h => ⟨s, h, by simp⟩
theorem memK_snoc (ks : List ByteArray) (k s : ByteArray) : memK (ks ++ [k]) s = (memK ks s || decide (k = s)) := by
  unfold memK; simp
/-- An op's fault: none, a bound, a shape. -/
def kfOpG (W : ByteArray) (ks : List ByteArray) (x : ROp) : Int := if x.1 = W then (if x.2 < 1 ∨ 1000 < x.2 then 2 else 0) else if memK ks x.1 = true ∧ x.2 = 0 then 0 else 3
def rowG (W : ByteArray) (ks : List ByteArray) (l : List ROp) : Option Int := (l.map (kfOpG W ks)).find? fun c => decide (c ≠ 0)
def kfG (W : ByteArray) (ks : List ByteArray) (ll : List (List ROp)) : Int × Int := if manyB ll then allR (rowG W ks) 0 ll else (2, -1)
variable {W : ByteArray} {ks : List ByteArray}
theorem rowG_at : ∀ (l : List ROp) (q : Nat) (x : ROp), l[q]? = some x → (∀ (j : Nat) y, j < q → l[j]? = some y → kfOpG W ks y = 0) → kfOpG W ks x ≠ 0 → rowG W ks l = some (kfOpG W ks x)
  | [], q, x, h, _, _ => by simp at h
  | y :: l, 0, x, h, _, h0 => by
    simp at h; subst h
    unfold rowG; simp [h0]
  | y :: l, q + 1, x, h, ha, h0 => by
    have hy := ha 0 y (by omega) rfl
    have := rowG_at l q x (by simpa using h) (fun j z hj hz => ha (j + 1) z (by omega) (by simpa using hz)) h0
    unfold rowG at this ⊢
    rw [List.map_cons, List.find?_cons_of_neg (by simp [hy])]; exact this
theorem rowG_none {l : List ROp} (h : ∀ (j : Nat) y, l[j]? = some y → kfOpG W ks y = 0) : rowG W ks l = none := by
  unfold rowG
  rw [List.find?_eq_none]
  intro c hc
  obtain ⟨y, hy, rfl⟩ := List.mem_map.1 hc
  obtain ⟨j, hj⟩ := List.getElem?_of_mem hy
  simp [h j y hj]
theorem rowG_num {l : List ROp} {c : Int} (h : rowG W ks l = some c) : c = 2 ∨ c = 3 := by
  unfold rowG at h
  have h1 := List.find?_some h
  obtain ⟨x, hx, rfl⟩ := List.mem_map.1 (List.mem_of_find?_eq_some h)
  simp only [decide_eq_true_eq] at h1
  unfold kfOpG at h1 ⊢
  split
  · split
    · exact .inl rfl
    · rename_i h2 h3; rw [if_pos h2, if_neg h3] at h1; exact absurd rfl h1
  · split
    · rename_i h2 h3; rw [if_neg h2, if_pos h3] at h1; exact absurd rfl h1
    · exact .inr rfl
theorem kfG_pos (ll : List (List ROp)) : (kfG W ks ll = (0, -1)) ∨ ((kfG W ks ll).1 = 2 ∨ (kfG W ks ll).1 = 3) := by
  unfold kfG
  split
  · rcases allR_cases (rf := rowG W ks) ll 0 with ⟨h, _⟩ | ⟨k, l', c, h1, h2, h3, h4⟩
    · exact .inl h
    · rw [h3]; exact .inr (rowG_num h2)
  · exact .inr (.inl rfl)
/-- Words of a list of names. -/
def KsAt (w : World) (g : Nat) (ks : List ByteArray) : Prop := ∀ (i : Nat) x, ks[i]? = some x → w.cell? ⟨g, i, none⟩ = some (.string x)
theorem KsAt.keep {g : Nat} (h : KsAt w g ks) {F : Nat → Prop} (hM : Mod F w w') (hF : ¬ F g) : KsAt w' g ks := fun i x hi => hM.cell (h i x hi) hF
end Go.Proofs.YtppihkneeolomaaGreatDoor
end
/- An error by its number and place; plain.Code, faulted of it. -/
section
namespace Go.Proofs.YtppihkneeolomaaGreatDoor
open Go.RowKit Qs Qh
/-- What an error is: none, a sentinel, a sentinel with its place. -/
def ErrIs (a : Nat → Addr) (w : World) (v : Value) (c p : Int) : Prop :=
  (c = 0 ∧ p = -1 ∧ v = .nilIface) ∨ (∃ i : Nat, i < 9 ∧ c = (i : Int) + 1 ∧ p = -1 ∧ v = errV a i) ∨
    ∃ i pb : Nat, i < 9 ∧ c = (i : Int) + 1 ∧ v = .iface 125 (.pointer (some ⟨pb, 0, none⟩)) ∧ pb < w.heap.size ∧ w.cell? ⟨pb, 0, none⟩ = some (.int .i64 p) ∧ w.cell? ⟨pb, 1, none⟩ = some (errV a i)
variable {a : Nat → Addr} {w w' : World} {v : Value} {c p : Int}
theorem ErrIs.keep (h : ErrIs a w v c p) {F : Nat → Prop} (hM : Mod F w w') (hF : ∀ b, b < w.heap.size → ¬ F b) : ErrIs a w' v c p := by
  rcases h with h | h | ⟨i, pb, h1, h2, h3, h4, h5, h6⟩
  · exact .inl h
  · exact .inr (.inl h)
  · exact .inr (.inr ⟨i, pb, h1, h2, h3, Nat.lt_of_lt_of_le h4 hM.size, hM.cell h5 (hF pb h4), hM.cell h6 (hF pb h4)⟩)
theorem ErrIs.keepNe (h : ErrIs a w v c p) {F : Nat → Prop} (hM : Mod F w w') (hF : ∀ b, F b → w.cell? ⟨b, 1, none⟩ = some (.slice none 0 0)) : ErrIs a w' v c p := by
  rcases h with h | h | ⟨i, pb, h1, h2, h3, h4, h5, h6⟩
  · exact .inl h
  · exact .inr (.inl h)
  · have hn : ¬ F pb := fun e => by rw [hF pb e] at h6; cases h6
    exact .inr (.inr ⟨i, pb, h1, h2, h3, Nat.lt_of_lt_of_le h4 hM.size, hM.cell h5 hn, hM.cell h6 hn⟩)
theorem ErrIs.nil (h : ErrIs a w v 0 p) : v = .nilIface := by
  rcases h with h | ⟨i, h1, h2, _⟩ | ⟨i, pb, h1, h2, _⟩
  · exact h.2.2
  · omega
  · omega
theorem ErrIs.some (h : ErrIs a w v c p) (hc : c ≠ 0) : ∃ T x, v = .iface T (.pointer (some x)) := by
  rcases h with h | ⟨i, h1, h2, h3, h4⟩ | ⟨i, pb, h1, h2, h3, _⟩
  · exact absurd h.1 hc
  · exact ⟨_, _, h4⟩
  · exact ⟨_, _, h3⟩
theorem code_any (E : ErrsAt w a) (h : ErrIs a w v c p) : Calls Tryz.prog 59 #[v] w fun e w' => e = .returned (.tuple #[.int .i64 c, .int .i64 p]) ∧ Mod noF w w' := by
  rcases h with ⟨rfl, rfl, rfl⟩ | ⟨i, h1, rfl, rfl, rfl⟩ | ⟨i, pb, h1, rfl, rfl, h4, h5, h6⟩
  · exact (code_nil w).mono fun e w' h => ⟨h.1, h.2 ▸ Mod.refl _ _⟩
  · exact code_at E i h1
  · exact code_fault E i h1 pb p h5 h6
/-- Is an error what is told? -/
def faultB (c p c' p' : Int) : Bool := decide (c = c') && (decide (c = 0) || decide (p = p'))
theorem faultB_self (c p : Int) : faultB c p c p = true := by simp [faultB]
theorem faulted_any (E : ErrsAt w a) (h : ErrIs a w v c p) (c' p' : Int) : Calls Tryz.prog 32 #[v, .agg #[.int .i64 c', .int .i64 p']] w fun e w' => e = .returned (.bool (faultB c p c' p')) ∧ Mod noF w w' := by
  have hq := (Mod.refl noF w).alloc (.cells #[.int .i64 c', .int .i64 p'] 27)
  have Hc := Lib.hid (code_any (E.keep hq) (h.keep hq (fun _ _ e => e)))
  have f0 : (w.alloc (.cells #[.int .i64 c', .int .i64 p'] 27)).cell? ⟨w.heap.size, 0, none⟩ = some (.int .i64 c') := by simp
  have f1 : (w.alloc (.cells #[.int .i64 c', .int .i64 p'] 27)).cell? ⟨w.heap.size, 1, none⟩ = some (.int .i64 p') := by simp
  have Hf0 := Lib.hid f0
  have Hf1 := Lib.hid f1
  clear E h hq f0 f1
  unfold faultB
  by_cases h1 : c = c'
  · subst h1
    by_cases h2 : c = 0
    · subst h2
      go_enter Tryz.func32, Tryz.ntmps32
      go_wp2_with fail
      refine Hc.out.mono ?_
      rintro e w1 ⟨rfl, hm⟩
      have g0 := hm.cell Hf0.out (fun e => e)
      have g1 := hm.cell Hf1.out (fun e => e)
      have Hm := Lib.hid hm
      clear hm
      go_wp2
      go_ret
      exact ⟨rfl, ((Mod.refl noF w).alloc _).trans0 Hm.out⟩
    · have d2 : (c == 0) = false := by simpa using h2
      have d3 : decide (c = 0) = false := by simpa using h2
      by_cases h3 : p = p'
      · subst h3
        rw [d3]
        go_enter Tryz.func32, Tryz.ntmps32
        go_wp2_with fail
        refine Hc.out.mono ?_
        rintro e w1 ⟨rfl, hm⟩
        have g0 := hm.cell Hf0.out (fun e => e)
        have g1 := hm.cell Hf1.out (fun e => e)
        have Hm := Lib.hid hm
        clear hm
        go_wp2
        go_ret
        exact ⟨by simp, ((Mod.refl noF w).alloc _).trans0 Hm.out⟩
      · have d4 : (p == p') = false := by simpa using h3
        have d5 : decide (p = p') = false := by simpa using h3
        rw [d3, d5]
        go_enter Tryz.func32, Tryz.ntmps32
        go_wp2_with fail
        refine Hc.out.mono ?_
        rintro e w1 ⟨rfl, hm⟩
        have g0 := hm.cell Hf0.out (fun e => e)
        have g1 := hm.cell Hf1.out (fun e => e)
        have Hm := Lib.hid hm
        clear hm
        go_wp2
        go_ret
        exact ⟨by simp, ((Mod.refl noF w).alloc _).trans0 Hm.out⟩
  · have d1 : (c == c') = false := by simpa using h1
    have d5 : decide (c = c') = false := by simpa using h1
    rw [d5]
    go_enter Tryz.func32, Tryz.ntmps32
    go_wp2_with fail
    refine Hc.out.mono ?_
    rintro e w1 ⟨rfl, hm⟩
    have g0 := hm.cell Hf0.out (fun e => e)
    have g1 := hm.cell Hf1.out (fun e => e)
    have Hm := Lib.hid hm
    clear hm
    go_wp2
    go_ret
    exact ⟨by simp, ((Mod.refl noF w).alloc _).trans0 Hm.out⟩
end Go.Proofs.YtppihkneeolomaaGreatDoor
end
/- stack.Check: over any lists of ops. -/
section
namespace Go.Proofs.YtppihkneeolomaaGreatDoor
open Go.RowKit Qs Qh
variable {N : Nat} {w w' : World} {v u : Value} {ll : List (List ROp)} {l : List ROp} {W : ByteArray} {ks : List ByteArray}
def IdxPost (ks : List ByteArray) (s : ByteArray) (w : World) (e : Ending) (w' : World) : Prop := ∃ n : Int, e = .returned (.int .i64 n) ∧ w' = w ∧ (s ∈ ks → 0 ≤ n) ∧ (¬ s ∈ ks → n = -1)
def IdlPost (ll : List (List ROp)) (w : World) (e : Ending) (w' : World) : Prop := ∃ n : Int, e = .returned (.int .i64 n) ∧ w' = w ∧ ((∀ l ∈ ll, l.length ≤ 20) → n = -1) ∧ (¬ (∀ l ∈ ll, l.length ≤ 20) → 0 ≤ n)
theorem indexK (w : World) (g : Nat) (ks : List ByteArray) (s : ByteArray) (hg : KsAt w g ks) (hl : ks.length ≤ 1000) :
    Calls Tryz.prog 93 #[.slice (some ⟨g, 0, none⟩) ks.length ks.length, .string s] w (IdxPost ks s w) := by
  have Hg := Lib.hid hg
  clear hg
  go_enter Tryz.func93, Tryz.ntmps93
  go_wp2
  go_loop [5, 8] (fun j i => ∃ k : Nat, k ≤ ks.length ∧ i = .int .i64 k ∧ ¬ s ∈ ks.take k) (fun _ i => ks.length - (intOf i).toNat)
  case atStart => exact ⟨0, Nat.zero_le _, rfl, by simp⟩
  case round =>
    obtain ⟨k, hk, rfl, hno⟩ := hrel
    have Hno := Lib.hid hno
    clear hno
    by_cases hlt : k < ks.length
    · have hd : decide ((k : Int) < (ks.length : Int)) = true := by simp; omega
      have hki : (k : Int) < (ks.length : Int) := by omega
      obtain ⟨y, hy⟩ : ∃ y, ks[k]? = some y := ⟨_, List.getElem?_eq_getElem hlt⟩
      have hyc := Hg.out k y hy
      have hmem := List.mem_of_getElem? hy
      have htk : ks.take (k + 1) = ks.take k ++ [y] := by rw [List.take_add_one, hy]; rfl
      have Htk := Lib.hid htk
      have Hmem := Lib.hid hmem
      clear hy htk hmem
      by_cases hxy : y = s
      · subst hxy
        have ey := str_eq y
        go_wp2
        go_ret
        exact ⟨_, rfl, rfl, fun _ => by omega, fun h => absurd Hmem.out h⟩
      · have ey : (s.toList == y.toList) = false := str_ne fun e => hxy e.symm
        have ey2 : (y.toList == s.toList) = false := str_ne hxy
        go_wp2
        go_round
        case rel => exact ⟨k + 1, by omega, by go_num, by rw [Htk.out]; intro h; rcases List.mem_append.1 h with h | h; exact Hno.out h; exact hxy (List.mem_singleton.1 h).symm⟩
        case measure => simp [intOf]; omega
    · have hd : decide ((k : Int) < (ks.length : Int)) = false := by simp; omega
      obtain rfl : k = ks.length := by omega
      have hno := Hno.out
      rw [List.take_length] at hno
      go_wp2
      go_ret
      exact ⟨-1, rfl, rfl, fun h => absurd h hno, fun _ => rfl⟩
theorem containsK (w : World) (g : Nat) (ks : List ByteArray) (s : ByteArray) (hg : KsAt w g ks) (hl : ks.length ≤ 1000) :
    Calls Tryz.prog 68 #[.slice (some ⟨g, 0, none⟩) ks.length ks.length, .string s] w fun e w' => e = .returned (.bool (memK ks s)) ∧ w' = w := by
  have Hcall := Lib.hid (indexK w g ks s hg hl)
  clear hg
  by_cases hs : s ∈ ks
  · have ds : memK ks s = true := memK_iff.2 hs
    rw [ds]
    go_enter Tryz.func68, Tryz.ntmps68
    go_wp2_with fail
    refine Hcall.out.mono ?_
    rintro e w' ⟨n, rfl, rfl, h1, h2⟩
    have d : decide ((0 : Int) ≤ n) = true := by simpa using h1 hs
    clear h1 h2 hs
    go_wp2
    go_ret
    exact ⟨rfl, rfl⟩
  · have ds : memK ks s = false := by cases h : memK ks s with
      | true => exact absurd (memK_iff.1 h) hs
      | false => rfl
    rw [ds]
    go_enter Tryz.func68, Tryz.ntmps68
    go_wp2_with fail
    refine Hcall.out.mono ?_
    rintro e w' ⟨n, rfl, rfl, h1, h2⟩
    obtain rfl := h2 hs
    clear h1 h2 hs
    go_wp2
    go_ret
    exact ⟨rfl, rfl⟩
theorem longOpG (w : World) (a : Option Addr) (n c : Nat) (hn : n ≤ maxLen) : Calls Tryz.prog 67 #[.slice a n c] w fun e w' => e = .returned (.bool (decide (20 < n))) ∧ w' = w := by
  by_cases h : 20 < n
  · have d : decide ((20 : Int) < (n : Int)) = true := by simp; omega
    have d2 : decide (20 < n) = true := by simpa using h
    rw [d2]
    go_enter Tryz.func67, Tryz.ntmps67
    go_wp2
    go_ret
    exact ⟨rfl, rfl⟩
  · have d : decide ((20 : Int) < (n : Int)) = false := by simp; omega
    have d2 : decide (20 < n) = false := by simpa using h
    rw [d2]
    go_enter Tryz.func67, Tryz.ntmps67
    go_wp2
    go_ret
    exact ⟨rfl, rfl⟩
theorem indexLongG (H : RIn N w v ll) (hrow : ∀ l ∈ ll, l.length ≤ 30) (hl : ll.length ≤ 1000) :
    Calls Tryz.prog 92 #[v, .func (.func 67) #[] #[]] w (IdlPost ll w) := by
  obtain ⟨a, c, rfl, hx⟩ := H
  have Hx := Lib.hid hx
  have Hrow := Lib.hid hrow
  clear hx hrow
  go_enter Tryz.func92, Tryz.ntmps92
  go_wp2
  go_loop [8] (fun i => ∃ k : Nat, k ≤ ll.length ∧ i = .int .i64 k ∧ ∀ (j : Nat) y, j < k → ll[j]? = some y → y.length ≤ 20) (fun i => ll.length - (intOf i).toNat)
  case atStart => exact ⟨0, Nat.zero_le _, rfl, fun j y h => by omega⟩
  case round =>
    obtain ⟨k, hk, rfl, hall⟩ := hrel
    have Hall := Lib.hid hall
    clear hall
    by_cases hlt : k < ll.length
    · have hd : decide ((k : Int) < (ll.length : Int)) = true := by simp; omega
      have hki : (k : Int) < (ll.length : Int) := by omega
      obtain ⟨l, hl⟩ : ∃ l, ll[k]? = some l := ⟨_, List.getElem?_eq_getElem hlt⟩
      obtain ⟨b, off, u, rfl, hb, hc, ⟨ua, uc, rfl, -⟩⟩ := Hx.out k l hl
      have hmem := List.mem_of_getElem? hl
      have hcall := longOpG w ua l.length uc (by have := Hrow.out l hmem; unfold maxLen; omega)
      have Hl := Lib.hid hl
      have Hmem := Lib.hid hmem
      by_cases h20 : 20 < l.length
      · rw [show decide (20 < l.length) = true by simpa using h20] at hcall
        have Hcall := Lib.hid hcall
        clear hcall hl hmem
        go_wp2_with fail
        refine Hcall.out.mono ?_
        rintro e w' ⟨rfl, rfl⟩
        go_wp2
        go_ret
        exact ⟨_, rfl, rfl, fun h => by have := h l Hmem.out; omega, fun _ => by omega⟩
      · rw [show decide (20 < l.length) = false by simpa using h20] at hcall
        have Hcall := Lib.hid hcall
        clear hcall hl hmem
        go_wp2_with fail
        refine Hcall.out.mono ?_
        rintro e w' ⟨rfl, rfl⟩
        go_wp2
        go_round
        case rel =>
          refine ⟨k + 1, by omega, by go_num, fun j y hj hy => ?_⟩
          by_cases e : j = k
          · subst e
            rw [Hl.out] at hy; cases hy; omega
          · exact Hall.out j y (by omega) hy
        case measure => simp [intOf]; omega
    · have hd : decide ((k : Int) < (ll.length : Int)) = false := by simp; omega
      have hnone : ∀ l ∈ ll, l.length ≤ 20 := fun l hl => by
        obtain ⟨i, hi⟩ := List.getElem?_of_mem hl
        exact Hall.out i l (by have := (List.getElem?_eq_some_iff.1 hi).1; omega) hi
      go_wp2
      go_ret
      exact ⟨-1, rfl, rfl, fun _ => rfl, fun h => absurd hnone h⟩
theorem containsLongG (H : RIn N w v ll) (hrow : ∀ l ∈ ll, l.length ≤ 30) (hl : ll.length ≤ 1000) (b : Bool) (hb : b = true ↔ ¬ ∀ l ∈ ll, l.length ≤ 20) :
    Calls Tryz.prog 66 #[v, .func (.func 67) #[] #[]] w fun e w' => e = .returned (.bool b) ∧ w' = w := by
  have Hcall := Lib.hid (indexLongG H hrow hl)
  clear H hrow
  cases b with
  | true =>
    go_enter Tryz.func66, Tryz.ntmps66
    go_wp2_with fail
    refine Hcall.out.mono ?_
    rintro e w' ⟨n, rfl, rfl, h1, h2⟩
    have d : decide ((0 : Int) ≤ n) = true := by simpa using h2 (by simpa using hb)
    clear h1 h2 hb
    go_wp2
    go_ret
    exact ⟨rfl, rfl⟩
  | false =>
    go_enter Tryz.func66, Tryz.ntmps66
    go_wp2_with fail
    refine Hcall.out.mono ?_
    rintro e w' ⟨n, rfl, rfl, h1, h2⟩
    obtain rfl := h1 (by
      by_cases h : ∀ l ∈ ll, l.length ≤ 20
      · exact h
      · exact absurd (hb.2 h) (by simp))
    clear h1 h2 hb
    go_wp2
    go_ret
    exact ⟨rfl, rfl⟩
theorem manyB_iff : manyB ll = true ↔ 1 ≤ ll.length ∧ ll.length ≤ 6 ∧ ∀ l ∈ ll, l.length ≤ 20 := by
  unfold manyB
  simp [and_assoc]
theorem manyB_false (h : manyB ll = false) : ll.length < 1 ∨ 6 < ll.length ∨ ¬ ∀ l ∈ ll, l.length ≤ 20 := by
  by_cases h1 : ll.length < 1
  · exact .inl h1
  · by_cases h2 : 6 < ll.length
    · exact .inr (.inl h2)
    · refine .inr (.inr fun h3 => ?_)
      have := manyB_iff.2 ⟨by omega, by omega, h3⟩
      rw [this] at h; cases h
variable {a : Nat → Addr}
set_option maxHeartbeats 4000000 in
theorem checkG_many (E : ErrsAt w a) (H : RIn N w v ll) (g : Nat) (hlen : ll.length ≤ 10) (hrow : ∀ l ∈ ll, l.length ≤ 30) (hm : manyB ll = false) :
    Calls Tryz.prog 42 #[v, .string W, .slice (some ⟨g, 0, none⟩) ks.length ks.length] w fun e w' => ∃ ev, e = .returned ev ∧ ErrIs a w' ev 2 (-1) ∧ Mod noF w w' := by
  have hv := E.v1
  have fin : ∀ w', ErrIs a w' (errV a 1) 2 (-1) := fun w' => .inr (.inl ⟨1, by omega, rfl, rfl, rfl⟩)
  unfold errV at fin
  have Fin := Lib.hid fin
  clear fin E
  by_cases h1 : ll.length < 1
  · obtain ⟨a', c, rfl, hx⟩ := H
    have d1 : decide ((ll.length : Int) < 1) = true := by simp; omega
    clear hx
    go_enter Tryz.func42, Tryz.ntmps42
    go_wp2
    go_ret
    exact ⟨_, rfl, Fin.out _, Mod.refl _ _⟩
  have d1 : decide ((ll.length : Int) < 1) = false := by simp; omega
  by_cases h6 : 6 < ll.length
  · obtain ⟨a', c, rfl, hx⟩ := H
    have d2 : decide ((6 : Int) < (ll.length : Int)) = true := by simp; omega
    clear hx
    go_enter Tryz.func42, Tryz.ntmps42
    go_wp2
    go_ret
    exact ⟨_, rfl, Fin.out _, Mod.refl _ _⟩
  have d2 : decide ((6 : Int) < (ll.length : Int)) = false := by simp; omega
  have hcall := containsLongG H hrow (by omega) true ⟨fun _ => by
    rcases manyB_false hm with h | h | h
    · omega
    · omega
    · exact h, fun _ => rfl⟩
  have Hcall := Lib.hid hcall
  obtain ⟨a', c, rfl, hx⟩ := H
  clear hx hcall hrow hm
  go_enter Tryz.func42, Tryz.ntmps42
  go_wp2_with fail
  refine Hcall.out.mono ?_
  rintro e w' ⟨rfl, rfl⟩
  go_wp2
  go_ret
  exact ⟨_, rfl, Fin.out _, Mod.refl _ _⟩
set_option maxHeartbeats 8000000 in
theorem checkG_ok (E : ErrsAt w a) (H : RIn N w v ll) (g : Nat) (hg : KsAt w g ks) (hkl : ks.length ≤ 10) (hlen : ll.length ≤ 10) (hrow : ∀ l ∈ ll, l.length ≤ 30) (hm : manyB ll = true) :
    Calls Tryz.prog 42 #[v, .string W, .slice (some ⟨g, 0, none⟩) ks.length ks.length] w fun e w' => ∃ ev, e = .returned ev ∧ ErrIs a w' ev (allR (rowG W ks) 0 ll).1 (allR (rowG W ks) 0 ll).2 ∧ Mod noF w w' := by
  obtain ⟨hl1, hl6, h20⟩ := manyB_iff.1 hm
  have hcall := containsLongG H hrow (by omega) false (by constructor; (intro h; cases h); exact fun h => absurd h20 h)
  have HH := Lib.hid H
  obtain ⟨a', c, rfl, hx⟩ := H
  have d1 : decide ((ll.length : Int) < 1) = false := by simp; omega
  have d2 : decide ((6 : Int) < (ll.length : Int)) = false := by simp; omega
  obtain ⟨rc, ra, hres0⟩ : ∃ rc ra, allR (rowG W ks) 0 ll = (rc, ra) := ⟨_, _, rfl⟩
  rw [hres0]
  have Hres0 := Lib.hid hres0
  simp only
  have Hx := Lib.hid hx
  have H20 := Lib.hid h20
  have Hg := Lib.hid hg
  have HE := Lib.hid E
  have Hcall := Lib.hid hcall
  have e1 := str_eq W
  clear hx h20 hcall hg hres0 E hrow hm
  go_enter Tryz.func42, Tryz.ntmps42
  go_wp2_with fail
  refine Hcall.out.mono ?_
  rintro e w' ⟨rfl, rfl⟩
  go_wp2
  go_loopw [26] (fun i wr => ∃ k : Nat, k ≤ ll.length ∧ i = .int .i64 k ∧ Mod noF w' wr ∧ ∀ (j : Nat) y, j < k → ll[j]? = some y → rowG W ks y = none) (fun i _ => ll.length - (intOf i).toNat)
  case atStart => exact ⟨0, Nat.zero_le _, rfl, Mod.refl _ _, fun j y h => by omega⟩
  case round =>
    generalize wr = w2 at *
    obtain ⟨k, hk, rfl, hm, hall⟩ := hrel
    have Hall := Lib.hid hall
    clear hall
    by_cases hlt : k < ll.length
    · have hd : decide ((k : Int) < (ll.length : Int)) = true := by simp; omega
      have hki : (k : Int) < (ll.length : Int) := by omega
      obtain ⟨l, hl⟩ : ∃ l, ll[k]? = some l := ⟨_, List.getElem?_eq_getElem hlt⟩
      obtain ⟨b, off, u, rfl, hb, hc, hrow⟩ := Hx.out k l hl
      have hc2 := hm.cell hc (fun e => e)
      obtain ⟨ua, uc, rfl, hxx⟩ := hrow.keep hm (fun _ _ e => e)
      have Hxx := Lib.hid hxx
      have Hm := Lib.hid hm
      have h20l := H20.out l (List.mem_of_getElem? hl)
      have Hl := Lib.hid hl
      clear hxx hrow hc hl hm
      go_wp2
      go_loopw [33] (fun i wq => ∃ q : Nat, q ≤ l.length ∧ i = .int .i64 q ∧ Mod noF w2 wq ∧ ∀ (j : Nat) y, j < q → l[j]? = some y → kfOpG W ks y = 0) (fun i _ => l.length - (intOf i).toNat)
      case atStart => exact ⟨0, Nat.zero_le _, rfl, Mod.refl _ _, fun j y h => by omega⟩
      case round =>
        generalize wr = w3 at *
        obtain ⟨q, hq, rfl, hm2, hall⟩ := hrel
        have Hall3 := Lib.hid hall
        clear hall
        by_cases hlq : q < l.length
        · have hd2 : decide ((q : Int) < (l.length : Int)) = true := by simp; omega
          have hqi : (q : Int) < (l.length : Int) := by omega
          obtain ⟨x, hxl⟩ : ∃ x, l[q]? = some x := ⟨_, List.getElem?_eq_getElem hlq⟩
          obtain ⟨ub, uoff, rfl, hub, h0, h1⟩ := Hxx.out q x hxl
          have h0 := hm2.cell h0 (fun e => e)
          have h1 := hm2.cell h1 (fun e => e)
          have Hm2 := Lib.hid hm2
          have Hxl := Lib.hid hxl
          clear hxl hm2
          obtain ⟨xs, xn⟩ := x
          simp only at h0 h1
          have hE3 := (HE.out.keep (Hm.out.trans0 Hm2.out)).keep ((Mod.refl noF w3).alloc (.cells #[.string xs, .int .i64 xn] 88))
          have hbd := hE3.v1
          have hsh := hE3.v2
          by_cases hput : xs = W
          · subst hput
            by_cases hbad : xn < 1 ∨ 1000 < xn
            · have hf : kfOpG xs ks (xs, xn) = 2 := by unfold kfOpG; simp [hbad]
              have hrF := rowG_at l q _ Hxl.out Hall3.out (by rw [hf]; decide)
              rw [hf] at hrF
              have hres := allR_at ll 0 k l 2 Hl.out Hall.out hrF
              rw [Nat.zero_add] at hres
              obtain ⟨rfl, rfl⟩ := Prod.mk.inj (Hres0.out.symm.trans hres)
              clear hres hrF hf hE3
              by_cases hb1 : xn < 1
              · have d3 : decide (xn < 1) = true := by simpa using hb1
                go_wp2
                go_ret
                exact ⟨_, rfl, .inr (.inr ⟨1, _, by omega, rfl, rfl, by simp, by simp, by simp [errV]⟩), ((Hm.out.trans0 Hm2.out).alloc _).alloc _⟩
              · have d3 : decide (xn < 1) = false := by simpa using hb1
                have d4 : decide (1000 < xn) = true := by simp; omega
                go_wp2
                go_ret
                exact ⟨_, rfl, .inr (.inr ⟨1, _, by omega, rfl, rfl, by simp, by simp, by simp [errV]⟩), ((Hm.out.trans0 Hm2.out).alloc _).alloc _⟩
            · have d3 : decide (xn < 1) = false := by simp; omega
              have d4 : decide (1000 < xn) = false := by simp; omega
              have hf : kfOpG xs ks (xs, xn) = 0 := by unfold kfOpG; simp [hbad]
              have Hf := Lib.hid hf
              clear hf hE3
              go_wp2
              go_roundw
              case rel =>
                refine ⟨q + 1, by omega, by go_num, Hm2.out.alloc _, fun j y hj hy => ?_⟩
                by_cases e : j = q
                · subst e
                  rw [Hxl.out] at hy; cases hy; exact Hf.out
                · exact Hall3.out j y (by omega) hy
              case measure => simp [intOf]; omega
          · have ep : (xs.toList == W.toList) = false := str_ne hput
            have hgc := Hg.out.keep ((Hm.out.trans0 Hm2.out).alloc (.cells #[.string xs, .int .i64 xn] 88)) (fun e => e)
            have hcall := containsK _ g ks xs hgc (by omega)
            cases hmem : memK ks xs with
            | true =>
              rw [hmem] at hcall
              have Hcall := Lib.hid hcall
              clear hcall hgc
              by_cases hx0 : xn = 0
              · subst hx0
                have hf : kfOpG W ks (xs, 0) = 0 := by unfold kfOpG; rw [if_neg hput]; simp [hmem]
                have Hf := Lib.hid hf
                clear hf hE3 hmem
                go_wp2_with fail
                refine Hcall.out.mono ?_
                rintro e w9 ⟨rfl, rfl⟩
                go_wp2
                go_roundw
                case rel =>
                  refine ⟨q + 1, by omega, by go_num, Hm2.out.alloc _, fun j y hj hy => ?_⟩
                  by_cases e : j = q
                  · subst e
                    rw [Hxl.out] at hy; cases hy; exact Hf.out
                  · exact Hall3.out j y (by omega) hy
                case measure => simp [intOf]; omega
              · have n2 : (xn == 0) = false := by simpa using hx0
                have n1 : decide (xn = 0) = false := by simpa using hx0
                have hf : kfOpG W ks (xs, xn) = 3 := by unfold kfOpG; rw [if_neg hput]; simp [hx0]
                have hrF := rowG_at l q _ Hxl.out Hall3.out (by rw [hf]; decide)
                rw [hf] at hrF
                have hres := allR_at ll 0 k l 3 Hl.out Hall.out hrF
                rw [Nat.zero_add] at hres
                obtain ⟨rfl, rfl⟩ := Prod.mk.inj (Hres0.out.symm.trans hres)
                clear hres hrF hf hE3 hmem
                go_wp2_with fail
                refine Hcall.out.mono ?_
                rintro e w9 ⟨rfl, rfl⟩
                go_wp2
                go_ret
                exact ⟨_, rfl, .inr (.inr ⟨2, _, by omega, rfl, rfl, by simp, by simp, by simp [errV]⟩), ((Hm.out.trans0 Hm2.out).alloc _).alloc _⟩
            | false =>
              rw [hmem] at hcall
              have Hcall := Lib.hid hcall
              have hf : kfOpG W ks (xs, xn) = 3 := by unfold kfOpG; rw [if_neg hput]; simp [hmem]
              have hrF := rowG_at l q _ Hxl.out Hall3.out (by rw [hf]; decide)
              rw [hf] at hrF
              have hres := allR_at ll 0 k l 3 Hl.out Hall.out hrF
              rw [Nat.zero_add] at hres
              obtain ⟨rfl, rfl⟩ := Prod.mk.inj (Hres0.out.symm.trans hres)
              clear hcall hgc hres hrF hf hE3 hmem
              go_wp2_with fail
              refine Hcall.out.mono ?_
              rintro e w9 ⟨rfl, rfl⟩
              go_wp2
              go_ret
              exact ⟨_, rfl, .inr (.inr ⟨2, _, by omega, rfl, rfl, by simp, by simp, by simp [errV]⟩), ((Hm.out.trans0 Hm2.out).alloc _).alloc _⟩
        · have hd2 : decide ((q : Int) < (l.length : Int)) = false := by simp; omega
          have Hm2 := Lib.hid hm2
          have hrF : rowG W ks l = none := rowG_none fun j y hj => Hall3.out j y (by have := (List.getElem?_eq_some_iff.1 hj).1; omega) hj
          have HrF := Lib.hid hrF
          clear hm2 hrF
          go_wp2
          go_roundw
          case rel =>
            refine ⟨k + 1, by omega, by go_num, Hm.out.trans0 Hm2.out, fun j y hj hy => ?_⟩
            by_cases e : j = k
            · subst e
              rw [Hl.out] at hy; cases hy; exact HrF.out
            · exact Hall.out j y (by omega) hy
          case measure => simp [intOf]; omega
    · have hd : decide ((k : Int) < (ll.length : Int)) = false := by simp; omega
      have hres := allR_none (rf := rowG W ks) ll 0 fun j y hj => Hall.out j y (by have := (List.getElem?_eq_some_iff.1 hj).1; omega) hj
      obtain ⟨rfl, rfl⟩ := Prod.mk.inj (Hres0.out.symm.trans hres)
      have Hm := Lib.hid hm
      clear hm hres
      go_wp2
      go_ret
      exact ⟨_, rfl, .inl ⟨rfl, rfl, rfl⟩, Hm.out⟩
theorem checkG (E : ErrsAt w a) (H : RIn N w v ll) (g : Nat) (hg : KsAt w g ks) (hkl : ks.length ≤ 10) (hlen : ll.length ≤ 10) (hrow : ∀ l ∈ ll, l.length ≤ 30) :
    Calls Tryz.prog 42 #[v, .string W, .slice (some ⟨g, 0, none⟩) ks.length ks.length] w fun e w' => ∃ ev, e = .returned ev ∧ ErrIs a w' ev (kfG W ks ll).1 (kfG W ks ll).2 ∧ Mod noF w w' := by
  unfold kfG
  cases hm : manyB ll with
  | false => exact checkG_many E H g hlen hrow hm
  | true => exact checkG_ok E H g hg hkl hlen hrow hm
end Go.Proofs.YtppihkneeolomaaGreatDoor
end
/- Stacks' ops: their code; their names. -/
section
namespace Qc
open Qs Qu Qh Go.Proofs.YtppihkneeolomaaGreatDoor
def sopsCode (f tn : Nat) : Nat → List SOp → List Instr
  | _, [] => []
  | k, x :: l => sblk f tn k x ++ sopsCode f tn (k + sinc x) l
def slabs : List SOp → Nat
  | [] => 0
  | x :: l => sinc x + slabs l
theorem slabs_snoc (x : SOp) : ∀ l, slabs (l ++ [x]) = slabs l + sinc x
  | [] => by simp [slabs]
  | y :: l => by simp only [List.cons_append, slabs, slabs_snoc x l]; omega
theorem slabs_le : ∀ l, slabs l ≤ 5 * l.length
  | [] => by simp [slabs]
  | x :: l => by
    have := slabs_le l
    have h : sinc x ≤ 5 := by cases x <;> simp [sinc]
    simp only [slabs, List.length_cons]; omega
theorem sopsCode_snoc (f tn : Nat) (x : SOp) : ∀ (l : List SOp) (k : Nat), sopsCode f tn k (l ++ [x]) = sopsCode f tn k l ++ sblk f tn (k + slabs l) x
  | [], k => by simp [sopsCode, slabs]
  | y :: l, k => by
    rw [List.cons_append, sopsCode, sopsCode, sopsCode_snoc f tn x l, List.append_assoc]
    simp only [slabs]
    rw [show k + sinc y + slabs l = k + (sinc y + slabs l) by omega]
theorem gcode_len2 {f : Nat} (h4 : f ≤ 4) : (gcode f 0).length + (gcode f 1).length ≤ 65 ∧ (gcode f 3).length ≤ 70 ∧ (gcode f 4).length ≤ 70 := by
  have key : ∀ f < 5, (gcode f 0).length + (gcode f 1).length ≤ 65 ∧ (gcode f 3).length ≤ 70 ∧ (gcode f 4).length ≤ 70 := by decide +kernel
  exact key f (by omega)
theorem part_length (f k j : Nat) : (part f k j).length = (gcode f j).length := by unfold part preC; rw [List.length_map]
theorem sblk_len {f : Nat} (h4 : f ≤ 4) (tn k : Nat) (x : SOp) : (sblk f tn k x).length ≤ 90 := by
  obtain ⟨g1, g3, g4⟩ := gcode_len2 h4
  cases x with
  | push n => simp [sblk, pushBlk, pushCode]
  | pop =>
    have := part_length f k 0
    have := part_length f (k + 3) 1
    simp only [sblk, popBlk, popCode, laterBlk, List.length_append, List.length_cons, List.length_nil]; omega
  | flush =>
    have := part_length f k 4
    simp only [sblk, flushBlk, flushTail, List.length_append, List.length_cons, List.length_nil]; omega
theorem sopsCode_len {f : Nat} (h4 : f ≤ 4) (tn : Nat) : ∀ (l : List SOp) (k : Nat), (sopsCode f tn k l).length ≤ 90 * l.length
  | [], k => by simp [sopsCode]
  | x :: l, k => by
    have h1 := sopsCode_len h4 tn l (k + sinc x)
    have h2 := sblk_len h4 tn k x
    simp only [sopsCode, List.length_append, List.length_cons]; omega
/-- A thread's code. -/
def scode (f tn : Nat) (ops : List SOp) : List Instr := (sopsCode f tn 0 ops ++ part f (slabs ops) 3) ++ [⟨20, 0, 0, 0, []⟩]
/-- A stack's push. -/
theorem push_fine (k : Nat) (hk : k < 127) : BlkF k (k + 1) (pushCode (labN (k + 1))) := by
  have h := (labN_facts (k + 1) (by omega)).2.2.2
  have ha := h 0 (by decide)
  have hb := h 1 (by decide)
  have o1 : OwnBy (k + 1) (labN (k + 1) ++ [46, 97]) := ⟨by omega, _, rfl, rfl⟩
  have o2 : OwnBy (k + 1) (labN (k + 1) ++ [46, 98]) := ⟨by omega, _, rfl, rfl⟩
  have hne : labN (k + 1) ++ [46, 97] ≠ labN (k + 1) ++ [46, 98] := fun e => by simpa using List.append_cancel_left e
  unfold pushCode
  replace ha : nameB (labN (k + 1) ++ [46, 97]) = true := ha
  replace hb : nameB (labN (k + 1) ++ [46, 98]) = true := hb
  generalize labN (k + 1) ++ [46, 97] = L at *
  generalize labN (k + 1) ++ [46, 98] = M at *
  have hx : ¬ L = [] := fun e => by rw [e] at ha; cases ha
  have hy : ¬ M = [] := fun e => by rw [e] at hb; cases hb
  refine BlkF.of (codeFine_of ?_) fun x hx => ?_
  · have l1 : ∀ (A B : List UInt8), labelAt A [⟨17, 0, 0, 0, A⟩, ⟨6, 0, 5, 0, []⟩, ⟨7, 3, 0, 1, []⟩, ⟨1, 1, 0, 0, []⟩, ⟨1, 2, 3, 0, []⟩, ⟨9, 5, 1, 0, []⟩, ⟨15, 0, 1, 0, B⟩, ⟨16, 0, 0, 0, A⟩, ⟨17, 0, 0, 0, B⟩] 0 = some 0 := fun A B => by simp [labelAt]
    have l2 : labelAt M [⟨17, 0, 0, 0, L⟩, ⟨6, 0, 5, 0, []⟩, ⟨7, 3, 0, 1, []⟩, ⟨1, 1, 0, 0, []⟩, ⟨1, 2, 3, 0, []⟩, ⟨9, 5, 1, 0, []⟩, ⟨15, 0, 1, 0, M⟩, ⟨16, 0, 0, 0, L⟩, ⟨17, 0, 0, 0, M⟩] 0 = some 8 := by simp [labelAt, hne]
    have l1' := l1 L M
    unfold codeFineB
    simp only [List.length_cons, List.length_nil, List.all_cons, List.all_nil, List.range_succ, List.range_zero, List.nil_append, List.cons_append, List.all_append, List.getElem?_cons_zero, List.getElem?_cons_succ, l1', l2]
    simp [insFine, regB, Qh.z0, ha, hb]
  · simp only [List.mem_cons, List.not_mem_nil, or_false] at hx
    rcases hx with rfl | rfl | rfl | rfl | rfl | rfl | rfl | rfl | rfl
    all_goals first
      | exact .inl rfl
      | exact .inr ⟨k + 1, by omega, by omega, o1⟩
      | exact .inr ⟨k + 1, by omega, by omega, o2⟩
end Qc
end
/- Stacks' code is right; their ops' names. -/
section
namespace Qc
open Qs Qu Qh Go.Proofs.YtppihkneeolomaaGreatDoor
/-- A stack's pop. -/
theorem pop_fine (k : Nat) (hk : k < 127) : BlkF k (k + 1) (popCode (labN (k + 1))) := by
  have h := (labN_facts (k + 1) (by omega)).2.2.2
  have ha := h 0 (by decide)
  have hb := h 1 (by decide)
  have o1 : OwnBy (k + 1) (labN (k + 1) ++ [46, 97]) := ⟨by omega, _, rfl, rfl⟩
  have o2 : OwnBy (k + 1) (labN (k + 1) ++ [46, 98]) := ⟨by omega, _, rfl, rfl⟩
  have hne : labN (k + 1) ++ [46, 97] ≠ labN (k + 1) ++ [46, 98] := fun e => by simpa using List.append_cancel_left e
  unfold popCode
  replace ha : nameB (labN (k + 1) ++ [46, 97]) = true := ha
  replace hb : nameB (labN (k + 1) ++ [46, 98]) = true := hb
  generalize labN (k + 1) ++ [46, 97] = L at *
  generalize labN (k + 1) ++ [46, 98] = M at *
  refine BlkF.of (codeFine_of ?_) fun x hx => ?_
  · have l1 : ∀ (A B : List UInt8), labelAt A [⟨17, 0, 0, 0, A⟩, ⟨6, 0, 5, 0, []⟩, ⟨14, 0, 0, 0, B⟩, ⟨6, 2, 0, 1, []⟩, ⟨1, 1, 0, 0, []⟩, ⟨9, 5, 1, 0, []⟩, ⟨15, 0, 1, 0, B⟩, ⟨16, 0, 0, 0, A⟩, ⟨17, 0, 0, 0, B⟩, ⟨1, 3, 0, 0, []⟩] 0 = some 0 := fun A B => by simp [labelAt]
    have l2 : labelAt M [⟨17, 0, 0, 0, L⟩, ⟨6, 0, 5, 0, []⟩, ⟨14, 0, 0, 0, M⟩, ⟨6, 2, 0, 1, []⟩, ⟨1, 1, 0, 0, []⟩, ⟨9, 5, 1, 0, []⟩, ⟨15, 0, 1, 0, M⟩, ⟨16, 0, 0, 0, L⟩, ⟨17, 0, 0, 0, M⟩, ⟨1, 3, 0, 0, []⟩] 0 = some 8 := by simp [labelAt, hne]
    have l1' := l1 L M
    unfold codeFineB
    simp only [List.length_cons, List.length_nil, List.all_cons, List.all_nil, List.range_succ, List.range_zero, List.nil_append, List.cons_append, List.all_append, List.getElem?_cons_zero, List.getElem?_cons_succ, l1', l2]
    simp [insFine, regB, Qh.z0, ha, hb]
  · simp only [List.mem_cons, List.not_mem_nil, or_false] at hx
    rcases hx with rfl | rfl | rfl | rfl | rfl | rfl | rfl | rfl | rfl | rfl
    all_goals first
      | exact .inl rfl
      | exact .inr ⟨k + 1, by omega, by omega, o1⟩
      | exact .inr ⟨k + 1, by omega, by omega, o2⟩
/-- A block in another: a label of the outer one ahead and behind. -/
theorem BlkF.wrap {k j n : Nat} {A B C : List Instr} {p : List UInt8} (hB : BlkF k n B) (hj : OwnBy j p) (hjk : ¬ (k < j ∧ j ≤ n)) (hn : nameB p = true)
    (hA : ∀ x ∈ A, insFine x = true ∧ x.op ≠ 17 ∧ (x.to = [] ∨ x.to = p)) (hC : ∀ x ∈ C, insFine x = true ∧ x.op ≠ 17 ∧ (x.to = [] ∨ x.to = p)) {k' n' : Nat} (h1 : k' ≤ k) (h2 : n ≤ n') (h3 : k' < j ∧ j ≤ n') :
    BlkF k' n' (A ++ B ++ C ++ [⟨17, 0, 0, 0, p⟩]) := by
  have hp := Qh.nameB_ne hn
  have hlast : insFine ⟨17, 0, 0, 0, p⟩ = true := by show (Qh.z0 0 && Qh.z0 0 && Qh.z0 0 && nameB p) = true; rw [hn]; rfl
  have hBp : ∀ x ∈ B, x.to ≠ p := fun x hx e => by
    rcases hB.own x hx with h | ⟨i, i1, i2, i3⟩
    · rw [h] at e; exact hp e.symm
    · rw [e] at i3
      have := i3.inj hj
      subst this
      exact hjk ⟨i1, i2⟩
  have hlp : labelAt p (A ++ B ++ C ++ [⟨17, 0, 0, 0, p⟩]) 0 = some (A.length + B.length + C.length) := by
    have hno : ∀ x ∈ A ++ B ++ C, x.op = 17 → x.to ≠ p := fun x hx h17 => by
      rcases List.mem_append.1 hx with h | h
      · rcases List.mem_append.1 h with h | h
        · exact absurd h17 (hA x h).2.1
        · exact hBp x h
      · exact absurd h17 (hC x h).2.1
    rw [labelAt_skip _ _ hno]
    simp [labelAt]
    omega
  have hlb : ∀ t j, labelAt t B 0 = some j → labelAt t (A ++ B ++ C ++ [⟨17, 0, 0, 0, p⟩]) 0 = some (A.length + j) := fun t j h => by
    have := row_label (A := A) (B := B) (C := C ++ [⟨17, 0, 0, 0, p⟩]) (to := t) (fun x hx h17 => absurd h17 (hA x hx).2.1) h
    simpa only [List.append_assoc] using this
  refine ⟨fun x hx => ?_, fun i x hi h17 => ?_, fun x hx hne => ?_, fun x hx => ?_⟩
  · simp only [List.mem_append, List.mem_singleton] at hx
    rcases hx with ((h | h) | h) | h
    · exact (hA x h).1
    · exact hB.ins x h
    · exact (hC x h).1
    · rw [h]; exact hlast
  · by_cases c1 : i < A.length
    · rw [List.append_assoc, List.append_assoc, List.getElem?_append_left c1] at hi
      exact absurd h17 (hA x (List.mem_of_getElem? hi)).2.1
    · by_cases c2 : i < A.length + B.length
      · rw [List.append_assoc, List.append_assoc, List.getElem?_append_right (by omega), List.getElem?_append_left (by omega)] at hi
        rw [hlb _ _ (hB.set _ x hi h17)]
        congr 1; omega
      · by_cases c3 : i < A.length + B.length + C.length
        · rw [List.append_assoc, List.getElem?_append_right (by simp; omega), List.getElem?_append_left (by simp; omega)] at hi
          exact absurd h17 (hC x (List.mem_of_getElem? hi)).2.1
        · rw [List.getElem?_append_right (by simp; omega)] at hi
          have hi0 : i - (A ++ B ++ C).length = 0 := by
            have := (List.getElem?_eq_some_iff.1 hi).1
            simpa using this
          rw [hi0] at hi
          cases hi
          rw [hlp]
          simp at hi0 c3
          congr 1; omega
  · simp only [List.mem_append, List.mem_singleton] at hx
    rcases hx with ((h | h) | h) | h
    · rcases (hA x h).2.2 with e | e
      · exact absurd e hne
      · rw [e, hlp]; rfl
    · obtain ⟨j, hj⟩ := Option.isSome_iff_exists.1 (hB.lab x h hne)
      rw [hlb _ _ hj]; rfl
    · rcases (hC x h).2.2 with e | e
      · exact absurd e hne
      · rw [e, hlp]; rfl
    · rw [h]; simp only; rw [hlp]; rfl
  · simp only [List.mem_append, List.mem_singleton] at hx
    rcases hx with ((h | h) | h) | h
    · rcases (hA x h).2.2 with e | e
      · exact .inl e
      · exact .inr ⟨j, h3.1, h3.2, e ▸ hj⟩
    · exact (hB.own x h).imp id fun ⟨i, a, b, c⟩ => ⟨i, by omega, by omega, c⟩
    · rcases (hC x h).2.2 with e | e
      · exact .inl e
      · exact .inr ⟨j, h3.1, h3.2, e ▸ hj⟩
    · rw [h]; exact .inr ⟨j, h3.1, h3.2, hj⟩
theorem pushBlk_fine (n : Int) (hn : 1 ≤ n ∧ n ≤ 1000) (k : Nat) (hk : k + 2 < 128) : BlkF k (k + 2) (pushBlk (labN (k + 1)) (labN (k + 2)) n) := by
  have hnm := (labN_facts (k + 1) (by omega)).2.2.1
  have r1 : regB n 4294967296 = true := by unfold regB; simp; omega
  have h := (push_fine (k + 1) (by omega)).wrap (A := [⟨10, 3, 0, 0, []⟩, ⟨14, 3, 0, 0, labN (k + 1)⟩, ⟨0, 0, n, 0, []⟩, ⟨7, 3, 0, 0, []⟩]) (C := []) (OwnBy.self (j := k + 1) (by omega)) (by omega) hnm (fun x hx => by
    simp only [List.mem_cons, List.not_mem_nil, or_false] at hx
    rcases hx with rfl | rfl | rfl | rfl
    · exact ⟨rfl, by simp, .inl rfl⟩
    · exact ⟨by show (regB 3 8 && Qh.z0 0 && Qh.z0 0 && nameB (labN (k + 1))) = true; rw [hnm]; rfl, by simp, .inr rfl⟩
    · exact ⟨by show (regB 0 8 && regB n 4294967296 && Qh.z0 0 && true) = true; rw [r1]; rfl, by simp, .inl rfl⟩
    · exact ⟨rfl, by simp, .inl rfl⟩) (fun x hx => by cases hx) (k' := k) (n' := k + 2) (by omega) (by omega) (by omega)
  rw [List.append_nil] at h
  exact h
theorem popBlk_fine (k : Nat) (hk : k + 2 < 128) : BlkF k (k + 2) (popBlk (labN (k + 1)) (labN (k + 2))) := by
  have hnm := (labN_facts (k + 2) (by omega)).2.2.1
  have h := (pop_fine k (by omega)).wrap (A := []) (C := [⟨14, 3, 0, 0, labN (k + 2)⟩, ⟨6, 0, 3, 0, []⟩, ⟨18, 0, 0, 0, []⟩]) (OwnBy.self (j := k + 2) (by omega)) (by omega) hnm (fun x hx => by cases hx) (fun x hx => by
    simp only [List.mem_cons, List.not_mem_nil, or_false] at hx
    rcases hx with rfl | rfl | rfl
    · exact ⟨by show (regB 3 8 && Qh.z0 0 && Qh.z0 0 && nameB (labN (k + 2))) = true; rw [hnm]; rfl, by simp, .inr rfl⟩
    · exact ⟨rfl, by simp, .inl rfl⟩
    · exact ⟨rfl, by simp, .inl rfl⟩) (k' := k) (n' := k + 2) (by omega) (by omega) (by omega)
  unfold popBlk
  simpa only [List.nil_append, List.append_assoc, List.cons_append] using h
theorem sblk_fine {f : Nat} (h1 : 1 ≤ f) (h4 : f ≤ 4) (tn : Nat) (ht : tn < 8) (k : Nat) (hk : k + 5 < 128) (x : SOp) (hx : ∀ n, x = .push n → 1 ≤ n ∧ n ≤ 1000) : BlkF k (k + sinc x) (sblk f tn k x) := by
  cases x with
  | push n => exact pushBlk_fine n (hx n rfl) k (by omega)
  | pop =>
    have a := part_fine h1 h4 (show 0 < 5 by decide) k (by omega)
    have b := popBlk_fine (k + 1) (by omega)
    have c := part_fine h1 h4 (show 1 < 5 by decide) (k + 3) (by omega)
    have d := later_fine tn 2 ht (by omega) (k + 4) (by omega)
    have h := ((a.append b (by omega) (by omega)).append c (by omega) (by omega)).append d (by omega) (by omega)
    exact h
  | flush => exact flushBlk_fine h1 h4 tn 2 ht (by omega) k (by omega)
theorem sopsCode_fine {f : Nat} (h1 : 1 ≤ f) (h4 : f ≤ 4) (tn : Nat) (ht : tn < 8) : ∀ (l : List SOp) (k : Nat), (∀ n, SOp.push n ∈ l → 1 ≤ n ∧ n ≤ 1000) → k + slabs l + 6 < 128 → BlkF k (k + slabs l) (sopsCode f tn k l)
  | [], k, _, _ => by simpa [sopsCode, slabs] using BlkF.nil k
  | x :: l, k, hp, hk => by
    simp only [slabs] at hk
    have ih := sopsCode_fine h1 h4 tn ht l (k + sinc x) (fun n hn => hp n (List.mem_cons_of_mem _ hn)) (by omega)
    have hb := sblk_fine h1 h4 tn ht k (by omega) x (fun n hn => hp n (by rw [hn]; simp))
    have := hb.append ih (by omega) (by omega)
    simp only [slabs, sopsCode]
    rw [show k + (sinc x + slabs l) = k + sinc x + slabs l by omega]
    exact this
theorem scode_fine {f : Nat} (h1 : 1 ≤ f) (h4 : f ≤ 4) (tn : Nat) (ht : tn < 8) {l : List SOp} (h20 : l.length ≤ 20) (hp : ∀ n, SOp.push n ∈ l → 1 ≤ n ∧ n ≤ 1000) : CodeFine (scode f tn l) := by
  have hl := slabs_le l
  have hc := sopsCode_len h4 tn l 0
  have hg := part_length f (slabs l) 3
  obtain ⟨g1, g3, g4⟩ := gcode_len2 h4
  have h := sopsCode_fine h1 h4 tn ht l 0 hp (by omega)
  rw [Nat.zero_add] at h
  have h2 := (h.append (part_fine h1 h4 (show 3 < 5 by decide) (slabs l) (by omega)) (by omega) (by omega)).append (stop_fine _) (by omega) (by omega)
  exact h2.fine (by simp only [List.length_append, List.length_singleton]; omega)
end Qc
namespace Go.Proofs.YtppihkneeolomaaGreatDoor
open Go.RowKit Qs Qh Qc
def kPush : ByteArray := ⟨#[112, 117, 115, 104]⟩
def kPop : ByteArray := ⟨#[112, 111, 112]⟩
def kFlsh : ByteArray := ⟨#[102, 108, 117, 115, 104]⟩
def sK : SOp → ByteArray
  | .push _ => kPush
  | .pop => kPop
  | .flush => kFlsh
def sN : SOp → Int
  | .push n => n
  | _ => 0
def sR (x : SOp) : ROp := (sK x, sN x)
def rawS (q : List (List SOp)) : List (List ROp) := q.map (·.map sR)
def toS (x : ROp) : SOp := if x.1 = kPush then .push x.2 else if x.1 = kPop then .pop else .flush
theorem toS_ok {x : ROp} (h : kfOpG kPush [kPop, kFlsh] x = 0) : sR (toS x) = x ∧ ∀ n, toS x = .push n → 1 ≤ n ∧ n ≤ 1000 := by
  obtain ⟨k, n⟩ := x
  unfold kfOpG at h
  simp only at h
  by_cases hp : k = kPush
  · subst hp
    rw [if_pos rfl] at h
    have hb : ¬ (n < 1 ∨ 1000 < n) := fun e => by rw [if_pos e] at h; cases h
    have ht : toS (kPush, n) = .push n := by unfold toS; simp
    rw [ht]
    exact ⟨rfl, fun m e => by cases e; omega⟩
  · rw [if_neg hp] at h
    have hm : memK [kPop, kFlsh] k = true ∧ n = 0 := by
      by_cases e : memK [kPop, kFlsh] k = true ∧ n = 0
      · exact e
      · rw [if_neg e] at h; cases h
    obtain ⟨hm, rfl⟩ := hm
    have := memK_iff.1 hm
    simp only [List.mem_cons, List.not_mem_nil, or_false] at this
    rcases this with rfl | rfl
    · exact ⟨by simp [toS, sR, sK, sN, kPush, kPop], fun n e => by simp [toS, kPush, kPop] at e⟩
    · exact ⟨by simp [toS, sR, sK, sN, kPush, kPop, kFlsh], fun n e => by simp [toS, kPush, kPop, kFlsh] at e⟩
theorem rowG_zero {W : ByteArray} {ks : List ByteArray} {l : List ROp} (h : rowG W ks l = none) : ∀ x ∈ l, kfOpG W ks x = 0 := fun x hx => by
  unfold rowG at h
  have := List.find?_eq_none.1 h _ (List.mem_map_of_mem hx)
  simpa using this
theorem rowG_ne {W : ByteArray} {ks : List ByteArray} {l : List ROp} {c : Int} (h : rowG W ks l = some c) : c ≠ 0 := by
  unfold rowG at h
  have := List.find?_some h
  simpa using this
theorem good_rawS {ll : List (List ROp)} (h : (kfG kPush [kPop, kFlsh] ll).1 = 0) : ∃ q : List (List SOp), ll = rawS q ∧ 1 ≤ q.length ∧ q.length ≤ 6 ∧ (∀ l ∈ q, l.length ≤ 20) ∧ ∀ l ∈ q, ∀ n, SOp.push n ∈ l → 1 ≤ n ∧ n ≤ 1000 := by
  unfold kfG at h
  cases hm : manyB ll with
  | false => rw [hm] at h; simp at h
  | true =>
    rw [hm] at h
    simp only [if_true] at h
    obtain ⟨h1, h6, h20⟩ := manyB_iff.1 hm
    have hall : ∀ l ∈ ll, rowG kPush [kPop, kFlsh] l = none := by
      rcases allR_cases (rf := rowG kPush [kPop, kFlsh]) ll 0 with ⟨_, h2⟩ | ⟨k, l', c, g1, g2, g3, g4⟩
      · exact h2
      · rw [g3] at h
        exact absurd h (rowG_ne g2)
    have hx : ∀ l ∈ ll, ∀ x ∈ l, sR (toS x) = x ∧ ∀ n, toS x = .push n → 1 ≤ n ∧ n ≤ 1000 := fun l hl x hx => toS_ok (rowG_zero (hall l hl) x hx)
    have hmap : ∀ l ∈ ll, (l.map toS).map sR = l := fun l hl => by
      rw [List.map_map]
      conv => rhs; rw [← List.map_id l]
      exact List.map_congr_left fun x hx' => (hx l hl x hx').1
    refine ⟨ll.map (·.map toS), ?_, by simpa using h1, by simpa using h6, fun l hl => ?_, fun l hl n hn => ?_⟩
    · unfold rawS
      rw [List.map_map]
      conv => lhs; rw [← List.map_id ll]
      exact List.map_congr_left fun l hl => (hmap l hl).symm
    · obtain ⟨l', hl', rfl⟩ := List.mem_map.1 hl
      rw [List.length_map]; exact h20 l' hl'
    · obtain ⟨l', hl', rfl⟩ := List.mem_map.1 hl
      obtain ⟨x, hx', e⟩ := List.mem_map.1 hn
      exact (hx l' hl' x hx').2 n e
variable {N0 K tn f : Nat} {big : Prop} {w w1 w2 : World} {b k : Nat} {v v1 v2 : Value} {l : List Instr}
theorem sopk_any (x : SOp) (HF : FreshH N0 big f (tn : Nat) 2 K) (hT : big → lowT N0) (h1 : 1 ≤ f) (h4 : f ≤ 4) (htn : tn < 6) (M : MkA N0 big f (tn : Nat) 2 w b v l k) (hk : k + 5 ≤ K) (hK : K ≤ 120) (hl : l.length ≤ 80000) :
    Calls Tryz.prog 46 #[.pointer (some ⟨b, 0, none⟩), .agg #[.string (sK x), .int .i64 (sN x)]] w fun e w' => e = .returned (.tuple #[]) ∧ ∃ v', MkA N0 big f (tn : Nat) 2 w' b v' (l ++ sblk f tn k x) (k + sinc x) ∧ MkStep w b v w' v' := by
  cases x with
  | push n => exact sop_k_push n HF hT h1 h4 htn M hk hK hl
  | pop => exact sop_k_pop HF hT h1 h4 htn M hk hK hl
  | flush => exact sop_k_flush HF hT h1 h4 htn M hk hK hl
end Go.Proofs.YtppihkneeolomaaGreatDoor
end
/- stack.Build: what it makes, in plain. -/
section
namespace Qc
open Qs Qu Go.Proofs.YtppihkneeolomaaGreatDoor
def gRegS (n t : Nat) : List Int := [0, 0, 0, 0, 0, (n : Int) + 4, (t : Int) + 1, (n : Int) + 1]
def sInit (f n : Nat) : List (List Int) := rowsF (gOwnC f) n ++ [gHubC f n] ++ [[]] ++ [[]] ++ [[0, (n : Int) + 2, (n : Int) + 3]]
def sRegs (n : Nat) : List (List Int) := rowsF (gRegS n) n
def sCs (f : Nat) (q : List (List SOp)) (t : Nat) : List Instr := scode f t (q.getD t [])
def sCodes (f : Nat) (q : List (List SOp)) : List (List Instr) := (List.range q.length).map (sCs f q)
theorem gRegS_step (n t : Nat) : (gReg2 n t).set 5 ((n : Int) + 4) = gRegS n t := rfl
theorem sInit_len (f n : Nat) : (sInit f n).length = n + 4 := by simp [sInit, rowsF_len]
theorem sInit_all (f n : Nat) : ∀ l ∈ sInit f n, l.length ≤ 4 := fun l hl => by
  simp only [sInit, List.mem_append, List.mem_singleton] at hl
  rcases hl with (((h | h) | h) | h) | h
  · obtain ⟨i, -, rfl⟩ := List.mem_map.1 h
    simp [gOwnC]
  all_goals subst h; simp [gHubC]
theorem sInit_rows (f n : Nat) : ∀ l ∈ sInit f n, l.length ≤ 100 := fun l hl => Nat.le_trans (sInit_all f n l hl) (by decide)
theorem sRegs_len (n : Nat) : (sRegs n).length = n := rowsF_len
theorem sCodes_len (f : Nat) (q : List (List SOp)) : (sCodes f q).length = q.length := by simp [sCodes]
theorem sCs_get {f t : Nat} {q : List (List SOp)} {l : List SOp} (h : q[t]? = some l) : sCs f q t = scode f t l := by unfold sCs; rw [List.getD_eq_getElem?_getD, h]; rfl
end Qc
end
/- package client: an op's code. -/
section
namespace Qc
open Qs Qu Go.Proofs.YtppihkneeolomaaGreatDoor
inductive COp where
  | enter | leave | rest | wait | read | put (n : Int) | drop | later | flush
deriving DecidableEq
end Qc
namespace Go.Proofs.YtppihkneeolomaaGreatDoor
open Go.RowKit Qs Qh
variable {N0 K tn f : Nat} {big : Prop} {w w1 w2 : World} {b k : Nat} {v v1 v2 : Value} {l : List Instr}
end Go.Proofs.YtppihkneeolomaaGreatDoor
end
/- package client: the kinds of its ops, laid in a variable; is a name one? -/
section
namespace Go.Proofs.YtppihkneeolomaaGreatDoor
open Go.RowKit Qs Qh
def kindsC : List ByteArray := [⟨#[101, 110, 116, 101, 114]⟩, ⟨#[108, 101, 97, 118, 101]⟩, ⟨#[114, 101, 115, 116]⟩, ⟨#[119, 97, 105, 116]⟩, ⟨#[114, 101, 97, 100]⟩, ⟨#[112, 117, 116]⟩, ⟨#[100, 114, 111, 112]⟩, ⟨#[108, 97, 116, 101, 114]⟩, ⟨#[102, 108, 117, 115, 104]⟩]
/-- The variable and its row. -/
def KindsW (w : World) : Prop := ∃ g off cap, w.cell? ⟨10, 0, none⟩ = some (.slice (some ⟨g, off, none⟩) 9 cap) ∧ ∀ (i : Nat) x, kindsC[i]? = some x → w.cell? ⟨g, off + i, none⟩ = some (.string x)
theorem KindsW.keep {w w' : World} (h : KindsW w) (hM : Mod noF w w') : KindsW w' := by
  obtain ⟨g, off, cap, h1, h2⟩ := h
  exact ⟨g, off, cap, hM.cell h1 (fun e => e), fun i x hi => hM.cell (h2 i x hi) (fun e => e)⟩
end Go.Proofs.YtppihkneeolomaaGreatDoor
end
/- What clients may do, in plain: the program's words. -/
section
namespace Go.Proofs.YtppihkneeolomaaGreatDoor
open Go.RowKit Qs Qh
/-- A thread's state: how deep, whether something is retired, waited behind it, whether it is unsafe. -/
structure CSt where
  d : Nat
  r : Bool
  w : Bool
  u : Bool
deriving DecidableEq
def c0 : CSt := ⟨0, false, false, false⟩
end Go.Proofs.YtppihkneeolomaaGreatDoor
end
/- Clients' ops: their code; their names. -/
section
namespace Qc
open Qs Qu Go.Proofs.YtppihkneeolomaaGreatDoor
theorem part_len2 {f j : Nat} (h4 : f ≤ 4) (hj : j < 5) (k : Nat) : (part f k j).length ≤ 70 := by unfold part preC; rw [List.length_map]; exact gcode_len h4 hj
end Qc
namespace Go.Proofs.YtppihkneeolomaaGreatDoor
open Go.RowKit Qs Qh Qc
variable {N0 K tn f : Nat} {big : Prop} {w w1 w2 : World} {b k : Nat} {v v1 v2 : Value} {l : List Instr}
end Go.Proofs.YtppihkneeolomaaGreatDoor
end
/- client.Build: its walk on lists that are right. -/
section
namespace Go.Proofs.YtppihkneeolomaaGreatDoor
open Go.RowKit Qs Qh Qc
variable {N f : Nat} {w w' : World} {v u : Value} {q : List (List COp)} {a : Nat → Addr}
theorem codeInfoC : (Tryz.prog.info? 71).map (fun i => (i.zero, i.size, i.bytes)) = some (some (.slice none 0 0), 1, 24) := by kernel_rfl
theorem gReg2_len (n t : Nat) : (gReg2 n t).length = 8 := rfl
/-- Build's state while its cells are laid. -/
structure CelS (w0 : World) (T2 B S : Nat) (rv iv : Value) (rb : Nat → Nat) (regs rows : List (List Int)) (w : World) : Prop where
  mod : Mod noF w0 w
  base : BaseAt w B iv rv
  init : ∃ ib, Rws S w.heap.size w iv rows ib
  regs : Rws (B + 1) S w rv regs rb
  res : w.heap[T2]? = some (.cells #[.int .i64 0, .slice none 0 0, .slice none 0 0] 32 (0, 0))
  o1 : w0.heap.size ≤ T2
  o2 : T2 < B
  o3 : B + 1 ≤ S
  o4 : S ≤ w.heap.size
theorem CelS.cell {w0 W : World} {T2 B S : Nat} {rv iv : Value} {rb : Nat → Nat} {regs rows : List (List Int)} (C : CelS w0 T2 B S rv iv rb regs rows w) (hM : Mod noF w W) (h64 : rows.length < 64) (l : List Int) (r : Nat) (hr : l.length ≠ 0 → w.heap.size ≤ r ∧ W.heap[r]? = some (.cells (l.map (Value.int .i64)).toArray 3 (0, 0))) :
    Calls Tryz.prog 45 #[.pointer (some ⟨B, 0, none⟩), rwU l r] W fun e w' => e = .returned (.int .i64 ((rows.length : Int) + 1)) ∧ ∃ iv', CelS w0 T2 B S rv iv' rb regs (rows ++ [l]) w' := by
  obtain ⟨ib, R⟩ := C.init
  have hsz := hM.size
  have ho := C.o1
  have ho2 := C.o2
  have ho3 := C.o3
  have ho4 := C.o4
  refine (cell_ok0 (lo0 := S) (Nat.le_refl _) (hM.heap C.base (fun e => e)) (R.keep hM (fun _ _ _ e => e)) hM.size (by omega) (by omega) h64 (fun h => ⟨by have := (hr h).1; omega, by have := (hr h).1; omega, .inl (hr h).1⟩) (fun h => (hr h).2)).mono ?_
  rintro e w3 ⟨rfl, iv', hB, hR, hm⟩
  have hiv : ∀ x, iv.ownBlock = some x → S ≤ x := fun x hx => (R.vin x hx).1
  have hs3 := hm.size
  refine ⟨rfl, iv', (C.mod.trans0 hM).trans hm fun x hx e => ?_, hB, hR, (C.regs.keep hM (fun _ _ _ e => e)).keep hm fun x h1 h2 e => ?_, hm.heap (hM.heap C.res (fun e => e)) fun e => ?_, ho, ho2, ho3, by omega⟩
  · have := C.mod.size
    rcases e with e | e
    · omega
    · have := hiv x e; omega
  · rcases e with e | e
    · omega
    · have := hiv x e; omega
  · rcases e with e | e
    · omega
    · have := hiv _ e; omega
end Go.Proofs.YtppihkneeolomaaGreatDoor
end
/- stack.Build: its walk on lists that are right. -/
section
namespace Go.Proofs.YtppihkneeolomaaGreatDoor
open Go.RowKit Qs Qh Qc
variable {N f : Nat} {w w' : World} {v u : Value} {q : List (List SOp)} {a : Nat → Addr}
set_option maxRecDepth 4000 in
set_option maxHeartbeats 16000000 in
theorem sbuild_ok (HFB : ∀ (N0 : Nat) (f t : Int), lowT N0 → FreshH N0 True f t 2 101) (E : ErrsAt w a) (HTB : TabW w) (H : RIn N w v (rawS q)) (hN : N ≤ w.heap.size) (hc0 : (kfG kPush [kPop, kFlsh] (rawS q)).1 = 0) (h1 : 1 ≤ q.length) (h6 : q.length ≤ 6) (h20 : ∀ l ∈ q, l.length ≤ 20) (hf1 : 1 ≤ f) (hf4 : f ≤ 4) :
    Calls Tryz.prog 11 #[.int .i64 f, v] w fun e w' => ∃ iv rv cv vk, e = .returned (.tuple #[.agg #[.int .i64 64, iv, rv], cv, .nilIface]) ∧ Mod noF w w' ∧ Qh.RowsAt w' iv (sInit f q.length) ∧ Qh.RowsAt w' rv (sRegs q.length) ∧ CodesAt w' cv (sCodes f q) vk := by
  have hrl : (rawS q).length = q.length := by simp [rawS]
  have hrow : ∀ l ∈ rawS q, l.length ≤ 30 := fun l hl => by
    obtain ⟨l', hl', rfl⟩ := List.mem_map.1 hl
    have := h20 l' hl'
    rw [List.length_map]; omega
  have hck := fun w1 (hm : Mod noF w w1) (g : Nat) (hg : KsAt w1 g [kPop, kFlsh]) => checkG (W := kPush) (ks := [kPop, kFlsh]) (E.keep hm) (H.keep hm (fun _ _ e => e)) g hg (by decide) (by omega) hrow
  have Hck := Lib.hid hck
  obtain ⟨i0, hti, hz0, hz1, hz2⟩ := info_parts codeInfoC
  obtain ⟨oa, oc, rfl, hx⟩ := H
  rw [hrl] at *
  have hx' : ∀ (k : Nat) l, q[k]? = some l → ∃ (b : Nat) (off : Nat) (u : Value), oa.map (·.add k) = oa.map (·.add k) ∧ (rawS q)[k]? = some (l.map sR) := fun k l hl => ⟨0, 0, .nilIface, rfl, by unfold rawS; rw [List.getElem?_map, hl]; rfl⟩
  have hget : ∀ (k : Nat) l, q[k]? = some l → (rawS q)[k]? = some (l.map sR) := fun k l hl => by unfold rawS; rw [List.getElem?_map, hl]; rfl
  have Hx := Lib.hid hx
  have H20 := Lib.hid h20
  have Hget := Lib.hid hget
  have Hc0 := Lib.hid hc0
  have HFBh := Lib.hid HFB
  have HTBh := Lib.hid HTB
  have hlow : 11 < w.heap.size := by obtain ⟨T, fr, h⟩ := HTB; exact lt_of_block h
  have Hlow := Lib.hid hlow
  clear hlow hx h20 hx' hget hck E HTB HFB hrow hc0 hrl
  go_enter Tryz.func11, Tryz.ntmps11
  go_wp2_with fail
  have hq := ((Mod.refl noF w).alloc (.cells #[.int .i64 0, .slice none 0 0, .slice none 0 0] 32)).alloc (.cells #[.string kPop, .string kFlsh] 9)
  have hks : KsAt ((w.alloc (.cells #[.int .i64 0, .slice none 0 0, .slice none 0 0] 32)).alloc (.cells #[.string kPop, .string kFlsh] 9)) (w.heap.size + 1) [kPop, kFlsh] := fun i x hi => by
    match i, hi with
    | 0, hi => cases hi; simp
    | 1, hi => cases hi; simp
    | i + 2, hi => simp at hi
  refine (Hck.out _ hq _ hks).mono ?_
  rintro e wc ⟨ev, rfl, hEv, hmc⟩
  rw [Hc0.out] at hEv
  obtain rfl := hEv.nil
  have hres : wc.heap[w.heap.size]? = some (.cells #[.int .i64 0, .slice none 0 0, .slice none 0 0] 32 (0, 0)) := ((Mod.refl noF _).alloc _ |>.trans0 hmc).heap (heap_alloc_new w _) (fun e => e)
  have hmw := hq.trans0 hmc
  have hszc : w.heap.size + 1 ≤ wc.heap.size := by have := lt_of_block hres; omega
  have Hmw := Lib.hid hmw
  have Hres := Lib.hid hres
  clear hmc hmw hres hEv hq hks
  go_wp2_with fail
  refine (newBase_ok q.length h6 wc).mono ?_
  rintro e wb ⟨rv, rb, rfl, hmb, hB, R⟩
  have hbs := hmb.size
  have hb1 := lt_of_block hB
  have Hmb := Lib.hid hmb
  have HB := Lib.hid hB
  have HR := Lib.hid R
  clear hmb hB R
  go_wp2_with fail
  refine (grace_ok hf1 hf4 h1 h6 HB.out HR.out (by omega) (by omega) (by omega)).mono ?_
  rintro e w2 ⟨rfl, iv2, ib2, hB2, R2r, R2, hm2⟩
  have hs2 := hm2.size
  have hm2w := (Hmw.out.trans0 Hmb.out).trans hm2 (fun x hx e => by omega)
  have hres2 := hm2.heap (Hmb.out.heap Hres.out (fun e => e)) (fun e => by omega)
  have hC2 : CelS w w.heap.size wc.heap.size wb.heap.size rv iv2 rb (rowsF (gReg2 q.length) q.length) (rowsF (gOwnC f) q.length ++ [gHubC f q.length]) w2 := ⟨hm2w, hB2, ⟨_, R2⟩, R2r, hres2, Nat.le_refl _, by omega, by omega, hs2⟩
  have hl2 : (rowsF (gOwnC f) q.length ++ [gHubC f q.length]).length = q.length + 1 := by simp [rowsF_len]
  have HC2 := Lib.hid hC2
  clear hm2w hm2 hB2 R2 R2r hres2 HR HB Hmb Hres Hmw hC2
  generalize hrw : rowsF (gOwnC f) q.length ++ [gHubC f q.length] = rows0 at *
  go_wp2_with fail
  refine (HC2.out.cell (Mod.refl noF w2) (by omega) [] 0 (fun h => absurd rfl h)).mono ?_
  rintro e w3 ⟨he3, iv3, hC3⟩
  have e3 : (rows0.length : Int) + 1 = (q.length : Int) + 2 := by omega
  rw [e3] at he3
  subst he3
  have HC3 := Lib.hid hC3
  clear hC3 HC2
  go_wp2_with fail
  refine (HC3.out.cell (Mod.refl noF w3) (by simp; omega) [] 0 (fun h => absurd rfl h)).mono ?_
  rintro e w4 ⟨he4, iv4, hC4⟩
  have e4 : ((rows0 ++ [[]]).length : Int) + 1 = (q.length : Int) + 3 := by simp; omega
  rw [e4] at he4
  subst he4
  have HC4 := Lib.hid hC4
  clear hC4 HC3
  go_wp2_with fail
  refine (HC4.out.cell ((Mod.refl noF w4).alloc _) (by simp; omega) [0, (q.length : Int) + 2, (q.length : Int) + 3] w4.heap.size (fun _ => ⟨Nat.le_refl _, heap_alloc_new w4 _⟩)).mono ?_
  rintro e w6 ⟨he6, iv, hC6⟩
  have e6 : ((rows0 ++ [[]] ++ [[]]).length : Int) + 1 = (q.length : Int) + 4 := by simp; omega
  rw [e6] at he6
  subst he6
  rw [← hrw] at hC6
  have HC6 := Lib.hid hC6
  clear hC6 HC4 e3 e4 e6 hl2
  obtain ⟨ib, R6⟩ := HC6.out.init
  have ho := HC6.out.o1
  have ho2 := HC6.out.o2
  have ho3 := HC6.out.o3
  have ho4 := HC6.out.o4
  have hrel : BldRel w ⟨w.heap.size, wc.heap.size, wc.heap.size + 1, wb.heap.size, wb.heap.size, w6.heap.size, w6.heap.size⟩ iv rv rb ib (sCs f q) (sInit f q.length) (rowsF (mixF (gRegS q.length) (gReg2 q.length) 0) q.length) 0 (.slice none 0 0) (fun _ => .nilIface) w6 :=
    ⟨HC6.out.mod, Nat.le_refl _, HC6.out.res, HC6.out.base, by rw [mix_zero]; exact HC6.out.regs, R6, Cds.nil _ _ _ _⟩
  obtain ⟨ra, rc, hrv, -⟩ := HC6.out.regs.cell
  rw [rowsF_len] at hrv
  subst hrv
  obtain ⟨p, hp⟩ : ∃ p : Plc, p = ⟨w.heap.size, wc.heap.size, wc.heap.size + 1, wb.heap.size, wb.heap.size, w6.heap.size, w6.heap.size⟩ := ⟨_, rfl⟩
  have hP : p.Ok w := by subst hp; exact ⟨Nat.le_refl _, by simp only; omega, by simp only; omega, by simp only; omega, Nat.le_refl _, by simp only; omega, Nat.le_refl _⟩
  rw [← hp] at hrel
  have hpB : wc.heap.size = p.B := by rw [hp]
  have hpT : w.heap.size = p.T2 := by rw [hp]
  have HP := Lib.hid hP
  have Hrel := Lib.hid hrel
  clear hrel hP hp R6 HC6 Hck
  go_wp2
  go_loopw [11, 43] (fun c i wr => ∃ (k : Nat) (vk : Nat → Value), k ≤ q.length ∧ i = .int .i64 k ∧ BldRel w p iv (.slice ra q.length rc) rb ib (sCs f q) (sInit f q.length) (rowsF (mixF (gRegS q.length) (gReg2 q.length) k) q.length) k c vk wr) (fun _ i _ => q.length - (intOf i).toNat)
  case atStart => exact ⟨0, _, Nat.zero_le _, rfl, Hrel.out⟩
  case round =>
    generalize wr = wo at *
    obtain ⟨k, vk, hk, rfl, hR⟩ := hrel
    obtain ⟨ra', rc', hrv, hrx⟩ := hR.regs.cell
    rw [rowsF_len] at hrv
    cases hrv
    obtain ⟨ca, cb, cc, rfl⟩ := slice_of_own hR.cds.own
    by_cases hlt : k < q.length
    · have hd : decide ((k : Int) < (q.length : Int)) = true := by simp; omega
      have hki : (k : Int) < (q.length : Int) := by omega
      obtain ⟨l, hl⟩ : ∃ l, q[k]? = some l := ⟨_, List.getElem?_eq_getElem hlt⟩
      obtain ⟨b, off, u, rfl, hb, hc, hrow⟩ := Hx.out k _ (Hget.out k l hl)
      have hc2 := hR.mod.cell hc (fun e => e)
      have hlm : (l.map sR).length = l.length := List.length_map _
      obtain ⟨ua, uc, rfl, hxx⟩ := hrow.keep hR.mod (fun _ _ e => e)
      have hxw : ∀ wx, Mod noF w wx → RRow N wx (.slice ua (l.map sR).length uc) (l.map sR) := fun wx h => hrow.keep h (fun _ _ e => e)
      obtain ⟨gb, rfl, hgb, hrk⟩ := hrx k _ (mix_get hlt)
      obtain ⟨hR1, hrow8, hlo⟩ := hR.store (x := (q.length : Int) + 4) (j := 5) HP.out (mix_get hlt) (by rw [gReg2_len]; omega)
      rw [gRegS_step, mix_set hlt] at hR1
      have b2 : wo.cell? ⟨p.B, 2, none⟩ = some (.slice (some ⟨gb, 0, none⟩) q.length rc) := by rw [cell_of_heap hR.base]; rfl
      have b3 : wo.cell? ⟨gb, k, none⟩ = some (.slice (some ⟨rb k, 0, none⟩) 8 8) := hrk
      have b4 : wo.cell? ⟨rb k, 5, none⟩ = some (.int .i64 0) := by rw [cell_of_heap hrow8]; rfl
      have b5 := free_of_heap hrow8 5
      have h20l := H20.out l (List.mem_of_getElem? hl)
      have hsz1 : (wo.setCell ⟨rb k, 5, none⟩ (.int .i64 ((q.length : Int) + 4))).heap.size = wo.heap.size := by simp [World.setCell]
      rw [hlm] at hc2
      have HR := Lib.hid hR
      have HR1 := Lib.hid hR1
      have Hxw := Lib.hid hxw
      have Hl := Lib.hid hl
      have Hsz1 := Lib.hid hsz1
      clear hR hR1 hxw hl hxx hrow hc hrk hrow8 hrx hsz1
      go_wp2
      go_name_world wm hwm
      have htw : TabW wm := HTBh.out.keep (HR1.out.mod.trans0 (by rw [← hwm]; exact (Mod.refl noF _).alloc _)) (fun e => e)
      have Htw := Lib.hid htw
      have hlw : lowT wo.heap.size := by unfold lowT; have := HR.out.mod.size; have := Hlow.out; omega
      have Hlw := Lib.hid hlw
      clear htw
      have hM0 : MkA wo.heap.size True (f : Nat) (k : Nat) 2 wm wo.heap.size (.slice none 0 0) [] 0 := by
        have hh : wm.heap[wo.heap.size]? = some (.cells #[.slice none 0 0, .int .i64 f, .int .i64 k, .int .i64 2, .int .i64 0] 101 (0, 0)) := by
          rw [← hwm, ← Hsz1.out]; exact heap_alloc_new _ _
        exact ⟨⟨⟨by rw [cell_of_heap hh]; rfl, free_of_heap hh 0, InsRow.nil _ _, (fun g h => by cases h), lt_of_block hh⟩, by rw [cell_of_heap hh]; rfl, free_of_heap hh 4⟩, by rw [cell_of_heap hh]; rfl, by rw [cell_of_heap hh]; rfl, by rw [cell_of_heap hh]; rfl, Nat.le_refl _, (fun g h => by cases h), Nat.le_of_lt (lt_of_block hh), fun _ => Htw.out⟩
      have hq0 : Mod noF (wo.setCell ⟨rb k, 5, none⟩ (.int .i64 ((q.length : Int) + 4))) wm := by rw [← hwm]; exact (Mod.refl noF _).alloc _
      have hFR : FreshH wo.heap.size True (f : Nat) (k : Nat) 2 101 := HFBh.out _ _ _ Hlw.out
      clear hlw
      have HFR := Lib.hid hFR
      have HM0 := Lib.hid hM0
      have Hq0 := Lib.hid hq0
      clear hM0 hq0 hwm hFR
      go_loopw [64] (fun i wr => ∃ (j : Nat) (v : Value), j ≤ l.length ∧ i = .int .i64 j ∧ MkA wo.heap.size True (f : Nat) (k : Nat) 2 wr wo.heap.size v (sopsCode f k 0 (l.take j)) (slabs (l.take j)) ∧ Mod noF (wo.setCell ⟨rb k, 5, none⟩ (.int .i64 ((q.length : Int) + 4))) wr) (fun i _ => l.length - (intOf i).toNat)
      case atStart => exact ⟨0, .slice none 0 0, Nat.zero_le _, rfl, HM0.out, Hq0.out⟩
      case round =>
        obtain ⟨j, v, hj, rfl, hMk, hmq⟩ := hrel
        by_cases hlj : j < l.length
        · have hd2 : decide ((j : Int) < (l.length : Int)) = true := by simp; omega
          have hji : (j : Int) < (l.length : Int) := by omega
          obtain ⟨x, hxl⟩ : ∃ x, l[j]? = some x := ⟨_, List.getElem?_eq_getElem hlj⟩
          obtain ⟨ua', uc', e', hxx⟩ := Hxw.out wr (HR1.out.mod.trans0 hmq)
          cases e'
          obtain ⟨ub, uoff, rfl, hub, h0, h1⟩ := hxx j (sR x) (by rw [List.getElem?_map, hxl]; rfl)
          have hlen := sopsCode_len hf4 k (l.take j) 0
          have hlab := slabs_le (l.take j)
          rw [List.length_take] at hlen hlab
          have htk : l.take (j + 1) = l.take j ++ [x] := by rw [List.take_add_one, hxl]; rfl
          have hsn := sopsCode_snoc f k x (l.take j) 0
          have hsl := slabs_snoc x (l.take j)
          rw [← htk, Nat.zero_add] at hsn
          rw [← htk] at hsl
          have hcal := sopk_any x HFR.out (fun _ => Hlw.out) hf1 hf4 (by omega) (hMk.quiet ((Mod.refl noF wr).alloc (.cells #[.string (sK x), .int .i64 (sN x)] 88))) (by omega) (by omega) (by omega)
          have Hcal := Lib.hid hcal
          have HMk := Lib.hid hMk
          have Hmq := Lib.hid hmq
          have Hsn := Lib.hid hsn
          have Hsl := Lib.hid hsl
          have h0' : wr.cell? ⟨ub, uoff + j * 2, none⟩ = some (.string (sK x)) := h0
          have h1' : wr.cell? ⟨ub, uoff + j * 2 + 1, none⟩ = some (.int .i64 (sN x)) := h1
          clear hMk hmq hxl hxx htk hsn hsl hlen hlab hcal h0 h1
          generalize hxk : sK x = xk at *
          generalize hxn : sN x = xn at *
          go_wp2_with fail
          refine Hcal.out.mono ?_
          rintro e wz ⟨rfl, v', hMz, hSz⟩
          have HMz := Lib.hid hMz
          have HSz := Lib.hid hSz
          clear hMz hSz Hcal
          go_wp2
          go_roundw
          case rel =>
            refine ⟨j + 1, v', by omega, by go_num, by rw [Hsn.out, Hsl.out]; exact HMz.out, ((Hmq.out.alloc _).trans HSz.out.mod fun x hx e => ?_)⟩
            have h9 := Hsz1.out
            rcases e with e | e
            · omega
            · have := HMk.out.lv x e; omega
          case measure => simp [intOf]; omega
        · have hd2 : decide ((j : Int) < (l.length : Int)) = false := by simp; omega
          obtain rfl : j = l.length := by omega
          rw [List.take_length] at hMk
          have hlen := sopsCode_len hf4 k l 0
          have hlab := slabs_le l
          have hcal := part3_ok HFR.out (fun _ => Hlw.out) hf1 hf4 hMk (by omega) (by omega) (by omega)
          have Hcal := Lib.hid hcal
          have HMk := Lib.hid hMk
          have Hmq := Lib.hid hmq
          clear hMk hmq hcal
          go_wp2_with fail
          refine Hcal.out.mono ?_
          rintro e w9 ⟨rfl, v9, hM9, hS9⟩
          have hlen9 : (sopsCode f k 0 l ++ preC (Qu.labN (slabs l + 1)) (gcode f 3)).length ≤ 2000 := by
            have : (preC (Qu.labN (slabs l + 1)) (gcode f 3)).length ≤ 70 := part_len2 hf4 (show 3 < 5 by decide) (slabs l)
            rw [List.length_append]; omega
          have hm9 : Mod noF (wo.setCell ⟨rb k, 5, none⟩ (.int .i64 ((q.length : Int) + 4))) w9 := Hmq.out.trans hS9.mod fun x hx e => by
            have h9 := Hsz1.out
            rcases e with e | e
            · omega
            · have := HMk.out.lv x e; omega
          have HM9 := Lib.hid hM9
          have Hm9 := Lib.hid hm9
          clear hM9 hS9 hm9 Hcal
          go_wp2_with fail
          refine (op0_chain (Chain.start HM9.out.m.emit) (by omega) 20 _ rfl).mono ?_
          rintro e wz ⟨rfl, hbz, v', E, G⟩
          have hS := HR.out.size
          have h9 := Hsz1.out
          have hqz : Mod noF (wo.setCell ⟨rb k, 5, none⟩ (.int .i64 ((q.length : Int) + 4))) wz := Hm9.out.trans G.mod fun x hx e => by
            rcases e with e | e
            · omega
            · have := HM9.out.lv x e; omega
          have hcode := E.row.code
          have hown : ∀ g, v'.ownBlock = some g → p.S ≤ g ∧ g < wz.heap.size ∧ (Value.slice ca cb cc).ownBlock ≠ some g := fun g hg => by
            have h10 := HM9.out.hi
            have h11 : wo.heap.size ≤ g := by
              rcases G.new g hg with e | e
              · exact HM9.out.lv g e
              · omega
            refine ⟨by omega, E.row.lt hg, fun e => ?_⟩
            have := (World.ownsRow.lt HR.out.cds.own _ e).2
            omega
          obtain ⟨xa, xc, rfl, -, -⟩ := E.row.slice
          have e0 := E.cell
          simp only [List.length_append, List.length_singleton] at hcode hown e0
          have hcs : sCs f q k = (sopsCode f k 0 l ++ preC (Qu.labN (slabs l + 1)) (gcode f 3)) ++ [⟨20, 0, 0, 0, []⟩] := by rw [sCs_get Hl.out]; rfl
          rw [← hcs] at hcode
          have HRz := Lib.hid (HR1.out.quiet hqz)
          have Hcode := Lib.hid hcode
          have Hown := Lib.hid hown
          have hszz : p.S ≤ wz.heap.size := by have := HRz.out.size; omega
          have hbnd : k + 1 ≤ maxLen := by unfold maxLen; omega
          clear E G hcode hown hqz hcs hbz
          go_wp2_with (at_builtin; refine wpList_append_mine _ rfl (.tmp 74) (.tmp 82) 33 rfl 71 i0 (.slice none 0 0) 1 24 Tryz.underlying33 hti hz0 hz1 hz2 rfl (by decide) _ k ((List.range k).map vk) rfl (by exact World.ownsRow.alloc HRz.out.cds.own _) ⟨wz.heap.size, 0, none⟩ 1 1 [.slice xa _ xc] rfl rfl (by exact new_cells_at _ _ _ (by simp)) (one_row _ rfl) hbnd (by omega) ?_; intro v4 w7 hown hgr hfr _; obtain ⟨ya, yb, yc, rfl⟩ := slice_of_own hown; have Hown4 := Lib.hid hown; have Hgr := Lib.hid hgr; have Hfr := Lib.hid hfr; clear hown hgr hfr)
          go_wp2
          go_roundw
          case rel =>
            exact ⟨k + 1, _, by omega, by go_num, (HRz.out.quiet ((Mod.refl noF wz).alloc _)).push HP.out (Hcode.out.frame ((Mod.refl noF wz).alloc _) (fun _ _ e => e)) (fun g hg => ⟨(Hown.out g hg).1, by have := (Hown.out g hg).2.1; simp; omega, (Hown.out g hg).2.2⟩) Hown4.out Hgr.out Hfr.out⟩
          case measure => simp [intOf]; omega
    · have hd : decide ((k : Int) < (q.length : Int)) = false := by simp; omega
      obtain rfl : k = q.length := by omega
      rw [mix_all] at hR
      obtain ⟨ia, ic, hiv, -⟩ := hR.init.cell
      have x0 : wo.cell? ⟨p.B, 0, none⟩ = some (.int .i64 64) := by rw [cell_of_heap hR.base]; rfl
      have x1 : wo.cell? ⟨p.B, 1, none⟩ = some iv := by rw [cell_of_heap hR.base]; rfl
      have x2 : wo.cell? ⟨p.B, 2, none⟩ = some (.slice ra q.length rc) := by rw [cell_of_heap hR.base]; rfl
      have y0 : wo.cell? ⟨p.T2, 0, none⟩ = some (.int .i64 0) := by rw [cell_of_heap hR.res]; rfl
      have y1 : wo.cell? ⟨p.T2, 1, none⟩ = some (.slice none 0 0) := by rw [cell_of_heap hR.res]; rfl
      have y2 : wo.cell? ⟨p.T2, 2, none⟩ = some (.slice none 0 0) := by rw [cell_of_heap hR.res]; rfl
      have yf := free_of_heap hR.res
      have yf0 := yf 0
      have yf1 := yf 1
      have yf2 := yf 2
      rw [hiv, sInit_len] at x1
      have HR := Lib.hid hR
      clear hR hrx yf
      go_wp2
      obtain ⟨wf, hwf⟩ : ∃ wf, wf = (((wo.setCell ⟨p.T2, 0, none⟩ (.int .i64 64)).setCell ⟨p.T2, 1, none⟩ (.slice ia (q.length + 4) ic)).setCell ⟨p.T2, 2, none⟩ (.slice ra q.length rc)) := ⟨_, rfl⟩
      have hMf : Mod (fun x => x = p.T2) wo wf := by rw [hwf]; exact (((Mod.refl (fun x => x = p.T2) wo).setCell (fun _ => rfl) _).setCell (fun _ => rfl) _).setCell (fun _ => rfl) _
      have hh : wf.heap[p.T2]? = some (.cells #[.int .i64 64, .slice ia (q.length + 4) ic, .slice ra q.length rc] 32 (0, 0)) := by
        rw [hwf, Qh.heap_setCell_same (Qh.heap_setCell_same (Qh.heap_setCell_same HR.out.res 0 _) 1 _) 2 _]; rfl
      have z0 : wf.cell? ⟨p.T2, 0, none⟩ = some (.int .i64 64) := by rw [cell_of_heap hh]; rfl
      have z1 : wf.cell? ⟨p.T2, 1, none⟩ = some (.slice ia (q.length + 4) ic) := by rw [cell_of_heap hh]; rfl
      have z2 : wf.cell? ⟨p.T2, 2, none⟩ = some (.slice ra q.length rc) := by rw [cell_of_heap hh]; rfl
      rw [← hwf]
      obtain ⟨p1, p2, p3, p4, p5, p6, p7⟩ := HP.out
      refine bodyPost_ret (v := .tuple #[.agg #[.int .i64 64, .slice ia (q.length + 4) ic, .slice ra q.length rc], .slice ca cb cc, .nilIface]) (by simp [results, Tryz.results11, go_sem, z0, z1, z2]) rfl ⟨_, _, _, vk, rfl, ?_, ?_, ?_, ?_⟩
      · exact HR.out.mod.trans hMf fun x hx e => by omega
      · have := HR.out.init.keep hMf (fun x h1 h2 e => by omega)
        rw [hiv, sInit_len] at this
        exact this.rows (sInit_rows _ _)
      · have := HR.out.regs.keep hMf (fun x h1 h2 e => by omega)
        exact this.rows (fun l hl => by
          obtain ⟨i, -, rfl⟩ := List.mem_map.1 hl
          simp [gRegS])
      · exact (HR.out.cds.keep hMf (fun x h1 h2 e => by omega)).codes
end Go.Proofs.YtppihkneeolomaaGreatDoor
end
/- client.Build: lists that are wrong; no flavour. -/
section
namespace Go.Proofs.YtppihkneeolomaaGreatDoor
open Go.RowKit Qs Qh Qc
variable {N : Nat} {w w' : World} {v u : Value} {ll : List (List ROp)} {a : Nat → Addr}
set_option maxHeartbeats 8000000 in
theorem grace_err (f : Int) (hf : ¬ (1 ≤ f ∧ f ≤ 4)) (w : World) (B : Nat) (E : ErrsAt w a) :
    Calls Tryz.prog 44 #[.pointer (some ⟨B, 0, none⟩), .int .i64 f] w fun e w' => e = .returned (errV a 1) ∧ Mod noF w w' := by
  have Hub := Lib.hid (hub_err f hf w a E)
  unfold errV at Hub ⊢
  clear E hf
  go_enter Tryz.func44, Tryz.ntmps44
  go_wp2_with fail
  refine Hub.out.mono ?_
  rintro e w1 ⟨rfl, hm1⟩
  have Hm1 := Lib.hid hm1
  clear hm1 Hub
  go_wp2
  go_ret
  exact ⟨rfl, Hm1.out⟩
end Go.Proofs.YtppihkneeolomaaGreatDoor
end
/- stack.Build: lists that are wrong; no flavour. -/
section
namespace Go.Proofs.YtppihkneeolomaaGreatDoor
open Go.RowKit Qs Qh Qc
variable {N : Nat} {w w' : World} {v u : Value} {ll : List (List ROp)} {a : Nat → Addr}
set_option maxHeartbeats 8000000 in
theorem sbuild_bad (f : Int) (E : ErrsAt w a) (H : RIn N w v ll) (hN : N ≤ w.heap.size) (hlen : ll.length ≤ 10) (hrow : ∀ l ∈ ll, l.length ≤ 30) (hk : (kfG kPush [kPop, kFlsh] ll).1 ≠ 0) :
    Calls Tryz.prog 11 #[.int .i64 f, v] w fun e w' => ∃ ev, e = .returned (.tuple #[.agg #[.int .i64 0, .slice none 0 0, .slice none 0 0], .slice none 0 0, ev]) ∧ ErrIs a w' ev (kfG kPush [kPop, kFlsh] ll).1 (kfG kPush [kPop, kFlsh] ll).2 ∧ Mod noF w w' := by
  have hck := fun w1 (hm : Mod noF w w1) (g : Nat) (hg : KsAt w1 g [kPop, kFlsh]) => checkG (W := kPush) (ks := [kPop, kFlsh]) (E.keep hm) (H.keep hm (fun _ _ e => e)) g hg (by decide) hlen hrow
  have Hck := Lib.hid hck
  obtain ⟨oa, oc, rfl, -⟩ := H
  clear hrow E hck
  go_enter Tryz.func11, Tryz.ntmps11
  go_wp2_with fail
  have hq := ((Mod.refl noF w).alloc (.cells #[.int .i64 0, .slice none 0 0, .slice none 0 0] 32)).alloc (.cells #[.string kPop, .string kFlsh] 9)
  have hks : KsAt ((w.alloc (.cells #[.int .i64 0, .slice none 0 0, .slice none 0 0] 32)).alloc (.cells #[.string kPop, .string kFlsh] 9)) (w.heap.size + 1) [kPop, kFlsh] := fun i x hi => by
    match i, hi with
    | 0, hi => cases hi; simp
    | 1, hi => cases hi; simp
    | i + 2, hi => simp at hi
  refine (Hck.out _ hq _ hks).mono ?_
  rintro e wc ⟨ev, rfl, hEv, hmc⟩
  obtain ⟨T, x, rfl⟩ := hEv.some hk
  have hres : wc.heap[w.heap.size]? = some (.cells #[.int .i64 0, .slice none 0 0, .slice none 0 0] 32 (0, 0)) := ((Mod.refl noF _).alloc _ |>.trans0 hmc).heap (heap_alloc_new w _) (fun e => e)
  have y0 : wc.cell? ⟨w.heap.size, 0, none⟩ = some (.int .i64 0) := by rw [cell_of_heap hres]; rfl
  have y1 : wc.cell? ⟨w.heap.size, 1, none⟩ = some (.slice none 0 0) := by rw [cell_of_heap hres]; rfl
  have y2 : wc.cell? ⟨w.heap.size, 2, none⟩ = some (.slice none 0 0) := by rw [cell_of_heap hres]; rfl
  have yf0 := free_of_heap hres 0
  have yf1 := free_of_heap hres 1
  have yf2 := free_of_heap hres 2
  have Hres := Lib.hid hres
  have HEv := Lib.hid hEv
  have Hmc := Lib.hid (hq.trans0 hmc)
  clear hres hEv hmc hq hks
  go_wp2
  obtain ⟨wf, hwf⟩ : ∃ wf, wf = (((wc.setCell ⟨w.heap.size, 0, none⟩ (.int .i64 0)).setCell ⟨w.heap.size, 1, none⟩ (.slice none 0 0)).setCell ⟨w.heap.size, 2, none⟩ (.slice none 0 0)) := ⟨_, rfl⟩
  have hMf : Mod (fun x => x = w.heap.size) wc wf := by rw [hwf]; exact (((Mod.refl (fun x => x = w.heap.size) wc).setCell (fun _ => rfl) _).setCell (fun _ => rfl) _).setCell (fun _ => rfl) _
  have hh : wf.heap[w.heap.size]? = some (.cells #[.int .i64 0, .slice none 0 0, .slice none 0 0] 32 (0, 0)) := by
    rw [hwf, Qh.heap_setCell_same (Qh.heap_setCell_same (Qh.heap_setCell_same Hres.out 0 _) 1 _) 2 _]; rfl
  have z0 : wf.cell? ⟨w.heap.size, 0, none⟩ = some (.int .i64 0) := by rw [cell_of_heap hh]; rfl
  have z1 : wf.cell? ⟨w.heap.size, 1, none⟩ = some (.slice none 0 0) := by rw [cell_of_heap hh]; rfl
  have z2 : wf.cell? ⟨w.heap.size, 2, none⟩ = some (.slice none 0 0) := by rw [cell_of_heap hh]; rfl
  rw [← hwf]
  refine bodyPost_ret (v := .tuple #[.agg #[.int .i64 0, .slice none 0 0, .slice none 0 0], .slice none 0 0, .iface T (.pointer (some x))]) (by simp [results, Tryz.results11, go_sem, z0, z1, z2]) rfl ⟨_, rfl, HEv.out.keepNe hMf (fun b hb => by rw [hb]; exact y1), Hmc.out.trans hMf fun x hx e => by omega⟩
set_option maxHeartbeats 8000000 in
theorem sbuild_flav (f : Int) (hf : ¬ (1 ≤ f ∧ f ≤ 4)) (E : ErrsAt w a) (H : RIn N w v ll) (hN : N ≤ w.heap.size) (hlen : ll.length ≤ 6) (hrow : ∀ l ∈ ll, l.length ≤ 30) (hk : (kfG kPush [kPop, kFlsh] ll).1 = 0) :
    Calls Tryz.prog 11 #[.int .i64 f, v] w fun e w' => e = .returned (.tuple #[.agg #[.int .i64 0, .slice none 0 0, .slice none 0 0], .slice none 0 0, errV a 1]) ∧ Mod noF w w' := by
  have hck := fun w1 (hm : Mod noF w w1) (g : Nat) (hg : KsAt w1 g [kPop, kFlsh]) => checkG (W := kPush) (ks := [kPop, kFlsh]) (E.keep hm) (H.keep hm (fun _ _ e => e)) g hg (by decide) (by omega) hrow
  have hgr := fun w1 B (hm : Mod noF w w1) => grace_err f hf w1 B (E.keep hm)
  have Hck := Lib.hid hck
  have Hgr := Lib.hid hgr
  unfold errV at Hgr ⊢
  have Hk := Lib.hid hk
  obtain ⟨oa, oc, rfl, -⟩ := H
  clear hrow E hck hf hk hgr
  go_enter Tryz.func11, Tryz.ntmps11
  go_wp2_with fail
  have hq := ((Mod.refl noF w).alloc (.cells #[.int .i64 0, .slice none 0 0, .slice none 0 0] 32)).alloc (.cells #[.string kPop, .string kFlsh] 9)
  have hks : KsAt ((w.alloc (.cells #[.int .i64 0, .slice none 0 0, .slice none 0 0] 32)).alloc (.cells #[.string kPop, .string kFlsh] 9)) (w.heap.size + 1) [kPop, kFlsh] := fun i x hi => by
    match i, hi with
    | 0, hi => cases hi; simp
    | 1, hi => cases hi; simp
    | i + 2, hi => simp at hi
  refine (Hck.out _ hq _ hks).mono ?_
  rintro e wc ⟨ev, rfl, hEv, hmc⟩
  rw [Hk.out] at hEv
  obtain rfl := hEv.nil
  have hres : wc.heap[w.heap.size]? = some (.cells #[.int .i64 0, .slice none 0 0, .slice none 0 0] 32 (0, 0)) := ((Mod.refl noF _).alloc _ |>.trans0 hmc).heap (heap_alloc_new w _) (fun e => e)
  have Hres := Lib.hid hres
  have Hmc := Lib.hid (hq.trans0 hmc)
  clear hres hEv hmc hq hks Hck Hk
  go_wp2_with fail
  refine (newBase_ok ll.length hlen wc).mono ?_
  rintro e wb ⟨rv, rb, rfl, hmb, hB, R⟩
  have hmb2 := Hmc.out.trans0 hmb
  have Hmb2 := Lib.hid hmb2
  have Hres2 := Lib.hid (hmb.heap Hres.out (fun e => e))
  clear hmb hmb2 hB R Hmc Hres
  go_wp2_with fail
  refine (Hgr.out wb _ Hmb2.out).mono ?_
  rintro e w2 ⟨rfl, hm2⟩
  have hres := hm2.heap Hres2.out (fun e => e)
  have y0 : w2.cell? ⟨w.heap.size, 0, none⟩ = some (.int .i64 0) := by rw [cell_of_heap hres]; rfl
  have y1 : w2.cell? ⟨w.heap.size, 1, none⟩ = some (.slice none 0 0) := by rw [cell_of_heap hres]; rfl
  have y2 : w2.cell? ⟨w.heap.size, 2, none⟩ = some (.slice none 0 0) := by rw [cell_of_heap hres]; rfl
  have yf0 := free_of_heap hres 0
  have yf1 := free_of_heap hres 1
  have yf2 := free_of_heap hres 2
  have Hres := Lib.hid hres
  have Hmc := Lib.hid (Hmb2.out.trans0 hm2)
  clear hres hm2 Hmb2 Hres2
  go_wp2
  obtain ⟨wf, hwf⟩ : ∃ wf, wf = (((w2.setCell ⟨w.heap.size, 0, none⟩ (.int .i64 0)).setCell ⟨w.heap.size, 1, none⟩ (.slice none 0 0)).setCell ⟨w.heap.size, 2, none⟩ (.slice none 0 0)) := ⟨_, rfl⟩
  have hMf : Mod (fun x => x = w.heap.size) w2 wf := by rw [hwf]; exact (((Mod.refl (fun x => x = w.heap.size) w2).setCell (fun _ => rfl) _).setCell (fun _ => rfl) _).setCell (fun _ => rfl) _
  have hh : wf.heap[w.heap.size]? = some (.cells #[.int .i64 0, .slice none 0 0, .slice none 0 0] 32 (0, 0)) := by
    rw [hwf, Qh.heap_setCell_same (Qh.heap_setCell_same (Qh.heap_setCell_same Hres.out 0 _) 1 _) 2 _]; rfl
  have z0 : wf.cell? ⟨w.heap.size, 0, none⟩ = some (.int .i64 0) := by rw [cell_of_heap hh]; rfl
  have z1 : wf.cell? ⟨w.heap.size, 1, none⟩ = some (.slice none 0 0) := by rw [cell_of_heap hh]; rfl
  have z2 : wf.cell? ⟨w.heap.size, 2, none⟩ = some (.slice none 0 0) := by rw [cell_of_heap hh]; rfl
  rw [← hwf]
  refine bodyPost_ret (v := .tuple #[.agg #[.int .i64 0, .slice none 0 0, .slice none 0 0], .slice none 0 0, errV a 1]) (by unfold errV; simp [results, Tryz.results11, go_sem, z0, z1, z2]) rfl ⟨rfl, Hmc.out.trans hMf fun x hx e => by omega⟩
end Go.Proofs.YtppihkneeolomaaGreatDoor
end
/- quiescentref2.KindsFault: over any lists of ops, of any kinds. -/
section
namespace Go.Proofs.YtppihkneeolomaaGreatDoor
open Go.RowKit Qs Qh
variable {N : Nat} {w w' : World} {v u : Value} {ll : List (List ROp)} {l : List ROp} {W : ByteArray} {ks : List ByteArray}
set_option maxHeartbeats 16000000 in
theorem kindsG (H : RIn N w v ll) (hlen : ll.length ≤ 10) (hrow : ∀ l ∈ ll, l.length ≤ 30) (g : Nat) (hg : KsAt w g ks) (hkl : ks.length ≤ 10) :
    Calls Tryz.prog 10 #[v, .string W, .slice (some ⟨g, 0, none⟩) ks.length ks.length] w fun e w' => e = .returned (.agg #[.int .i64 (kfG W ks ll).1, .int .i64 (kfG W ks ll).2]) ∧ Mod noF w w' := by
  have hm := many_any (H.keep ((Mod.refl noF w).alloc (.cells #[.int .i64 0, .int .i64 0] 27)) (fun _ _ e => e)) hlen hrow
  have HM := Lib.hid hm
  have HH := Lib.hid H
  obtain ⟨a, c, rfl, -⟩ := H
  have Hrow := Lib.hid hrow
  have Hg := Lib.hid hg
  clear hrow hg hm
  cases hmany : manyB ll with
  | false =>
    have hk : kfG W ks ll = (2, -1) := by unfold kfG; rw [hmany]; rfl
    rw [hk]
    rw [hmany] at HM
    go_enter Tryz.func10, Tryz.ntmps10
    go_wp2_with fail
    refine HM.out.mono ?_
    rintro e w1 ⟨rfl, rfl⟩
    go_wp2_with fail
    refine (bare_ok 2 _).mono ?_
    rintro e w2 ⟨rfl, hm2⟩
    have Hm2 := Lib.hid hm2
    have hT := hm2.heap (heap_alloc_new w (.cells #[.int .i64 0, .int .i64 0] 27)) (fun e => e)
    have t0 := cell_of_heap hT 0
    have t1 := cell_of_heap hT 1
    have tf0 := free_of_heap hT 0
    have tf1 := free_of_heap hT 1
    have HT := Lib.hid hT
    clear hT
    replace t0 : w2.cell? ⟨w.heap.size, 0, none⟩ = some (.int .i64 0) := t0
    replace t1 : w2.cell? ⟨w.heap.size, 1, none⟩ = some (.int .i64 0) := t1
    go_wp2
    obtain ⟨wf, hwf⟩ : ∃ wf, wf = (w2.setCell ⟨w.heap.size, 0, none⟩ (.int .i64 2)).setCell ⟨w.heap.size, 1, none⟩ (.int .i64 (-1)) := ⟨_, rfl⟩
    have hh : wf.heap[w.heap.size]? = some (.cells #[.int .i64 2, .int .i64 (-1)] 27 (0, 0)) := by rw [hwf, Qh.heap_setCell_same (Qh.heap_setCell_same HT.out 0 _) 1 _]; rfl
    have z0 : wf.cell? ⟨w.heap.size, 0, none⟩ = some (.int .i64 2) := by rw [cell_of_heap hh]; rfl
    have z1 : wf.cell? ⟨w.heap.size, 1, none⟩ = some (.int .i64 (-1)) := by rw [cell_of_heap hh]; rfl
    have hMf : Mod noF w wf := by rw [hwf]; exact (((Mod.refl noF w).alloc _).trans0 Hm2.out).trans (((Mod.refl (fun x => x = w.heap.size) _).setCell (fun _ => rfl) _).setCell (fun _ => rfl) _) fun x hx e => by omega
    rw [← hwf]
    exact bodyPost_ret (v := .agg #[.int .i64 2, .int .i64 (-1)]) (by simp [results, Tryz.results10, go_sem, z0, z1]) rfl ⟨rfl, hMf⟩
  | true =>
    have hk : kfG W ks ll = allR (rowG W ks) 0 ll := by unfold kfG; rw [hmany]; rfl
    rw [hk]
    rw [hmany] at HM
    clear hk hmany
    obtain ⟨rc, ra, hres0⟩ : ∃ rc ra, allR (rowG W ks) 0 ll = (rc, ra) := ⟨_, _, rfl⟩
    rw [hres0]
    have Hres0 := Lib.hid hres0
    simp only
    clear hres0
    have e3 := str_eq W
    go_enter Tryz.func10, Tryz.ntmps10
    go_wp2_with fail
    refine HM.out.mono ?_
    rintro e w1 ⟨rfl, rfl⟩
    go_wp2
    go_loopw [8] (fun i wr => ∃ k : Nat, k ≤ ll.length ∧ i = .int .i64 k ∧ Mod noF w wr ∧ wr.heap[w.heap.size]? = some (.cells #[.int .i64 0, .int .i64 0] 27 (0, 0)) ∧ ∀ (j : Nat) y, j < k → ll[j]? = some y → rowG W ks y = none) (fun i _ => ll.length - (intOf i).toNat)
    case atStart => exact ⟨0, Nat.zero_le _, rfl, (Mod.refl _ _).alloc _, heap_alloc_new w _, fun j y h => by omega⟩
    case round =>
      generalize wr = w2 at *
      obtain ⟨k, hk, rfl, hm, hT0, hall⟩ := hrel
      have Hm := Lib.hid hm
      have HT0 := Lib.hid hT0
      have Hall := Lib.hid hall
      clear hT0 hall
      by_cases hlt : k < ll.length
      · have hd : decide ((k : Int) < (ll.length : Int)) = true := by simp; omega
        have hki : (k : Int) < (ll.length : Int) := by omega
        obtain ⟨l, hl⟩ : ∃ l, ll[k]? = some l := ⟨_, List.getElem?_eq_getElem hlt⟩
        obtain ⟨a', c', e', hx⟩ := HH.out
        cases e'
        obtain ⟨b, off, u, rfl, hb, hc, ⟨ua, uc, rfl, hxx⟩⟩ := hx k l hl
        have Hc := Lib.hid hc
        have Hxx := Lib.hid hxx
        have Hl := Lib.hid hl
        have h30 := Hrow.out l (List.mem_of_getElem? hl)
        clear hx hxx hl hc hm
        go_wp2
        go_loopw [9] (fun i wr => ∃ q : Nat, q ≤ l.length ∧ i = .int .i64 q ∧ Mod noF w wr ∧ wr.heap[w.heap.size]? = some (.cells #[.int .i64 0, .int .i64 0] 27 (0, 0)) ∧ ∀ (j : Nat) y, j < q → l[j]? = some y → kfOpG W ks y = 0) (fun i _ => l.length - (intOf i).toNat)
        case atStart => exact ⟨0, Nat.zero_le _, rfl, Hm.out, HT0.out, fun j y h => by omega⟩
        case round =>
          generalize wr = w3 at *
          obtain ⟨q, hq, rfl, hm3, hT3, hall3⟩ := hrel
          have hc3 := hm3.cell Hc.out (fun e => e)
          have Hm3 := Lib.hid hm3
          have HT3 := Lib.hid hT3
          have Hall3 := Lib.hid hall3
          clear hT3 hall3
          by_cases hltq : q < l.length
          · have hd2 : decide ((q : Int) < (l.length : Int)) = true := by simp; omega
            have hqi : (q : Int) < (l.length : Int) := by omega
            obtain ⟨x, hxl⟩ : ∃ x, l[q]? = some x := ⟨_, List.getElem?_eq_getElem hltq⟩
            obtain ⟨ub, uoff, rfl, hub, h0, h1⟩ := Hxx.out q x hxl
            have h0 := hm3.cell h0 (fun e => e)
            have h1 := hm3.cell h1 (fun e => e)
            have Hxl := Lib.hid hxl
            clear hxl hm3
            obtain ⟨xs, xn⟩ := x
            simp only at h0 h1
            have hmx : Mod noF w (w3.alloc (.cells #[.string xs, .int .i64 xn] 88)) := Hm3.out.alloc _
            have hg3 := Hg.out.keep hmx (fun e => e)
            have hTx := ((Mod.refl noF w3).alloc (.cells #[.string xs, .int .i64 xn] 88)).heap HT3.out (fun e => e)
            have Hmx := Lib.hid hmx
            have HTx := Lib.hid hTx
            have Hg3 := Lib.hid hg3
            clear hmx hTx hg3
            by_cases hput : xs = W
            · subst hput
              by_cases hbad : xn < 1 ∨ 1000 < xn
              · have hf : kfOpG xs ks (xs, xn) = 2 := by unfold kfOpG; simp [hbad]
                have hrF := rowG_at l q _ Hxl.out Hall3.out (by rw [hf]; decide)
                rw [hf] at hrF
                have hres := allR_at ll 0 k l 2 Hl.out Hall.out hrF
                rw [Nat.zero_add] at hres
                obtain ⟨rfl, rfl⟩ := Prod.mk.inj (Hres0.out.symm.trans hres)
                clear hres hrF hf
                by_cases hb1 : xn < 1
                · have d1 : decide (xn < 1) = true := by simpa using hb1
                  have hT := HTx.out
                  have t0 := cell_of_heap hT 0
                  have t1 := cell_of_heap hT 1
                  have tf0 := free_of_heap hT 0
                  have tf1 := free_of_heap hT 1
                  have HT := Lib.hid hT
                  clear hT
                  replace t0 : (w3.alloc (.cells #[.string xs, .int .i64 xn] 88)).cell? ⟨w.heap.size, 0, none⟩ = some (.int .i64 0) := t0
                  replace t1 : (w3.alloc (.cells #[.string xs, .int .i64 xn] 88)).cell? ⟨w.heap.size, 1, none⟩ = some (.int .i64 0) := t1
                  go_wp2
                  obtain ⟨wf, hwf⟩ : ∃ wf, wf = ((w3.alloc (.cells #[.string xs, .int .i64 xn] 88)).setCell ⟨w.heap.size, 0, none⟩ (.int .i64 2)).setCell ⟨w.heap.size, 1, none⟩ (.int .i64 k) := ⟨_, rfl⟩
                  have hh : wf.heap[w.heap.size]? = some (.cells #[.int .i64 2, .int .i64 k] 27 (0, 0)) := by rw [hwf, Qh.heap_setCell_same (Qh.heap_setCell_same HT.out 0 _) 1 _]; rfl
                  have z0 : wf.cell? ⟨w.heap.size, 0, none⟩ = some (.int .i64 2) := by rw [cell_of_heap hh]; rfl
                  have z1 : wf.cell? ⟨w.heap.size, 1, none⟩ = some (.int .i64 k) := by rw [cell_of_heap hh]; rfl
                  have hMf : Mod noF w wf := by rw [hwf]; exact (Hmx.out).trans (((Mod.refl (fun x => x = w.heap.size) _).setCell (fun _ => rfl) _).setCell (fun _ => rfl) _) fun x hx e => by omega
                  rw [← hwf]
                  exact bodyPost_ret (v := .agg #[.int .i64 2, .int .i64 k]) (by simp [results, Tryz.results10, go_sem, z0, z1]) rfl ⟨rfl, hMf⟩
                · have d1 : decide (xn < 1) = false := by simpa using hb1
                  have d2 : decide (1000 < xn) = true := by simp; omega
                  have hT := HTx.out
                  have t0 := cell_of_heap hT 0
                  have t1 := cell_of_heap hT 1
                  have tf0 := free_of_heap hT 0
                  have tf1 := free_of_heap hT 1
                  have HT := Lib.hid hT
                  clear hT
                  replace t0 : (w3.alloc (.cells #[.string xs, .int .i64 xn] 88)).cell? ⟨w.heap.size, 0, none⟩ = some (.int .i64 0) := t0
                  replace t1 : (w3.alloc (.cells #[.string xs, .int .i64 xn] 88)).cell? ⟨w.heap.size, 1, none⟩ = some (.int .i64 0) := t1
                  go_wp2
                  obtain ⟨wf, hwf⟩ : ∃ wf, wf = ((w3.alloc (.cells #[.string xs, .int .i64 xn] 88)).setCell ⟨w.heap.size, 0, none⟩ (.int .i64 2)).setCell ⟨w.heap.size, 1, none⟩ (.int .i64 k) := ⟨_, rfl⟩
                  have hh : wf.heap[w.heap.size]? = some (.cells #[.int .i64 2, .int .i64 k] 27 (0, 0)) := by rw [hwf, Qh.heap_setCell_same (Qh.heap_setCell_same HT.out 0 _) 1 _]; rfl
                  have z0 : wf.cell? ⟨w.heap.size, 0, none⟩ = some (.int .i64 2) := by rw [cell_of_heap hh]; rfl
                  have z1 : wf.cell? ⟨w.heap.size, 1, none⟩ = some (.int .i64 k) := by rw [cell_of_heap hh]; rfl
                  have hMf : Mod noF w wf := by rw [hwf]; exact (Hmx.out).trans (((Mod.refl (fun x => x = w.heap.size) _).setCell (fun _ => rfl) _).setCell (fun _ => rfl) _) fun x hx e => by omega
                  rw [← hwf]
                  exact bodyPost_ret (v := .agg #[.int .i64 2, .int .i64 k]) (by simp [results, Tryz.results10, go_sem, z0, z1]) rfl ⟨rfl, hMf⟩
              · have d1 : decide (xn < 1) = false := by simp; omega
                have d2 : decide (1000 < xn) = false := by simp; omega
                have hf : kfOpG xs ks (xs, xn) = 0 := by unfold kfOpG; simp [hbad]
                have Hf := Lib.hid hf
                clear hf
                go_wp2
                go_roundw
                case rel =>
                  refine ⟨q + 1, by omega, by go_num, Hmx.out, HTx.out, fun j y hj hy => ?_⟩
                  by_cases e : j = q
                  · subst e
                    rw [Hxl.out] at hy; cases hy; exact Hf.out
                  · exact Hall3.out j y (by omega) hy
                case measure => simp [intOf]; omega
            · have ep : (xs.toList == W.toList) = false := str_ne hput
              go_wp2
              go_loopw [11, 12] (fun b i wr => ∃ z : Nat, z ≤ ks.length ∧ i = .int .i64 z ∧ b = .bool (memK (ks.take z) xs) ∧ Mod noF (w3.alloc (.cells #[.string xs, .int .i64 xn] 88)) wr) (fun _ i _ => ks.length - (intOf i).toNat)
              case atStart => exact ⟨0, Nat.zero_le _, rfl, rfl, Mod.refl _ _⟩
              case round =>
                generalize wr = w4 at *
                obtain ⟨z, hz, rfl, rfl, hm4⟩ := hrel
                have o0 : w4.cell? ⟨w3.heap.size, 0, none⟩ = some (.string xs) := hm4.cell (show (w3.alloc (.cells #[.string xs, .int .i64 xn] 88)).cell? ⟨w3.heap.size, 0, none⟩ = some (.string xs) by simp) (fun e => e)
                have o1 : w4.cell? ⟨w3.heap.size, 1, none⟩ = some (.int .i64 xn) := hm4.cell (show (w3.alloc (.cells #[.string xs, .int .i64 xn] 88)).cell? ⟨w3.heap.size, 1, none⟩ = some (.int .i64 xn) by simp) (fun e => e)
                have Hm4 := Lib.hid hm4
                by_cases hzl : z < ks.length
                · have hdz : decide ((z : Int) < (ks.length : Int)) = true := by simp; omega
                  have hzi : (z : Int) < (ks.length : Int) := by omega
                  obtain ⟨y, hy⟩ : ∃ y, ks[z]? = some y := ⟨_, List.getElem?_eq_getElem hzl⟩
                  have hyc := hm4.cell (Hg3.out z y hy) (fun e => e)
                  have htk : ks.take (z + 1) = ks.take z ++ [y] := by rw [List.take_add_one, hy]; rfl
                  have Htk := Lib.hid htk
                  clear hm4 hy htk
                  by_cases hxy : y = xs
                  · subst hxy
                    have ey := str_eq y
                    generalize hb0 : memK (ks.take z) y = b0 at *
                    go_wp2
                    go_quiet (fail)
                    go_wp2
                    go_roundw
                    case rel => exact ⟨z + 1, by omega, by go_num, by rw [Htk.out, memK_snoc]; simp, Hm4.out.drewN _⟩
                    case measure => simp [intOf]; omega
                  · have ey : (y.toList == xs.toList) = false := str_ne hxy
                    have hb1 : memK (ks.take (z + 1)) xs = memK (ks.take z) xs := by
                      rw [Htk.out, memK_snoc]
                      simp [hxy]
                    have Hb1 := Lib.hid hb1
                    clear hb1
                    generalize hb0 : memK (ks.take z) xs = b0 at *
                    go_wp2
                    go_quiet (fail)
                    go_wp2
                    go_roundw
                    case rel => exact ⟨z + 1, by omega, by go_num, by rw [Hb1.out], Hm4.out.drewN _⟩
                    case measure => simp [intOf]; omega
                · have hdz : decide ((z : Int) < (ks.length : Int)) = false := by simp; omega
                  obtain rfl : z = ks.length := by omega
                  rw [List.take_length]
                  clear hm4
                  cases hmem : memK ks xs with
                  | true =>
                    by_cases hx0 : xn = 0
                    · subst hx0
                      have hf : kfOpG W ks (xs, 0) = 0 := by unfold kfOpG; rw [if_neg hput]; simp [hmem]
                      have Hf := Lib.hid hf
                      clear hf hmem
                      go_wp2
                      go_roundw
                      case rel =>
                        refine ⟨q + 1, by omega, by go_num, Hmx.out.trans0 Hm4.out, Hm4.out.heap HTx.out (fun e => e), fun j y hj hy => ?_⟩
                        by_cases e : j = q
                        · subst e
                          rw [Hxl.out] at hy; cases hy; exact Hf.out
                        · exact Hall3.out j y (by omega) hy
                      case measure => simp [intOf]; omega
                    · have hf : kfOpG W ks (xs, xn) = 3 := by unfold kfOpG; rw [if_neg hput]; simp [hx0]
                      have n1 : decide (xn = 0) = false := by simpa using hx0
                      have n2 : (xn == 0) = false := by simpa using hx0
                      have hrF := rowG_at l q _ Hxl.out Hall3.out (by rw [hf]; decide)
                      rw [hf] at hrF
                      have hres := allR_at ll 0 k l 3 Hl.out Hall.out hrF
                      rw [Nat.zero_add] at hres
                      obtain ⟨rfl, rfl⟩ := Prod.mk.inj (Hres0.out.symm.trans hres)
                      clear hres hrF hf
                      have hT := Hm4.out.heap HTx.out (fun e => e)
                      have t0 := cell_of_heap hT 0
                      have t1 := cell_of_heap hT 1
                      have tf0 := free_of_heap hT 0
                      have tf1 := free_of_heap hT 1
                      have HT := Lib.hid hT
                      clear hT
                      replace t0 : w4.cell? ⟨w.heap.size, 0, none⟩ = some (.int .i64 0) := t0
                      replace t1 : w4.cell? ⟨w.heap.size, 1, none⟩ = some (.int .i64 0) := t1
                      go_wp2
                      obtain ⟨wf, hwf⟩ : ∃ wf, wf = (w4.setCell ⟨w.heap.size, 0, none⟩ (.int .i64 3)).setCell ⟨w.heap.size, 1, none⟩ (.int .i64 k) := ⟨_, rfl⟩
                      have hh : wf.heap[w.heap.size]? = some (.cells #[.int .i64 3, .int .i64 k] 27 (0, 0)) := by rw [hwf, Qh.heap_setCell_same (Qh.heap_setCell_same HT.out 0 _) 1 _]; rfl
                      have z0 : wf.cell? ⟨w.heap.size, 0, none⟩ = some (.int .i64 3) := by rw [cell_of_heap hh]; rfl
                      have z1 : wf.cell? ⟨w.heap.size, 1, none⟩ = some (.int .i64 k) := by rw [cell_of_heap hh]; rfl
                      have hMf : Mod noF w wf := by rw [hwf]; exact (Hmx.out.trans0 Hm4.out).trans (((Mod.refl (fun x => x = w.heap.size) _).setCell (fun _ => rfl) _).setCell (fun _ => rfl) _) fun x hx e => by omega
                      rw [← hwf]
                      exact bodyPost_ret (v := .agg #[.int .i64 3, .int .i64 k]) (by simp [results, Tryz.results10, go_sem, z0, z1]) rfl ⟨rfl, hMf⟩
                  | false =>
                    have hf : kfOpG W ks (xs, xn) = 3 := by unfold kfOpG; rw [if_neg hput]; simp [hmem]
                    have hrF := rowG_at l q _ Hxl.out Hall3.out (by rw [hf]; decide)
                    rw [hf] at hrF
                    have hres := allR_at ll 0 k l 3 Hl.out Hall.out hrF
                    rw [Nat.zero_add] at hres
                    obtain ⟨rfl, rfl⟩ := Prod.mk.inj (Hres0.out.symm.trans hres)
                    clear hres hrF hf
                    have hT := Hm4.out.heap HTx.out (fun e => e)
                    have t0 := cell_of_heap hT 0
                    have t1 := cell_of_heap hT 1
                    have tf0 := free_of_heap hT 0
                    have tf1 := free_of_heap hT 1
                    have HT := Lib.hid hT
                    clear hT
                    replace t0 : w4.cell? ⟨w.heap.size, 0, none⟩ = some (.int .i64 0) := t0
                    replace t1 : w4.cell? ⟨w.heap.size, 1, none⟩ = some (.int .i64 0) := t1
                    go_wp2
                    obtain ⟨wf, hwf⟩ : ∃ wf, wf = (w4.setCell ⟨w.heap.size, 0, none⟩ (.int .i64 3)).setCell ⟨w.heap.size, 1, none⟩ (.int .i64 k) := ⟨_, rfl⟩
                    have hh : wf.heap[w.heap.size]? = some (.cells #[.int .i64 3, .int .i64 k] 27 (0, 0)) := by rw [hwf, Qh.heap_setCell_same (Qh.heap_setCell_same HT.out 0 _) 1 _]; rfl
                    have z0 : wf.cell? ⟨w.heap.size, 0, none⟩ = some (.int .i64 3) := by rw [cell_of_heap hh]; rfl
                    have z1 : wf.cell? ⟨w.heap.size, 1, none⟩ = some (.int .i64 k) := by rw [cell_of_heap hh]; rfl
                    have hMf : Mod noF w wf := by rw [hwf]; exact (Hmx.out.trans0 Hm4.out).trans (((Mod.refl (fun x => x = w.heap.size) _).setCell (fun _ => rfl) _).setCell (fun _ => rfl) _) fun x hx e => by omega
                    rw [← hwf]
                    exact bodyPost_ret (v := .agg #[.int .i64 3, .int .i64 k]) (by simp [results, Tryz.results10, go_sem, z0, z1]) rfl ⟨rfl, hMf⟩
          · have hd2 : decide ((q : Int) < (l.length : Int)) = false := by simp; omega
            have hrF : rowG W ks l = none := rowG_none fun j y hj => Hall3.out j y (by have := (List.getElem?_eq_some_iff.1 hj).1; omega) hj
            have HrF := Lib.hid hrF
            clear hrF hm3
            go_wp2
            go_roundw
            case rel =>
              refine ⟨k + 1, by omega, by go_num, Hm3.out, HT3.out, fun j y hj hy => ?_⟩
              by_cases e : j = k
              · subst e
                rw [Hl.out] at hy; cases hy; exact HrF.out
              · exact Hall.out j y (by omega) hy
            case measure => simp [intOf]; omega
      · have hd : decide ((k : Int) < (ll.length : Int)) = false := by simp; omega
        have hres := allR_none (rf := rowG W ks) ll 0 fun j y hj => Hall.out j y (by have := (List.getElem?_eq_some_iff.1 hj).1; omega) hj
        obtain ⟨rfl, rfl⟩ := Prod.mk.inj (Hres0.out.symm.trans hres)
        clear hres hm
        go_wp2_with fail
        refine (fine_ok _).mono ?_
        rintro e w3 ⟨rfl, hm3⟩
        have Hm3 := Lib.hid hm3
        have hT := hm3.heap HT0.out (fun e => e)
        have t0 := cell_of_heap hT 0
        have t1 := cell_of_heap hT 1
        have tf0 := free_of_heap hT 0
        have tf1 := free_of_heap hT 1
        have HT := Lib.hid hT
        clear hT
        replace t0 : w3.cell? ⟨w.heap.size, 0, none⟩ = some (.int .i64 0) := t0
        replace t1 : w3.cell? ⟨w.heap.size, 1, none⟩ = some (.int .i64 0) := t1
        go_wp2
        obtain ⟨wf, hwf⟩ : ∃ wf, wf = (w3.setCell ⟨w.heap.size, 0, none⟩ (.int .i64 0)).setCell ⟨w.heap.size, 1, none⟩ (.int .i64 (-1)) := ⟨_, rfl⟩
        have hh : wf.heap[w.heap.size]? = some (.cells #[.int .i64 0, .int .i64 (-1)] 27 (0, 0)) := by rw [hwf, Qh.heap_setCell_same (Qh.heap_setCell_same HT.out 0 _) 1 _]; rfl
        have z0 : wf.cell? ⟨w.heap.size, 0, none⟩ = some (.int .i64 0) := by rw [cell_of_heap hh]; rfl
        have z1 : wf.cell? ⟨w.heap.size, 1, none⟩ = some (.int .i64 (-1)) := by rw [cell_of_heap hh]; rfl
        have hMf : Mod noF w wf := by rw [hwf]; exact (Hm.out.trans0 Hm3.out).trans (((Mod.refl (fun x => x = w.heap.size) _).setCell (fun _ => rfl) _).setCell (fun _ => rfl) _) fun x hx e => by omega
        rw [← hwf]
        exact bodyPost_ret (v := .agg #[.int .i64 0, .int .i64 (-1)]) (by simp [results, Tryz.results10, go_sem, z0, z1]) rfl ⟨rfl, hMf⟩
end Go.Proofs.YtppihkneeolomaaGreatDoor
end
/- Lists of any ops, made in memory; quiescentlaw3.opsOf. -/
section
namespace Go.Proofs.YtppihkneeolomaaGreatDoor
open Go.RowKit Qs Qh
variable {N k S : Nat} {w w1 w' : World} {v u cv cv' : Value} {ll : List (List ROp)} {l : List ROp} {cs : Nat → List ROp} {vk : Nat → Value}
theorem RRow.frame (h : RRow N w u l) {F : Nat → Prop} (hM : Mod F w w') (hF : ∀ b, u.ownBlock = some b → ¬ F b) : RRow N w' u l := by
  obtain ⟨a, c, rfl, hx⟩ := h
  refine ⟨a, c, rfl, fun i x hi => ?_⟩
  obtain ⟨b, off, rfl, hb, h0, h1⟩ := hx i x hi
  exact ⟨b, off, rfl, hb, hM.cell h0 (hF b rfl), hM.cell h1 (hF b rfl)⟩
theorem RRow.mono (h : RRow N w u l) {N' : Nat} (hN : N ≤ N') : RRow N' w u l := by
  obtain ⟨a, c, e, hx⟩ := h
  refine ⟨a, c, e, fun i x hi => ?_⟩
  obtain ⟨b, off, e1, hb, h⟩ := hx i x hi
  exact ⟨b, off, e1, Nat.lt_of_lt_of_le hb hN, h⟩
def rV (_ : Nat) (x : ROp) : List Value := [.string (x.1), .int .i64 (x.2)]
theorem rRow_own {T : TypeId} (h : w.ownsRow 0 T 2 u l.length (flat rV 0 l)) : RRow w.heap.size w u l := by
  rcases h.2 with ⟨rfl, h0⟩ | ⟨g, cap, cur, rfl, _, hg, h1, h2, h3, h4⟩
  · exact ⟨none, 0, by rw [h0], fun i x hi => by have := (List.getElem?_eq_some_iff.1 hi).1; omega⟩
  · refine ⟨_, cap, rfl, fun i x hi => ⟨g, 0, rfl, lt_of_block hg, ?_, ?_⟩⟩
    all_goals
      have hlt : i < l.length := (List.getElem?_eq_some_iff.1 hi).1
      have key : ∀ j, j < 2 → cur[i * 2 + j]? = (rV 0 x)[j]? := fun j hj => by
        have hgt := flat_get rV 2 (fun _ _ => rfl) hj l 0 i x hi []
        rw [List.append_nil] at hgt
        have e : cur[i * 2 + j]? = (cur.toList.take (l.length * 2))[i * 2 + j]? := by
          rw [List.getElem?_take, if_pos (by omega)]; simp
        rw [e, h4, hgt]; rfl
    · have := key 0 (by omega)
      rw [cell_of_heap hg, Nat.zero_add]; exact this
    · have := key 1 (by omega)
      rw [cell_of_heap hg, Nat.zero_add]; exact this
/-- The lists made so far. -/
structure Rls (S : Nat) (w : World) (cv : Value) (cs : Nat → List ROp) (k : Nat) (vk : Nat → Value) : Prop where
  own : w.ownsRow 0 86 1 cv k ((List.range k).map vk)
  vin : ∀ g, cv.ownBlock = some g → S ≤ g
  at_ : ∀ i, i < k → RRow w.heap.size w (vk i) (cs i)
  bin : ∀ i g, i < k → (vk i).ownBlock = some g → S ≤ g ∧ g < w.heap.size
  ne : ∀ i g, i < k → (vk i).ownBlock = some g → cv.ownBlock ≠ some g
theorem Rls.nil (S : Nat) (w : World) (cs : Nat → List ROp) (vk : Nat → Value) : Rls S w (.slice none 0 0) cs 0 vk :=
  ⟨World.ownsRow_nil w 0 _ 1, fun g h => (by cases h), fun i h => by omega, fun i g h => by omega, fun i g h => by omega⟩
theorem Rls.keep (C : Rls S w cv cs k vk) {F : Nat → Prop} (hM : Mod F w w1) (hF : ∀ b, S ≤ b → b < w.heap.size → ¬ F b) : Rls S w1 cv cs k vk := by
  refine ⟨⟨C.own.1, ?_⟩, C.vin, fun i hi => ((C.at_ i hi).frame hM fun b hb => hF b (C.bin i b hi hb).1 (C.bin i b hi hb).2).mono hM.size, fun i g hi hg => ⟨(C.bin i g hi hg).1, Nat.lt_of_lt_of_le (C.bin i g hi hg).2 hM.size⟩, C.ne⟩
  rcases C.own.2 with e | ⟨g, cap, cur, rfl, h0, hg, r⟩
  · exact .inl e
  · exact .inr ⟨g, cap, cur, rfl, h0, hM.heap hg (hF _ (C.vin g rfl) (lt_of_block hg)), r⟩
theorem Rls.push (C : Rls S w cv cs k vk) (hS : S ≤ w.heap.size) (hc : RRow w.heap.size w u (cs k)) (hu : ∀ g, u.ownBlock = some g → S ≤ g ∧ g < w.heap.size ∧ cv.ownBlock ≠ some g)
    (hown : w1.ownsRow 0 86 1 cv' (k + 1) ((List.range k).map vk ++ [u])) (hg : w.grownBy w1 cv.ownBlock) (hfr : ∀ g, cv'.ownBlock = some g → cv.ownBlock = some g ∨ w.heap.size ≤ g) :
    Rls S w1 cv' cs (k + 1) (fun i => if i = k then u else vk i) := by
  have hM : Mod (fun x => cv.ownBlock = some x) w w1 := (Mod.refl (fun x => cv.ownBlock = some x) w).grown hg fun j hj _ => hj
  refine ⟨?_, fun g h => ?_, fun i hi => ?_, fun i g hi h => ?_, fun i g hi h e => ?_⟩
  · have : (List.range (k + 1)).map (fun i => if i = k then u else vk i) = (List.range k).map vk ++ [u] := by
      rw [List.range_succ, List.map_append]
      congr 1
      · refine List.map_congr_left fun i hi => ?_
        have := List.mem_range.1 hi
        rw [if_neg (by omega)]
      · simp
    rw [this]; exact hown
  · rcases hfr g h with e | e
    · exact C.vin g e
    · omega
  · by_cases e : i = k
    · subst e
      simp only [if_true]
      exact (hc.frame hM fun b hb e => (hu b hb).2.2 e).mono hM.size
    · rw [if_neg e]
      exact ((C.at_ i (by omega)).frame hM fun b hb e' => C.ne i b (by omega) hb e').mono hM.size
  · have hs := hM.size
    by_cases e : i = k
    · subst e
      simp only [if_true] at h
      have := hu g h; exact ⟨this.1, by omega⟩
    · rw [if_neg e] at h
      have := C.bin i g (by omega) h; exact ⟨this.1, by omega⟩
  · have hlt : g < w.heap.size := by
      by_cases e : i = k
      · subst e
        simp only [if_true] at h
        exact (hu g h).2.1
      · rw [if_neg e] at h
        exact (C.bin i g (by omega) h).2
    rcases hfr g e with e' | e'
    · by_cases e2 : i = k
      · subst e2
        simp only [if_true] at h
        exact (hu g h).2.2 e'
      · rw [if_neg e2] at h
        exact C.ne i g (by omega) h e'
    · omega
theorem Rls.rin (C : Rls S w cv cs k vk) : RIn w.heap.size w cv ((List.range k).map cs) := by
  rcases C.own.2 with ⟨rfl, h0⟩ | ⟨g, cap, cur, rfl, _, hg, h1, h2, h3, h4⟩
  · subst h0
    exact ⟨none, 0, rfl, fun i l h => by simp at h⟩
  · refine ⟨some ⟨g, 0, none⟩, cap, by simp, fun i l h => ?_⟩
    have hlt : i < k := by have := (List.getElem?_eq_some_iff.1 h).1; simpa using this
    have hl : l = cs i := by
      rw [List.getElem?_map, List.getElem?_range hlt] at h
      exact (Option.some.inj h).symm
    subst hl
    refine ⟨g, 0, vk i, rfl, lt_of_block hg, ?_, C.at_ i hlt⟩
    rw [cell_of_heap hg, Nat.zero_add]
    have e : cur[i]? = (cur.toList.take (k * 1))[i]? := by
      rw [List.getElem?_take, if_pos (by omega)]; simp
    rw [e, h4, List.getElem?_map, List.getElem?_range hlt]; rfl
end Go.Proofs.YtppihkneeolomaaGreatDoor
end
/- quiescentlaw3.opsOf: a copy of lists of ops. -/
section
namespace Go.Proofs.YtppihkneeolomaaGreatDoor
open Go.RowKit Qs Qh
theorem opInfoR : (Tryz.prog.info? 88).map (fun i => (i.zero, i.size, i.bytes)) = some (some (.agg #[.string ⟨#[]⟩, .int .i64 0]), 2, 24) := by kernel_rfl
theorem opsInfoR : (Tryz.prog.info? 86).map (fun i => (i.zero, i.size, i.bytes)) = some (some (.slice none 0 0), 1, 24) := by kernel_rfl
variable {N k S : Nat} {w w1 w' : World} {v u cv cv' : Value} {ll : List (List ROp)} {l : List ROp} {cs : Nat → List ROp} {vk : Nat → Value}
/-- Nil slices hold nothing. -/
def NilOk (w : World) (v : Value) : Prop := ∀ b off n m (i : Nat) k c, v = .slice (some ⟨b, off, none⟩) n m → i < n → w.cell? ⟨b, off + i, none⟩ = some (.slice none k c) → c = 0
theorem rV_ones (l : List ROp) : ∀ s, ∀ u ∈ flat rV s l, u.oneCell' = true := by
  induction l with
  | nil => intro s u h; cases h
  | cons x l ih =>
    intro s u h
    simp only [flat, rV, List.mem_append] at h
    rcases h with h | h
    · simp at h; rcases h with rfl | rfl <;> rfl
    · exact ih (s + 1) u h
theorem rV_len (l : List ROp) (s : Nat) : (flat rV s l).length = l.length * 2 := flat_length rV 2 (fun _ _ => rfl) l s
theorem RRow.src {ad : Addr} {n c : Nat} (h : RRow N w (.slice (some ad) n c) l) : ∀ (j : Nat) y, (flat rV 0 l)[j]? = some y → w.cell? (ad.add j) = some y := by
  obtain ⟨a, c', e, hx⟩ := h
  intro j y hj
  have hlt := (List.getElem?_eq_some_iff.1 hj).1
  rw [rV_len] at hlt
  obtain ⟨x, hxi⟩ : ∃ x, l[j / 2]? = some x := ⟨_, List.getElem?_eq_getElem (by omega)⟩
  obtain ⟨b, off, rfl, hb, h0, h1⟩ := hx (j / 2) x hxi
  cases e
  have hgt := flat_get rV 2 (fun _ _ => rfl) (show j % 2 < 2 by omega) l 0 (j / 2) x hxi []
  rw [List.append_nil, show j / 2 * 2 + j % 2 = j by omega, hj] at hgt
  have hadd : (⟨b, off, none⟩ : Addr).add j = ⟨b, off + j, none⟩ := by unfold Addr.add; split <;> simp_all
  rw [hadd]
  rcases (by omega : j % 2 = 0 ∨ j % 2 = 1) with e | e
  · rw [e] at hgt
    have : some y = some (Value.string x.1) := hgt
    rw [this, ← h0, show off + j = off + j / 2 * 2 by omega]
  · rw [e] at hgt
    have : some y = some (Value.int .i64 x.2) := hgt
    rw [this, ← h1, show off + j = off + j / 2 * 2 + 1 by omega]
set_option maxHeartbeats 8000000 in
theorem opsOf_ok (H : RIn N w v ll) (hnil : NilOk w v) (hlen : ll.length ≤ 10) (hrow : ∀ l ∈ ll, l.length ≤ 30) :
    Calls Tryz.prog 12 #[v] w fun e w' => ∃ x, e = .returned x ∧ Mod noF w w' ∧ RIn w'.heap.size w' x ll := by
  have HH := Lib.hid H
  obtain ⟨a, c, rfl, -⟩ := H
  have Hrow := Lib.hid hrow
  have Hnil := Lib.hid hnil
  clear hrow hnil
  obtain ⟨i0, hti, hz0, hz1, hz2⟩ := info_parts opInfoR
  obtain ⟨j0, htj, hy0, hy1, hy2⟩ := info_parts opsInfoR
  go_enter Tryz.func12, Tryz.ntmps12
  go_wp2
  go_loopw [3, 4] (fun x i wr => ∃ (k : Nat) (vk : Nat → Value), k ≤ ll.length ∧ i = .int .i64 k ∧ Mod noF w wr ∧ Rls w.heap.size wr x (fun i => ll.getD i []) k vk) (fun _ i _ => ll.length - (intOf i).toNat)
  case atStart => exact ⟨0, fun _ => .nilIface, Nat.zero_le _, rfl, Mod.refl _ _, Rls.nil _ _ _ _⟩
  case round =>
    obtain ⟨k, vk, hk, rfl, hm, hO⟩ := hrel
    obtain ⟨xa, xb, xc, rfl⟩ := slice_of_own hO.own
    have HO := Lib.hid hO
    have Hm := Lib.hid hm
    clear hO
    by_cases hlt : k < ll.length
    · have hd : decide ((k : Int) < (ll.length : Int)) = true := by simp; omega
      have hki : (k : Int) < (ll.length : Int) := by omega
      obtain ⟨l, hl⟩ : ∃ l, ll[k]? = some l := ⟨_, List.getElem?_eq_getElem hlt⟩
      obtain ⟨a', c', e', hx⟩ := HH.out
      cases e'
      obtain ⟨b, off, u, rfl, hb, hc, hr⟩ := hx k l hl
      have hrl := hr.keep hm (fun _ _ e => e)
      obtain ⟨ua, uc, rfl, -⟩ := hr
      have hc1 := hm.cell hc (fun e => e)
      have hl30 := Hrow.out l (List.mem_of_getElem? hl)
      have hls : ll.getD k [] = l := by rw [List.getD_eq_getElem?_getD, hl]; rfl
      have hsz := hm.size
      have hbnd : k + 1 ≤ maxLen := by unfold maxLen; omega
      have hbnd2 : 0 + l.length ≤ maxLen := by unfold maxLen; omega
      have Hls := Lib.hid hls
      have Hrl := Lib.hid hrl
      have hnl := Hnil.out b off _ _ k l.length uc rfl hlt
      clear hx hls hrl hm
      cases ua with
      | none =>
        obtain rfl := hnl hc
        have hl0 : l = [] := by
          obtain ⟨a2, c2, e2, hx2⟩ := Hrl.out
          cases l with
          | nil => rfl
          | cons y l =>
            obtain ⟨_, _, e3, _⟩ := hx2 0 y rfl
            cases e2; cases e3
        subst hl0
        simp only [List.length_nil] at hc1
        clear hc hnl hl hbnd2 hl30
        go_wp2_with (at_builtin; first | (refine wpList_append_none rfl (.tmp 13) (.tmp 17) 86 rfl 0 88 i0 2 Tryz.underlying86 hti (.slice none 0 0) 0 [] rfl (World.ownsRow_nil _ 0 _ 2) rfl ?_) | (refine wpList_append_mine _ rfl (.tmp 12) (.tmp 19) 22 rfl 86 j0 (.slice none 0 0) 1 24 Tryz.underlying22 htj hy0 hy1 hy2 rfl (by decide) _ k ((List.range k).map vk) rfl (by exact World.ownsRow.alloc HO.out.own _) ⟨wr.heap.size, 0, none⟩ 1 1 [.slice none 0 0] rfl rfl (by exact new_cells_at _ _ _ rfl) (one_row _ rfl) hbnd (by omega) ?_; intro v4 w7 hown hgr hfr _; obtain ⟨va, vb, vc, rfl⟩ := slice_of_own hown; have Hown4 := Lib.hid hown; have Hgr := Lib.hid hgr; have Hfr := Lib.hid hfr; clear hown hgr hfr))
        go_wp2
        go_roundw
        case rel =>
          refine ⟨k + 1, _, by omega, by go_num, ((Hm.out.alloc _).trans ((Mod.refl (fun x => (Value.slice xa xb xc).ownBlock = some x) _).grown Hgr.out fun j hj _ => hj) fun x hx e => ?_), (HO.out.keep ((Mod.refl noF wr).alloc _) fun _ _ _ e => e).push (u := .slice none 0 0) (by simp; omega) (by rw [Hls.out]; exact ⟨none, 0, rfl, fun i x hi => by simp at hi⟩) (fun g hg => by cases hg) Hown4.out Hgr.out Hfr.out⟩
          have := HO.out.vin x e; omega
        case measure => simp [intOf]; omega
      | some ad =>
        clear hc hnl hl
        have hsrc := Hrl.out.src
        have hone := rV_ones l 0
        have hlen2 := rV_len l 0
        have Hsrc := Lib.hid hsrc
        have Hone := Lib.hid hone
        have Hlen2 := Lib.hid hlen2
        clear hsrc hone hlen2
        go_wp2_with (at_builtin; first | (refine wpList_append_mine _ rfl (.tmp 13) (.tmp 17) 86 rfl 88 i0 (.agg #[.string ⟨#[]⟩, .int .i64 0]) 2 24 Tryz.underlying86 hti hz0 hz1 hz2 rfl (by decide) (.slice none 0 0) 0 [] rfl (World.ownsRow_nil _ 0 _ 2) ad l.length uc (flat rV 0 l) rfl Hlen2.out Hsrc.out Hone.out hbnd2 (by omega) ?_; intro v4 w7 hown hgr hfr _; obtain ⟨ya, yb, yc, rfl⟩ := slice_of_own hown; have Hown4 := Lib.hid hown; have Hgr := Lib.hid hgr; have Hfr := Lib.hid hfr; have hm7 : Mod noF wr w7 := (Mod.refl noF wr).trans ((Mod.refl (fun x => (Value.slice none 0 0).ownBlock = some x) wr).grown hgr fun j hj _ => hj) (fun x hx e => by cases e); have HO4 := Lib.hid (HO.out.keep hm7 fun _ _ _ e => e); have Hm7 := Lib.hid hm7; clear hown hgr hfr hm7) | (refine wpList_append_mine _ rfl (.tmp 12) (.tmp 19) 22 rfl 86 j0 (.slice none 0 0) 1 24 Tryz.underlying22 htj hy0 hy1 hy2 rfl (by decide) _ k ((List.range k).map vk) rfl (by exact World.ownsRow.alloc HO4.out.own _) ⟨w7.heap.size, 0, none⟩ 1 1 [.slice ya yb yc] rfl rfl (by exact new_cells_at _ _ _ rfl) (one_row _ rfl) hbnd (by omega) ?_; intro v5 w8 hown hgr hfr _; obtain ⟨za, zb, zc, rfl⟩ := slice_of_own hown; have Hown5 := Lib.hid hown; have Hgr5 := Lib.hid hgr; have Hfr5 := Lib.hid hfr; clear hown hgr hfr))
        have hs7 := Hm7.out.size
        have hrow7 : RRow w7.heap.size w7 (.slice ya yb yc) l := by
          have h := Hown4.out
          rw [List.nil_append, Nat.zero_add] at h
          exact rRow_own h
        have Hrow7 := Lib.hid hrow7
        clear hrow7
        go_wp2
        go_roundw
        case rel =>
          refine ⟨k + 1, _, by omega, by go_num, (((Hm.out.trans0 Hm7.out).alloc _).trans ((Mod.refl (fun x => (Value.slice xa xb xc).ownBlock = some x) _).grown Hgr5.out fun j hj _ => hj) fun x hx e => ?_), (HO4.out.keep ((Mod.refl noF w7).alloc _) fun _ _ _ e => e).push (u := .slice ya yb yc) (by simp; omega) (by rw [Hls.out]; exact (Hrow7.out.frame ((Mod.refl noF w7).alloc _) fun _ _ e => e).mono (by simp)) (fun g hg => ?_) Hown5.out Hgr5.out Hfr5.out⟩
          · have := HO.out.vin x e; omega
          · have h1 : wr.heap.size ≤ g := by
              rcases Hfr.out g hg with e | e
              · cases e
              · exact e
            have h2 := (World.ownsRow.lt Hown4.out g hg).2
            refine ⟨by omega, by simp; omega, fun e => ?_⟩
            have := (World.ownsRow.lt HO.out.own g e).2
            omega
        case measure => simp [intOf]; omega
    · have hd : decide ((k : Int) < (ll.length : Int)) = false := by simp; omega
      obtain rfl : k = ll.length := by omega
      have hfin : (List.range ll.length).map (fun i => ll.getD i []) = ll := by
        refine List.ext_getElem? fun i => ?_
        rw [List.getElem?_map]
        by_cases h : i < ll.length
        · rw [List.getElem?_range h, List.getElem?_eq_getElem h]; simp [h]
        · rw [List.getElem?_eq_none (by simpa using h), List.getElem?_eq_none (by omega)]; rfl
      have hR := HO.out.rin
      rw [hfin] at hR
      have HR := Lib.hid hR
      clear hR hfin hm
      go_wp2
      go_ret
      exact ⟨_, rfl, Hm.out, HR.out⟩
end Go.Proofs.YtppihkneeolomaaGreatDoor
end
/- Lists of lists of ops that came in. -/
section
namespace Go.Proofs.YtppihkneeolomaaGreatDoor
open Go.ChangeShapes Go.WideShapes Go.ChangeAt Go.RowKit Qh
def opVals (x : ROp) : List Value := [.string x.1, .int .i64 x.2]
theorem opLen2 {l : List Value} (h : l.length = 2) : ∃ c0 c1 : Value, l = [c0, c1] := by
  match l, h with
  | [c0, c1], _ => exact ⟨c0, c1, rfl⟩
theorem Op_read {H : Type} {enc : TypeId × Value → H} {W : World} (n : Nat) (cs : List Value) (y : DataW H × List MemPlace) (h : DataW.trod enc Tryz.prog W 0 (fun _ => true) true n 88 cs = some y) : ∃ x : ROp, cs = opVals x ∧ True := by
  obtain ⟨xs, n', rfl, _, hlen, hxl, hf⟩ := DataW.trod_struct Tryz.underlying88 h
  rw [show Tryz.prog.cellsOf 88 = 2 by kernel_rfl] at hlen
  have k1 : Tryz.prog.cellsOf 3 = 1 := by kernel_rfl
  have k9 : Tryz.prog.cellsOf 9 = 1 := by kernel_rfl
  obtain ⟨c0, c1, rfl⟩ := opLen2 hlen
  have h0 := hf 0 ⟨"Kind", 9, 0, false, "", "", 0⟩ rfl
  rw [List.getElem?_eq_getElem (show 0 < xs.length by rw [hxl]; decide)] at h0
  obtain ⟨s0, e0, _, o0⟩ := DataW.trod_string Tryz.underlying9 h0
  simp only [k9, List.drop_succ_cons, List.drop_zero, List.take_succ_cons, List.take_zero, List.cons.injEq, and_true] at e0
  subst e0
  have h1 := hf 1 ⟨"N", 3, 1, false, "", "", 16⟩ rfl
  rw [List.getElem?_eq_getElem (show 1 < xs.length by rw [hxl]; decide)] at h1
  obtain ⟨s1, e1, _, o1⟩ := DataW.trod_int Tryz.underlying3 h1
  simp only [k1, List.drop_succ_cons, List.drop_zero, List.take_succ_cons, List.take_zero, List.cons.injEq, and_true] at e1
  subst e1
  exact ⟨⟨s0, s1⟩, rfl, trivial⟩
def OpsOk (W : World) (u : Value) : Prop := ∃ a l c z, u = .slice a l c ∧ RowsAt opVals 2 W (.slice a l c) z
theorem Row_read {H : Type} {enc : TypeId × Value → H} {W : World} (n : Nat) (cs : List Value) (y : DataW H × List MemPlace) (h : DataW.trod enc Tryz.prog W 0 (fun _ => true) true n 86 cs = some y) : ∃ u : Value, cs = [u] ∧ OpsOk W u := by
  rcases Go.Deep.open_slice Tryz.underlying86 h with ⟨hcs, _⟩ | ⟨A, l, c, m, n', D, Pl, hcs, _, hl, hm, hmm, _, hel⟩
  · exact ⟨.slice none 0 0, hcs, none, 0, 0, [], rfl, none, 0, rfl, by simp, by simp, fun _ => rfl, fun i x h => by simp at h⟩
  · subst hcs
    obtain ⟨z, hz, _⟩ := rowsAt_of (k := 2) (vals := opVals) (good := fun _ => True) (a := some A) (len := l) (cap := c) (by decide) Tryz.underlying86 (by kernel_rfl) Op_read (⟨n, h⟩ : DataW.Trod enc Tryz.prog W 0 (fun _ => true) true 86 (.slice (some A) l c) y.1 y.2)
    exact ⟨_, rfl, _, _, _, z, rfl, hz⟩
/-- Lists of lists of ops, as they come in. -/
def IsOps (w : World) (a : Option Addr) (len cap : Nat) (z : List (List ROp)) : Prop :=
  RIn w.heap.size w (.slice a len cap) z ∧ NilOk w (.slice a len cap) ∧ z.length ≤ maxLen ∧ ∀ l ∈ z, l.length ≤ maxLen
theorem isOps_of {H : Type} {enc : TypeId × Value → H} {W : World} {a : Option Addr} {len cap : Nat} {d : DataW H} {p : List MemPlace} (h : DataW.Trod enc Tryz.prog W 0 (fun _ => true) true 22 (.slice a len cap) d p) : ∃ z, IsOps W a len cap z := by
  obtain ⟨us, ⟨a', c', e', hlc, hcm, hn, hx⟩, hg⟩ := rowsAt_of (k := 1) (vals := fun u : Value => [u]) (good := OpsOk W) (by decide) Tryz.underlying22 (by kernel_rfl) Row_read h
  cases e'
  have hch : ∀ u, ∃ z : List ROp, u ∈ us → ∃ a l c, u = .slice a l c ∧ RowsAt opVals 2 W (.slice a l c) z := fun u => by
    by_cases hu : u ∈ us
    · obtain ⟨a, l, c, z, e, hz⟩ := hg u hu
      exact ⟨z, fun _ => ⟨a, l, c, e, hz⟩⟩
    · exact ⟨[], fun h => absurd h hu⟩
  let f := fun u => Classical.choose (hch u)
  have hf : ∀ u ∈ us, ∃ a l c, u = .slice a l c ∧ RowsAt opVals 2 W (.slice a l c) (f u) := fun u hu => Classical.choose_spec (hch u) hu
  have hat : ∀ (i : Nat) u, us[i]? = some u → ∃ b off, a = some ⟨b, off, none⟩ ∧ b < W.heap.size ∧ W.cell? ⟨b, off + i, none⟩ = some u := fun i u hi => by
    obtain ⟨b, off, e, hb, hc⟩ := hx i u hi
    refine ⟨b, off, e, hb, ?_⟩
    have := hc 0 u rfl
    rw [show off + i * 1 + 0 = off + i by omega] at this
    exact this
  refine ⟨us.map f, ⟨a, cap, by rw [List.length_map], fun i l hi => ?_⟩, fun b off n m i k c e hi hc => ?_, by rw [List.length_map]; omega, fun l hl => ?_⟩
  · rw [List.getElem?_map] at hi
    obtain ⟨u, hu, rfl⟩ := Option.map_eq_some_iff.1 hi
    obtain ⟨b, off, e, hb, hc⟩ := hat i u hu
    obtain ⟨ua, ul, uc, rfl, a2, c2, e2, h1, h2, h3, hxx⟩ := hf u (List.mem_of_getElem? hu)
    refine ⟨b, off, _, e, hb, hc, a2, c2, e2, fun j x hj => ?_⟩
    obtain ⟨b2, off2, e3, hb2, hc2⟩ := hxx j x hj
    exact ⟨b2, off2, e3, hb2, hc2 0 _ rfl, hc2 1 _ rfl⟩
  · cases e
    obtain ⟨u, hu⟩ : ∃ u, us[i]? = some u := ⟨_, List.getElem?_eq_getElem hi⟩
    obtain ⟨b2, off2, e, hb, hc'⟩ := hat i u hu
    cases e
    rw [hc] at hc'
    cases hc'
    obtain ⟨ua, ul, uc, e1, a2, c2, e2, h1, h2, h3, hxx⟩ := hf _ (List.mem_of_getElem? hu)
    cases e1
    have e3 := e2
    simp only [Value.slice.injEq] at e3
    exact e3.2.2.trans (h3 e3.1.symm)
  · obtain ⟨u, hu, rfl⟩ := List.mem_map.1 hl
    obtain ⟨ua, ul, uc, rfl, a2, c2, e2, h1, h2, h3, hxx⟩ := hf u hu
    omega
end Go.Proofs.YtppihkneeolomaaGreatDoor
end
/- quiescentref2.IsFlavour. -/
section
namespace Go.Proofs.YtppihkneeolomaaGreatDoor
open Go.RowKit Qs Qh
theorem isFlavour2_any (f : Int) (w : World) : Calls Tryz.prog 30 #[.int .i64 f] w fun e w' => e = .returned (.bool (decide (1 ≤ f) && decide (f ≤ 4))) ∧ w = w' := by
  by_cases h : 1 ≤ f
  · have d : decide (1 ≤ f) = true := by simpa using h
    go_enter Tryz.func30, Tryz.ntmps30
    go_wp2
    go_ret
    exact ⟨by simp [h], rfl⟩
  · have d : decide (1 ≤ f) = false := by simpa using h
    go_enter Tryz.func30, Tryz.ntmps30
    go_wp2
    go_ret
    exact ⟨by simp [h], rfl⟩
end Go.Proofs.YtppihkneeolomaaGreatDoor
end
/- A stack's machine at the beginning. -/
section
namespace Go.Proofs.YtppihkneeolomaaGreatDoor
open Qs Qh Qg Qu Qc
variable {f : Nat} {q : List (List SOp)}
theorem s_fine (h1 : 1 ≤ f) (h4 : f ≤ 4) (h6 : q.length ≤ 6) (h20 : ∀ l ∈ q, l.length ≤ 20) (hp : ∀ l ∈ q, ∀ n, SOp.push n ∈ l → 1 ≤ n ∧ n ≤ 1000) : ∀ c ∈ sCodes f q, CodeFine c := fun c hc => by
  obtain ⟨t, ht, rfl⟩ := List.mem_map.1 hc
  have htl := List.mem_range.1 ht
  unfold sCs
  have hm : q.getD t [] ∈ q := by rw [List.getD_eq_getElem?_getD, List.getElem?_eq_getElem htl]; exact List.getElem_mem htl
  exact scode_fine h1 h4 t (by omega) (h20 _ hm) (hp _ hm)
theorem sInit_fine (f n : Nat) (hn : n ≤ 6) : RowsFine 4 (sInit f n) := fun l hl => by
  refine ⟨sInit_all f n l hl, fun x hx => ?_⟩
  simp only [sInit, List.mem_append, List.mem_singleton] at hl
  rcases hl with (((h | h) | h) | h) | h
  · obtain ⟨i, hi, rfl⟩ := List.mem_map.1 h
    have := List.mem_range.1 hi
    simp only [gOwnC, List.mem_cons, List.not_mem_nil, or_false] at hx
    unfold isWord W32
    simp only [Bool.and_eq_true, decide_eq_true_eq]
    rcases hx with rfl | rfl | rfl | rfl
    · split <;> omega
    · split <;> omega
    · omega
    · omega
  all_goals
    subst h
    simp only [gHubC, List.mem_cons, List.not_mem_nil, or_false] at hx
    try unfold isWord W32
    try simp only [Bool.and_eq_true, decide_eq_true_eq]
  · rcases hx with rfl | rfl | rfl | rfl
    · omega
    · omega
    · split <;> omega
    · omega
  · rcases hx with rfl | rfl | rfl <;> omega
theorem sRegs_fine (n : Nat) (hn : n ≤ 6) : RowsFine 8 (sRegs n) := fun l hl => by
  obtain ⟨t, ht, rfl⟩ := List.mem_map.1 hl
  have htl := List.mem_range.1 ht
  refine ⟨Nat.le_refl 8, fun x hx => ?_⟩
  simp only [gRegS, List.mem_cons, List.not_mem_nil, or_false] at hx
  unfold isWord W32
  simp only [Bool.and_eq_true, decide_eq_true_eq]
  rcases hx with rfl | rfl | rfl | rfl | rfl | rfl | rfl | rfl <;> omega
end Go.Proofs.YtppihkneeolomaaGreatDoor
end
